/-
  No cell of these rows narrows 'for every input' (looked for: loops, veiled, ifaces, maps, wideKeys, modest, calm, conditions, laid).
  DERIVED. THE GIVEN ROWS OF THIS SEAT. 13 by the template 'for every input the law returns true; each argument reads behind the call as it read before'; 0 by the template 'total and deterministic' (their statements: YtnhpfhhpochgfaaTotals.lean).
  GIVEN WITH THE SEED: the statements are not yours to turn. If you find one false, say at which input.
  Laid BY PROGRAM, IN A SANDBOX (cutbox-rows.mjs): the forced cells as the released guide's own fill.sh prints them over the translation c4a0b3fd2e3c73aa… (all of the seat's roots in one cut). By AI agents, Wed Nov 11 2026. No macro, syntax, notation, axiom, sorry.
-/
import Derived.Test.YtnhpfhhpochgfaaChecked
import GoSem.Claim
import GoSem.ClaimJoined
import GoSem.ClaimMapViews
import Derived.JoinedTies
import Derived.KernelRfl
namespace Go.Proofs.Ytnhpfhhpochgfaa
/- THE CELL 'sum', in the pinned program and in every row, IS THE sha256 OF THE DUMP (.gsa) THAT YtnhpfhhpochgfaaProg.lean LOADS. Nothing in Lean hashes anything: it is a label: what it is worth is what the hold of that sum in a sandbox is worth. -/
noncomputable def Try.pinned : Pinned := { name := "ytnhpfhhpochgfaa", sum := "c4a0b3fd2e3c73aabcccd2b9021c75b93952197b6226907cd89414f8a25faac7", checked := Try.checked }
namespace Rows
def none {H : Type} : Left H := { results := [], args := [] }

/-- 'bastionlaw29.TriggerLoads': WHATEVER THE INPUT: true; the input reads as it did. -/
def triggerLoadsSpec : ChangeSpec := { name := "triggerLoads", fn := fun _ => fun
  | [d] => { results := [.lit (.bool true)], args := [d] }
  | _ => none }
def triggerLoadsRow : OpenClaim := { program := "ytnhpfhhpochgfaa", sum := "c4a0b3fd2e3c73aabcccd2b9021c75b93952197b6226907cd89414f8a25faac7", func := "bastion/bastionlaw29.TriggerLoads", spec := "triggerLoads", unfollowed := true, recurses := true, apart := false }
def TriggerLoadsSaid : Prop := triggerLoadsRow.holds Try.pinned (OpenSpec.ofChange triggerLoadsSpec)

/-- ITS FALSE NEIGHBOUR: 'it returns false'. Refute it at one input. -/
def triggerLoadsWrong : ChangeSpec := { name := "triggerLoads", fn := fun _ => fun
  | [d] => { results := [.lit (.bool false)], args := [d] }
  | _ => none }
def TriggerLoadsWrongFalsely : Prop := triggerLoadsRow.holds Try.pinned (OpenSpec.ofChange triggerLoadsWrong)

/-- 'bastionlaw25.JobsOnce': WHATEVER THE INPUT: true; the input reads as it did. -/
def jobsOnceSpec : ChangeSpec := { name := "jobsOnce", fn := fun _ => fun
  | [d1, d2] => { results := [.lit (.bool true)], args := [d1, d2] }
  | _ => none }
def jobsOnceRow : OpenClaim := { program := "ytnhpfhhpochgfaa", sum := "c4a0b3fd2e3c73aabcccd2b9021c75b93952197b6226907cd89414f8a25faac7", func := "bastion/bastionlaw25.JobsOnce", spec := "jobsOnce", unfollowed := true, recurses := true, apart := false }
def JobsOnceSaid : Prop := jobsOnceRow.holds Try.pinned (OpenSpec.ofChange jobsOnceSpec)

/-- ITS FALSE NEIGHBOUR: 'it returns false'. Refute it at one input. -/
def jobsOnceWrong : ChangeSpec := { name := "jobsOnce", fn := fun _ => fun
  | [d1, d2] => { results := [.lit (.bool false)], args := [d1, d2] }
  | _ => none }
def JobsOnceWrongFalsely : Prop := jobsOnceRow.holds Try.pinned (OpenSpec.ofChange jobsOnceWrong)

/-- 'bastionlaw25.JobsEnds': WHATEVER THE INPUT: true; the input reads as it did. -/
def jobsEndsSpec : ChangeSpec := { name := "jobsEnds", fn := fun _ => fun
  | [d1, d2, d3] => { results := [.lit (.bool true)], args := [d1, d2, d3] }
  | _ => none }
def jobsEndsRow : OpenClaim := { program := "ytnhpfhhpochgfaa", sum := "c4a0b3fd2e3c73aabcccd2b9021c75b93952197b6226907cd89414f8a25faac7", func := "bastion/bastionlaw25.JobsEnds", spec := "jobsEnds", unfollowed := true, recurses := true, apart := false }
def JobsEndsSaid : Prop := jobsEndsRow.holds Try.pinned (OpenSpec.ofChange jobsEndsSpec)

/-- ITS FALSE NEIGHBOUR: 'it returns false'. Refute it at one input. -/
def jobsEndsWrong : ChangeSpec := { name := "jobsEnds", fn := fun _ => fun
  | [d1, d2, d3] => { results := [.lit (.bool false)], args := [d1, d2, d3] }
  | _ => none }
def JobsEndsWrongFalsely : Prop := jobsEndsRow.holds Try.pinned (OpenSpec.ofChange jobsEndsWrong)

/-- 'bastionlaw29.TriggerTakes': WHATEVER THE INPUT: true; the input reads as it did. -/
def triggerTakesSpec : ChangeSpec := { name := "triggerTakes", fn := fun _ => fun
  | [d] => { results := [.lit (.bool true)], args := [d] }
  | _ => none }
def triggerTakesRow : OpenClaim := { program := "ytnhpfhhpochgfaa", sum := "c4a0b3fd2e3c73aabcccd2b9021c75b93952197b6226907cd89414f8a25faac7", func := "bastion/bastionlaw29.TriggerTakes", spec := "triggerTakes", unfollowed := true, recurses := true, apart := false }
def TriggerTakesSaid : Prop := triggerTakesRow.holds Try.pinned (OpenSpec.ofChange triggerTakesSpec)

/-- ITS FALSE NEIGHBOUR: 'it returns false'. Refute it at one input. -/
def triggerTakesWrong : ChangeSpec := { name := "triggerTakes", fn := fun _ => fun
  | [d] => { results := [.lit (.bool false)], args := [d] }
  | _ => none }
def TriggerTakesWrongFalsely : Prop := triggerTakesRow.holds Try.pinned (OpenSpec.ofChange triggerTakesWrong)

/-- 'bastionlaw25.JobsLoads': WHATEVER THE INPUT: true; the input reads as it did. -/
def jobsLoadsSpec : ChangeSpec := { name := "jobsLoads", fn := fun _ => fun
  | [d1, d2] => { results := [.lit (.bool true)], args := [d1, d2] }
  | _ => none }
def jobsLoadsRow : OpenClaim := { program := "ytnhpfhhpochgfaa", sum := "c4a0b3fd2e3c73aabcccd2b9021c75b93952197b6226907cd89414f8a25faac7", func := "bastion/bastionlaw25.JobsLoads", spec := "jobsLoads", unfollowed := true, recurses := true, apart := false }
def JobsLoadsSaid : Prop := jobsLoadsRow.holds Try.pinned (OpenSpec.ofChange jobsLoadsSpec)

/-- ITS FALSE NEIGHBOUR: 'it returns false'. Refute it at one input. -/
def jobsLoadsWrong : ChangeSpec := { name := "jobsLoads", fn := fun _ => fun
  | [d1, d2] => { results := [.lit (.bool false)], args := [d1, d2] }
  | _ => none }
def JobsLoadsWrongFalsely : Prop := jobsLoadsRow.holds Try.pinned (OpenSpec.ofChange jobsLoadsWrong)

/-- 'bastionlaw25.JobsPlays': WHATEVER THE INPUT: true; the input reads as it did. -/
def jobsPlaysSpec : ChangeSpec := { name := "jobsPlays", fn := fun _ => fun
  | [d1, d2, d3] => { results := [.lit (.bool true)], args := [d1, d2, d3] }
  | _ => none }
def jobsPlaysRow : OpenClaim := { program := "ytnhpfhhpochgfaa", sum := "c4a0b3fd2e3c73aabcccd2b9021c75b93952197b6226907cd89414f8a25faac7", func := "bastion/bastionlaw25.JobsPlays", spec := "jobsPlays", unfollowed := true, recurses := true, apart := false }
def JobsPlaysSaid : Prop := jobsPlaysRow.holds Try.pinned (OpenSpec.ofChange jobsPlaysSpec)

/-- ITS FALSE NEIGHBOUR: 'it returns false'. Refute it at one input. -/
def jobsPlaysWrong : ChangeSpec := { name := "jobsPlays", fn := fun _ => fun
  | [d1, d2, d3] => { results := [.lit (.bool false)], args := [d1, d2, d3] }
  | _ => none }
def JobsPlaysWrongFalsely : Prop := jobsPlaysRow.holds Try.pinned (OpenSpec.ofChange jobsPlaysWrong)

/-- 'bastionlaw26.BadgeHeard': WHATEVER THE INPUT: true; the input reads as it did. -/
def badgeHeardSpec : ChangeSpec := { name := "badgeHeard", fn := fun _ => fun
  | [d1, d2, d3] => { results := [.lit (.bool true)], args := [d1, d2, d3] }
  | _ => none }
def badgeHeardRow : OpenClaim := { program := "ytnhpfhhpochgfaa", sum := "c4a0b3fd2e3c73aabcccd2b9021c75b93952197b6226907cd89414f8a25faac7", func := "bastion/bastionlaw26.BadgeHeard", spec := "badgeHeard", unfollowed := true, recurses := true, apart := false }
def BadgeHeardSaid : Prop := badgeHeardRow.holds Try.pinned (OpenSpec.ofChange badgeHeardSpec)

/-- ITS FALSE NEIGHBOUR: 'it returns false'. Refute it at one input. -/
def badgeHeardWrong : ChangeSpec := { name := "badgeHeard", fn := fun _ => fun
  | [d1, d2, d3] => { results := [.lit (.bool false)], args := [d1, d2, d3] }
  | _ => none }
def BadgeHeardWrongFalsely : Prop := badgeHeardRow.holds Try.pinned (OpenSpec.ofChange badgeHeardWrong)

/-- 'bastionlaw26.BadgeLoads': WHATEVER THE INPUT: true; the input reads as it did. -/
def badgeLoadsSpec : ChangeSpec := { name := "badgeLoads", fn := fun _ => fun
  | [d] => { results := [.lit (.bool true)], args := [d] }
  | _ => none }
def badgeLoadsRow : OpenClaim := { program := "ytnhpfhhpochgfaa", sum := "c4a0b3fd2e3c73aabcccd2b9021c75b93952197b6226907cd89414f8a25faac7", func := "bastion/bastionlaw26.BadgeLoads", spec := "badgeLoads", unfollowed := true, recurses := true, apart := false }
def BadgeLoadsSaid : Prop := badgeLoadsRow.holds Try.pinned (OpenSpec.ofChange badgeLoadsSpec)

/-- ITS FALSE NEIGHBOUR: 'it returns false'. Refute it at one input. -/
def badgeLoadsWrong : ChangeSpec := { name := "badgeLoads", fn := fun _ => fun
  | [d] => { results := [.lit (.bool false)], args := [d] }
  | _ => none }
def BadgeLoadsWrongFalsely : Prop := badgeLoadsRow.holds Try.pinned (OpenSpec.ofChange badgeLoadsWrong)

/-- 'bastionlaw26.BadgeBack': WHATEVER THE INPUT: true; the input reads as it did. -/
def badgeBackSpec : ChangeSpec := { name := "badgeBack", fn := fun _ => fun
  | [d1, d2] => { results := [.lit (.bool true)], args := [d1, d2] }
  | _ => none }
def badgeBackRow : OpenClaim := { program := "ytnhpfhhpochgfaa", sum := "c4a0b3fd2e3c73aabcccd2b9021c75b93952197b6226907cd89414f8a25faac7", func := "bastion/bastionlaw26.BadgeBack", spec := "badgeBack", unfollowed := true, recurses := true, apart := false }
def BadgeBackSaid : Prop := badgeBackRow.holds Try.pinned (OpenSpec.ofChange badgeBackSpec)

/-- ITS FALSE NEIGHBOUR: 'it returns false'. Refute it at one input. -/
def badgeBackWrong : ChangeSpec := { name := "badgeBack", fn := fun _ => fun
  | [d1, d2] => { results := [.lit (.bool false)], args := [d1, d2] }
  | _ => none }
def BadgeBackWrongFalsely : Prop := badgeBackRow.holds Try.pinned (OpenSpec.ofChange badgeBackWrong)

/-- 'bastionlaw26.BadgeRises': WHATEVER THE INPUT: true; the input reads as it did. -/
def badgeRisesSpec : ChangeSpec := { name := "badgeRises", fn := fun _ => fun
  | [d1, d2] => { results := [.lit (.bool true)], args := [d1, d2] }
  | _ => none }
def badgeRisesRow : OpenClaim := { program := "ytnhpfhhpochgfaa", sum := "c4a0b3fd2e3c73aabcccd2b9021c75b93952197b6226907cd89414f8a25faac7", func := "bastion/bastionlaw26.BadgeRises", spec := "badgeRises", unfollowed := true, recurses := true, apart := false }
def BadgeRisesSaid : Prop := badgeRisesRow.holds Try.pinned (OpenSpec.ofChange badgeRisesSpec)

/-- ITS FALSE NEIGHBOUR: 'it returns false'. Refute it at one input. -/
def badgeRisesWrong : ChangeSpec := { name := "badgeRises", fn := fun _ => fun
  | [d1, d2] => { results := [.lit (.bool false)], args := [d1, d2] }
  | _ => none }
def BadgeRisesWrongFalsely : Prop := badgeRisesRow.holds Try.pinned (OpenSpec.ofChange badgeRisesWrong)

/-- 'bastionlaw26.BadgeNames': WHATEVER THE INPUT: true; the input reads as it did. -/
def badgeNamesSpec : ChangeSpec := { name := "badgeNames", fn := fun _ => fun
  | [] => { results := [.lit (.bool true)], args := [] }
  | _ => none }
def badgeNamesRow : OpenClaim := { program := "ytnhpfhhpochgfaa", sum := "c4a0b3fd2e3c73aabcccd2b9021c75b93952197b6226907cd89414f8a25faac7", func := "bastion/bastionlaw26.BadgeNames", spec := "badgeNames", unfollowed := true, recurses := true, apart := false }
def BadgeNamesSaid : Prop := badgeNamesRow.holds Try.pinned (OpenSpec.ofChange badgeNamesSpec)

/-- ITS FALSE NEIGHBOUR: 'it returns false'. Refute it at one input. -/
def badgeNamesWrong : ChangeSpec := { name := "badgeNames", fn := fun _ => fun
  | [] => { results := [.lit (.bool false)], args := [] }
  | _ => none }
def BadgeNamesWrongFalsely : Prop := badgeNamesRow.holds Try.pinned (OpenSpec.ofChange badgeNamesWrong)

/-- 'bastionlaw26.BadgePlays': WHATEVER THE INPUT: true; the input reads as it did. -/
def badgePlaysSpec : ChangeSpec := { name := "badgePlays", fn := fun _ => fun
  | [d1, d2] => { results := [.lit (.bool true)], args := [d1, d2] }
  | _ => none }
def badgePlaysRow : OpenClaim := { program := "ytnhpfhhpochgfaa", sum := "c4a0b3fd2e3c73aabcccd2b9021c75b93952197b6226907cd89414f8a25faac7", func := "bastion/bastionlaw26.BadgePlays", spec := "badgePlays", unfollowed := true, recurses := true, apart := false }
def BadgePlaysSaid : Prop := badgePlaysRow.holds Try.pinned (OpenSpec.ofChange badgePlaysSpec)

/-- ITS FALSE NEIGHBOUR: 'it returns false'. Refute it at one input. -/
def badgePlaysWrong : ChangeSpec := { name := "badgePlays", fn := fun _ => fun
  | [d1, d2] => { results := [.lit (.bool false)], args := [d1, d2] }
  | _ => none }
def BadgePlaysWrongFalsely : Prop := badgePlaysRow.holds Try.pinned (OpenSpec.ofChange badgePlaysWrong)

/-- 'bastionlaw26.BadgeOne': WHATEVER THE INPUT: true; the input reads as it did. -/
def badgeOneSpec : ChangeSpec := { name := "badgeOne", fn := fun _ => fun
  | [d] => { results := [.lit (.bool true)], args := [d] }
  | _ => none }
def badgeOneRow : OpenClaim := { program := "ytnhpfhhpochgfaa", sum := "c4a0b3fd2e3c73aabcccd2b9021c75b93952197b6226907cd89414f8a25faac7", func := "bastion/bastionlaw26.BadgeOne", spec := "badgeOne", unfollowed := true, recurses := true, apart := false }
def BadgeOneSaid : Prop := badgeOneRow.holds Try.pinned (OpenSpec.ofChange badgeOneSpec)

/-- ITS FALSE NEIGHBOUR: 'it returns false'. Refute it at one input. -/
def badgeOneWrong : ChangeSpec := { name := "badgeOne", fn := fun _ => fun
  | [d] => { results := [.lit (.bool false)], args := [d] }
  | _ => none }
def BadgeOneWrongFalsely : Prop := badgeOneRow.holds Try.pinned (OpenSpec.ofChange badgeOneWrong)

/- THE SECOND FORM. 'bulk': how many values and letters a reading holds, each counted each time it is reached (what is shared counts as often as it is met; a slice's spare places count too). A statement '..UptoSaid' is the law's where the arguments, and the package variables that the reading takes, are together of bulk at most 1048576: NARROWER than '..Said'. Prove '..Said' where nothing that the law and all that it calls make is longer than what came in: it says more and counts as full. Else prove '..UptoSaid'. A law counts once. -/
mutual
def uptoBulk {H : Type} : DataW H → Nat
  | .lit (.string bytes) => bytes.length + 1
  | .lit _ => 1
  | .nil => 1
  | .ptr d => uptoBulk d + 1
  | .slice elems spare => uptoBulkAll elems + uptoBulkAll spare + 1
  | .agg parts => uptoBulkAll parts + 1
  | .iface _ d => uptoBulk d + 1
  | .map entries => uptoBulkEntries entries + 1
  | .held _ => 1
def uptoBulkAll {H : Type} : List (DataW H) → Nat
  | [] => 0
  | d :: r => uptoBulk d + uptoBulkAll r
def uptoBulkEntries {H : Type} : List (Lit × DataW H) → Nat
  | [] => 0
  | x :: r => uptoBulkEntry x + uptoBulkEntries r
def uptoBulkEntry {H : Type} : Lit × DataW H → Nat
  | (.string bytes, d) => bytes.length + uptoBulk d + 1
  | (_, d) => uptoBulk d + 1
 end
def uptoSmall : (H : Type) → List (DataW H) → Bool := fun _ ds => decide (uptoBulkAll ds ≤ 1048576)
def OpenSpec.upto (s : _root_.Go.ChangeSpec) : _root_.Go.OpenSpec := { _root_.Go.OpenSpec.ofChange s with cond := some uptoSmall }

/-- 'bastionlaw29.TriggerLoads', WHERE WHAT IT READS IS OF BULK AT MOST 1048576: true; the input reads as it did. -/
def triggerLoadsUptoRow : OpenClaim := { program := "ytnhpfhhpochgfaa", sum := "c4a0b3fd2e3c73aabcccd2b9021c75b93952197b6226907cd89414f8a25faac7", func := "bastion/bastionlaw29.TriggerLoads", spec := "triggerLoads", unfollowed := true, recurses := true, apart := false, narrowed := true }
def TriggerLoadsUptoSaid : Prop := triggerLoadsUptoRow.holds Try.pinned (OpenSpec.upto triggerLoadsSpec)

/-- 'bastionlaw25.JobsOnce', WHERE WHAT IT READS IS OF BULK AT MOST 1048576: true; the input reads as it did. -/
def jobsOnceUptoRow : OpenClaim := { program := "ytnhpfhhpochgfaa", sum := "c4a0b3fd2e3c73aabcccd2b9021c75b93952197b6226907cd89414f8a25faac7", func := "bastion/bastionlaw25.JobsOnce", spec := "jobsOnce", unfollowed := true, recurses := true, apart := false, narrowed := true }
def JobsOnceUptoSaid : Prop := jobsOnceUptoRow.holds Try.pinned (OpenSpec.upto jobsOnceSpec)

/-- 'bastionlaw25.JobsEnds', WHERE WHAT IT READS IS OF BULK AT MOST 1048576: true; the input reads as it did. -/
def jobsEndsUptoRow : OpenClaim := { program := "ytnhpfhhpochgfaa", sum := "c4a0b3fd2e3c73aabcccd2b9021c75b93952197b6226907cd89414f8a25faac7", func := "bastion/bastionlaw25.JobsEnds", spec := "jobsEnds", unfollowed := true, recurses := true, apart := false, narrowed := true }
def JobsEndsUptoSaid : Prop := jobsEndsUptoRow.holds Try.pinned (OpenSpec.upto jobsEndsSpec)

/-- 'bastionlaw29.TriggerTakes', WHERE WHAT IT READS IS OF BULK AT MOST 1048576: true; the input reads as it did. -/
def triggerTakesUptoRow : OpenClaim := { program := "ytnhpfhhpochgfaa", sum := "c4a0b3fd2e3c73aabcccd2b9021c75b93952197b6226907cd89414f8a25faac7", func := "bastion/bastionlaw29.TriggerTakes", spec := "triggerTakes", unfollowed := true, recurses := true, apart := false, narrowed := true }
def TriggerTakesUptoSaid : Prop := triggerTakesUptoRow.holds Try.pinned (OpenSpec.upto triggerTakesSpec)

/-- 'bastionlaw25.JobsLoads', WHERE WHAT IT READS IS OF BULK AT MOST 1048576: true; the input reads as it did. -/
def jobsLoadsUptoRow : OpenClaim := { program := "ytnhpfhhpochgfaa", sum := "c4a0b3fd2e3c73aabcccd2b9021c75b93952197b6226907cd89414f8a25faac7", func := "bastion/bastionlaw25.JobsLoads", spec := "jobsLoads", unfollowed := true, recurses := true, apart := false, narrowed := true }
def JobsLoadsUptoSaid : Prop := jobsLoadsUptoRow.holds Try.pinned (OpenSpec.upto jobsLoadsSpec)

/-- 'bastionlaw25.JobsPlays', WHERE WHAT IT READS IS OF BULK AT MOST 1048576: true; the input reads as it did. -/
def jobsPlaysUptoRow : OpenClaim := { program := "ytnhpfhhpochgfaa", sum := "c4a0b3fd2e3c73aabcccd2b9021c75b93952197b6226907cd89414f8a25faac7", func := "bastion/bastionlaw25.JobsPlays", spec := "jobsPlays", unfollowed := true, recurses := true, apart := false, narrowed := true }
def JobsPlaysUptoSaid : Prop := jobsPlaysUptoRow.holds Try.pinned (OpenSpec.upto jobsPlaysSpec)

/-- 'bastionlaw26.BadgeHeard', WHERE WHAT IT READS IS OF BULK AT MOST 1048576: true; the input reads as it did. -/
def badgeHeardUptoRow : OpenClaim := { program := "ytnhpfhhpochgfaa", sum := "c4a0b3fd2e3c73aabcccd2b9021c75b93952197b6226907cd89414f8a25faac7", func := "bastion/bastionlaw26.BadgeHeard", spec := "badgeHeard", unfollowed := true, recurses := true, apart := false, narrowed := true }
def BadgeHeardUptoSaid : Prop := badgeHeardUptoRow.holds Try.pinned (OpenSpec.upto badgeHeardSpec)

/-- 'bastionlaw26.BadgeLoads', WHERE WHAT IT READS IS OF BULK AT MOST 1048576: true; the input reads as it did. -/
def badgeLoadsUptoRow : OpenClaim := { program := "ytnhpfhhpochgfaa", sum := "c4a0b3fd2e3c73aabcccd2b9021c75b93952197b6226907cd89414f8a25faac7", func := "bastion/bastionlaw26.BadgeLoads", spec := "badgeLoads", unfollowed := true, recurses := true, apart := false, narrowed := true }
def BadgeLoadsUptoSaid : Prop := badgeLoadsUptoRow.holds Try.pinned (OpenSpec.upto badgeLoadsSpec)

/-- 'bastionlaw26.BadgeBack', WHERE WHAT IT READS IS OF BULK AT MOST 1048576: true; the input reads as it did. -/
def badgeBackUptoRow : OpenClaim := { program := "ytnhpfhhpochgfaa", sum := "c4a0b3fd2e3c73aabcccd2b9021c75b93952197b6226907cd89414f8a25faac7", func := "bastion/bastionlaw26.BadgeBack", spec := "badgeBack", unfollowed := true, recurses := true, apart := false, narrowed := true }
def BadgeBackUptoSaid : Prop := badgeBackUptoRow.holds Try.pinned (OpenSpec.upto badgeBackSpec)

/-- 'bastionlaw26.BadgeRises', WHERE WHAT IT READS IS OF BULK AT MOST 1048576: true; the input reads as it did. -/
def badgeRisesUptoRow : OpenClaim := { program := "ytnhpfhhpochgfaa", sum := "c4a0b3fd2e3c73aabcccd2b9021c75b93952197b6226907cd89414f8a25faac7", func := "bastion/bastionlaw26.BadgeRises", spec := "badgeRises", unfollowed := true, recurses := true, apart := false, narrowed := true }
def BadgeRisesUptoSaid : Prop := badgeRisesUptoRow.holds Try.pinned (OpenSpec.upto badgeRisesSpec)

/-- 'bastionlaw26.BadgeNames', WHERE WHAT IT READS IS OF BULK AT MOST 1048576: true; the input reads as it did. -/
def badgeNamesUptoRow : OpenClaim := { program := "ytnhpfhhpochgfaa", sum := "c4a0b3fd2e3c73aabcccd2b9021c75b93952197b6226907cd89414f8a25faac7", func := "bastion/bastionlaw26.BadgeNames", spec := "badgeNames", unfollowed := true, recurses := true, apart := false, narrowed := true }
def BadgeNamesUptoSaid : Prop := badgeNamesUptoRow.holds Try.pinned (OpenSpec.upto badgeNamesSpec)

/-- 'bastionlaw26.BadgePlays', WHERE WHAT IT READS IS OF BULK AT MOST 1048576: true; the input reads as it did. -/
def badgePlaysUptoRow : OpenClaim := { program := "ytnhpfhhpochgfaa", sum := "c4a0b3fd2e3c73aabcccd2b9021c75b93952197b6226907cd89414f8a25faac7", func := "bastion/bastionlaw26.BadgePlays", spec := "badgePlays", unfollowed := true, recurses := true, apart := false, narrowed := true }
def BadgePlaysUptoSaid : Prop := badgePlaysUptoRow.holds Try.pinned (OpenSpec.upto badgePlaysSpec)

/-- 'bastionlaw26.BadgeOne', WHERE WHAT IT READS IS OF BULK AT MOST 1048576: true; the input reads as it did. -/
def badgeOneUptoRow : OpenClaim := { program := "ytnhpfhhpochgfaa", sum := "c4a0b3fd2e3c73aabcccd2b9021c75b93952197b6226907cd89414f8a25faac7", func := "bastion/bastionlaw26.BadgeOne", spec := "badgeOne", unfollowed := true, recurses := true, apart := false, narrowed := true }
def BadgeOneUptoSaid : Prop := badgeOneUptoRow.holds Try.pinned (OpenSpec.upto badgeOneSpec)

end Rows
end Go.Proofs.Ytnhpfhhpochgfaa
