/- For every plan, every list of steps and every list of bytes the law JobsEnds returns true, and all read as before. Conditions: none. -/
import Derived.Test.YtnhpfhhpochgfaaRows
import Derived.Test.YtnhpfhhpochgfaaOpen
import Derived.Test.YtnhpfhhpochgfaaOpenPlan
import Derived.Test.YtnhpfhhpochgfaaWEnds
namespace Go.Proofs.Ytnhpfhhpochgfaa.jobsEnds
open Go.ChangeShapes Go.WideShapes Go.ChangeAt Go.RowKit Go.Sy
open Go.ChangeMaps (open_string shut_string)
set_option linter.unusedVariables false
theorem jst_of {row : List Value} (h : rowOk [.i .u8, .i .i64, .i .i64, .i .i64] row) : ∃ x : JStep, row = jstc x ∧ (True) := by
  obtain ⟨hl, hc⟩ := h
  match row, hl with
  | [v0, v1, v2, v3], _ =>
    have h0 := hc 0 _ _ rfl rfl
    have h1 := hc 1 _ _ rfl rfl
    have h2 := hc 2 _ _ rfl rfl
    have h3 := hc 3 _ _ rfl rfl
    cases v0 <;> simp only [cellOk] at h0
    cases v1 <;> simp only [cellOk] at h1
    cases v2 <;> simp only [cellOk] at h2
    cases v3 <;> simp only [cellOk] at h3
    obtain ⟨rfl, m0, M0⟩ := h0
    obtain ⟨rfl, m1, M1⟩ := h1
    obtain ⟨rfl, m2, M2⟩ := h2
    obtain ⟨rfl, m3, M3⟩ := h3
    exact ⟨⟨_, _, _, _⟩, rfl, by first | trivial | assumption | (simp only [IntKind.min, IntKind.max, IntKind.bits, IntKind.signed] at *; first | trivial | assumption | (refine ⟨?_, ?_⟩ <;> assumption) | (simp at *; omega))⟩
theorem own : ownKnob Try.prog.godebug = none := by kernel_rfl
theorem laidOut : laidOutB Try.prog = true := by kernel_rfl
set_option maxRecDepth 100000 in
theorem lifted (os : Os) (started : os.Started) (H : Type) (enc : TypeId × Value → H) :
    ReturnsInHanded {} Try.checked os 5 .any (Rows.jobsEndsSpec.pre6 enc Try.prog Try.f5 Rows.jobsEndsRow.domain false) (Rows.jobsEndsSpec.post enc Try.prog Try.f5 false true false false) := by
  refine returnsInHanded_of_change_sized (C := Try.checked) own started (by kernel_rfl) Try.func5
    (ChangeSpec.witness6 (enc := enc) (C := Try.checked) false ⟨#[], #[(.agg #[.slice none 0 0]), .slice none 0 0, .slice none 0 0], []⟩ 8 (by kernel_rfl) (by kernel_rfl) (by kernel_rfl) (by kernel_rfl)) ?_
  intro W base args ds gs before hval0 hW hcnd hsz0 _
  have hsz : (DataW.weightsEach Try.prog (Try.f5.params.toList ++ Rows.jobsEndsSpec.plain.varTypes Try.prog) (ds ++ gs)).all (· ≤ reachBytes) = true := hsz0
  have hval : ∀ (j : Nat) t v, Try.f5.params[j]? = some t → args[j]? = some v → Value.okWide Try.prog W .any base t v := hval0
  have hW' := hW
  obtain ⟨p, q, hA0, hV, rfl, hfz, hnd⟩ := hW
  have hA : DataW.TrodAll enc Try.prog W 0 (fun _ => true) true Try.f5.params.toList args.toList ds p := hA0
  rw [Try.params5] at hA hval hsz
  obtain ⟨v0, vs0, d0, ds0, p0, q0, hargs, rfl, rfl, h0, r0⟩ := trodAll_cons hA
  obtain ⟨v1, vs1, d1, ds1, p1, q1, rfl, rfl, rfl, h1, r1⟩ := trodAll_cons r0
  obtain ⟨v2, vs2, d2, ds2, p2, q2, rfl, rfl, rfl, h2, r2⟩ := trodAll_cons r1
  obtain ⟨rfl, rfl, rfl⟩ := trodAll_nil r2
  obtain rfl : args = #[v0, v1, v2] := by cases args; simp_all
  obtain ⟨rfl, rfl⟩ := trodVars_none hV
  have k0 := h0
  have lt0 : ∀ x ∈ p0, x.block < W.heap.size := by obtain ⟨m, hm⟩ := k0; exact DataW.trod_lt m _ _ _ hm
  obtain ⟨ap0, ps0, cp0, LP0, rfl, ro0, pn0, hN0⟩ := open_plan Try.underlying41 rfl (by kernel_rfl) (by kernel_rfl) (by kernel_rfl) Try.underlying39 Try.underlying60 (by kernel_rfl) (by kernel_rfl) Try.underlying9 Try.underlying48 Try.underlying3 (by kernel_rfl) (by kernel_rfl) Try.underlying57 Try.underlying58 Try.underlying57 Try.underlying57 Try.underlying3 Try.underlying3 Try.underlying4 hsz (i0 := 0) rfl rfl (hval 0 41 v0 rfl rfl) h0
  have k1 := h1
  have lt1 : ∀ x ∈ p1, x.block < W.heap.size := by obtain ⟨m, hm⟩ := k1; exact DataW.trod_lt m _ _ _ hm
  obtain ⟨a1, rows1, c1, rfl, hr1, ro1⟩ := open_flat (ks := [.i .u8, .i .i64, .i .i64, .i .i64]) Try.underlying42 Try.underlying53 (by kernel_rfl) (by kernel_rfl) (by kernel_rfl) (by decide) hsz (i0 := 1) rfl rfl (hval 1 42 v1 rfl rfl) h1
  obtain ⟨l1, rfl, hl1⟩ := map_of (f := jstc) (Q := fun _ => True) (fun row h => jst_of (hr1 row h))
  have ro1 : Ro W a1 l1.length c1 (l1.flatMap jstc) := by simpa [List.flatMap_map] using ro1
  have k2 := h2
  have lt2 : ∀ x ∈ p2, x.block < W.heap.size := by obtain ⟨m, hm⟩ := k2; exact DataW.trod_lt m _ _ _ hm
  obtain ⟨a2, bs2, c2, rfl, ro2⟩ := open_bytes Try.underlying22 Try.underlying5 (by kernel_rfl) (hval 2 22 v2 rfl rfl) h2
  clear hA0 hval0 hsz0
  refine Calls.mono (R := Ret fun v w' => v = .bool true ∧ Fr [] W w') ?_ ?_
  · rw [List.length_map]
    cases hm : mayB (ps0.map PJob.m) with
    | false => exact ends_no ro0 pn0 hN0 ro1 ro2 hm
    | true => exact ends_yes ro0 pn0 hN0 ro1 ro2 hm
  rintro e W' ⟨v, rfl, rfl, fr⟩
  have bel := fr.below
  exact ⟨_, rfl, _, _, _, [], _, [], hW', trodAll_mk1 (shut_bool Try.underlying4 _), (trodAll_cons_mk (Below.trod laidOut (by kernel_rfl) (of_decide_eq_true (by kernel_rfl)) k0 bel lt0) (trodAll_cons_mk (Below.trod laidOut (by kernel_rfl) (of_decide_eq_true (by kernel_rfl)) k1 bel lt1) (trodAll_cons_mk (Below.trod laidOut (by kernel_rfl) (of_decide_eq_true (by kernel_rfl)) k2 bel lt2) trodAll_mk0))), rfl, bel.frame _, fun h => by cases h⟩
theorem over : Rows.jobsEndsRow.holds Try.pinned (OpenSpec.ofChange Rows.jobsEndsSpec) :=
  OpenClaim.holds_of_wide 5 Try.f5 rfl rfl rfl rfl rfl rfl rfl ⟨rfl, rfl, rfl, rfl, rfl⟩ rfl rfl rfl rfl rfl (by kernel_rfl) Try.func5 (by kernel_rfl)
    (of_decide_eq_true (by kernel_rfl)) (by unfold Func.isWrapper; first | (rw [if_pos (by decide +kernel)]; kernel_rfl) | (rw [if_neg (by decide +kernel)]; exact ⟨rfl, rfl⟩))
    (fun os started H enc _ => lifted os started H enc)
theorem proved : Rows.JobsEndsSaid := over
#print axioms proved
end Go.Proofs.Ytnhpfhhpochgfaa.jobsEnds
namespace Go.Proofs.Ytnhpfhhpochgfaa
/-- The row, under a short name, for the claim. -/
theorem jobsEnds_holds : Rows.JobsEndsSaid := jobsEnds.proved
end Go.Proofs.Ytnhpfhhpochgfaa
