/- For every list of steps the law TriggerTakes returns true, and the steps read as before. Conditions: none. -/
import Derived.Test.YtnhpfhhpochgfaaRows
import Derived.Test.YtnhpfhhpochgfaaOpen
import Derived.Test.YtnhpfhhpochgfaaWLaw29t
namespace Go.Proofs.Ytnhpfhhpochgfaa.triggerTakes
open Go.ChangeShapes Go.WideShapes Go.ChangeAt Go.RowKit Go.Sy
open Go.ChangeMaps (open_string shut_string)
set_option linter.unusedVariables false
theorem tst_of {row : List Value} (h : rowOk [.i .u8, .s, .i .i64] row) : ∃ x : TStep, row = tstc x ∧ (x.id.size ≤ 140737488351232) := by
  obtain ⟨hl, hc⟩ := h
  match row, hl with
  | [v0, v1, v2], _ =>
    have h0 := hc 0 _ _ rfl rfl
    have h1 := hc 1 _ _ rfl rfl
    have h2 := hc 2 _ _ rfl rfl
    cases v0 <;> simp only [cellOk] at h0
    cases v1 <;> simp only [cellOk] at h1
    cases v2 <;> simp only [cellOk] at h2
    obtain ⟨rfl, m0, M0⟩ := h0
    obtain ⟨rfl, m2, M2⟩ := h2
    exact ⟨⟨_, _, _⟩, rfl, by simp only [IntKind.min, IntKind.max, IntKind.bits, IntKind.signed] at *; first | trivial | assumption | (refine ⟨?_, ?_⟩ <;> assumption) | (simp at *; omega)⟩
theorem own : ownKnob Try.prog.godebug = none := by kernel_rfl
theorem laidOut : laidOutB Try.prog = true := by kernel_rfl
set_option maxRecDepth 100000 in
theorem lifted (os : Os) (started : os.Started) (H : Type) (enc : TypeId × Value → H) :
    ReturnsInHanded {} Try.checked os 6 .any (Rows.triggerTakesSpec.pre6 enc Try.prog Try.f6 Rows.triggerTakesRow.domain false) (Rows.triggerTakesSpec.post enc Try.prog Try.f6 false true false false) := by
  refine returnsInHanded_of_change_sized (C := Try.checked) own started (by kernel_rfl) Try.func6
    (ChangeSpec.witness6 (enc := enc) (C := Try.checked) false ⟨#[], #[.slice none 0 0], []⟩ 8 (by kernel_rfl) (by kernel_rfl) (by kernel_rfl) (by kernel_rfl)) ?_
  intro W base args ds gs before hval0 hW hcnd hsz0 _
  have hsz : (DataW.weightsEach Try.prog (Try.f6.params.toList ++ Rows.triggerTakesSpec.plain.varTypes Try.prog) (ds ++ gs)).all (· ≤ reachBytes) = true := hsz0
  have hval : ∀ (j : Nat) t v, Try.f6.params[j]? = some t → args[j]? = some v → Value.okWide Try.prog W .any base t v := hval0
  have hW' := hW
  obtain ⟨p, q, hA0, hV, rfl, hfz, hnd⟩ := hW
  have hA : DataW.TrodAll enc Try.prog W 0 (fun _ => true) true Try.f6.params.toList args.toList ds p := hA0
  rw [Try.params6] at hA hval hsz
  obtain ⟨v0, vs0, d0, ds0, p0, q0, hargs, rfl, rfl, h0, r0⟩ := trodAll_cons hA
  obtain ⟨rfl, rfl, rfl⟩ := trodAll_nil r0
  obtain rfl : args = #[v0] := by cases args; simp_all
  obtain ⟨rfl, rfl⟩ := trodVars_none hV
  have k0 := h0
  have lt0 : ∀ x ∈ p0, x.block < W.heap.size := by obtain ⟨m, hm⟩ := k0; exact DataW.trod_lt m _ _ _ hm
  obtain ⟨a0, rows0, c0, rfl, hr0, ro0⟩ := open_flat (ks := [.i .u8, .s, .i .i64]) Try.underlying66 Try.underlying69 (by kernel_rfl) (by kernel_rfl) (by kernel_rfl) (by decide) hsz (i0 := 0) rfl rfl (hval 0 66 v0 rfl rfl) h0
  obtain ⟨l0, rfl, hl0⟩ := map_of (f := tstc) (Q := fun x => x.id.size ≤ 140737488351232) (fun row h => tst_of (hr0 row h))
  have ro0 : Ro W a0 l0.length c0 (l0.flatMap tstc) := by simpa [List.flatMap_map] using ro0
  clear hA0 hval0 hsz0
  refine Calls.mono (R := Ret fun v w' => v = .bool true ∧ Fr [] W w') ?_ ?_
  · rw [List.length_map]
    exact takes_c ro0 hl0
  rintro e W' ⟨v, rfl, rfl, fr⟩
  have bel := fr.below
  exact ⟨_, rfl, _, _, _, [], _, [], hW', trodAll_mk1 (shut_bool Try.underlying4 _), (trodAll_cons_mk (Below.trod laidOut (by kernel_rfl) (of_decide_eq_true (by kernel_rfl)) k0 bel lt0) trodAll_mk0), rfl, bel.frame _, fun h => by cases h⟩
theorem over : Rows.triggerTakesRow.holds Try.pinned (OpenSpec.ofChange Rows.triggerTakesSpec) :=
  OpenClaim.holds_of_wide 6 Try.f6 rfl rfl rfl rfl rfl rfl rfl ⟨rfl, rfl, rfl, rfl, rfl⟩ rfl rfl rfl rfl rfl (by kernel_rfl) Try.func6 (by kernel_rfl)
    (of_decide_eq_true (by kernel_rfl)) (by unfold Func.isWrapper; first | (rw [if_pos (by decide +kernel)]; kernel_rfl) | (rw [if_neg (by decide +kernel)]; exact ⟨rfl, rfl⟩))
    (fun os started H enc _ => lifted os started H enc)
theorem proved : Rows.TriggerTakesSaid := over
#print axioms proved
end Go.Proofs.Ytnhpfhhpochgfaa.triggerTakes
namespace Go.Proofs.Ytnhpfhhpochgfaa
/-- The row, under a short name, for the claim. -/
theorem triggerTakes_holds : Rows.TriggerTakesSaid := triggerTakes.proved
end Go.Proofs.Ytnhpfhhpochgfaa
