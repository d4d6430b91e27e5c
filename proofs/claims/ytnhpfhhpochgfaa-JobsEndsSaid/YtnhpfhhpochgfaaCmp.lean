/- Structs of whole numbers, truth values and texts, compared cell by cell. No condition. -/
import Derived.Test.YtnhpfhhpochgfaaDraw
import Derived.Laws.StructEq
namespace Go.Sy
set_option linter.unusedVariables false
set_option linter.unusedSectionVars false
set_option linter.unusedSimpArgs false

/-- where ways meet again: all that is known behind is J -/
theorem c_cut {P : Program} {Q : Exit → Act → World → Prop} {n : Nat} {e : Nat → Value} {w : World} {x y : Code} (J : (Nat → Value) → World → Prop)
    (hx : x.wp P (Exit.then (fun a' w' => ∃ e', a' = act n e' ∧ J e' w') Q) (act n e) w) (hy : ∀ e' w', J e' w' → y.wp P Q (act n e') w') : (Code.seq x y).wp P Q (act n e) w :=
  wp_seq (wp_mono hx (fun ex a w h => by
    cases ex with
    | normal => obtain ⟨e', rfl, hj⟩ := h; exact hy e' w hj
    | _ => exact h))

theorem app_notin {A B S : List Nat} (h : ∀ x ∈ A, x ∉ S) (h' : ∀ x ∈ B, x ∉ S) : ∀ x ∈ A ++ B, x ∉ S := fun x hx => (List.mem_append.1 hx).elim (h x) (h' x)
theorem app_ge {A B : List Nat} {M : Nat} (h : ∀ x ∈ A, M ≤ x) (h' : ∀ x ∈ B, M ≤ x) : ∀ x ∈ A ++ B, M ≤ x := fun x hx => (List.mem_append.1 hx).elim (h x) (h' x)

inductive Kd where
  | i (k : IntKind)
  | b
  | s
def kindOf (P : Program) (t : TypeId) : Option Kd := match P.underlying t with
  | some (.int k) => some (.i k)
  | some .bool => some .b
  | some .string => some .s
  | _ => none
def Fits : Kd → Value → Bool
  | .i _, .int _ _ => true
  | .b, .bool _ => true
  | .s, .string _ => true
  | _, _ => false
def ceq : Value → Value → Bool
  | .int _ a, .int _ b => a == b
  | .bool a, .bool b => a == b
  | .string a, .string b => a.toList == b.toList
  | _, _ => false
def sameKind : Value → Value → Bool
  | .int k _, .int k' _ => k == k'
  | .bool _, .bool _ => true
  | .string _, .string _ => true
  | _, _ => false
def allEq : List Value → List Value → Bool
  | [], [] => true
  | x :: xs, y :: ys => ceq x y && allEq xs ys
  | _, _ => false
def ksFrom (P : Program) : Nat → List Field → Option (List Kd)
  | _, [] => some []
  | n, f :: fs => if (f.name != "_" && f.offset == n) = true then (kindOf P f.type).bind fun k => (ksFrom P (n + 1) fs).map fun l => k :: l else none
def flatKs (P : Program) (t : TypeId) : Option (List Kd) := match P.underlying t with
  | some (.struct fs) => if (P.stoodInHeld t || P.eqGuardType P.depth t) = true then none else ksFrom P 0 fs.toList
  | _ => none
def pairOk : List Kd → List Value → List Value → Bool
  | [], [], [] => true
  | k :: ks, x :: xs, y :: ys => Fits k x && Fits k y && sameKind x y && pairOk ks xs ys
  | _, _, _ => false

variable {P : Program} {n : Nat} {e : Nat → Value} {w : World} {d : Option Nat} {ty : TypeId} {pos : String} {af : Array Edge} {g : Option (Nat × Bool)}
theorem run_part1 {t : TypeId} {k : Kd} (h : kindOf P t = some k) {xs : Array Value} {off : Nat} {v : Value} (hx : xs[off]? = some v) : (part t xs off).run P w = .ok v w := by
  unfold kindOf at h
  split at h
  · rename_i hu; simp [part, isAgg, run_underlying hu, hx]
  · rename_i hu; simp [part, isAgg, run_underlying hu, hx]
  · rename_i hu; simp [part, isAgg, run_underlying hu, hx]
  · cases h
theorem run_eq1 {t : TypeId} {k : Kd} (h : kindOf P t = some k) {D : Nat} {x y : Value} (hx : Fits k x = true) (hy : Fits k y = true) (hs : sameKind x y = true) : (Op.equalIn (D + 1) t x y).run P w = .ok (ceq x y) w := by
  unfold kindOf at h
  split at h
  · rename_i kk hu
    cases h
    cases x <;> simp [Fits] at hx
    cases y <;> simp [Fits] at hy
    simp [sameKind] at hs
    subst hs
    exact run_equalIn_int w D t _ _ _ _ hu
  · rename_i hu
    cases h
    cases x <;> simp [Fits] at hx
    cases y <;> simp [Fits] at hy
    exact run_equalIn_bool' w D t _ _ hu
  · rename_i hu
    cases h
    cases x <;> simp [Fits] at hx
    cases y <;> simp [Fits] at hy
    exact run_equalIn_string w D t _ _ hu
  · cases h
theorem run_fields {D : Nat} : ∀ (fs : List Field) (ks : List Kd) (n : Nat) (X Y : List Value) (xs ys : Array Value), ksFrom P n fs = some ks → xs.toList.drop n = X → ys.toList.drop n = Y → pairOk ks X Y = true →
    (Op.eqFields (D + 1) xs ys fs).run P w = .ok (allEq X Y) w
  | [], ks, n, X, Y, xs, ys, h, hX, hY, hp => by
    simp only [ksFrom, Option.some.injEq] at h
    subst h
    cases X <;> cases Y <;> simp [pairOk] at hp
    simp [Op.eqFields, allEq]
  | f :: fs, ks, n, X, Y, xs, ys, h, hX, hY, hp => by
    rw [ksFrom] at h
    split at h
    · rename_i hc
      simp only [Bool.and_eq_true, bne_iff_ne, ne_eq, beq_iff_eq] at hc
      obtain ⟨k, hk, h⟩ := Option.bind_eq_some_iff.1 h
      obtain ⟨l, hl, rfl⟩ := Option.map_eq_some_iff.1 h
      cases X with
      | nil => simp [pairOk] at hp
      | cons x X =>
        cases Y with
        | nil => simp [pairOk] at hp
        | cons y Y =>
          simp only [pairOk, Bool.and_eq_true] at hp
          obtain ⟨⟨⟨h1, h2⟩, h3⟩, h4⟩ := hp
          have gx : xs[n]? = some x := by
            have : (xs.toList.drop n)[0]? = some x := by rw [hX]; rfl
            rw [List.getElem?_drop] at this
            simpa using this
          have gy : ys[n]? = some y := by
            have : (ys.toList.drop n)[0]? = some y := by rw [hY]; rfl
            rw [List.getElem?_drop] at this
            simpa using this
          have dx : xs.toList.drop (n + 1) = X := by rw [← List.drop_drop, hX]; rfl
          have dy : ys.toList.drop (n + 1) = Y := by rw [← List.drop_drop, hY]; rfl
          have ih := run_fields (D := D) fs l (n + 1) X Y xs ys hl dx dy h4
          rw [← hc.2] at gx gy
          rw [Op.eqFields, if_pos hc.1]
          simp only [Sem.run_bind, run_part1 hk gx, run_part1 hk gy, Result.andThen_ok, run_eq1 hk h1 h2 h3, Sem.run_ite]
          rw [allEq]
          cases hq : ceq x y
          · simp
          · simpa using ih
    · cases h
theorem run_flat {t : TypeId} {ks : List Kd} {X Y : List Value} (h : flatKs P t = some ks) (hp : pairOk ks X Y = true) : (Op.equalIn 10000 t (.agg X.toArray) (.agg Y.toArray)).run P w = .ok (allEq X Y) w ∧ P.eqGuardType P.depth t = false := by
  unfold flatKs at h
  split at h
  · rename_i fs hu
    split at h
    · cases h
    · rename_i hc
      simp only [Bool.not_eq_true, Bool.or_eq_false_iff] at hc
      have hf : P.fieldsOf t = fs := by unfold Program.fieldsOf; rw [hu]
      refine ⟨?_, hc.2⟩
      rw [show (10000 : Nat) = 9998 + 1 + 1 from rfl, run_equalIn_struct w (9998 + 1) t _ _ (by rw [hf]; exact hu) hc.1, hf]
      exact run_fields fs.toList ks 0 X Y _ _ h (by simp) (by simp) hp
  · cases h
theorem r_eqlA {x y : Operand} {t t' : TypeId} {ks : List Kd} {X Y : List Value} (h : flatKs P t = some ks) (hx : ev n e x = .agg X.toArray) (hy : ev n e y = .agg Y.toArray) (hp : pairOk ks X Y = true) :
    (execOp (ev n e) ⟨d, .binOp .eql t x y t', ty, pos, af, g⟩).run P w = .ok (.value (.bool (allEq X Y))) w := by
  obtain ⟨h1, h2⟩ := run_flat (w := w) h hp
  have h3 := run_eqGuard_agg (P := P) (w := w) .eql t x y X.toArray Y.toArray h2
  have h4 : (binOp .eql t (.agg X.toArray) (.agg Y.toArray)).run P w = .ok (.bool (allEq X Y)) w := by rw [run_eql_struct, h1]; rfl
  simp [execOp, hx, hy, h3, h4]
theorem r_neqA {x y : Operand} {t t' : TypeId} {ks : List Kd} {X Y : List Value} (h : flatKs P t = some ks) (hx : ev n e x = .agg X.toArray) (hy : ev n e y = .agg Y.toArray) (hp : pairOk ks X Y = true) :
    (execOp (ev n e) ⟨d, .binOp .neq t x y t', ty, pos, af, g⟩).run P w = .ok (.value (.bool (!(allEq X Y)))) w := by
  obtain ⟨h1, h2⟩ := run_flat (w := w) h hp
  have h3 := run_eqGuard_agg (P := P) (w := w) .neq t x y X.toArray Y.toArray h2
  have h4 : (binOp .neq t (.agg X.toArray) (.agg Y.toArray)).run P w = .ok (.bool (!(allEq X Y))) w := by rw [run_neq_struct, h1]; rfl
  simp [execOp, hx, hy, h3, h4]
end Go.Sy
