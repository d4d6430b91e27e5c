/- Regions whose order Go leaves open: one walk serves every order. Loads may be taken first while the cells that they read stand. No condition. -/
import Derived.Test.YtnhpfhhpochgfaaMem
namespace Go.Sy
set_option linter.unusedVariables false
set_option linter.unusedSectionVars false

section
variable {P : Program} {ops : Array Oper} {Q : Exit → Act → World → Prop} {anc : Nat → Nat → Bool} {F : Nat → World → Prop}

/-- Whatever order is picked from here on; behind each operation i what the others need (F) still holds, but for those that stand ahead of i in every order. -/
def wpF (P : Program) (ops : Array Oper) (Q : Exit → Act → World → Prop) (anc : Nat → Nat → Bool) (F : Nat → World → Prop) : Nat → Array Bool → Act → World → Prop
  | 0, listed, a, w => Region.ready .any ops listed = [] ∧ Q .normal a w
  | fuel + 1, listed, a, w =>
    (Region.ready .any ops listed = [] → Q .normal a w) ∧
    ∀ i ∈ Region.ready .any ops listed, wpOp P ops Q i (fun a' w' => (∀ k, anc i k = false → F k w → F k w') ∧ wpF P ops Q anc F fuel (listed.setIfInBounds i true) a' w') a w
theorem wpAny_of_F : ∀ (fuel : Nat) (listed : Array Bool) (a : Act) (w : World), wpF P ops Q anc F fuel listed a w → wpAny P .any ops Q fuel listed a w
  | 0, _, _, _, h => h
  | fuel + 1, _, _, _, h => ⟨h.1, fun i hi => wpOp_mono (fun a' w' h' => wpAny_of_F fuel _ a' w' h'.2) (h.2 i hi)⟩

/-- who stands ahead of whom in every order: as bits -/
def anc_ (masks : List Nat) (j i : Nat) : Bool := (masks.getD j 0).testBit i
def ancOk (ops : Array Oper) (masks : List Nat) : Bool :=
  (List.range ops.size).all fun j => (List.range ops.size).all fun i => !anc_ masks j i || match ops[j]? with
    | some o => o.after.any fun e => Region.binds .any e && (e.on == i || anc_ masks e.on i)
    | none => false
def masksIn (ops : Array Oper) (masks : List Nat) : Bool := masks.length == ops.size && masks.all fun m => m < 2 ^ ops.size
def AncOk (ops : Array Oper) (anc : Nat → Nat → Bool) : Prop := ∀ j i, anc j i = true → ∃ o, ops[j]? = some o ∧ ∃ e ∈ o.after, Region.binds .any e = true ∧ (e.on = i ∨ anc e.on i = true)
theorem masks_lt {masks : List Nat} (h : masksIn ops masks = true) {j i : Nat} (hji : anc_ masks j i = true) : j < ops.size ∧ i < ops.size := by
  simp only [masksIn, Bool.and_eq_true, List.all_eq_true, beq_iff_eq, decide_eq_true_eq] at h
  obtain ⟨hl, hm⟩ := h
  have hj : j < ops.size := by
    rcases Nat.lt_or_ge j ops.size with h' | h'
    · exact h'
    · simp [anc_, List.getD, List.getElem?_eq_none (hl ▸ h')] at hji
  refine ⟨hj, ?_⟩
  rcases Nat.lt_or_ge i ops.size with h' | h'
  · exact h'
  · have hlt : masks.getD j 0 < 2 ^ ops.size := hm _ (by rw [List.getD_eq_getElem?_getD, List.getElem?_eq_getElem (hl ▸ hj)]; simp)
    have hle : masks.getD j 0 < 2 ^ i := Nat.lt_of_lt_of_le hlt (Nat.pow_le_pow_right (by decide) h')
    rw [anc_, Nat.testBit_lt_two_pow hle] at hji
    cases hji
theorem ancOk_spec {masks : List Nat} (h : (ancOk ops masks && masksIn ops masks) = true) : AncOk ops (anc_ masks) := by
  rw [Bool.and_eq_true] at h
  obtain ⟨h, hm⟩ := h
  simp only [ancOk, List.all_eq_true, List.mem_range] at h
  intro j i hji
  obtain ⟨hj, hi⟩ := masks_lt hm hji
  have h1 := h j hj i hi
  simp only [hji, Bool.not_true, Bool.false_or] at h1
  cases ho : ops[j]? with
  | none => simp [ho] at h1
  | some o =>
    simp only [ho] at h1
    obtain ⟨k, hk, he⟩ := Array.any_eq_true.1 h1
    simp only [Bool.and_eq_true, Bool.or_eq_true, beq_iff_eq] at he
    exact ⟨o, rfl, o.after[k], by simp, he.1, he.2⟩

def Closed (anc : Nat → Nat → Bool) (listed : Array Bool) : Prop := ∀ j k, listed.getD j false = true → anc j k = true → listed.getD k false = true
def closedB (masks : List Nat) (listed : Array Bool) : Bool := (List.range listed.size).all fun j => !listed.getD j false || (List.range masks.length).all fun k => !anc_ masks j k || listed.getD k false

theorem ready_anc (hA : AncOk ops anc) {listed : Array Bool} (hc : Closed anc listed) {j k : Nat} (hj : j ∈ Region.ready .any ops listed) (h : anc j k = true) : listed.getD k false = true := by
  obtain ⟨o, ho, e, he, hb, h'⟩ := hA j k h
  obtain ⟨_, o', ho', hall⟩ := mem_ready.1 hj
  rw [ho] at ho'
  obtain rfl := Option.some.inj ho'
  have h1 := hall e he hb
  rcases h' with rfl | h'
  · exact h1
  · exact hc _ _ h1 h'
theorem closed_set (hA : AncOk ops anc) {listed : Array Bool} (hc : Closed anc listed) {i : Nat} (hi : i ∈ Region.ready .any ops listed) : Closed anc (listed.setIfInBounds i true) := by
  intro j k hj hjk
  by_cases hji : i = j
  · subst hji
    exact getD_set_true (ready_anc hA hc hi hjk)
  · rw [getD_set_ne false hji] at hj
    exact getD_set_true (hc j k hj hjk)

theorem F_first (hA : AncOk ops anc) {i : Nat} {oi : Oper} {v : Value} (hi : ops[i]? = some oi) (hsel : ∀ (j : Nat) (o : Oper) cs b, ops[j]? = some o → o.op ≠ .select cs b)
    (hQ : ∀ c a w, Q (.panic c) (a.put oi.dst v) w → Q (.panic c) a w) :
    ∀ (fuel : Nat) (listed : Array Bool) (a : Act) (w : World), Closed anc listed →
      (∀ j oj, ops[j]? = some oj → j ≠ i → listed.getD j true = false → (∀ e ∈ oj.after, Region.binds .any e = true → e.on ≠ i) → oi.apart ops oj = true) →
      i ∈ Region.ready .any ops listed → YieldsIf P ops (F i) oi v a → F i w →
      wpF P ops Q anc F fuel (listed.setIfInBounds i true) (a.put oi.dst v) w → wpF P ops Q anc F (fuel + 1) listed a w := by
  intro fuel
  induction fuel with
  | zero =>
    intro listed a w _ _ hr hy hS H
    refine ⟨fun h => (by rw [h] at hr; cases hr), fun j hj => ?_⟩
    by_cases hji : j = i
    · subst hji; exact hy.wpOp hi hS ⟨fun _ _ h => h, H⟩
    · have := ready_mono hj hji
      rw [H.1] at this
      cases this
  | succ fuel ih =>
    intro listed a w hcl hfree hr hy hS H
    refine ⟨fun h => (by rw [h] at hr; cases hr), fun j hj => ?_⟩
    by_cases hji : j = i
    · subst hji; exact hy.wpOp hi hS ⟨fun _ _ h => h, H⟩
    · have h1 := H.2 j (ready_mono hj hji)
      obtain ⟨hjun, oj, hoj, hall⟩ := mem_ready.1 hj
      have hun : listed.getD i true = false := (mem_ready.1 hr).1
      have hunF : ¬ listed.getD i false = true := fun hh => by
        rcases Nat.lt_or_ge i listed.size with h' | h'
        · simp [h'] at hh hun; rw [hun] at hh; cases hh
        · simp [Array.getElem?_eq_none h'] at hh
      have hnot : ∀ e ∈ oj.after, Region.binds .any e = true → e.on ≠ i := fun e he hb heq => by
        have h1 := hall e he hb
        rw [heq] at h1
        exact hunF h1
      have hanc : anc j i = false := by
        cases hh : anc j i with
        | false => rfl
        | true => exact absurd (ready_anc hA hcl hj hh) hunF
      have h2 := wpOp_putIf hoj (hfree j oj hoj hji hjun hnot) (fun cs b => hsel i oi cs b hi) (fun cs b => hsel j oj cs b hoj) hQ hy h1
      have hfree' : ∀ k ok, ops[k]? = some ok → k ≠ i → (listed.setIfInBounds j true).getD k true = false →
          (∀ e ∈ ok.after, Region.binds .any e = true → e.on ≠ i) → oi.apart ops ok = true := fun k ok hk hki hun' hno => by
        refine hfree k ok hk hki ?_ hno
        by_cases hjk : j = k
        · subst hjk; exact hjun
        · rw [getD_set_ne true hjk] at hun'; exact hun'
      refine wpOp_mono (fun a' w' h3 => ⟨h3.2.1, ih (listed.setIfInBounds j true) a' w' (closed_set hA hcl hj) hfree' (ready_mono hr (Ne.symm hji)) h3.1 (h3.2.1 i hanc hS) ?_⟩) h2
      rw [Array.setIfInBounds_comm _ _ hji]
      exact h3.2.2

/-! ### the moves -/
/-- shut: an unfolding of a goal stops here -/
structure Wf (P : Program) (ops : Array Oper) (Q : Exit → Act → World → Prop) (anc : Nat → Nat → Bool) (F : Nat → World → Prop) (fuel : Nat) (l : Array Bool) (a : Act) (w : World) : Prop where
  out : wpF P ops Q anc F fuel l a w
variable {n : Nat} {e : Nat → Value} {w : World} {masks : List Nat}
theorem closedB_spec (hm : masksIn ops masks = true) {listed : Array Bool} (h : closedB masks listed = true) : Closed (anc_ masks) listed := by
  simp only [closedB, List.all_eq_true, List.mem_range, Bool.or_eq_true, Bool.not_eq_true'] at h
  intro j k hj hjk
  have hjs : j < listed.size := by
    rcases Nat.lt_or_ge j listed.size with h' | h'
    · exact h'
    · simp [Array.getElem?_eq_none h'] at hj
  have h1 := (h j hjs).resolve_left (by rw [hj]; simp)
  have hk : k < masks.length := by
    have := (masks_lt hm hjk).2
    simp only [masksIn, Bool.and_eq_true, beq_iff_eq] at hm
    omega
  exact (h1 k hk).resolve_left (by rw [hjk]; simp)

/-- what is asked of a region once -/
def regB (ops : Array Oper) (masks : List Nat) : Bool := ancOk ops masks && masksIn ops masks && Region.noSelect ops
/-- what is asked where number i is taken first -/
def takeB (ops : Array Oper) (masks : List Nat) (l l' : Array Bool) (i : Nat) : Bool :=
  (Region.ready .any ops l).contains i && Region.free .any ops l i && closedB masks l && l.setIfInBounds i true == l'

theorem f_start {id m : Nat} (l : Array Bool) (hm : P.follows .mixedOrders = true) (hn : ops.size = m) (hl : Array.replicate m false = l) (hR : regB ops masks = true)
    (h : ∀ w', Fr [] w w' → regB ops masks = true → Wf P ops Q (anc_ masks) F m l (act n e) w') : (Code.region id ops true).wp P Q (act n e) w := by
  subst hn; subst hl
  exact wp_region_any hm (wpAny_of_F _ _ _ _ (h w.drew (Fr.drew w) hR).out)
/-- a quiet operation is taken -/
theorem f_take {i d : Nat} {fuel : Nat} {l : Array Bool} {op : Op} {ty : TypeId} {pos : String} {af : Array Edge} {g : Option (Nat × Bool)} {v : Value} (l' : Array Bool) (hR : regB ops masks = true) (hi : ops[i]? = some ⟨some d, op, ty, pos, af, g⟩)
    (hc : takeB ops masks l l' i = true) (hQ : ∀ c a w, Q (.panic c) (a.put (some d) v) w → Q (.panic c) a w)
    (hw : Region.wanted ⟨some d, op, ty, pos, af, g⟩ (yielded ops (act n e).tmps) = true) (hF : F i w)
    (hr : ∀ w, F i w → (execOp (ev n e) ⟨some d, op, ty, pos, af, g⟩).run P w = .ok (.value v) w)
    (h : Wf P ops Q (anc_ masks) F fuel l' (act n (upd e d v)) w) : Wf P ops Q (anc_ masks) F (fuel + 1) l (act n e) w := by
  simp only [regB, takeB, Bool.and_eq_true, beq_iff_eq] at hR hc
  obtain ⟨⟨hA, hM⟩, hS⟩ := hR
  obtain ⟨⟨⟨h1, h2⟩, h3⟩, rfl⟩ := hc
  refine ⟨F_first (ancOk_spec (by simp [hA, hM])) hi (Region.noSelect_spec hS) hQ fuel l _ w (closedB_spec hM h3) (Region.free_spec hi h2) (by simpa using h1) (.inl ⟨hw, fun w' hw' => by rw [act_eval]; exact hr w' hw'⟩) hF ?_⟩
  rw [act_put]
  exact h.out
/-- an operation that is passed over is taken -/
theorem f_em {p : Prop} {fuel : Nat} {l : Array Bool} {a : Act} (h : p → Wf P ops Q anc F fuel l a w) (h' : ¬ p → Wf P ops Q anc F fuel l a w) : Wf P ops Q anc F fuel l a w := (Classical.em p).elim h h'
theorem f_bool {b : Bool} {fuel : Nat} {l : Array Bool} {a : Act} (h : b = true → Wf P ops Q anc F fuel l a w) (h' : b = false → Wf P ops Q anc F fuel l a w) : Wf P ops Q anc F fuel l a w := by cases b; exact h' rfl; exact h rfl
theorem f_skip {i d : Nat} {fuel : Nat} {l : Array Bool} {op : Op} {ty : TypeId} {pos : String} {af : Array Edge} {g : Option (Nat × Bool)} (l' : Array Bool) (hR : regB ops masks = true) (hi : ops[i]? = some ⟨some d, op, ty, pos, af, g⟩)
    (hc : takeB ops masks l l' i = true) (hQ : ∀ c a w, Q (.panic c) (a.put (some d) undef) w → Q (.panic c) a w)
    (hw : Region.wanted ⟨some d, op, ty, pos, af, g⟩ (yielded ops (act n e).tmps) = false) (hF : F i w)
    (h : Wf P ops Q (anc_ masks) F fuel l' (act n (upd e d undef)) w) : Wf P ops Q (anc_ masks) F (fuel + 1) l (act n e) w := by
  simp only [regB, takeB, Bool.and_eq_true, beq_iff_eq] at hR hc
  obtain ⟨⟨hA, hM⟩, hS⟩ := hR
  obtain ⟨⟨⟨h1, h2⟩, h3⟩, rfl⟩ := hc
  refine ⟨F_first (ancOk_spec (by simp [hA, hM])) hi (Region.noSelect_spec hS) hQ fuel l _ w (closedB_spec hM h3) (Region.free_spec hi h2) (by simpa using h1) (.inr ⟨hw, rfl⟩) hF ?_⟩
  rw [act_put]
  exact h.out
def oneB (ops : Array Oper) (l l' : Array Bool) (i : Nat) : Bool := Region.ready .any ops l == [i] && l.setIfInBounds i true == l'
/-- the one operation that may come up comes up -/
theorem f_one {i : Nat} {fuel : Nat} {l : Array Bool} {o : Oper} (l' : Array Bool) (hi : ops[i]? = some o) (hc : oneB ops l l' i = true)
    (hw : Region.wanted o (yielded ops (act n e).tmps) = true)
    (h : Does P Q n o e w (fun e' w' => (∀ k, anc i k = false → F k w → F k w') ∧ Wf P ops Q anc F fuel l' (act n e') w')) : Wf P ops Q anc F (fuel + 1) l (act n e) w := by
  simp only [oneB, Bool.and_eq_true, beq_iff_eq] at hc
  obtain ⟨hr, rfl⟩ := hc
  refine ⟨⟨fun h0 => (by rw [hr] at h0; cases h0), ?_⟩⟩
  rw [hr]
  intro j hj
  simp at hj
  subst hj
  unfold wpOp
  simp only [hi, hw, if_true]
  exact .inl (h.out _ (fun _ _ h => ⟨h.1, h.2.out⟩))
def manyB (ops : Array Oper) (l : Array Bool) (rs : List Nat) : Bool := Region.ready .any ops l == rs && !rs.isEmpty
def Each (P : Program) (ops : Array Oper) (Q : Exit → Act → World → Prop) (anc : Nat → Nat → Bool) (F : Nat → World → Prop) (fuel : Nat) (l : Array Bool) (a : Act) (w : World) (rs : List Nat) : Prop :=
  ∀ i ∈ rs, wpOp P ops Q i (fun a' w' => (∀ k, anc i k = false → F k w → F k w') ∧ Wf P ops Q anc F fuel (l.setIfInBounds i true) a' w') a w
theorem f_many {fuel : Nat} {l : Array Bool} {a : Act} (rs : List Nat) (hc : manyB ops l rs = true) (h : Each P ops Q anc F fuel l a w rs) : Wf P ops Q anc F (fuel + 1) l a w := by
  simp only [manyB, Bool.and_eq_true, beq_iff_eq, Bool.not_eq_true'] at hc
  obtain ⟨hr, hne⟩ := hc
  refine ⟨⟨fun h0 => ?_, by rw [hr]; exact fun i hi => wpOp_mono (fun _ _ h' => ⟨h'.1, h'.2.out⟩) (h i hi)⟩⟩
  rw [hr] at h0; subst h0; simp at hne
theorem each_nil {fuel : Nat} {l : Array Bool} {a : Act} : Each P ops Q anc F fuel l a w [] := fun _ h => by cases h
theorem each_cons {i : Nat} {rs : List Nat} {fuel : Nat} {l : Array Bool} {o : Oper} (l' : Array Bool) (hi : ops[i]? = some o) (hc : (l.setIfInBounds i true == l') = true)
    (hw : Region.wanted o (yielded ops (act n e).tmps) = true)
    (h : Does P Q n o e w (fun e' w' => (∀ k, anc i k = false → F k w → F k w') ∧ Wf P ops Q anc F fuel l' (act n e') w')) (h' : Each P ops Q anc F fuel l (act n e) w rs) : Each P ops Q anc F fuel l (act n e) w (i :: rs) := by
  simp only [beq_iff_eq] at hc
  subst hc
  intro j hj
  rcases List.mem_cons.1 hj with rfl | hj
  · unfold wpOp
    simp only [hi, hw, if_true]
    exact .inl (h.out _ (fun _ _ h => h))
  · exact h' j hj
theorem f_done {l : Array Bool} {a : Act} {fuel : Nat} (hc : (Region.ready .any ops l == []) = true) (h : Q .normal a w) : Wf P ops Q anc F fuel l a w := by
  simp only [beq_iff_eq] at hc
  cases fuel with
  | zero => exact ⟨⟨hc, h⟩⟩
  | succ fuel => exact ⟨⟨fun _ => h, by rw [hc]; simp⟩⟩

/-! what the loads need: a list of numbers and facts -/
def Fs (l : List (Nat × (World → Prop))) : Nat → World → Prop := fun i w => ∀ p ∈ l, p.1 = i → p.2 w
theorem fs_none {l : List (Nat × (World → Prop))} {i : Nat} (h : (l.all fun p => p.1 != i) = true) : Fs l i w := by
  intro p hp he
  simp only [List.all_eq_true, bne_iff_ne, ne_eq] at h
  exact absurd he (h p hp)
theorem fs_one {i : Nat} {f : World → Prop} {l : List (Nat × (World → Prop))} (h : f w) (h' : (l.all fun p => p.1 != i) = true) : Fs ((i, f) :: l) i w := by
  intro p hp he
  rcases List.mem_cons.1 hp with rfl | hp
  · exact h
  · exact fs_none h' p hp he
theorem fs_next {i j : Nat} {f : World → Prop} {l : List (Nat × (World → Prop))} (hne : (j != i) = true) (h : Fs l i w) : Fs ((j, f) :: l) i w := by
  intro p hp he
  rcases List.mem_cons.1 hp with rfl | hp
  · simp at hne; exact absurd he hne
  · exact h p hp he
theorem fs_get {i : Nat} {f : World → Prop} {l : List (Nat × (World → Prop))} (hm : (i, f) ∈ l) {w : World} (h : Fs l i w) : f w := h _ hm rfl
/-- all loads stand ahead -/
theorem pres_all {l : List (Nat × (World → Prop))} {i : Nat} {w' : World} (h : (l.all fun p => anc i p.1) = true) : ∀ k, anc i k = false → Fs l k w → Fs l k w' := by
  intro k hk _ p hp he
  simp only [List.all_eq_true] at h
  have := h p hp
  rw [he, hk] at this
  cases this
theorem pres_of {l : List (Nat × (World → Prop))} {i : Nat} {w' : World} (h : ∀ p ∈ l, anc i p.1 = false → p.2 w → p.2 w') : ∀ k, anc i k = false → Fs l k w → Fs l k w' := by
  intro k hk hF p hp he
  subst he
  exact h p hp hk (hF p hp rfl)
theorem pcn_nil {A : Nat → Bool} {w' : World} : ∀ p ∈ ([] : List (Nat × (World → Prop))), A p.1 = false → p.2 w → p.2 w' := fun _ h => by cases h
theorem pcn_cons {A : Nat → Bool} {i : Nat} {f : World → Prop} {l : List (Nat × (World → Prop))} {w' : World} (h : A i = false → f w → f w') (h' : ∀ p ∈ l, A p.1 = false → p.2 w → p.2 w') : ∀ p ∈ (i, f) :: l, A p.1 = false → p.2 w → p.2 w' := by
  intro p hp
  rcases List.mem_cons.1 hp with rfl | hp
  · exact h
  · exact h' p hp
end
end Go.Sy
