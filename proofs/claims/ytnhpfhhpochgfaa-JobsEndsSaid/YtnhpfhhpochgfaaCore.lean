/- Small laws for walking translated Go code, one operation a step: the frame as a function of slots, the heap as facts on whole blocks. No condition. -/
import Derived.Calls
import Derived.Orders
import Derived.OrdersHeld
import Derived.Laws.Entries
import Derived.Laws.Cells
import Derived.Laws.Slices
import Derived.Laws.Append
import Derived.Laws.AppendOwn
import Derived.Laws.OwnMore
import Derived.Tactics
import Derived.Below
import Derived.KernelRfl
namespace Go.Sy
set_option linter.unusedVariables false
set_option linter.unusedSectionVars false

/-! ### the frame -/
def upd (e : Nat → Value) (d : Nat) (v : Value) : Nat → Value := fun i => bif Nat.beq i d then v else e i
def env0 (args : List Value) : Nat → Value := fun i => args.getD i undef
def act (n : Nat) (e : Nat → Value) : Act := ⟨Array.ofFn (fun i : Fin n => e i.val), []⟩
def ev (n : Nat) (e : Nat → Value) : Operand → Value
  | .tmp t => bif Nat.blt t n then e t else undef
  | .const v => v
  | .global g => .pointer (some ⟨g, 0, none⟩)
  | .func f => .func (.func f) #[] #[]

theorem act_eval (n : Nat) (e : Nat → Value) : (act n e).eval = ev n e := by
  funext x
  cases x with
  | tmp t =>
    simp only [Act.eval, act, ev]
    by_cases h : t < n
    · have hb : Nat.blt t n = true := by simpa [Nat.blt_eq] using h
      simp [hb, h]
    · have hb : Nat.blt t n = false := by
        cases hh : Nat.blt t n with
        | false => rfl
        | true => exact absurd (by simpa [Nat.blt_eq] using hh) h
      simp [hb, h]
  | _ => rfl

theorem act_put (n : Nat) (e : Nat → Value) (d : Nat) (v : Value) : (act n e).put (some d) v = act n (upd e d v) := by
  simp only [Act.put, act]
  congr 1
  apply Array.ext
  · simp
  · intro i h1 h2
    simp only [Array.size_setIfInBounds, Array.size_ofFn] at h1
    simp only [Array.getElem_ofFn, upd]
    rw [Array.getElem_setIfInBounds (by simpa using h1)]
    by_cases hd : d = i
    · subst hd; simp
    · have hb : Nat.beq i d = false := by
        cases hh : Nat.beq i d with
        | false => rfl
        | true => exact absurd (Nat.eq_of_beq_eq_true hh).symm hd
      simp [hd, hb, Array.getElem_ofFn]

theorem act_none (n : Nat) (e : Nat → Value) (v : Value) : (act n e).put none v = act n e := rfl

theorem act_start (n : Nat) (args : List Value) (h : args.length ≤ n) :
    ({ tmps := args.toArray ++ Array.replicate (n - args.length) undef, defers := [] } : Act) = act n (env0 args) := by
  simp only [act]
  congr 1
  apply Array.ext
  · simp; omega
  · intro i h1 h2
    simp only [Array.getElem_ofFn, env0]
    by_cases hi : i < args.length
    · rw [Array.getElem_append_left (by simpa using hi)]
      simp [List.getD, List.getElem?_eq_getElem hi]
    · rw [Array.getElem_append_right (by simpa using hi)]
      simp [List.getD, List.getElem?_eq_none (Nat.le_of_not_lt hi)]

/-! ### what a call comes to -/
def Ret (R : Value → World → Prop) : Ending → World → Prop := fun e w => ∃ v, e = .returned v ∧ R v w

section
variable {P : Program}

theorem enter {f : FuncId} {fn : Func} {c : Code} {n : Nat} {args : List Value} {w : World} {R : Ending → World → Prop}
    (hf : P.funcs[f]? = some fn) (hb : fn.body = some c) (hn : fn.ntmps = n) (hl : args.length ≤ n)
    (h : c.wp P (bodyPost P fn R) (act n (env0 args)) w) : Calls P f args.toArray w R := by
  refine calls_of_wp hf hb ?_
  rw [hn, List.size_toArray, act_start n args hl]
  exact h

variable {Q : Exit → Act → World → Prop} {n : Nat} {e : Nat → Value} {w : World} {a : Act}

/-! ### code -/
/-- the walk of a region's operations, shut: an unfolding of a goal stops here -/
structure Wl (P : Program) (ops : Array Oper) (Q : Exit → Act → World → Prop) (rest : List Oper) (a : Act) (w : World) : Prop where
  out : wpList P ops Q rest a w
theorem c_seq {x y : Code} (h : x.wp P (Exit.then (y.wp P Q) Q) a w) : (Code.seq x y).wp P Q a w := wp_seq h
theorem c_block {id : Nat} {c : Code} (h : c.wp P (Exit.inBlock id Q) a w) : (Code.block id c).wp P Q a w := wp_block h
theorem c_skip (h : Q .normal a w) : Code.skip.wp P Q a w := wp_skip h
theorem c_ret (h : Q .ret a w) : Code.ret.wp P Q a w := wp_ret h
theorem c_exit {id : Nat} (h : Q (.exit id) a w) : (Code.exit id).wp P Q a w := wp_exit h
theorem c_label {id : Nat} (h : Q .normal a w) : (Code.label id).wp P Q a w := wp_label h
theorem c_region {id : Nat} {l : List Oper} (h : Wl P l.toArray Q l (act n e) w) : (Code.region id l.toArray false).wp P Q (act n e) w := wp_region_lit h.out
theorem c_true {c : Operand} {x y : Code} (hc : ev n e c = .bool true) (h : x.wp P Q (act n e) w) : (Code.cond c x y).wp P Q (act n e) w :=
  wp_cond_true (by rw [act_eval]; exact hc) h
theorem c_false {c : Operand} {x y : Code} (hc : ev n e c = .bool false) (h : y.wp P Q (act n e) w) : (Code.cond c x y).wp P Q (act n e) w :=
  wp_cond_false (by rw [act_eval]; exact hc) h
theorem c_split {c : Operand} {x y : Code} {t : Bool} (hc : ev n e c = .bool t) (ht : t = true → x.wp P Q (act n e) w) (hf : t = false → y.wp P Q (act n e) w) :
    (Code.cond c x y).wp P Q (act n e) w :=
  wp_cond_split (by rw [act_eval]; exact hc) ht hf
theorem c_if {c : Operand} {x y : Code} {p : Prop} [Decidable p] (hc : ev n e c = .bool (decide p)) (ht : p → x.wp P Q (act n e) w) (hf : ¬ p → y.wp P Q (act n e) w) :
    (Code.cond c x y).wp P Q (act n e) w :=
  wp_cond_split (by rw [act_eval]; exact hc) (fun h => ht (of_decide_eq_true h)) (fun h => hf (of_decide_eq_false h))

theorem c_em {c : Code} {p : Prop} (h : p → c.wp P Q a w) (h' : ¬ p → c.wp P Q a w) : c.wp P Q a w := (Classical.em p).elim h h'
theorem c_bool {c : Code} {b : Bool} (h : b = true → c.wp P Q a w) (h' : b = false → c.wp P Q a w) : c.wp P Q a w := by cases b; exact h' rfl; exact h rfl
/-! what stands behind -/
theorem x_then {K : Act → World → Prop} (h : K a w) : Exit.then K Q .normal a w := h
theorem x_then_x {K : Act → World → Prop} {i : Nat} (h : Q (.exit i) a w) : Exit.then K Q (.exit i) a w := h
theorem x_then_r {K : Act → World → Prop} (h : Q .ret a w) : Exit.then K Q .ret a w := h
theorem x_blk {i : Nat} (h : Q .normal a w) : Exit.inBlock i Q .normal a w := h
theorem x_blk_r {i : Nat} (h : Q .ret a w) : Exit.inBlock i Q .ret a w := h
theorem x_blk_hit {i : Nat} (h : Q .normal a w) : Exit.inBlock i Q (.exit i) a w := by simpa [Exit.inBlock] using h
theorem x_blk_miss {i j : Nat} (hne : (Nat.beq j i) = false) (h : Q (.exit j) a w) : Exit.inBlock i Q (.exit j) a w := by
  have : ¬ j = i := fun e => by subst e; simp at hne
  simpa [Exit.inBlock, this] using h

/-- A loop: J m e w holds at each round's head; m bounds the rounds that are left. -/
theorem c_loop {c : Code} (J : Nat → (Nat → Value) → World → Prop) (m : Nat) (h0 : J m e w)
    (round : ∀ m e w, J m e w → c.wp P (Exit.then (fun a' w' => ∃ m' e', m' < m ∧ a' = act n e' ∧ J m' e' w') Q) (act n e) w) :
    (Code.loop c).wp P Q (act n e) w := by
  intro b k cs
  have key : ∀ m e w, J m e w → ∃ x a' w', Q x a' w' ∧ Arrives P (lone (b.at (act n e) (.code c :: .inLoop c :: k)) cs w) b k cs x a' w' := by
    intro m
    induction m using Nat.strongRecOn with
    | _ m ih =>
      intro e w hJ
      obtain ⟨x, a₁, w₁, hq, harr⟩ := round m e w hJ b (.inLoop c :: k) cs
      cases x with
      | normal =>
        obtain ⟨m', e', hlt, rfl, hJ'⟩ := hq
        obtain ⟨x₂, a₂, w₂, hq₂, harr₂⟩ := ih m' hlt e' w₁ hJ'
        exact ⟨x₂, a₂, w₂, hq₂, .of_steps (Steps.trans harr (.one step_inLoop)) harr₂⟩
      | exit id => exact ⟨_, a₁, w₁, hq, .pass (x := .inLoop c) rfl (fun _ _ => .inl (by simp)) harr⟩
      | goto l => exact ⟨_, a₁, w₁, hq, .pass (x := .inLoop c) rfl (fun _ _ => .inl (by simp)) harr⟩
      | ret => exact ⟨_, a₁, w₁, hq, .pass (x := .inLoop c) rfl (fun _ _ => .inl (by simp)) harr⟩
      | panic ch => exact ⟨_, a₁, w₁, hq, .pass (x := .inLoop c) rfl (fun _ _ => .inl (by simp)) harr⟩
      | outgrown => exact ⟨_, a₁, w₁, hq, .pass (x := .inLoop c) rfl (fun _ _ => .inl (by simp)) harr⟩
  obtain ⟨x, a', w', hq, harr⟩ := key _ e w h0
  exact ⟨x, a', w', hq, .of_steps (.one step_loop) harr⟩

/-! ### operations -/
variable {ops : Array Oper} {rest : List Oper}

theorem l_nil (h : Q .normal (act n e) w) : Wl P ops Q [] (act n e) w := ⟨h⟩

/-- the guard of an operation, read off the frame -/
theorem yielded_act {j : Nat} {t : Nat} {b : Bool} (hj : (ops[j]?).bind (·.dst) = some t) (hv : ev n e (.tmp t) = .bool b) : yielded ops (act n e).tmps j = some b := by
  have h1 : (act n e).eval (.tmp t) = .bool b := by rw [act_eval]; exact hv
  simp only [Act.eval] at h1
  unfold yielded
  rw [hj]
  simp only [Option.bind_some]
  cases hx : (act n e).tmps[t]? with
  | none =>
    rw [Array.getD_eq_getD_getElem?, hx] at h1
    simp [undef] at h1
  | some v =>
    rw [Array.getD_eq_getD_getElem?, hx] at h1
    simp only [Option.getD_some] at h1
    subst h1
    rfl

theorem wanted_run {o : Oper} {j t : Nat} {b : Bool} (hg : o.guard = some (j, b)) (hj : (ops[j]?).bind (·.dst) = some t) (hv : ev n e (.tmp t) = .bool b) :
    Region.wanted o (yielded ops (act n e).tmps) = true := by
  simp [Region.wanted, hg, yielded_act hj hv]
theorem wanted_not {o : Oper} {j t : Nat} {b c : Bool} (hg : o.guard = some (j, b)) (hj : (ops[j]?).bind (·.dst) = some t) (hv : ev n e (.tmp t) = .bool c) (hne : c ≠ b) :
    Region.wanted o (yielded ops (act n e).tmps) = false := by
  simp [Region.wanted, hg, yielded_act hj hv, hne]
/-- a guard on an operation that was itself passed over -/
theorem wanted_undef {o : Oper} {j t : Nat} {b : Bool} (hg : o.guard = some (j, b)) (hj : (ops[j]?).bind (·.dst) = some t) (hv : ev n e (.tmp t) = undef) :
    Region.wanted o (yielded ops (act n e).tmps) = false := by
  have h1 : (act n e).eval (.tmp t) = undef := by rw [act_eval]; exact hv
  simp only [Act.eval] at h1
  have hy : yielded ops (act n e).tmps j = none := by
    unfold yielded
    rw [hj]
    simp only [Option.bind_some]
    cases hx : (act n e).tmps[t]? with
    | none => rfl
    | some v =>
      rw [Array.getD_eq_getD_getElem?, hx] at h1
      simp only [Option.getD_some] at h1
      subst h1
      rfl
  simp [Region.wanted, hg, hy]

theorem l_em {p : Prop} (h : p → Wl P ops Q rest a w) (h' : ¬ p → Wl P ops Q rest a w) : Wl P ops Q rest a w := (Classical.em p).elim h h'
theorem l_bool {b : Bool} (h : b = true → Wl P ops Q rest a w) (h' : b = false → Wl P ops Q rest a w) : Wl P ops Q rest a w := by cases b; exact h' rfl; exact h rfl
/-- A quiet operation: it yields v. -/
theorem l_v {d : Nat} {op : Op} {ty : TypeId} {pos : String} {af : Array Edge} {v : Value}
    (hr : (execOp (ev n e) ⟨some d, op, ty, pos, af, none⟩).run P w = .ok (.value v) w) (k : Wl P ops Q rest (act n (upd e d v)) w) :
    Wl P ops Q (⟨some d, op, ty, pos, af, none⟩ :: rest) (act n e) w := by
  refine ⟨?_⟩
  unfold wpList
  rw [if_pos (by simp [Region.wanted])]
  left
  simp only [Oper.wp, act_eval, hr, Oper.upon, act_put]
  exact k.out
theorem l_gv {d : Nat} {op : Op} {ty : TypeId} {pos : String} {af : Array Edge} {g : Option (Nat × Bool)} {v : Value}
    (hw : Region.wanted ⟨some d, op, ty, pos, af, g⟩ (yielded ops (act n e).tmps) = true)
    (hr : (execOp (ev n e) ⟨some d, op, ty, pos, af, g⟩).run P w = .ok (.value v) w) (k : Wl P ops Q rest (act n (upd e d v)) w) :
    Wl P ops Q (⟨some d, op, ty, pos, af, g⟩ :: rest) (act n e) w := by
  refine ⟨?_⟩
  unfold wpList
  rw [if_pos hw]
  left
  simp only [Oper.wp, act_eval, hr, Oper.upon, act_put]
  exact k.out
theorem l_skip {d : Nat} {op : Op} {ty : TypeId} {pos : String} {af : Array Edge} {g : Option (Nat × Bool)}
    (hw : Region.wanted ⟨some d, op, ty, pos, af, g⟩ (yielded ops (act n e).tmps) = false) (k : Wl P ops Q rest (act n (upd e d undef)) w) :
    Wl P ops Q (⟨some d, op, ty, pos, af, g⟩ :: rest) (act n e) w := by
  refine ⟨?_⟩
  unfold wpList
  rw [if_neg (by simp [hw]), act_put]
  exact k.out
theorem l_skip0 {op : Op} {ty : TypeId} {pos : String} {af : Array Edge} {g : Option (Nat × Bool)}
    (hw : Region.wanted ⟨none, op, ty, pos, af, g⟩ (yielded ops (act n e).tmps) = false) (k : Wl P ops Q rest (act n e) w) :
    Wl P ops Q (⟨none, op, ty, pos, af, g⟩ :: rest) (act n e) w := by
  refine ⟨?_⟩
  unfold wpList
  rw [if_neg (by simp [hw])]
  exact k.out

/-- An operation that may change the world, by what it does to whatever stands behind it. -/
structure Does (P : Program) (Q : Exit → Act → World → Prop) (n : Nat) (o : Oper) (e : Nat → Value) (w : World) (K : (Nat → Value) → World → Prop) : Prop where
  out : ∀ K' : Act → World → Prop, (∀ e' w', K e' w' → K' (act n e') w') → o.wp P (act n e) w K' Q

theorem l_do {o : Oper} (hg : o.guard = none) (h : Does P Q n o e w (fun e' w' => Wl P ops Q rest (act n e') w')) : Wl P ops Q (o :: rest) (act n e) w := by
  refine ⟨?_⟩
  unfold wpList
  rw [if_pos (by simp [Region.wanted, hg])]
  left
  exact h.out _ (fun _ _ k => k.out)
theorem l_gdo {o : Oper} (hw : Region.wanted o (yielded ops (act n e).tmps) = true) (h : Does P Q n o e w (fun e' w' => Wl P ops Q rest (act n e') w')) : Wl P ops Q (o :: rest) (act n e) w := by
  refine ⟨?_⟩
  unfold wpList
  rw [if_pos hw]
  left
  exact h.out _ (fun _ _ k => k.out)

variable {K : (Nat → Value) → World → Prop}
theorem d_run {d : Nat} {op : Op} {ty : TypeId} {pos : String} {af : Array Edge} {g : Option (Nat × Bool)} {v : Value} {w' : World}
    (hr : (execOp (ev n e) ⟨some d, op, ty, pos, af, g⟩).run P w = .ok (.value v) w') (k : K (upd e d v) w') : Does P Q n ⟨some d, op, ty, pos, af, g⟩ e w K := by
  refine ⟨fun K' hK => ?_⟩
  simp only [Oper.wp, act_eval, hr, Oper.upon, act_put]
  exact hK _ _ k
theorem d_run0 {op : Op} {ty : TypeId} {pos : String} {af : Array Edge} {g : Option (Nat × Bool)} {v : Value} {w' : World}
    (hr : (execOp (ev n e) ⟨none, op, ty, pos, af, g⟩).run P w = .ok (.value v) w') (k : K e w') : Does P Q n ⟨none, op, ty, pos, af, g⟩ e w K := by
  refine ⟨fun K' hK => ?_⟩
  simp only [Oper.wp, act_eval, hr, Oper.upon, act_none]
  exact hK _ _ k
theorem d_skip0 {op : Op} {ty : TypeId} {pos : String} {af : Array Edge} {g : Option (Nat × Bool)} {w' : World}
    (hr : (execOp (ev n e) ⟨none, op, ty, pos, af, g⟩).run P w = .ok .skip w') (k : K e w') : Does P Q n ⟨none, op, ty, pos, af, g⟩ e w K := by
  refine ⟨fun K' hK => ?_⟩
  simp only [Oper.wp, act_eval, hr, Oper.upon, act_none]
  exact hK _ _ k

/-- a Go function with a body -/
def callOk (P : Program) (f : FuncId) : Bool := match P.funcs[f]? with
  | some fn => fn.name != "runtime.NumGoroutine" && fn.body.isSome
  | none => false
theorem run_callFunc_ok {f : FuncId} (h : callOk P f = true) (args : Array Value) (w : World) : (callFunc f args).run P w = .ok (.enter f args) w := by
  unfold callOk at h
  cases hf : P.funcs[f]? with
  | none => simp [hf] at h
  | some fn =>
    simp only [hf, Bool.and_eq_true, bne_iff_ne, ne_eq] at h
    have hb : ¬ fn.body = none := by cases hh : fn.body <;> simp_all
    simp [callFunc, hf, h.1, hb]

theorem ofValue_func {f : FuncId} {first cap : Array Value} {args : Array Value} (w : World) :
    (Deferred.ofValue (.func (.func f) first cap) args).run P w = .ok ⟨.fn (.func f) cap, first ++ args⟩ w := by
  simp [Deferred.ofValue]

/-! arguments, one by one -/
theorem an : ([] : List Operand).map (ev n e) = [] := rfl
theorem ac {x : Operand} {xl : List Operand} {v : Value} {vs : List Value} (h : ev n e x = v) (t : xl.map (ev n e) = vs) : (x :: xl).map (ev n e) = v :: vs := by rw [List.map_cons, h, t]
theorem pn : ([] : List (Nat × Operand)).map (fun p => (p.1, ev n e p.2)) = [] := rfl
theorem pc {i : Nat} {x : Operand} {xl : List (Nat × Operand)} {v : Value} {vs : List (Nat × Value)} (h : ev n e x = v) (t : xl.map (fun p => (p.1, ev n e p.2)) = vs) : ((i, x) :: xl).map (fun p => (p.1, ev n e p.2)) = (i, v) :: vs := by rw [List.map_cons, h, t]
/-- a bool that is known -/
theorem bt {x : Value} {b c : Bool} (h : x = .bool b) (hb : b = c) : x = .bool c := by rw [h, hb]
theorem bd {x : Value} {p : Prop} [Decidable p] (h : x = .bool (decide p)) (hp : p) : x = .bool true := by rw [h, decide_eq_true hp]
theorem bn {x : Value} {p : Prop} [Decidable p] (h : x = .bool (decide p)) (hp : ¬ p) : x = .bool false := by rw [h, decide_eq_false hp]

theorem run_call {f : FuncId} {fl cl : List Value} {x : Operand} {xl : List Operand} {ts : Array TypeId} {d : Option Nat} {ty : TypeId} {pos : String} {af : Array Edge} {g : Option (Nat × Bool)} {A : List Value}
    (hok : callOk P f = true) (hx : ev n e x = .func (.func f) fl.toArray cl.toArray) (hA : xl.map (ev n e) = A) :
    (execOp (ev n e) ⟨d, .call ⟨.value x, xl.toArray, ts⟩, ty, pos, af, g⟩).run P w = .ok (.enter f (fl ++ A ++ cl).toArray) w := by
  subst hA
  simp [execOp, resolve, hx, ofValue_func, invoke, run_callFunc_ok hok]

theorem d_call {f : FuncId} {fl cl : List Value} {x : Operand} {xl : List Operand} {ts : Array TypeId} {d : Nat} {ty : TypeId} {pos : String} {af : Array Edge} {g : Option (Nat × Bool)} {A B : List Value} {R : Value → World → Prop}
    (hok : callOk P f = true) (hx : ev n e x = .func (.func f) fl.toArray cl.toArray) (hA : xl.map (ev n e) = A) (hB : fl ++ A ++ cl = B)
    (hc : Calls P f B.toArray w (Ret R)) (k : ∀ v w', R v w' → K (upd e d v) w') : Does P Q n ⟨some d, .call ⟨.value x, xl.toArray, ts⟩, ty, pos, af, g⟩ e w K := by
  subst hB
  refine ⟨fun K' hK => ?_⟩
  simp only [Oper.wp, act_eval, run_call (w := w) (d := some d) (ty := ty) (pos := pos) (af := af) (g := g) (ts := ts) hok hx hA, Oper.upon]
  refine Calls.mono hc ?_
  rintro en w' ⟨v, rfl, hR⟩
  show K' ((act n e).put (some d) v) w'
  rw [act_put]
  exact hK _ _ (k v w' hR)
theorem d_call0 {f : FuncId} {fl cl : List Value} {x : Operand} {xl : List Operand} {ts : Array TypeId} {ty : TypeId} {pos : String} {af : Array Edge} {g : Option (Nat × Bool)} {A B : List Value} {R : Value → World → Prop}
    (hok : callOk P f = true) (hx : ev n e x = .func (.func f) fl.toArray cl.toArray) (hA : xl.map (ev n e) = A) (hB : fl ++ A ++ cl = B)
    (hc : Calls P f B.toArray w (Ret R)) (k : ∀ v w', R v w' → K e w') : Does P Q n ⟨none, .call ⟨.value x, xl.toArray, ts⟩, ty, pos, af, g⟩ e w K := by
  subst hB
  refine ⟨fun K' hK => ?_⟩
  simp only [Oper.wp, act_eval, run_call (w := w) (d := none) (ty := ty) (pos := pos) (af := af) (g := g) (ts := ts) hok hx hA, Oper.upon]
  refine Calls.mono hc ?_
  rintro en w' ⟨v, rfl, hR⟩
  exact hK _ _ (k v w' hR)
theorem d_quiet {o : Oper} {d : Nat} {v : Value} (hd : o.dst = some d) (hr : (execOp (ev n e) o).run P w = .ok (.value v) w) (k : K (upd e d v) w) : Does P Q n o e w K := by
  refine ⟨fun K' hK => ?_⟩
  simp only [Oper.wp, act_eval, hr, Oper.upon, hd, act_put]
  exact hK _ _ k

/-! ### the end -/
theorem res1 {fn : Func} {t : Nat} {v : Value} (hr : fn.results = #[.tmp t]) (hv : ev n e (.tmp t) = v) : (results fn (act n e).tmps).run P w = .ok v w := by
  have h1 : (act n e).eval (.tmp t) = v := by rw [act_eval]; exact hv
  simp only [Act.eval] at h1
  simp only [results, hr]
  simpa using h1
theorem res0 {fn : Func} (hr : fn.results = #[]) : (results fn (act n e).tmps).run P w = .ok (.tuple #[]) w := by simp [results, hr]
theorem res2 {fn : Func} {t u : Nat} {v v' : Value} (hr : fn.results = #[.tmp t, .tmp u]) (hv : ev n e (.tmp t) = v) (hv' : ev n e (.tmp u) = v') :
    (results fn (act n e).tmps).run P w = .ok (.tuple #[v, v']) w := by
  have h1 : (act n e).eval (.tmp t) = v := by rw [act_eval]; exact hv
  have h2 : (act n e).eval (.tmp u) = v' := by rw [act_eval]; exact hv'
  simp only [Act.eval] at h1 h2
  simp [results, hr] at h1 h2 ⊢
  exact ⟨h1, h2⟩
theorem p_ret {fn : Func} {R : Value → World → Prop} {v : Value} (hr : (results fn (act n e).tmps).run P w = .ok v w) (h : R v w) : bodyPost P fn (Ret R) .ret (act n e) w :=
  ⟨rfl, v, hr, v, rfl, h⟩
theorem p_end {fn : Func} {R : Value → World → Prop} {v : Value} (hr : (results fn (act n e).tmps).run P w = .ok v w) (h : R v w) : bodyPost P fn (Ret R) .normal (act n e) w :=
  ⟨rfl, v, hr, v, rfl, h⟩
end
end Go.Sy
