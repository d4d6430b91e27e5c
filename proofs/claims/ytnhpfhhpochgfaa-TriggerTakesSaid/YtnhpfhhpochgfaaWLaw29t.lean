/- The law TriggerTakes, walked. -/
import Derived.Test.YtnhpfhhpochgfaaWTrigL
import Derived.Test.YtnhpfhhpochgfaaWRef29L
import Derived.Test.YtnhpfhhpochgfaaPTakes
namespace Go.Sy
set_option linter.unusedVariables false
set_option linter.unusedSimpArgs false

set_option maxHeartbeats 400000 in
set_option maxRecDepth 100000 in
theorem takes_c {w : World} {a : Option Addr} {c : Nat} {l : List TStep} (h1 : Ro w a l.length c (tsts l)) (hsz : ∀ x ∈ l, x.id.size ≤ 140737488351232) :
    Calls Proofs.Try.prog 6 #[(.slice a l.length c)] w (Ret fun v w' => v = (.bool true) ∧ Fr [] w w') := by
  have lt_h1 := h1.lt
  have t0 : Fr [] w w := Fr.refl _ _
  refine enter Proofs.Try.func6 rfl Proofs.Try.ntmps6 (Nat.le_of_ble_eq_true rfl) ?_
  refine c_seq ?_
  refine c_region ?_
  refine l_v (v := (.bool false)) (r_assign rfl) ?_
  refine l_nil ?_
  refine (x_then ?_)
  refine c_seq ?_
  refine c_seq ?_
  refine c_region ?_
  refine l_v (v := (.slice a l.length c)) (r_move rfl) ?_
  refine l_v (v := (.int .i64 ((l.length : Nat) : Int))) (r_lenSl F.sl66 rfl) ?_
  refine l_v (v := (.bool (decide (60 < ((l.length : Nat) : Int))))) (r_gtr rfl rfl) ?_
  refine l_nil ?_
  refine (x_then ?_)
  refine c_if (p := 60 < ((l.length : Nat) : Int)) rfl (fun c1 => ?_) (fun c1 => ?_)
  ·
    refine c_seq ?_
    refine c_region ?_
    refine l_v (v := (.bool true)) (r_assign rfl) ?_
    refine l_nil ?_
    refine (x_then ?_)
    refine c_ret ?_
    refine (x_then_r ?_)
    refine p_ret (v := (.bool true)) (res1 rfl rfl) ?_
    exact ⟨(by simp), t0⟩
  ·
    refine c_skip ?_
    refine (x_then ?_)
    refine c_seq ?_
    refine c_region ?_
    refine l_do rfl ?_
    refine d_call (fl := []) (cl := []) (A := []) (B := []) F.ok33 rfl an rfl (new_c  ) ?_
    rintro _ w2 ⟨b_4, rfl, f3, h5, p6⟩
    have z7 := f3.size
    have t8 := t0.trans0 f3
    have l9 := h5.lt
    refine l_v (v := (.pointer (some ⟨b_4, 0, none⟩))) (r_assign rfl) ?_
    refine l_nil ?_
    refine (x_then ?_)
    refine c_seq ?_
    refine c_region ?_
    refine l_v (v := (.agg #[(.slice none 0 0)])) (r_build pn rfl) ?_
    refine l_do rfl ?_
    refine d_box (v := (.agg #[(.slice none 0 0)])) (cs := #[(.slice none 0 0)]) rfl rfl ?_
    intro w10 b11 f12 a13 h14
    have z15 := f12.size
    have t16 := t8.trans0 f12
    have l17 := h14.lt
    refine l_v (v := (.pointer (some ⟨b11, 0, none⟩))) (r_assign rfl) ?_
    refine l_nil ?_
    refine (x_then ?_)
    refine c_seq ?_
    refine c_seq ?_
    refine c_region ?_
    refine l_v (v := (.int .i64 0)) (r_assign rfl) ?_
    refine l_nil ?_
    refine (x_then ?_)
    refine c_block ?_
    have k18 := h5.keep0 f12
    refine c_loop (fun (m : Nat) (e' : Nat → Value) (w' : World) => ∃ k : Nat, ∃ bX : Nat, ∃ bY : Nat, ∃ aX : Option Addr, ∃ cX : Nat, ∃ d : Option Addr, ∃ e : Nat, ∃ xs : List Ev, m = l.length - k ∧ e' 0 = (.slice a l.length c) ∧ e' 3 = (.pointer (some ⟨bX, 0, none⟩)) ∧ e' 4 = (.pointer (some ⟨bY, 0, none⟩)) ∧ e' 5 = (.int .i64 ((k : Nat) : Int)) ∧ e' 18 = (.slice a l.length c) ∧ e' 19 = (.int .i64 ((l.length : Nat) : Int)) ∧ e' 20 = (.bool (decide (60 < ((l.length : Nat) : Int)))) ∧ e' 21 = (.pointer (some ⟨b_4, 0, none⟩)) ∧ e' 22 = (.agg #[(.slice none 0 0)]) ∧ e' 23 = (.pointer (some ⟨b11, 0, none⟩)) ∧ Fr [] w w' ∧ At w' bX (.cells #[(.slice aX xs.length cX)] 133 (0, 0)) ∧ Own w' 74 2 aX xs.length cX (evs xs) ∧ At w' bY (.cells #[(.slice d xs.length e)] 36 (0, 0)) ∧ Ro w' d xs.length e (evs xs) ∧ (k ≤ l.length) ∧ (Fair xs) ∧ (w.heap.size ≤ bX) ∧ (∀ x ∈ ob aX, w.heap.size ≤ x) ∧ (w.heap.size ≤ bY) ∧ (∀ x ∈ ob d, w.heap.size ≤ x) ∧ (bX ∉ ob aX) ∧ (bY ∉ ob d) ∧ (bX ≠ bY) ∧ (bX ∉ ob d) ∧ (bY ∉ ob aX) ∧ (∀ x ∈ ob aX, x ∉ ob d)) (l.length - 0) ⟨0, b_4, b11, none, 0, none, 0, [], rfl, rfl, rfl, rfl, rfl, rfl, rfl, rfl, rfl, rfl, rfl, t16, (by simpa using k18), Own.nil _ _ _, (by simpa using h14), Ro.nil _, (by omega), fair_nil, (by omega), (fun x hx => by cases hx), (by omega), (fun x hx => by cases hx), (by simp [ob]), (by simp [ob]), (by omega), (by simp [ob]), (by simp [ob]), (fun x hx => by cases hx)⟩ ?_
    rintro m_f21 e19 w20 ⟨k, bX, bY, aX, cX, d, e, xs, hm_f21, s22, s23, s24, s25, s26, s27, s28, s29, s30, s31, f21, h32, h33, h34, h35, p36, hf, p37, p38, p39, p40, p41, p42, p43, p44, p45, p46⟩
    have z47 := f21.size
    have t48 := t0.trans0 f21
    have lt_h32 := h32.lt
    have lt_h34 := h34.lt
    have l49 := h32.lt
    have l50 := h33.lt
    have l51 := h34.lt
    have l52 := h35.lt
    have n53 := ob_ne' h33.tag h32 rfl
    have n54 := ne_tag h34 h32 rfl
    have n55 := ob_ne' h33.tag h34 rfl
    have t_f21 : Fr [] w w20 := f21
    refine c_seq ?_
    refine c_seq ?_
    refine c_region ?_
    refine l_v (v := (.int .i64 ((k : Nat) : Int))) (r_move s25) ?_
    refine l_v (v := (.slice a l.length c)) (r_move s22) ?_
    refine l_v (v := (.int .i64 ((l.length : Nat) : Int))) (r_lenSl F.sl66 rfl) ?_
    refine l_v (v := (.bool (decide (((k : Nat) : Int) < ((l.length : Nat) : Int))))) (r_lss rfl rfl) ?_
    refine l_nil ?_
    refine (x_then ?_)
    refine c_if (p := ((k : Nat) : Int) < ((l.length : Nat) : Int)) rfl (fun c56 => ?_) (fun c56 => ?_)
    ·
      refine c_skip ?_
      refine (x_then ?_)
      refine c_seq ?_
      refine c_block ?_
      refine c_seq ?_
      refine c_region ?_
      refine l_v (v := (.slice a l.length c)) (r_move s22) ?_
      refine l_v (v := (.int .i64 ((k : Nat) : Int))) (r_move s25) ?_
      have k57 := h1.keep0 f21
      have ha58 : ∃ ad, a = some ad := k57.sl.some (by rw [tsts_len]; have := ((by omega) : k < (l).length); omega)
      obtain ⟨x, hx⟩ := get_some (l := l) (k := k) (by omega)
      refine l_v (v := (.pointer (some ((adr a).add (k * 3))))) (r_indexAddr F.sle66 rfl rfl ha58 (by omega) (by have := get_lt hx; omega) (by first | rfl | simp | omega)) ?_
      have s59 := k57.sl
      refine l_v (v := (.agg #[(.int .u8 x.kind), (.string x.id), (.int .i64 x.pipe)])) (r_loadES [(.int .u8 x.kind), (.string x.id), (.int .i64 x.pipe)] F.agg69 s59 rfl rfl (tsts_vs hx)) ?_
      refine l_do rfl ?_
      refine d_alloc (cs := #[(.int .u8 0), (.string ⟨#[]⟩), (.int .i64 0)]) F.zero69 rfl ?_
      intro w60 b61 f62 a63 h64
      have z65 := f62.size
      have t66 := f21.trans0 f62
      have t67 := t_f21.trans0 f62
      have l68 := h64.lt
      refine l_do rfl ?_
      refine d_storeA (l := [(.int .u8 x.kind), (.string x.id), (.int .i64 x.pipe)]) F.sz69 rfl rfl (by simp [Value.oneCell']) h64 rfl ?_
      intro w69 f70 h71
      have z72 := f70.size
      have t73 := t66.step f70 (one_new (by omega))
      have t74 := t67.step f70 (one_new (by omega))
      refine l_nil ?_
      refine (x_then ?_)
      refine c_cut (fun (e' : Nat → Value) (w' : World) => ∃ bS : Nat, ∃ bX : Nat, ∃ bY : Nat, ∃ aX : Option Addr, ∃ cX : Nat, ∃ d : Option Addr, ∃ e : Nat, ∃ ys : List Ev, e' 0 = (.slice a l.length c) ∧ e' 3 = (.pointer (some ⟨bX, 0, none⟩)) ∧ e' 4 = (.pointer (some ⟨bY, 0, none⟩)) ∧ e' 5 = (.int .i64 ((k : Nat) : Int)) ∧ e' 6 = (.pointer (some ⟨bS, 0, none⟩)) ∧ e' 18 = (.slice a l.length c) ∧ e' 19 = (.int .i64 ((l.length : Nat) : Int)) ∧ e' 20 = (.bool (decide (60 < ((l.length : Nat) : Int)))) ∧ e' 21 = (.pointer (some ⟨b_4, 0, none⟩)) ∧ e' 22 = (.agg #[(.slice none 0 0)]) ∧ e' 23 = (.pointer (some ⟨b11, 0, none⟩)) ∧ e' 24 = (.int .i64 ((k : Nat) : Int)) ∧ e' 25 = (.slice a l.length c) ∧ e' 26 = (.int .i64 ((l.length : Nat) : Int)) ∧ e' 27 = (.bool (decide (((k : Nat) : Int) < ((l.length : Nat) : Int)))) ∧ e' 30 = (.slice a l.length c) ∧ e' 31 = (.int .i64 ((k : Nat) : Int)) ∧ e' 32 = (.pointer (some ((adr a).add (k * 3)))) ∧ e' 33 = (.agg #[(.int .u8 x.kind), (.string x.id), (.int .i64 x.pipe)]) ∧ Fr [] w w' ∧ At w' bS (.cells #[(.int .u8 x.kind), (.string x.id), (.int .i64 x.pipe)] 69 (0, 0)) ∧ At w' bX (.cells #[(.slice aX ys.length cX)] 133 (0, 0)) ∧ Own w' 74 2 aX ys.length cX (evs ys) ∧ At w' bY (.cells #[(.slice d ys.length e)] 36 (0, 0)) ∧ Ro w' d ys.length e (evs ys) ∧ (Fair ys) ∧ (w.heap.size ≤ bS) ∧ (w.heap.size ≤ bX) ∧ (∀ x ∈ ob aX, w.heap.size ≤ x) ∧ (w.heap.size ≤ bY) ∧ (∀ x ∈ ob d, w.heap.size ≤ x) ∧ (bX ∉ ob aX) ∧ (bY ∉ ob d) ∧ (bX ≠ bY) ∧ (bX ∉ ob d) ∧ (bY ∉ ob aX) ∧ (∀ x ∈ ob aX, x ∉ ob d)) ?_ ?_
      ·
        refine c_seq ?_
        refine c_region ?_
        refine l_v (v := (.pointer (some ⟨b61, 0, none⟩))) (r_field_l F.fo69_0 rfl rfl) ?_
        refine l_v (v := (.int .u8 x.kind)) (r_load1 F.one5 rfl (At.cell h71 rfl)) ?_
        refine l_nil ?_
        refine (x_then ?_)
        refine c_block ?_
        refine c_seq ?_
        refine c_region ?_
        refine l_v (v := (.bool (decide (x.kind = 0)))) (r_eql rfl rfl) ?_
        refine l_v (v := (.bool (decide (x.kind = 0)))) (r_assign rfl) ?_
        refine l_nil ?_
        refine (x_then ?_)
        refine c_if (p := x.kind = 0) rfl (fun c76 => ?_) (fun c76 => ?_)
        ·
          refine c_seq ?_
          refine f_start (masks := [0, 0, 2, 0, 8, 31, 0, 0, 128, 0, 512, 2047, 4095]) (F := Fs [(2, fun w => At w b61 (.cells #[(.int .u8 x.kind), (.string x.id), (.int .i64 x.pipe)] 69 (0, 0))), (4, fun w => At w b61 (.cells #[(.int .u8 x.kind), (.string x.id), (.int .i64 x.pipe)] 69 (0, 0))), (8, fun w => At w b61 (.cells #[(.int .u8 x.kind), (.string x.id), (.int .i64 x.pipe)] 69 (0, 0))), (10, fun w => At w b61 (.cells #[(.int .u8 x.kind), (.string x.id), (.int .i64 x.pipe)] 69 (0, 0)))]) #[false, false, false, false, false, false, false, false, false, false, false, false, false] F.mixed rfl rfl (by kernel_rfl) ?_
          intro w77 f78 r79
          have z80 := f78.size
          have t81 := t73.trans0 f78
          have t82 := t74.trans0 f78
          refine f_take (i := 0) (v := (.pointer (some ⟨bX, 0, none⟩))) #[true, false, false, false, false, false, false, false, false, false, false, false, false] r79 rfl (by kernel_rfl) (fun _ _ _ h => h) rfl (fs_none rfl) (fun w hF => r_move s23) ?_
          refine f_take (i := 1) (v := (.pointer (some ⟨b61, 1, none⟩))) #[true, true, false, false, false, false, false, false, false, false, false, false, false] r79 rfl (by kernel_rfl) (fun _ _ _ h => h) rfl (fs_none rfl) (fun w hF => r_field_l F.fo69_1 rfl rfl) ?_
          have k83 := h71.keep0 f78
          refine f_take (i := 2) (v := (.string x.id)) #[true, true, true, false, false, false, false, false, false, false, false, false, false] r79 rfl (by kernel_rfl) (fun _ _ _ h => h) rfl (fs_one k83 rfl) (fun w hF => r_load1 F.one9 rfl (At.cell (fs_get List.mem_cons_self hF) rfl)) ?_
          refine f_take (i := 3) (v := (.pointer (some ⟨b61, 2, none⟩))) #[true, true, true, true, false, false, false, false, false, false, false, false, false] r79 rfl (by kernel_rfl) (fun _ _ _ h => h) rfl (fs_none rfl) (fun w hF => r_field_l F.fo69_2 rfl rfl) ?_
          refine f_take (i := 4) (v := (.int .i64 x.pipe)) #[true, true, true, true, true, false, false, false, false, false, false, false, false] r79 rfl (by kernel_rfl) (fun _ _ _ h => h) rfl (fs_next rfl (fs_one k83 rfl)) (fun w hF => r_load1 F.one3 rfl (At.cell (fs_get (List.mem_cons_of_mem _ List.mem_cons_self) hF) rfl)) ?_
          refine f_take (i := 6) (v := (.pointer (some ⟨bY, 0, none⟩))) #[true, true, true, true, true, false, true, false, false, false, false, false, false] r79 rfl (by kernel_rfl) (fun _ _ _ h => h) rfl (fs_none rfl) (fun w hF => r_move s24) ?_
          refine f_take (i := 7) (v := (.pointer (some ⟨b61, 1, none⟩))) #[true, true, true, true, true, false, true, true, false, false, false, false, false] r79 rfl (by kernel_rfl) (fun _ _ _ h => h) rfl (fs_none rfl) (fun w hF => r_field_l F.fo69_1 rfl rfl) ?_
          refine f_take (i := 8) (v := (.string x.id)) #[true, true, true, true, true, false, true, true, true, false, false, false, false] r79 rfl (by kernel_rfl) (fun _ _ _ h => h) rfl (fs_next rfl (fs_next rfl (fs_one k83 rfl))) (fun w hF => r_load1 F.one9 rfl (At.cell (fs_get (List.mem_cons_of_mem _ (List.mem_cons_of_mem _ List.mem_cons_self)) hF) rfl)) ?_
          refine f_take (i := 9) (v := (.pointer (some ⟨b61, 2, none⟩))) #[true, true, true, true, true, false, true, true, true, true, false, false, false] r79 rfl (by kernel_rfl) (fun _ _ _ h => h) rfl (fs_none rfl) (fun w hF => r_field_l F.fo69_2 rfl rfl) ?_
          refine f_take (i := 10) (v := (.int .i64 x.pipe)) #[true, true, true, true, true, false, true, true, true, true, true, false, false] r79 rfl (by kernel_rfl) (fun _ _ _ h => h) rfl (fs_next rfl (fs_next rfl (fs_next rfl (fs_one k83 rfl)))) (fun w hF => r_load1 F.one3 rfl (At.cell (fs_get (List.mem_cons_of_mem _ (List.mem_cons_of_mem _ (List.mem_cons_of_mem _ List.mem_cons_self))) hF) rfl)) ?_
          refine f_one (i := 5) #[true, true, true, true, true, true, true, true, true, true, true, false, false] rfl (by kernel_rfl) rfl ?_
          have k84 := h32.keep0 f62
          have k85 := k84.keep f70 (not_in1 (by omega))
          have k86 := k85.keep0 f78
          have k87 := h33.keep0 f62
          have k88 := k87.keep f70 (ob_not1 (not_ob_old l50 (by omega)))
          have k89 := k88.keep0 f78
          refine d_call (fl := []) (cl := []) (A := [(.pointer (some ⟨bX, 0, none⟩)), (.string x.id), (.int .i64 x.pipe)]) (B := [(.pointer (some ⟨bX, 0, none⟩)), (.string x.id), (.int .i64 x.pipe)]) F.ok34 rfl (ac rfl (ac rfl (ac rfl an))) rfl (take_c (b := bX) (id := x.id) (p := x.pipe) (a := aX) (xs := xs) (c := cX) k86 k89 hf.1.1 (by have := hsz x (mem_of_get hx); omega)) ?_
          rintro _ w90 ⟨a_92, c_93, rfl, f91, h94, h95, p96⟩
          have z97 := f91.size
          have t98 := t81.step f91 (app_new (one_new (by omega)) (ob_new p38 (by omega)))
          have t99 := t82.step f91 (app_new (one_new (by omega)) (ob_new p38 (by omega)))
          have l101 := h95.lt
          have g102 := ob_age p38 p96 (by omega)
          refine ⟨(pres_of (pcn_cons (fun h _ => absurd h (by decide)) (pcn_cons (fun h _ => absurd h (by decide)) (pcn_cons (fun _ h => h.keep f91 (not_app (not_in1 (by omega)) (not_ob_old l50 (by omega)))) (pcn_cons (fun _ h => h.keep f91 (not_app (not_in1 (by omega)) (not_ob_old l50 (by omega)))) pcn_nil))))), ?_⟩
          refine f_one (i := 11) #[true, true, true, true, true, true, true, true, true, true, true, true, false] rfl (by kernel_rfl) rfl ?_
          have k103 := h34.keep0 f62
          have k104 := k103.keep f70 (not_in1 (by omega))
          have k105 := k104.keep0 f78
          have k106 := k105.keep f91 (not_app (not_in1 n54) n55)
          have k107 := h35.keep0 f62
          have k108 := k107.keep f70 (ob_not1 (not_ob_old l52 (by omega)))
          have k109 := k108.keep0 f78
          have k110 := k109.keep f91 (ob_app (ob_not1 p44) (ob_swap p46))
          refine d_call (fl := []) (cl := []) (A := [(.pointer (some ⟨bY, 0, none⟩)), (.string x.id), (.int .i64 x.pipe)]) (B := [(.pointer (some ⟨bY, 0, none⟩)), (.string x.id), (.int .i64 x.pipe)]) F.ok35 rfl (ac rfl (ac rfl (ac rfl an))) rfl (rTake_c (b := bY) (id := x.id) (p := x.pipe) (a := d) (xs := xs) (c := e) k106 k110 hf.1.1 (by have := hsz x (mem_of_get hx); omega) p42) ?_
          rintro _ w111 ⟨a_113, c_114, rfl, f112, h115, h116, p117, p118⟩
          have z119 := f112.size
          have t120 := t98.step f112 (one_new (by omega))
          have t121 := t99.step f112 (one_new (by omega))
          have l122 := h116.lt
          have g123 := ob_age p40 p117 (by omega)
          refine ⟨(pres_all (by kernel_rfl)), ?_⟩
          refine f_take (i := 12) (v := (.bool (decide ((takeC xs x.id x.pipe) ≠ (takeC xs x.id x.pipe))))) #[true, true, true, true, true, true, true, true, true, true, true, true, true] r79 rfl (by kernel_rfl) (fun _ _ _ h => h) rfl (fs_none rfl) (fun w hF => r_neq rfl rfl) ?_
          refine f_done (by kernel_rfl) ?_
          refine (x_then ?_)
          refine c_false (bn rfl (fun h => h rfl)) ?_
          refine c_skip ?_
          refine (x_blk (x_then ?_))
          have k124 := k83.keep f91 (not_app (not_in1 (by omega)) (not_ob_old l50 (by omega)))
          have k125 := k124.keep f112 (not_in1 (by omega))
          have k126 := h94.keep f112 (not_in1 p43)
          have k127 := h95.keep f112 (ob_not1 (not_grow n55 p96 (by omega)))
          exact ⟨_, rfl, b61, bX, bY, a_92, c_93, a_113, c_114, (takeL xs x.id x.pipe), s22, s23, s24, s25, rfl, s26, s27, s28, s29, s30, s31, rfl, rfl, rfl, rfl, rfl, rfl, rfl, rfl, t120, k125, k126, k127, h115, h116, (fair_take hf), (by omega), (by omega), (ob_ge g102 (by omega)), (by omega), (ob_ge g123 (by omega)), (not_grow n53 p96 (by omega)), p118, p43, (not_grow p44 p117 (by omega)), (not_grow n55 p96 (by omega)), (ne_grow (grow_ne p46 p96 l52 (by omega)) p117 l101 (by omega))⟩
        ·
          refine c_seq ?_
          refine c_region ?_
          refine l_v (v := (.bool (decide (x.kind = 1)))) (r_eql rfl rfl) ?_
          refine l_v (v := (.bool (decide (x.kind = 1)))) (r_assign rfl) ?_
          refine l_nil ?_
          refine (x_then ?_)
          refine c_if (p := x.kind = 1) rfl (fun c128 => ?_) (fun c128 => ?_)
          ·
            refine c_seq ?_
            refine c_region ?_
            refine l_v (v := (.pointer (some ⟨bX, 0, none⟩))) (r_move s23) ?_
            refine l_do rfl ?_
            have k129 := h32.keep0 f62
            have k130 := k129.keep f70 (not_in1 (by omega))
            have k131 := h33.keep0 f62
            have k132 := k131.keep f70 (ob_not1 (not_ob_old l50 (by omega)))
            refine d_call (fl := []) (cl := []) (A := [(.pointer (some ⟨bX, 0, none⟩))]) (B := [(.pointer (some ⟨bX, 0, none⟩))]) F.ok36 rfl (ac rfl an) rfl (copy_c (b := bX) (a := aX) (xs := xs) (c := cX) k130 k132 hf.1.1) ?_
            rintro _ w133 ⟨b_135, a_136, c_137, rfl, f134, h138, h139, p140, p141⟩
            have z142 := f134.size
            have t143 := t73.trans0 f134
            have t144 := t74.trans0 f134
            have l145 := h138.lt
            have l147 := h139.lt
            refine l_v (v := (.pointer (some ⟨b_135, 0, none⟩))) (r_assign rfl) ?_
            refine l_nil ?_
            refine (x_then ?_)
            refine c_seq ?_
            refine c_region ?_
            refine l_v (v := (.pointer (some ⟨bX, 0, none⟩))) (r_move s23) ?_
            refine l_v (v := (.pointer (some ⟨b61, 1, none⟩))) (r_field_l F.fo69_1 rfl rfl) ?_
            have k148 := h71.keep0 f134
            refine l_v (v := (.string x.id)) (r_load1 F.one9 rfl (At.cell k148 rfl)) ?_
            refine l_v (v := (.string (zid x.id))) (r_addS rfl rfl (by have := hsz x (mem_of_get hx); have : (⟨#[122]⟩ : ByteArray).size = 1 := rfl; omega) rfl) ?_
            refine l_do rfl ?_
            have k149 := k130.keep0 f134
            have k150 := k132.keep0 f134
            refine d_call (fl := []) (cl := []) (A := [(.pointer (some ⟨bX, 0, none⟩)), (.string (zid x.id)), (.int .i64 1)]) (B := [(.pointer (some ⟨bX, 0, none⟩)), (.string (zid x.id)), (.int .i64 1)]) F.ok34 rfl (ac rfl (ac rfl (ac rfl an))) rfl (take_c (b := bX) (id := (zid x.id)) (p := 1) (a := aX) (xs := xs) (c := cX) k149 k150 hf.1.1 (by have := hsz x (mem_of_get hx); rw [zid_size]; omega)) ?_
            rintro _ w151 ⟨a_153, c_154, rfl, f152, h155, h156, p157⟩
            have z158 := f152.size
            have t159 := t143.step f152 (app_new (one_new (by omega)) (ob_new p38 (by omega)))
            have t160 := t144.step f152 (app_new (one_new (by omega)) (ob_new p38 (by omega)))
            have l162 := h156.lt
            have g163 := ob_age p38 p157 (by omega)
            refine l_nil ?_
            refine (x_then ?_)
            refine c_region ?_
            refine l_v (v := (.pointer (some ⟨b_135, 0, none⟩))) (r_move rfl) ?_
            refine l_v (v := (.pointer (some ⟨b_135, 0, none⟩))) (r_assign rfl) ?_
            refine l_nil ?_
            refine (x_blk (x_then ?_))
            have k164 := k148.keep f152 (not_app (not_in1 (by omega)) (not_ob_old l50 (by omega)))
            have k165 := h138.keep f152 (not_app (not_in1 (by omega)) (not_ob_old l50 (by omega)))
            have k166 := h139.keep f152 (ob_app (ob_not1 (not_ob_new p141 (by omega))) (ob_ob_old p141 l50 (by omega)))
            have k167 := h34.keep0 f62
            have k168 := k167.keep f70 (not_in1 (by omega))
            have k169 := k168.keep0 f134
            have k170 := k169.keep f152 (not_app (not_in1 n54) n55)
            have k171 := h35.keep0 f62
            have k172 := k171.keep f70 (ob_not1 (not_ob_old l52 (by omega)))
            have k173 := k172.keep0 f134
            have k174 := k173.keep f152 (ob_app (ob_not1 p44) (ob_swap p46))
            exact ⟨_, rfl, b61, b_135, bY, a_136, c_137, d, e, xs, s22, rfl, s24, s25, rfl, s26, s27, s28, s29, s30, s31, rfl, rfl, rfl, rfl, rfl, rfl, rfl, rfl, t159, k164, k165, k166, k170, k174, hf, (by omega), (by omega), (ob_ge p141 (by omega)), (by omega), (ob_ge p40 (by omega)), (ob_ne' k166.tag k165 rfl), p42, (by omega), (not_ob_old l52 (by omega)), (not_ob_new p141 (by omega)), (ob_ob_old p141 l52 (by omega))⟩
          ·
            refine c_seq ?_
            refine c_region ?_
            refine l_v (v := (.bool (decide (x.kind = 2)))) (r_eql rfl rfl) ?_
            refine l_v (v := (.bool (decide (x.kind = 2)))) (r_assign rfl) ?_
            refine l_nil ?_
            refine (x_then ?_)
            refine c_if (p := x.kind = 2) rfl (fun c175 => ?_) (fun c175 => ?_)
            ·
              refine c_seq ?_
              refine c_region ?_
              refine l_v (v := (.pointer (some ⟨bX, 0, none⟩))) (r_move s23) ?_
              refine l_do rfl ?_
              have k176 := h32.keep0 f62
              have k177 := k176.keep f70 (not_in1 (by omega))
              have k178 := h33.keep0 f62
              have k179 := k178.keep f70 (ob_not1 (not_ob_old l50 (by omega)))
              refine d_call (fl := []) (cl := []) (A := [(.pointer (some ⟨bX, 0, none⟩))]) (B := [(.pointer (some ⟨bX, 0, none⟩))]) F.ok21 rfl (ac rfl an) rfl (bytes_c (b := bX) (a := aX) (xs := xs) (c := cX) k177 k179 hf.1) ?_
              rintro _ w180 ⟨a_182, c_183, rfl, f181, h184, p185⟩
              have z186 := f181.size
              have t187 := t73.trans0 f181
              have t188 := t74.trans0 f181
              have l190 := h184.lt
              refine l_do rfl ?_
              have s191 := h184.sl
              refine d_call (fl := []) (cl := []) (A := [(.slice a_182 ((evBytes xs).length) c_183)]) (B := [(.slice a_182 ((evBytes xs).length) c_183)]) F.ok16 rfl (ac rfl an) rfl (load_some_c (a0 := a_182) (bs := evBytes xs) (c0 := c_183) (ys := xs) s191 (by have := evBytes_len hf.1; omega) (load_fair hf)) ?_
              rintro _ w192 ⟨b_194, a_195, c_196, rfl, f193, h197, h198, p199, p200, p201⟩
              have z202 := f193.size
              have t203 := t187.trans0 f193
              have t204 := t188.trans0 f193
              have l205 := h197.lt
              have l207 := h198.lt
              refine l_v (v := (.tuple #[(.pointer (some ⟨b_194, 0, none⟩)), (.int .i64 0)])) (r_move rfl) ?_
              refine l_v (v := (.pointer (some ⟨b_194, 0, none⟩))) (r_extract rfl rfl) ?_
              refine l_v (v := (.int .i64 0)) (r_extract rfl rfl) ?_
              refine l_v (v := (.pointer (some ⟨b_194, 0, none⟩))) (r_assign rfl) ?_
              refine l_v (v := (.int .i64 0)) (r_assign rfl) ?_
              refine l_nil ?_
              refine (x_then ?_)
              refine c_seq ?_
              refine c_seq ?_
              refine c_region ?_
              refine l_v (v := (.int .i64 0)) (r_move rfl) ?_
              refine l_v (v := (.bool false)) (r_neq_lit rfl rfl rfl) ?_
              refine l_nil ?_
              refine (x_then ?_)
              refine c_false rfl ?_
              refine c_skip ?_
              refine (x_then ?_)
              refine c_region ?_
              refine l_v (v := (.pointer (some ⟨b_194, 0, none⟩))) (r_move rfl) ?_
              refine l_v (v := (.pointer (some ⟨b_194, 0, none⟩))) (r_assign rfl) ?_
              refine l_nil ?_
              refine (x_blk (x_then ?_))
              have k208 := h71.keep0 f181
              have k209 := k208.keep0 f193
              have k210 := h34.keep0 f62
              have k211 := k210.keep f70 (not_in1 (by omega))
              have k212 := k211.keep0 f181
              have k213 := k212.keep0 f193
              have k214 := h35.keep0 f62
              have k215 := k214.keep f70 (ob_not1 (not_ob_old l52 (by omega)))
              have k216 := k215.keep0 f181
              have k217 := k216.keep0 f193
              exact ⟨_, rfl, b61, b_194, bY, a_195, c_196, d, e, xs, s22, rfl, s24, s25, rfl, s26, s27, s28, s29, s30, s31, rfl, rfl, rfl, rfl, rfl, rfl, rfl, rfl, t203, k209, h197, h198, k213, k217, hf, (by omega), (by omega), (ob_ge p200 (by omega)), (by omega), (ob_ge p40 (by omega)), (ob_ne' h198.tag h197 rfl), p42, (by omega), (not_ob_old l52 (by omega)), (not_ob_new p200 (by omega)), (ob_ob_old p200 l52 (by omega))⟩
            ·
              refine c_skip ?_
              refine (x_blk (x_then ?_))
              have k218 := h32.keep0 f62
              have k219 := k218.keep f70 (not_in1 (by omega))
              have k220 := h33.keep0 f62
              have k221 := k220.keep f70 (ob_not1 (not_ob_old l50 (by omega)))
              have k222 := h34.keep0 f62
              have k223 := k222.keep f70 (not_in1 (by omega))
              have k224 := h35.keep0 f62
              have k225 := k224.keep f70 (ob_not1 (not_ob_old l52 (by omega)))
              exact ⟨_, rfl, b61, bX, bY, aX, cX, d, e, xs, s22, s23, s24, s25, rfl, s26, s27, s28, s29, s30, s31, rfl, rfl, rfl, rfl, rfl, rfl, rfl, rfl, t73, h71, k219, k221, k223, k225, hf, (by omega), (by omega), (ob_ge p38 (by omega)), (by omega), (ob_ge p40 (by omega)), n53, p42, p43, p44, n55, p46⟩
      ·
        rintro e226 w227 ⟨bS, bX, bY, aX, cX, d, e, ys, s229, s230, s231, s232, s233, s234, s235, s236, s237, s238, s239, s240, s241, s242, s243, s244, s245, s246, s247, f228, h248, h249, h250, h251, h252, hf2, p253, p254, p255, p256, p257, p258, p259, p260, p261, p262, p263⟩
        have z264 := f228.size
        have t265 := t0.trans0 f228
        have t266 := t0.trans0 f228
        have lt_h248 := h248.lt
        have lt_h249 := h249.lt
        have lt_h251 := h251.lt
        have l267 := h248.lt
        have l268 := h249.lt
        have l269 := h250.lt
        have l270 := h251.lt
        have l271 := h252.lt
        have n272 := ne_tag h249 h248 rfl
        have n273 := ob_ne' h250.tag h248 rfl
        have n274 := ob_ne' h250.tag h249 rfl
        have n275 := ne_tag h251 h248 rfl
        have n276 := ne_tag h251 h249 rfl
        have n277 := ob_ne' h250.tag h251 rfl
        refine c_seq ?_
        refine c_region ?_
        refine l_v (v := (.pointer (some ⟨bX, 0, none⟩))) (r_move s230) ?_
        refine l_v (v := (.pointer (some ⟨bS, 1, none⟩))) (r_field_l F.fo69_1 s233 rfl) ?_
        refine l_v (v := (.string x.id)) (r_load1 F.one9 rfl (At.cell h248 rfl)) ?_
        refine l_do rfl ?_
        refine d_call (fl := []) (cl := []) (A := [(.pointer (some ⟨bX, 0, none⟩)), (.string x.id)]) (B := [(.pointer (some ⟨bX, 0, none⟩)), (.string x.id)]) F.ok37 rfl (ac rfl (ac rfl an)) rfl (seen_c (b := bX) (id := x.id) (a := aX) (xs := ys) (c := cX) h249 h250 hf2.1.1) ?_
        rintro _ w278 ⟨rfl, f279⟩
        have z280 := f279.size
        have t281 := f228.trans0 f279
        have t282 := t266.trans0 f279
        refine l_v (v := (.tuple #[(.int .i64 ((seenE ys x.id).elim 0 Ev.pipe)), (.bool ((seenE ys x.id).isSome))])) (r_move rfl) ?_
        refine l_v (v := (.int .i64 ((seenE ys x.id).elim 0 Ev.pipe))) (r_extract rfl rfl) ?_
        refine l_v (v := (.bool ((seenE ys x.id).isSome))) (r_extract rfl rfl) ?_
        refine l_v (v := (.int .i64 ((seenE ys x.id).elim 0 Ev.pipe))) (r_assign rfl) ?_
        refine l_v (v := (.bool ((seenE ys x.id).isSome))) (r_assign rfl) ?_
        refine l_nil ?_
        refine (x_then ?_)
        refine c_seq ?_
        refine c_region ?_
        refine l_v (v := (.pointer (some ⟨bY, 0, none⟩))) (r_move s231) ?_
        refine l_v (v := (.pointer (some ⟨bS, 1, none⟩))) (r_field_l F.fo69_1 s233 rfl) ?_
        have k283 := h248.keep0 f279
        refine l_v (v := (.string x.id)) (r_load1 F.one9 rfl (At.cell k283 rfl)) ?_
        refine l_do rfl ?_
        have k284 := h251.keep0 f279
        have k285 := h252.keep0 f279
        refine d_call (fl := []) (cl := []) (A := [(.pointer (some ⟨bY, 0, none⟩)), (.string x.id)]) (B := [(.pointer (some ⟨bY, 0, none⟩)), (.string x.id)]) F.ok38 rfl (ac rfl (ac rfl an)) rfl (rSeen_c (b := bY) (id := x.id) (a := d) (xs := ys) (c := e) k284 k285 hf2.1.1) ?_
        rintro _ w286 ⟨rfl, f287⟩
        have z288 := f287.size
        have t289 := t281.trans0 f287
        have t290 := t282.trans0 f287
        refine l_v (v := (.tuple #[(.int .i64 ((seenE ys x.id).elim 0 Ev.pipe)), (.bool ((seenE ys x.id).isSome))])) (r_move rfl) ?_
        refine l_v (v := (.int .i64 ((seenE ys x.id).elim 0 Ev.pipe))) (r_extract rfl rfl) ?_
        refine l_v (v := (.bool ((seenE ys x.id).isSome))) (r_extract rfl rfl) ?_
        refine l_v (v := (.int .i64 ((seenE ys x.id).elim 0 Ev.pipe))) (r_assign rfl) ?_
        refine l_v (v := (.bool ((seenE ys x.id).isSome))) (r_assign rfl) ?_
        refine l_nil ?_
        refine (x_then ?_)
        refine c_seq ?_
        refine c_region ?_
        refine l_v (v := (.pointer (some ⟨bX, 0, none⟩))) (r_move s230) ?_
        refine l_do rfl ?_
        have k291 := h249.keep0 f279
        have k292 := k291.keep0 f287
        have k293 := h250.keep0 f279
        have k294 := k293.keep0 f287
        refine d_call (fl := []) (cl := []) (A := [(.pointer (some ⟨bX, 0, none⟩))]) (B := [(.pointer (some ⟨bX, 0, none⟩))]) F.ok20 rfl (ac rfl an) rfl (list_c (b := bX) (a := aX) (xs := ys) (c := cX) k292 k294 hf2.1.1) ?_
        rintro _ w295 ⟨a_297, c_298, rfl, f296, h299, p300⟩
        have z301 := f296.size
        have t302 := t289.trans0 f296
        have t303 := t290.trans0 f296
        have l305 := h299.lt
        refine l_v (v := (.slice a_297 ys.length c_298)) (r_assign rfl) ?_
        refine l_nil ?_
        refine (x_then ?_)
        refine c_seq ?_
        refine c_region ?_
        refine l_v (v := (.pointer (some ⟨bX, 0, none⟩))) (r_move s230) ?_
        refine l_do rfl ?_
        have k306 := k292.keep0 f296
        have k307 := k294.keep0 f296
        refine d_call (fl := []) (cl := []) (A := [(.pointer (some ⟨bX, 0, none⟩))]) (B := [(.pointer (some ⟨bX, 0, none⟩))]) F.ok21 rfl (ac rfl an) rfl (bytes_c (b := bX) (a := aX) (xs := ys) (c := cX) k306 k307 hf2.1) ?_
        rintro _ w308 ⟨a_310, c_311, rfl, f309, h312, p313⟩
        have z314 := f309.size
        have t315 := t302.trans0 f309
        have t316 := t303.trans0 f309
        have l318 := h312.lt
        refine l_v (v := (.slice a_310 ((evBytes ys).length) c_311)) (r_assign rfl) ?_
        refine l_nil ?_
        refine (x_then ?_)
        refine c_seq ?_
        refine c_cut (fun (e' : Nat → Value) (w' : World) => e' 0 = (.slice a l.length c) ∧ e' 3 = (.pointer (some ⟨bX, 0, none⟩)) ∧ e' 4 = (.pointer (some ⟨bY, 0, none⟩)) ∧ e' 5 = (.int .i64 ((k : Nat) : Int)) ∧ e' 6 = (.pointer (some ⟨bS, 0, none⟩)) ∧ e' 10 = (.int .i64 ((seenE ys x.id).elim 0 Ev.pipe)) ∧ e' 11 = (.bool ((seenE ys x.id).isSome)) ∧ e' 12 = (.int .i64 ((seenE ys x.id).elim 0 Ev.pipe)) ∧ e' 13 = (.bool ((seenE ys x.id).isSome)) ∧ e' 14 = (.slice a_297 ys.length c_298) ∧ e' 15 = (.slice a_310 ((evBytes ys).length) c_311) ∧ e' 18 = (.slice a l.length c) ∧ e' 19 = (.int .i64 ((l.length : Nat) : Int)) ∧ e' 20 = (.bool (decide (60 < ((l.length : Nat) : Int)))) ∧ e' 21 = (.pointer (some ⟨b_4, 0, none⟩)) ∧ e' 22 = (.agg #[(.slice none 0 0)]) ∧ e' 23 = (.pointer (some ⟨b11, 0, none⟩)) ∧ e' 24 = (.int .i64 ((k : Nat) : Int)) ∧ e' 25 = (.slice a l.length c) ∧ e' 26 = (.int .i64 ((l.length : Nat) : Int)) ∧ e' 27 = (.bool (decide (((k : Nat) : Int) < ((l.length : Nat) : Int)))) ∧ e' 30 = (.slice a l.length c) ∧ e' 31 = (.int .i64 ((k : Nat) : Int)) ∧ e' 32 = (.pointer (some ((adr a).add (k * 3)))) ∧ e' 33 = (.agg #[(.int .u8 x.kind), (.string x.id), (.int .i64 x.pipe)]) ∧ e' 72 = (.tuple #[(.int .i64 ((seenE ys x.id).elim 0 Ev.pipe)), (.bool ((seenE ys x.id).isSome))]) ∧ e' 73 = (.pointer (some ⟨bX, 0, none⟩)) ∧ e' 74 = (.pointer (some ⟨bS, 1, none⟩)) ∧ e' 75 = (.string x.id) ∧ e' 76 = (.tuple #[(.int .i64 ((seenE ys x.id).elim 0 Ev.pipe)), (.bool ((seenE ys x.id).isSome))]) ∧ e' 77 = (.int .i64 ((seenE ys x.id).elim 0 Ev.pipe)) ∧ e' 78 = (.bool ((seenE ys x.id).isSome)) ∧ e' 79 = (.tuple #[(.int .i64 ((seenE ys x.id).elim 0 Ev.pipe)), (.bool ((seenE ys x.id).isSome))]) ∧ e' 80 = (.pointer (some ⟨bY, 0, none⟩)) ∧ e' 81 = (.pointer (some ⟨bS, 1, none⟩)) ∧ e' 82 = (.string x.id) ∧ e' 83 = (.tuple #[(.int .i64 ((seenE ys x.id).elim 0 Ev.pipe)), (.bool ((seenE ys x.id).isSome))]) ∧ e' 84 = (.int .i64 ((seenE ys x.id).elim 0 Ev.pipe)) ∧ e' 85 = (.bool ((seenE ys x.id).isSome)) ∧ e' 86 = (.pointer (some ⟨bX, 0, none⟩)) ∧ e' 87 = (.slice a_297 ys.length c_298) ∧ e' 88 = (.pointer (some ⟨bX, 0, none⟩)) ∧ e' 89 = (.slice a_310 ((evBytes ys).length) c_311) ∧ e' 115 = (.bool false) ∧ Fr [] w308 w') ?_ ?_
        ·
          have t320 : Fr [] w308 w308 := Fr.refl _ _
          refine f_start (masks := [0, 0, 3, 7, 15, 15, 63, 127, 255, 511, 1023, 511, 2559, 6655, 14847, 32767, 65535, 131071, 262143, 524287, 1048575, 524287, 2621439, 6815743, 16777215, 33554431]) (F := Fs [(14, fun w => At w bY (.cells #[(.slice d ys.length e)] 36 (0, 0)))]) #[false, false, false, false, false, false, false, false, false, false, false, false, false, false, false, false, false, false, false, false, false, false, false, false, false, false] F.mixed rfl rfl (by kernel_rfl) ?_
          intro w324 f325 r326
          have z327 := f325.size
          have t328 := t315.trans0 f325
          have t329 := t316.trans0 f325
          have t330 := t320.trans0 f325
          refine f_take (i := 0) (v := (.int .i64 ((seenE ys x.id).elim 0 Ev.pipe))) #[true, false, false, false, false, false, false, false, false, false, false, false, false, false, false, false, false, false, false, false, false, false, false, false, false, false] r326 rfl (by kernel_rfl) (fun _ _ _ h => h) rfl (fs_none rfl) (fun w hF => r_move rfl) ?_
          refine f_take (i := 1) (v := (.int .i64 ((seenE ys x.id).elim 0 Ev.pipe))) #[true, true, false, false, false, false, false, false, false, false, false, false, false, false, false, false, false, false, false, false, false, false, false, false, false, false] r326 rfl (by kernel_rfl) (fun _ _ _ h => h) rfl (fs_none rfl) (fun w hF => r_move rfl) ?_
          refine f_take (i := 2) (v := (.bool (decide ((seenE ys x.id).elim 0 Ev.pipe ≠ (seenE ys x.id).elim 0 Ev.pipe)))) #[true, true, true, false, false, false, false, false, false, false, false, false, false, false, false, false, false, false, false, false, false, false, false, false, false, false] r326 rfl (by kernel_rfl) (fun _ _ _ h => h) rfl (fs_none rfl) (fun w hF => r_neq rfl rfl) ?_
          refine f_take (i := 3) (v := (.bool (decide ((seenE ys x.id).elim 0 Ev.pipe ≠ (seenE ys x.id).elim 0 Ev.pipe)))) #[true, true, true, true, false, false, false, false, false, false, false, false, false, false, false, false, false, false, false, false, false, false, false, false, false, false] r326 rfl (by kernel_rfl) (fun _ _ _ h => h) rfl (fs_none rfl) (fun w hF => r_move rfl) ?_
          refine f_take (i := 4) (v := (.bool ((seenE ys x.id).isSome))) #[true, true, true, true, true, false, false, false, false, false, false, false, false, false, false, false, false, false, false, false, false, false, false, false, false, false] r326 rfl (by kernel_rfl) (fun _ _ _ h => h) (wanted_run rfl rfl (bn rfl (fun h => h rfl))) (fs_none rfl) (fun w hF => r_move rfl) ?_
          refine f_take (i := 5) (v := (.bool ((seenE ys x.id).isSome))) #[true, true, true, true, true, true, false, false, false, false, false, false, false, false, false, false, false, false, false, false, false, false, false, false, false, false] r326 rfl (by kernel_rfl) (fun _ _ _ h => h) (wanted_run rfl rfl (bn rfl (fun h => h rfl))) (fs_none rfl) (fun w hF => r_move rfl) ?_
          refine f_take (i := 6) (v := (.bool (!((seenE ys x.id).isSome == (seenE ys x.id).isSome)))) #[true, true, true, true, true, true, true, false, false, false, false, false, false, false, false, false, false, false, false, false, false, false, false, false, false, false] r326 rfl (by kernel_rfl) (fun _ _ _ h => h) (wanted_run rfl rfl (bn rfl (fun h => h rfl))) (fs_none rfl) (fun w hF => r_neqB Proofs.Try.underlying4 rfl rfl) ?_
          refine f_take (i := 7) (v := (.bool (!((seenE ys x.id).isSome == (seenE ys x.id).isSome)))) #[true, true, true, true, true, true, true, true, false, false, false, false, false, false, false, false, false, false, false, false, false, false, false, false, false, false] r326 rfl (by kernel_rfl) (fun _ _ _ h => h) rfl (fs_none rfl) (fun w hF => r_pick_f (bn rfl (fun h => h rfl)) rfl) ?_
          refine f_take (i := 8) (v := (.bool (!((seenE ys x.id).isSome == (seenE ys x.id).isSome)))) #[true, true, true, true, true, true, true, true, true, false, false, false, false, false, false, false, false, false, false, false, false, false, false, false, false, false] r326 rfl (by kernel_rfl) (fun _ _ _ h => h) rfl (fs_none rfl) (fun w hF => r_move rfl) ?_
          refine f_take (i := 9) (v := (.slice a_297 ys.length c_298)) #[true, true, true, true, true, true, true, true, true, true, false, false, false, false, false, false, false, false, false, false, false, false, false, false, false, false] r326 rfl (by kernel_rfl) (fun _ _ _ h => h) (wanted_run rfl rfl (bt rfl (by simp))) (fs_none rfl) (fun w hF => r_move rfl) ?_
          refine f_take (i := 11) (v := (.pointer (some ⟨bY, 0, none⟩))) #[true, true, true, true, true, true, true, true, true, true, false, true, false, false, false, false, false, false, false, false, false, false, false, false, false, false] r326 rfl (by kernel_rfl) (fun _ _ _ h => h) (wanted_run rfl rfl (bt rfl (by simp))) (fs_none rfl) (fun w hF => r_move s231) ?_
          refine f_take (i := 12) (v := (.pointer (some ⟨bY, 0, none⟩))) #[true, true, true, true, true, true, true, true, true, true, false, true, true, false, false, false, false, false, false, false, false, false, false, false, false, false] r326 rfl (by kernel_rfl) (fun _ _ _ h => h) (wanted_run rfl rfl (bt rfl (by simp))) (fs_none rfl) (fun w hF => r_nil_ptr rfl) ?_
          refine f_take (i := 13) (v := (.pointer (some ⟨bY, 0, none⟩))) #[true, true, true, true, true, true, true, true, true, true, false, true, true, true, false, false, false, false, false, false, false, false, false, false, false, false] r326 rfl (by kernel_rfl) (fun _ _ _ h => h) (wanted_run rfl rfl (bt rfl (by simp))) (fs_none rfl) (fun w hF => r_field_l F.fo36_0 rfl rfl) ?_
          have k331 := k284.keep0 f287
          have k332 := k331.keep0 f296
          have k333 := k332.keep0 f309
          have k334 := k333.keep0 f325
          refine f_take (i := 14) (v := (.slice d ys.length e)) #[true, true, true, true, true, true, true, true, true, true, false, true, true, true, true, false, false, false, false, false, false, false, false, false, false, false] r326 rfl (by kernel_rfl) (fun _ _ _ h => h) (wanted_run rfl rfl (bt rfl (by simp))) (fs_one k334 rfl) (fun w hF => r_load1 F.one31 rfl (At.cell (fs_get List.mem_cons_self hF) rfl)) ?_
          refine f_one (i := 10) #[true, true, true, true, true, true, true, true, true, true, true, true, true, true, true, false, false, false, false, false, false, false, false, false, false, false] rfl (by kernel_rfl) (wanted_run rfl rfl (bt rfl (by simp))) ?_
          have k335 := h299.keep0 f309
          have k336 := k335.keep0 f325
          have s337 := k336.sl
          refine d_call (fl := []) (cl := []) (A := [(.slice a_297 ys.length c_298)]) (B := [(.slice a_297 ys.length c_298)]) F.ok19 rfl (ac rfl an) rfl (events_c (a := a_297) (xs := ys) (c := c_298) s337 hf2.1.1) ?_
          rintro _ w338 ⟨a_340, c_341, rfl, f339, h342, p343⟩
          have z344 := f339.size
          have t345 := t328.trans0 f339
          have t346 := t329.trans0 f339
          have t347 := t330.trans0 f339
          have l348 := h342.lt
          refine ⟨(pres_of (pcn_cons (fun _ h => h.keep0 f339) pcn_nil)), ?_⟩
          refine f_one (i := 15) #[true, true, true, true, true, true, true, true, true, true, true, true, true, true, true, true, false, false, false, false, false, false, false, false, false, false] rfl (by kernel_rfl) (wanted_run rfl rfl (bt rfl (by simp))) ?_
          have s349 := h342.sl
          have k350 := k285.keep0 f287
          have k351 := k350.keep0 f296
          have k352 := k351.keep0 f309
          have k353 := k352.keep0 f325
          have k354 := k353.keep0 f339
          have s355 := k354.sl
          refine d_call (fl := []) (cl := []) (A := [(.slice a_340 ys.length c_341), (.slice d ys.length e)]) (B := [(.slice a_340 ys.length c_341), (.slice d ys.length e)]) F.ok18 rfl (ac rfl (ac rfl an)) rfl (rSame_c (a := a_340) (xs := ys) (c := c_341) (d := d) (ys := ys) (e := e) s349 s355 hf2.1.1) ?_
          rintro _ w356 ⟨rfl, f357⟩
          have z358 := f357.size
          have t359 := t345.trans0 f357
          have t360 := t346.trans0 f357
          have t361 := t347.trans0 f357
          refine ⟨(pres_all (by kernel_rfl)), ?_⟩
          refine f_take (i := 16) (v := (.bool (decide (¬ (ys = ys))))) #[true, true, true, true, true, true, true, true, true, true, true, true, true, true, true, true, true, false, false, false, false, false, false, false, false, false] r326 rfl (by kernel_rfl) (fun _ _ _ h => h) (wanted_run rfl rfl (bt rfl (by simp))) (fs_none rfl) (fun w hF => r_notP rfl) ?_
          refine f_take (i := 17) (v := (.bool (decide (¬ (ys = ys))))) #[true, true, true, true, true, true, true, true, true, true, true, true, true, true, true, true, true, true, false, false, false, false, false, false, false, false] r326 rfl (by kernel_rfl) (fun _ _ _ h => h) rfl (fs_none rfl) (fun w hF => r_pick_f (bt rfl (by simp)) rfl) ?_
          refine f_take (i := 18) (v := (.bool (decide (¬ (ys = ys))))) #[true, true, true, true, true, true, true, true, true, true, true, true, true, true, true, true, true, true, true, false, false, false, false, false, false, false] r326 rfl (by kernel_rfl) (fun _ _ _ h => h) rfl (fs_none rfl) (fun w hF => r_move rfl) ?_
          refine f_take (i := 19) (v := (.slice a_310 ((evBytes ys).length) c_311)) #[true, true, true, true, true, true, true, true, true, true, true, true, true, true, true, true, true, true, true, true, false, false, false, false, false, false] r326 rfl (by kernel_rfl) (fun _ _ _ h => h) (wanted_run rfl rfl (bn rfl (fun h => h rfl))) (fs_none rfl) (fun w hF => r_move rfl) ?_
          have k362 := h312.keep0 f325
          have k363 := k362.keep0 f339
          have k364 := k363.keep0 f357
          have s365 := k364.sl
          refine f_take (i := 21) (v := (.pointer (some ⟨bY, 0, none⟩))) #[true, true, true, true, true, true, true, true, true, true, true, true, true, true, true, true, true, true, true, true, false, true, false, false, false, false] r326 rfl (by kernel_rfl) (fun _ _ _ h => h) (wanted_run rfl rfl (bn rfl (fun h => h rfl))) (fs_none rfl) (fun w hF => r_move s231) ?_
          refine f_many [20, 22] (by kernel_rfl) ?_
          refine each_cons #[true, true, true, true, true, true, true, true, true, true, true, true, true, true, true, true, true, true, true, true, true, true, false, false, false, false] rfl rfl (wanted_run rfl rfl (bn rfl (fun h => h rfl))) ?_ ?_
          ·
            refine d_quiet (v := (.string (mkS (evBytes ys)))) rfl (r_bytes (bs := evBytes ys) Proofs.Try.underlying22 Proofs.Try.underlying5 Proofs.Try.underlying9 rfl s365 (by first | rfl | omega | (simp; done) | (simp; omega))) ?_
            refine ⟨(pres_all (by kernel_rfl)), ?_⟩
            refine f_one (i := 22) #[true, true, true, true, true, true, true, true, true, true, true, true, true, true, true, true, true, true, true, true, true, true, true, false, false, false] rfl (by kernel_rfl) (wanted_run rfl rfl (bn rfl (fun h => h rfl))) ?_
            have k366 := k334.keep0 f339
            have k367 := k366.keep0 f357
            have k368 := k354.keep0 f357
            refine d_call (fl := []) (cl := []) (A := [(.pointer (some ⟨bY, 0, none⟩))]) (B := [(.pointer (some ⟨bY, 0, none⟩))]) F.ok39 rfl (ac rfl an) rfl (rBytes_c (b := bY) (a := d) (xs := ys) (c := e) k367 k368 hf2.1) ?_
            rintro _ w369 ⟨a_371, c_372, rfl, f370, h373, p374⟩
            have z375 := f370.size
            have t376 := t359.trans0 f370
            have t377 := t360.trans0 f370
            have t378 := t361.trans0 f370
            have l379 := h373.lt
            refine ⟨(pres_all (by kernel_rfl)), ?_⟩
            have s380 := h373.sl
            refine f_one (i := 23) #[true, true, true, true, true, true, true, true, true, true, true, true, true, true, true, true, true, true, true, true, true, true, true, true, false, false] rfl (by kernel_rfl) (wanted_run rfl rfl (bn rfl (fun h => h rfl))) ?_
            refine d_quiet (v := (.string (mkS (evBytes ys)))) rfl (r_bytes (bs := evBytes ys) Proofs.Try.underlying22 Proofs.Try.underlying5 Proofs.Try.underlying9 rfl s380 (by first | rfl | omega | (simp; done) | (simp; omega))) ?_
            refine ⟨(pres_all (by kernel_rfl)), ?_⟩
            refine f_take (i := 24) (v := (.bool (!((mkS (evBytes ys)).toList == (mkS (evBytes ys)).toList)))) #[true, true, true, true, true, true, true, true, true, true, true, true, true, true, true, true, true, true, true, true, true, true, true, true, true, false] r326 rfl (by kernel_rfl) (fun _ _ _ h => h) (wanted_run rfl rfl (bn rfl (fun h => h rfl))) (fs_none rfl) (fun w hF => r_neqS rfl rfl) ?_
            refine f_take (i := 25) (v := (.bool (!((mkS (evBytes ys)).toList == (mkS (evBytes ys)).toList)))) #[true, true, true, true, true, true, true, true, true, true, true, true, true, true, true, true, true, true, true, true, true, true, true, true, true, true] r326 rfl (by kernel_rfl) (fun _ _ _ h => h) rfl (fs_none rfl) (fun w hF => r_pick_f (bn rfl (fun h => h rfl)) rfl) ?_
            refine f_done (by kernel_rfl) ?_
            refine (x_then ?_)
            exact ⟨_, rfl, s229, s230, s231, s232, s233, rfl, rfl, rfl, rfl, rfl, rfl, s234, s235, s236, s237, s238, s239, s240, s241, s242, s243, s244, s245, s246, s247, rfl, rfl, rfl, rfl, rfl, rfl, rfl, rfl, rfl, rfl, rfl, rfl, rfl, rfl, rfl, rfl, rfl, rfl, (Eq.trans (b := (.bool (!((mkS (evBytes ys)).toList == (mkS (evBytes ys)).toList)))) rfl (by first | rfl | (congr 1; first | rfl | omega | simp | (simp; omega)))), t378⟩
          refine each_cons #[true, true, true, true, true, true, true, true, true, true, true, true, true, true, true, true, true, true, true, true, false, true, true, false, false, false] rfl rfl (wanted_run rfl rfl (bn rfl (fun h => h rfl))) ?_ ?_
          ·
            have k381 := k334.keep0 f339
            have k382 := k381.keep0 f357
            have k383 := k354.keep0 f357
            refine d_call (fl := []) (cl := []) (A := [(.pointer (some ⟨bY, 0, none⟩))]) (B := [(.pointer (some ⟨bY, 0, none⟩))]) F.ok39 rfl (ac rfl an) rfl (rBytes_c (b := bY) (a := d) (xs := ys) (c := e) k382 k383 hf2.1) ?_
            rintro _ w384 ⟨a_386, c_387, rfl, f385, h388, p389⟩
            have z390 := f385.size
            have t391 := t359.trans0 f385
            have t392 := t360.trans0 f385
            have t393 := t361.trans0 f385
            have l394 := h388.lt
            refine ⟨(pres_all (by kernel_rfl)), ?_⟩
            have k395 := s365.keep0 f385
            have s396 := h388.sl
            refine f_many [20, 23] (by kernel_rfl) ?_
            refine each_cons #[true, true, true, true, true, true, true, true, true, true, true, true, true, true, true, true, true, true, true, true, true, true, true, false, false, false] rfl rfl (wanted_run rfl rfl (bn rfl (fun h => h rfl))) ?_ ?_
            ·
              refine d_quiet (v := (.string (mkS (evBytes ys)))) rfl (r_bytes (bs := evBytes ys) Proofs.Try.underlying22 Proofs.Try.underlying5 Proofs.Try.underlying9 rfl k395 (by first | rfl | omega | (simp; done) | (simp; omega))) ?_
              refine ⟨(pres_all (by kernel_rfl)), ?_⟩
              refine f_one (i := 23) #[true, true, true, true, true, true, true, true, true, true, true, true, true, true, true, true, true, true, true, true, true, true, true, true, false, false] rfl (by kernel_rfl) (wanted_run rfl rfl (bn rfl (fun h => h rfl))) ?_
              refine d_quiet (v := (.string (mkS (evBytes ys)))) rfl (r_bytes (bs := evBytes ys) Proofs.Try.underlying22 Proofs.Try.underlying5 Proofs.Try.underlying9 rfl s396 (by first | rfl | omega | (simp; done) | (simp; omega))) ?_
              refine ⟨(pres_all (by kernel_rfl)), ?_⟩
              refine f_take (i := 24) (v := (.bool (!((mkS (evBytes ys)).toList == (mkS (evBytes ys)).toList)))) #[true, true, true, true, true, true, true, true, true, true, true, true, true, true, true, true, true, true, true, true, true, true, true, true, true, false] r326 rfl (by kernel_rfl) (fun _ _ _ h => h) (wanted_run rfl rfl (bn rfl (fun h => h rfl))) (fs_none rfl) (fun w hF => r_neqS rfl rfl) ?_
              refine f_take (i := 25) (v := (.bool (!((mkS (evBytes ys)).toList == (mkS (evBytes ys)).toList)))) #[true, true, true, true, true, true, true, true, true, true, true, true, true, true, true, true, true, true, true, true, true, true, true, true, true, true] r326 rfl (by kernel_rfl) (fun _ _ _ h => h) rfl (fs_none rfl) (fun w hF => r_pick_f (bn rfl (fun h => h rfl)) rfl) ?_
              refine f_done (by kernel_rfl) ?_
              refine (x_then ?_)
              exact ⟨_, rfl, s229, s230, s231, s232, s233, rfl, rfl, rfl, rfl, rfl, rfl, s234, s235, s236, s237, s238, s239, s240, s241, s242, s243, s244, s245, s246, s247, rfl, rfl, rfl, rfl, rfl, rfl, rfl, rfl, rfl, rfl, rfl, rfl, rfl, rfl, rfl, rfl, rfl, rfl, (Eq.trans (b := (.bool (!((mkS (evBytes ys)).toList == (mkS (evBytes ys)).toList)))) rfl (by first | rfl | (congr 1; first | rfl | omega | simp | (simp; omega)))), t393⟩
            refine each_cons #[true, true, true, true, true, true, true, true, true, true, true, true, true, true, true, true, true, true, true, true, false, true, true, true, false, false] rfl rfl (wanted_run rfl rfl (bn rfl (fun h => h rfl))) ?_ ?_
            ·
              refine d_quiet (v := (.string (mkS (evBytes ys)))) rfl (r_bytes (bs := evBytes ys) Proofs.Try.underlying22 Proofs.Try.underlying5 Proofs.Try.underlying9 rfl s396 (by first | rfl | omega | (simp; done) | (simp; omega))) ?_
              refine ⟨(pres_all (by kernel_rfl)), ?_⟩
              refine f_one (i := 20) #[true, true, true, true, true, true, true, true, true, true, true, true, true, true, true, true, true, true, true, true, true, true, true, true, false, false] rfl (by kernel_rfl) (wanted_run rfl rfl (bn rfl (fun h => h rfl))) ?_
              refine d_quiet (v := (.string (mkS (evBytes ys)))) rfl (r_bytes (bs := evBytes ys) Proofs.Try.underlying22 Proofs.Try.underlying5 Proofs.Try.underlying9 rfl k395 (by first | rfl | omega | (simp; done) | (simp; omega))) ?_
              refine ⟨(pres_all (by kernel_rfl)), ?_⟩
              refine f_take (i := 24) (v := (.bool (!((mkS (evBytes ys)).toList == (mkS (evBytes ys)).toList)))) #[true, true, true, true, true, true, true, true, true, true, true, true, true, true, true, true, true, true, true, true, true, true, true, true, true, false] r326 rfl (by kernel_rfl) (fun _ _ _ h => h) (wanted_run rfl rfl (bn rfl (fun h => h rfl))) (fs_none rfl) (fun w hF => r_neqS rfl rfl) ?_
              refine f_take (i := 25) (v := (.bool (!((mkS (evBytes ys)).toList == (mkS (evBytes ys)).toList)))) #[true, true, true, true, true, true, true, true, true, true, true, true, true, true, true, true, true, true, true, true, true, true, true, true, true, true] r326 rfl (by kernel_rfl) (fun _ _ _ h => h) rfl (fs_none rfl) (fun w hF => r_pick_f (bn rfl (fun h => h rfl)) rfl) ?_
              refine f_done (by kernel_rfl) ?_
              refine (x_then ?_)
              exact ⟨_, rfl, s229, s230, s231, s232, s233, rfl, rfl, rfl, rfl, rfl, rfl, s234, s235, s236, s237, s238, s239, s240, s241, s242, s243, s244, s245, s246, s247, rfl, rfl, rfl, rfl, rfl, rfl, rfl, rfl, rfl, rfl, rfl, rfl, rfl, rfl, rfl, rfl, rfl, rfl, (Eq.trans (b := (.bool (!((mkS (evBytes ys)).toList == (mkS (evBytes ys)).toList)))) rfl (by first | rfl | (congr 1; first | rfl | omega | simp | (simp; omega)))), t393⟩
            exact each_nil
          exact each_nil
        ·
          rintro e397 w398 ⟨s400, s401, s402, s403, s404, s405, s406, s407, s408, s409, s410, s411, s412, s413, s414, s415, s416, s417, s418, s419, s420, s421, s422, s423, s424, s425, s426, s427, s428, s429, s430, s431, s432, s433, s434, s435, s436, s437, s438, s439, s440, s441, s442, s443, f399⟩
          have z444 := f399.size
          have t445 := t315.trans0 f399
          have t446 := t316.trans0 f399
          refine c_false s443 ?_
          refine c_skip ?_
          refine (x_then ?_)
          refine c_seq ?_
          refine c_seq ?_
          refine c_region ?_
          refine l_v (v := (.int .i64 0)) (r_assign rfl) ?_
          refine l_nil ?_
          refine (x_then ?_)
          refine c_block ?_
          have k447 := h299.keep0 f309
          have k448 := k447.keep0 f399
          refine c_loop (fun (m : Nat) (e' : Nat → Value) (w' : World) => ∃ p : Nat, ∃ xp : List Value, m = ys.length - p ∧ e' 0 = (.slice a l.length c) ∧ e' 3 = (.pointer (some ⟨bX, 0, none⟩)) ∧ e' 4 = (.pointer (some ⟨bY, 0, none⟩)) ∧ e' 5 = (.int .i64 ((k : Nat) : Int)) ∧ e' 6 = (.pointer (some ⟨bS, 0, none⟩)) ∧ e' 10 = (.int .i64 ((seenE ys x.id).elim 0 Ev.pipe)) ∧ e' 11 = (.bool ((seenE ys x.id).isSome)) ∧ e' 12 = (.int .i64 ((seenE ys x.id).elim 0 Ev.pipe)) ∧ e' 13 = (.bool ((seenE ys x.id).isSome)) ∧ e' 14 = (.slice a_297 ys.length c_298) ∧ e' 15 = (.slice a_310 ((evBytes ys).length) c_311) ∧ e' 16 = (.int .i64 ((p : Nat) : Int)) ∧ e' 18 = (.slice a l.length c) ∧ e' 19 = (.int .i64 ((l.length : Nat) : Int)) ∧ e' 20 = (.bool (decide (60 < ((l.length : Nat) : Int)))) ∧ e' 21 = (.pointer (some ⟨b_4, 0, none⟩)) ∧ e' 22 = (.agg #[(.slice none 0 0)]) ∧ e' 23 = (.pointer (some ⟨b11, 0, none⟩)) ∧ e' 24 = (.int .i64 ((k : Nat) : Int)) ∧ e' 25 = (.slice a l.length c) ∧ e' 26 = (.int .i64 ((l.length : Nat) : Int)) ∧ e' 27 = (.bool (decide (((k : Nat) : Int) < ((l.length : Nat) : Int)))) ∧ e' 30 = (.slice a l.length c) ∧ e' 31 = (.int .i64 ((k : Nat) : Int)) ∧ e' 32 = (.pointer (some ((adr a).add (k * 3)))) ∧ e' 33 = (.agg #[(.int .u8 x.kind), (.string x.id), (.int .i64 x.pipe)]) ∧ e' 72 = (.tuple #[(.int .i64 ((seenE ys x.id).elim 0 Ev.pipe)), (.bool ((seenE ys x.id).isSome))]) ∧ e' 73 = (.pointer (some ⟨bX, 0, none⟩)) ∧ e' 74 = (.pointer (some ⟨bS, 1, none⟩)) ∧ e' 75 = (.string x.id) ∧ e' 76 = (.tuple #[(.int .i64 ((seenE ys x.id).elim 0 Ev.pipe)), (.bool ((seenE ys x.id).isSome))]) ∧ e' 77 = (.int .i64 ((seenE ys x.id).elim 0 Ev.pipe)) ∧ e' 78 = (.bool ((seenE ys x.id).isSome)) ∧ e' 79 = (.tuple #[(.int .i64 ((seenE ys x.id).elim 0 Ev.pipe)), (.bool ((seenE ys x.id).isSome))]) ∧ e' 80 = (.pointer (some ⟨bY, 0, none⟩)) ∧ e' 81 = (.pointer (some ⟨bS, 1, none⟩)) ∧ e' 82 = (.string x.id) ∧ e' 83 = (.tuple #[(.int .i64 ((seenE ys x.id).elim 0 Ev.pipe)), (.bool ((seenE ys x.id).isSome))]) ∧ e' 84 = (.int .i64 ((seenE ys x.id).elim 0 Ev.pipe)) ∧ e' 85 = (.bool ((seenE ys x.id).isSome)) ∧ e' 86 = (.pointer (some ⟨bX, 0, none⟩)) ∧ e' 87 = (.slice a_297 ys.length c_298) ∧ e' 88 = (.pointer (some ⟨bX, 0, none⟩)) ∧ e' 89 = (.slice a_310 ((evBytes ys).length) c_311) ∧ e' 115 = (.bool false) ∧ Fr (ob a_297) w398 w' ∧ Own w' 74 2 a_297 ys.length c_298 xp ∧ (p ≤ ys.length)) (ys.length - 0) ⟨0, evs ys, rfl, s400, s401, s402, s403, s404, s405, s406, s407, s408, s409, s410, rfl, s411, s412, s413, s414, s415, s416, s417, s418, s419, s420, s421, s422, s423, s424, s425, s426, s427, s428, s429, s430, s431, s432, s433, s434, s435, s436, s437, s438, s439, s440, s441, s442, s443, Fr.refl _ _, k448, (by omega)⟩ ?_
          rintro m_f451 e449 w450 ⟨p, xp, hm_f451, s452, s453, s454, s455, s456, s457, s458, s459, s460, s461, s462, s463, s464, s465, s466, s467, s468, s469, s470, s471, s472, s473, s474, s475, s476, s477, s478, s479, s480, s481, s482, s483, s484, s485, s486, s487, s488, s489, s490, s491, s492, s493, s494, s495, s496, f451, h497, p498⟩
          have z499 := f451.size
          have t500 := t445.step f451 (ob_new p300 (by omega))
          have t501 := t446.step f451 (ob_new p300 (by omega))
          have t_f451 : Fr (ob a_297) w398 w450 := f451
          have hb8 := hf2.1.1
          have hb9 := evBytes_len hf2.1
          refine c_seq ?_
          refine c_seq ?_
          refine c_region ?_
          refine l_v (v := (.int .i64 ((p : Nat) : Int))) (r_move s463) ?_
          refine l_v (v := (.slice a_297 ys.length c_298)) (r_move s461) ?_
          refine l_v (v := (.int .i64 ((ys.length : Nat) : Int))) (r_lenSl F.sl33 rfl) ?_
          refine l_v (v := (.bool (decide (((p : Nat) : Int) < ((ys.length : Nat) : Int))))) (r_lss rfl rfl) ?_
          refine l_nil ?_
          refine (x_then ?_)
          refine c_if (p := ((p : Nat) : Int) < ((ys.length : Nat) : Int)) rfl (fun c502 => ?_) (fun c502 => ?_)
          ·
            refine c_skip ?_
            refine (x_then ?_)
            refine c_seq ?_
            refine c_block ?_
            refine c_region ?_
            refine l_v (v := (.slice a_297 ys.length c_298)) (r_move s461) ?_
            refine l_v (v := (.int .i64 ((p : Nat) : Int))) (r_move s463) ?_
            refine l_v (v := (.pointer (some ((adr a_297).add (p * 2))))) (r_indexAddr F.sle33 rfl rfl (h497.sl.some (by rw [h497.len]; omega)) (by omega) (by omega) (by first | rfl | simp | omega)) ?_
            refine l_v (v := (.pointer (some ((adr a_297).add (p * 2))))) (r_field_e0 F.fo74_0 rfl) ?_
            refine l_do rfl ?_
            refine d_storeE (v := (.string ⟨#[63]⟩)) F.sz9 rfl rfl rfl h497 (by omega) ?_
            intro w503 f504 h505
            have z506 := f504.size
            have t507 := t500.step f504 (ob_new p300 (by omega))
            have t508 := t501.step f504 (ob_new p300 (by omega))
            have t509 := t_f451.step f504 (ob_in (by intro x hx; simp [hx]))
            refine l_nil ?_
            refine (x_blk (x_then ?_))
            refine c_region ?_
            refine l_v (v := (.int .i64 ((p : Nat) : Int))) (r_move s463) ?_
            refine l_v (v := (.int .i64 ((p + 1 : Nat) : Int))) (r_add rfl rfl (w64 (by omega) (by omega) (by omega))) ?_
            refine l_v (v := (.int .i64 ((p + 1 : Nat) : Int))) (r_assign rfl) ?_
            refine l_nil ?_
            refine (x_then ?_)
            exact ⟨_, _, (by omega), rfl, p + 1, spl xp (p * 2) [(.string ⟨#[63]⟩)], rfl, s452, s453, s454, s455, s456, s457, s458, s459, s460, s461, s462, rfl, s464, s465, s466, s467, s468, s469, s470, s471, s472, s473, s474, s475, s476, s477, s478, s479, s480, s481, s482, s483, s484, s485, s486, s487, s488, s489, s490, s491, s492, s493, s494, s495, s496, t509, h505, (by omega)⟩
          ·
            refine c_exit ?_
            refine (x_then_x (x_then_x (x_blk_hit (x_then ?_))))
            refine c_seq ?_
            refine c_region ?_
            refine l_v (v := (.int .i64 0)) (r_assign rfl) ?_
            refine l_nil ?_
            refine (x_then ?_)
            refine c_block ?_
            have k510 := h312.keep0 f399
            have k511 := k510.keep f451 (ob_ob_old p313 l305 (by omega))
            refine c_loop (fun (m : Nat) (e' : Nat → Value) (w' : World) => ∃ q : Nat, ∃ xq : List Value, m = (evBytes ys).length - q ∧ e' 0 = (.slice a l.length c) ∧ e' 3 = (.pointer (some ⟨bX, 0, none⟩)) ∧ e' 4 = (.pointer (some ⟨bY, 0, none⟩)) ∧ e' 5 = (.int .i64 ((k : Nat) : Int)) ∧ e' 6 = (.pointer (some ⟨bS, 0, none⟩)) ∧ e' 10 = (.int .i64 ((seenE ys x.id).elim 0 Ev.pipe)) ∧ e' 11 = (.bool ((seenE ys x.id).isSome)) ∧ e' 12 = (.int .i64 ((seenE ys x.id).elim 0 Ev.pipe)) ∧ e' 13 = (.bool ((seenE ys x.id).isSome)) ∧ e' 14 = (.slice a_297 ys.length c_298) ∧ e' 15 = (.slice a_310 ((evBytes ys).length) c_311) ∧ e' 16 = (.int .i64 ((p : Nat) : Int)) ∧ e' 17 = (.int .i64 ((q : Nat) : Int)) ∧ e' 18 = (.slice a l.length c) ∧ e' 19 = (.int .i64 ((l.length : Nat) : Int)) ∧ e' 20 = (.bool (decide (60 < ((l.length : Nat) : Int)))) ∧ e' 21 = (.pointer (some ⟨b_4, 0, none⟩)) ∧ e' 22 = (.agg #[(.slice none 0 0)]) ∧ e' 23 = (.pointer (some ⟨b11, 0, none⟩)) ∧ e' 24 = (.int .i64 ((k : Nat) : Int)) ∧ e' 25 = (.slice a l.length c) ∧ e' 26 = (.int .i64 ((l.length : Nat) : Int)) ∧ e' 27 = (.bool (decide (((k : Nat) : Int) < ((l.length : Nat) : Int)))) ∧ e' 30 = (.slice a l.length c) ∧ e' 31 = (.int .i64 ((k : Nat) : Int)) ∧ e' 32 = (.pointer (some ((adr a).add (k * 3)))) ∧ e' 33 = (.agg #[(.int .u8 x.kind), (.string x.id), (.int .i64 x.pipe)]) ∧ e' 72 = (.tuple #[(.int .i64 ((seenE ys x.id).elim 0 Ev.pipe)), (.bool ((seenE ys x.id).isSome))]) ∧ e' 73 = (.pointer (some ⟨bX, 0, none⟩)) ∧ e' 74 = (.pointer (some ⟨bS, 1, none⟩)) ∧ e' 75 = (.string x.id) ∧ e' 76 = (.tuple #[(.int .i64 ((seenE ys x.id).elim 0 Ev.pipe)), (.bool ((seenE ys x.id).isSome))]) ∧ e' 77 = (.int .i64 ((seenE ys x.id).elim 0 Ev.pipe)) ∧ e' 78 = (.bool ((seenE ys x.id).isSome)) ∧ e' 79 = (.tuple #[(.int .i64 ((seenE ys x.id).elim 0 Ev.pipe)), (.bool ((seenE ys x.id).isSome))]) ∧ e' 80 = (.pointer (some ⟨bY, 0, none⟩)) ∧ e' 81 = (.pointer (some ⟨bS, 1, none⟩)) ∧ e' 82 = (.string x.id) ∧ e' 83 = (.tuple #[(.int .i64 ((seenE ys x.id).elim 0 Ev.pipe)), (.bool ((seenE ys x.id).isSome))]) ∧ e' 84 = (.int .i64 ((seenE ys x.id).elim 0 Ev.pipe)) ∧ e' 85 = (.bool ((seenE ys x.id).isSome)) ∧ e' 86 = (.pointer (some ⟨bX, 0, none⟩)) ∧ e' 87 = (.slice a_297 ys.length c_298) ∧ e' 88 = (.pointer (some ⟨bX, 0, none⟩)) ∧ e' 89 = (.slice a_310 ((evBytes ys).length) c_311) ∧ e' 115 = (.bool false) ∧ e' 116 = (.int .i64 ((p : Nat) : Int)) ∧ e' 117 = (.slice a_297 ys.length c_298) ∧ e' 118 = (.int .i64 ((ys.length : Nat) : Int)) ∧ e' 119 = (.bool (decide (((p : Nat) : Int) < ((ys.length : Nat) : Int)))) ∧ Fr (ob a_310) w450 w' ∧ Own w' 5 1 a_310 ((evBytes ys).length) c_311 xq ∧ (q ≤ (evBytes ys).length)) ((evBytes ys).length - 0) ⟨0, bv (evBytes ys), rfl, s452, s453, s454, s455, s456, s457, s458, s459, s460, s461, s462, s463, rfl, s464, s465, s466, s467, s468, s469, s470, s471, s472, s473, s474, s475, s476, s477, s478, s479, s480, s481, s482, s483, s484, s485, s486, s487, s488, s489, s490, s491, s492, s493, s494, s495, s496, rfl, rfl, rfl, rfl, Fr.refl _ _, k511, (by omega)⟩ ?_
            rintro m_f514 e512 w513 ⟨q, xq, hm_f514, s515, s516, s517, s518, s519, s520, s521, s522, s523, s524, s525, s526, s527, s528, s529, s530, s531, s532, s533, s534, s535, s536, s537, s538, s539, s540, s541, s542, s543, s544, s545, s546, s547, s548, s549, s550, s551, s552, s553, s554, s555, s556, s557, s558, s559, s560, s561, s562, s563, s564, f514, h565, p566⟩
            have z567 := f514.size
            have t568 := t500.step f514 (ob_new p313 (by omega))
            have t569 := t501.step f514 (ob_new p313 (by omega))
            have t_f514 : Fr (ob a_310) w450 w513 := f514
            have hb8 := hf2.1.1
            have hb9 := evBytes_len hf2.1
            refine c_seq ?_
            refine c_seq ?_
            refine c_region ?_
            refine l_v (v := (.int .i64 ((q : Nat) : Int))) (r_move s527) ?_
            refine l_v (v := (.slice a_310 ((evBytes ys).length) c_311)) (r_move s525) ?_
            refine l_v (v := (.int .i64 (((evBytes ys).length : Nat) : Int))) (r_lenSl F.sl22 rfl) ?_
            refine l_v (v := (.bool (decide (((q : Nat) : Int) < (((evBytes ys).length : Nat) : Int))))) (r_lss rfl rfl) ?_
            refine l_nil ?_
            refine (x_then ?_)
            refine c_if (p := ((q : Nat) : Int) < (((evBytes ys).length : Nat) : Int)) rfl (fun c570 => ?_) (fun c570 => ?_)
            ·
              refine c_skip ?_
              refine (x_then ?_)
              refine c_seq ?_
              refine c_block ?_
              refine c_region ?_
              refine l_v (v := (.slice a_310 ((evBytes ys).length) c_311)) (r_move s525) ?_
              refine l_v (v := (.int .i64 ((q : Nat) : Int))) (r_move s527) ?_
              refine l_v (v := (.pointer (some ((adr a_310).add q)))) (r_indexAddr F.sle22 rfl rfl (h565.sl.some (by rw [h565.len]; omega)) (by omega) (by omega) (by first | rfl | simp | omega)) ?_
              refine l_do rfl ?_
              refine d_storeE (v := (.int .u8 255)) F.sz5 rfl rfl rfl h565 (by omega) ?_
              intro w571 f572 h573
              have z574 := f572.size
              have t575 := t568.step f572 (ob_new p313 (by omega))
              have t576 := t569.step f572 (ob_new p313 (by omega))
              have t577 := t_f514.step f572 (ob_in (by intro x hx; simp [hx]))
              refine l_nil ?_
              refine (x_blk (x_then ?_))
              refine c_region ?_
              refine l_v (v := (.int .i64 ((q : Nat) : Int))) (r_move s527) ?_
              refine l_v (v := (.int .i64 ((q + 1 : Nat) : Int))) (r_add rfl rfl (w64 (by omega) (by omega) (by omega))) ?_
              refine l_v (v := (.int .i64 ((q + 1 : Nat) : Int))) (r_assign rfl) ?_
              refine l_nil ?_
              refine (x_then ?_)
              exact ⟨_, _, (by omega), rfl, q + 1, spl xq q [(.int .u8 255)], rfl, s515, s516, s517, s518, s519, s520, s521, s522, s523, s524, s525, s526, rfl, s528, s529, s530, s531, s532, s533, s534, s535, s536, s537, s538, s539, s540, s541, s542, s543, s544, s545, s546, s547, s548, s549, s550, s551, s552, s553, s554, s555, s556, s557, s558, s559, s560, s561, s562, s563, s564, t577, h573, (by omega)⟩
            ·
              refine c_exit ?_
              refine (x_then_x (x_then_x (x_blk_hit (x_blk (x_then ?_)))))
              refine c_region ?_
              refine l_v (v := (.int .i64 ((k : Nat) : Int))) (r_move s518) ?_
              refine l_v (v := (.int .i64 ((k + 1 : Nat) : Int))) (r_add rfl rfl (w64 (by omega) (by omega) (by omega))) ?_
              refine l_v (v := (.int .i64 ((k + 1 : Nat) : Int))) (r_assign rfl) ?_
              refine l_nil ?_
              refine (x_then ?_)
              have k578 := k306.keep0 f309
              have k579 := k578.keep0 f399
              have k580 := k579.keep f451 (not_ob_new p300 (by omega))
              have k581 := k580.keep f514 (not_ob_new p313 (by omega))
              have k582 := k307.keep0 f309
              have k583 := k582.keep0 f399
              have k584 := k583.keep f451 (ob_ob_new l269 p300 (by omega))
              have k585 := k584.keep f514 (ob_ob_new l269 p313 (by omega))
              have k586 := k284.keep0 f287
              have k587 := k586.keep0 f296
              have k588 := k587.keep0 f309
              have k589 := k588.keep0 f399
              have k590 := k589.keep f451 (not_ob_new p300 (by omega))
              have k591 := k590.keep f514 (not_ob_new p313 (by omega))
              have k592 := k285.keep0 f287
              have k593 := k592.keep0 f296
              have k594 := k593.keep0 f309
              have k595 := k594.keep0 f399
              have k596 := k595.keep f451 (ob_ob_new l271 p300 (by omega))
              have k597 := k596.keep f514 (ob_ob_new l271 p313 (by omega))
              exact ⟨_, _, (by omega), rfl, k + 1, bX, bY, aX, cX, d, e, ys, rfl, s515, s516, s517, rfl, s528, s529, s530, s531, s532, s533, t569, k581, k585, k591, k597, (by omega), hf2, (by omega), (ob_ge p255 (by omega)), (by omega), (ob_ge p257 (by omega)), n274, p259, p260, p261, n277, p263⟩
    ·
      refine c_exit ?_
      refine (x_then_x (x_then_x (x_blk_hit (x_then ?_))))
      refine c_seq ?_
      refine f_start (masks := [0, 1, 3, 0, 8, 24, 56, 127, 255]) (F := Fs [(6, fun w => At w bY (.cells #[(.slice d xs.length e)] 36 (0, 0)))]) #[false, false, false, false, false, false, false, false, false] F.mixed rfl rfl (by kernel_rfl) ?_
      intro w598 f599 r600
      have z601 := f599.size
      have t602 := f21.trans0 f599
      refine f_take (i := 0) (v := (.pointer (some ⟨bX, 0, none⟩))) #[true, false, false, false, false, false, false, false, false] r600 rfl (by kernel_rfl) (fun _ _ _ h => h) rfl (fs_none rfl) (fun w hF => r_move s23) ?_
      refine f_take (i := 3) (v := (.pointer (some ⟨bY, 0, none⟩))) #[true, false, false, true, false, false, false, false, false] r600 rfl (by kernel_rfl) (fun _ _ _ h => h) rfl (fs_none rfl) (fun w hF => r_move s24) ?_
      refine f_take (i := 4) (v := (.pointer (some ⟨bY, 0, none⟩))) #[true, false, false, true, true, false, false, false, false] r600 rfl (by kernel_rfl) (fun _ _ _ h => h) rfl (fs_none rfl) (fun w hF => r_nil_ptr rfl) ?_
      refine f_take (i := 5) (v := (.pointer (some ⟨bY, 0, none⟩))) #[true, false, false, true, true, true, false, false, false] r600 rfl (by kernel_rfl) (fun _ _ _ h => h) rfl (fs_none rfl) (fun w hF => r_field_l F.fo36_0 rfl rfl) ?_
      have k603 := h34.keep0 f599
      refine f_take (i := 6) (v := (.slice d xs.length e)) #[true, false, false, true, true, true, true, false, false] r600 rfl (by kernel_rfl) (fun _ _ _ h => h) rfl (fs_one k603 rfl) (fun w hF => r_load1 F.one31 rfl (At.cell (fs_get List.mem_cons_self hF) rfl)) ?_
      refine f_one (i := 1) #[true, true, false, true, true, true, true, false, false] rfl (by kernel_rfl) rfl ?_
      have k604 := h32.keep0 f599
      have k605 := h33.keep0 f599
      refine d_call (fl := []) (cl := []) (A := [(.pointer (some ⟨bX, 0, none⟩))]) (B := [(.pointer (some ⟨bX, 0, none⟩))]) F.ok20 rfl (ac rfl an) rfl (list_c (b := bX) (a := aX) (xs := xs) (c := cX) k604 k605 hf.1.1) ?_
      rintro _ w606 ⟨a_608, c_609, rfl, f607, h610, p611⟩
      have z612 := f607.size
      have t613 := t602.trans0 f607
      have l615 := h610.lt
      refine ⟨(pres_of (pcn_cons (fun _ h => h.keep0 f607) pcn_nil)), ?_⟩
      refine f_one (i := 2) #[true, true, true, true, true, true, true, false, false] rfl (by kernel_rfl) rfl ?_
      have s616 := h610.sl
      refine d_call (fl := []) (cl := []) (A := [(.slice a_608 xs.length c_609)]) (B := [(.slice a_608 xs.length c_609)]) F.ok19 rfl (ac rfl an) rfl (events_c (a := a_608) (xs := xs) (c := c_609) s616 hf.1.1) ?_
      rintro _ w617 ⟨a_619, c_620, rfl, f618, h621, p622⟩
      have z623 := f618.size
      have t624 := t613.trans0 f618
      have l625 := h621.lt
      refine ⟨(pres_of (pcn_cons (fun _ h => h.keep0 f618) pcn_nil)), ?_⟩
      refine f_one (i := 7) #[true, true, true, true, true, true, true, true, false] rfl (by kernel_rfl) rfl ?_
      have s626 := h621.sl
      have k627 := h35.keep0 f599
      have k628 := k627.keep0 f607
      have k629 := k628.keep0 f618
      have s630 := k629.sl
      refine d_call (fl := []) (cl := []) (A := [(.slice a_619 xs.length c_620), (.slice d xs.length e)]) (B := [(.slice a_619 xs.length c_620), (.slice d xs.length e)]) F.ok18 rfl (ac rfl (ac rfl an)) rfl (rSame_c (a := a_619) (xs := xs) (c := c_620) (d := d) (ys := xs) (e := e) s626 s630 hf.1.1) ?_
      rintro _ w631 ⟨rfl, f632⟩
      have z633 := f632.size
      have t634 := t624.trans0 f632
      refine ⟨(pres_all (by kernel_rfl)), ?_⟩
      refine f_take (i := 8) (v := (.bool (decide (xs = xs)))) #[true, true, true, true, true, true, true, true, true] r600 rfl (by kernel_rfl) (fun _ _ _ h => h) rfl (fs_none rfl) (fun w hF => r_assign rfl) ?_
      refine f_done (by kernel_rfl) ?_
      refine (x_then ?_)
      refine c_ret ?_
      refine p_ret (v := (.bool (decide (xs = xs)))) (res1 rfl rfl) ?_
      exact ⟨(by simp), t634⟩

end Go.Sy
