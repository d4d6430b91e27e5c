/- The example of the jobs, walked. -/
import Derived.Test.YtnhpfhhpochgfaaWJobs2
import Derived.Test.YtnhpfhhpochgfaaPJobs2
namespace Go.Sy
set_option linter.unusedVariables false
set_option linter.unusedSimpArgs false

set_option maxHeartbeats 400000 in
set_option maxRecDepth 100000 in
theorem are_c {w : World} {b cj cl : Nat} {aj al : Option Addr} {js : List JobP} {ss : List St} {d : Option Addr} {e : Nat} {ws : List UInt8} (h1 : At w b (.cells #[(.slice aj js.length cj), (.slice al ss.length cl)] 142 (0, 0))) (h4 : Own w 56 6 al ss.length cl (sts ss)) (hw : Sl w d (bv ws)) (h9 : ss.length ≤ 1000000) :
    Calls Proofs.Try.prog 81 #[(.pointer (some ⟨b, 0, none⟩)), (.slice d ws.length e)] w (Ret fun v w' => v = (.bool (decide (ss.map St.state = ws.map u8i))) ∧ Fr [] w w') := by
  have lt_h1 := h1.lt
  have lt_h4 := h4.lt
  have n1 := ob_ne' h4.tag h1 rfl
  have t0 : Fr [] w w := Fr.refl _ _
  refine enter Proofs.Try.func81 rfl Proofs.Try.ntmps81 (Nat.le_of_ble_eq_true rfl) ?_
  refine c_seq ?_
  refine c_region ?_
  refine l_v (v := (.bool false)) (r_assign rfl) ?_
  refine l_nil ?_
  refine (x_then ?_)
  refine c_seq ?_
  refine c_region ?_
  refine l_v (v := (.pointer (some ⟨b, 0, none⟩))) (r_move rfl) ?_
  refine l_do rfl ?_
  refine d_call (fl := []) (cl := []) (A := [(.pointer (some ⟨b, 0, none⟩))]) (B := [(.pointer (some ⟨b, 0, none⟩))]) F.ok25 rfl (ac rfl an) rfl (jlist_c (b := b) (aj := aj) (js := js) (cj := cj) (al := al) (ss := ss) (cl := cl) h1 h4 (by omega)) ?_
  rintro _ w2 ⟨a_4, c_5, rfl, f3, h6, p7⟩
  have z8 := f3.size
  have t9 := t0.trans0 f3
  have l10 := h6.lt
  refine l_v (v := (.slice a_4 ss.length c_5)) (r_assign rfl) ?_
  refine l_nil ?_
  refine (x_then ?_)
  refine c_seq ?_
  refine c_seq ?_
  refine c_region ?_
  refine l_v (v := (.slice a_4 ss.length c_5)) (r_move rfl) ?_
  refine l_v (v := (.int .i64 ((ss.length : Nat) : Int))) (r_lenSl F.sl49 rfl) ?_
  refine l_v (v := (.slice d ws.length e)) (r_move rfl) ?_
  refine l_v (v := (.int .i64 ((ws.length : Nat) : Int))) (r_lenSl F.sl22 rfl) ?_
  refine l_v (v := (.bool (decide (((ss.length : Nat) : Int) ≠ ((ws.length : Nat) : Int))))) (r_neq rfl rfl) ?_
  refine l_nil ?_
  refine (x_then ?_)
  refine c_if (p := ((ss.length : Nat) : Int) ≠ ((ws.length : Nat) : Int)) rfl (fun c11 => ?_) (fun c11 => ?_)
  ·
    refine c_seq ?_
    refine c_region ?_
    refine l_v (v := (.bool false)) (r_assign rfl) ?_
    refine l_nil ?_
    refine (x_then ?_)
    refine c_ret ?_
    refine (x_then_r ?_)
    refine p_ret (v := (.bool false)) (res1 rfl rfl) ?_
    exact ⟨(by rw [decide_eq_false (fun h => by have h2 := congrArg List.length h; simp at h2; omega)]), t9⟩
  ·
    refine c_skip ?_
    refine (x_then ?_)
    refine c_seq ?_
    refine c_seq ?_
    refine c_region ?_
    refine l_v (v := (.int .i64 0)) (r_assign rfl) ?_
    refine l_nil ?_
    refine (x_then ?_)
    refine c_block ?_
    refine c_loop (fun (m : Nat) (e' : Nat → Value) (w' : World) => ∃ k : Nat, m = ss.length - k ∧ e' 0 = (.pointer (some ⟨b, 0, none⟩)) ∧ e' 1 = (.slice d ws.length e) ∧ e' 5 = (.slice a_4 ss.length c_5) ∧ e' 6 = (.int .i64 ((k : Nat) : Int)) ∧ e' 7 = (.pointer (some ⟨b, 0, none⟩)) ∧ e' 8 = (.slice a_4 ss.length c_5) ∧ e' 9 = (.slice a_4 ss.length c_5) ∧ e' 10 = (.int .i64 ((ss.length : Nat) : Int)) ∧ e' 11 = (.slice d ws.length e) ∧ e' 12 = (.int .i64 ((ws.length : Nat) : Int)) ∧ e' 13 = (.bool (decide (((ss.length : Nat) : Int) ≠ ((ws.length : Nat) : Int)))) ∧ Fr [] w2 w' ∧ (k ≤ ss.length) ∧ (∀ j, j < k → (ss.map St.state)[j]? = (ws.map u8i)[j]?)) (ss.length - 0) ⟨0, rfl, rfl, rfl, rfl, rfl, rfl, rfl, rfl, rfl, rfl, rfl, rfl, Fr.refl _ _, (by omega), (fun j hj => by omega)⟩ ?_
    rintro m_f14 e12 w13 ⟨k, hm_f14, s15, s16, s17, s18, s19, s20, s21, s22, s23, s24, s25, f14, p26, hall⟩
    have z27 := f14.size
    have t28 := t9.trans0 f14
    have t_f14 : Fr [] w2 w13 := f14
    refine c_seq ?_
    refine c_seq ?_
    refine c_region ?_
    refine l_v (v := (.int .i64 ((k : Nat) : Int))) (r_move s18) ?_
    refine l_v (v := (.slice a_4 ss.length c_5)) (r_move s17) ?_
    refine l_v (v := (.int .i64 ((ss.length : Nat) : Int))) (r_lenSl F.sl49 rfl) ?_
    refine l_v (v := (.bool (decide (((k : Nat) : Int) < ((ss.length : Nat) : Int))))) (r_lss rfl rfl) ?_
    refine l_nil ?_
    refine (x_then ?_)
    refine c_if (p := ((k : Nat) : Int) < ((ss.length : Nat) : Int)) rfl (fun c29 => ?_) (fun c29 => ?_)
    ·
      refine c_skip ?_
      refine (x_then ?_)
      refine c_seq ?_
      refine c_block ?_
      refine c_seq ?_
      refine f_start (masks := [0, 0, 3, 7, 15, 0, 0, 96, 224, 511]) (F := Fs [(4, fun w => Sl w a_4 (sts ss)), (8, fun w => Sl w d (bv ws))]) #[false, false, false, false, false, false, false, false, false, false] F.mixed rfl rfl (by kernel_rfl) ?_
      intro w36 f37 r38
      have z39 := f37.size
      have t40 := t28.trans0 f37
      have t41 := t_f14.trans0 f37
      refine f_take (i := 0) (v := (.slice a_4 ss.length c_5)) #[true, false, false, false, false, false, false, false, false, false] r38 rfl (by kernel_rfl) (fun _ _ _ h => h) rfl (fs_none rfl) (fun w hF => r_move s17) ?_
      refine f_take (i := 1) (v := (.int .i64 ((k : Nat) : Int))) #[true, true, false, false, false, false, false, false, false, false] r38 rfl (by kernel_rfl) (fun _ _ _ h => h) rfl (fs_none rfl) (fun w hF => r_move s18) ?_
      have k42 := h6.keep0 f14
      have k43 := k42.keep0 f37
      have ha44 : ∃ ad, a_4 = some ad := k43.sl.some (by rw [sts_len]; have := ((by first | omega | (simp only [settleTo_len, settle_len, startL_len, endsL_len, endL_len, cancelL_len, playL_len, newL_len, List.length_map, List.length_set, List.length_replicate, doL_len]; omega)) : k < (ss).length); omega)
      obtain ⟨s, hs⟩ := get_some (l := ss) (k := k) (by first | omega | (simp only [settleTo_len, settle_len, startL_len, endsL_len, endL_len, cancelL_len, playL_len, newL_len, List.length_map, List.length_set, List.length_replicate, doL_len]; omega))
      refine f_take (i := 2) (v := (.pointer (some ((adr a_4).add (k * 6))))) #[true, true, true, false, false, false, false, false, false, false] r38 rfl (by kernel_rfl) (fun _ _ _ h => h) rfl (fs_none rfl) (fun w hF => r_indexAddr F.sle49 rfl rfl ha44 (by omega) (by have := get_lt hs; (try simp only [settleTo_len, settle_len, startL_len, endsL_len, endL_len, cancelL_len, playL_len, newL_len, List.length_map, List.length_set, List.length_replicate, doL_len] at this); omega) (by first | rfl | simp | omega)) ?_
      refine f_take (i := 3) (v := (.pointer (some ((adr a_4).add (k * 6))))) #[true, true, true, true, false, false, false, false, false, false] r38 rfl (by kernel_rfl) (fun _ _ _ h => h) rfl (fs_none rfl) (fun w hF => r_field_e0 F.fo56_0 rfl) ?_
      have s45 := k43.sl
      refine f_take (i := 4) (v := (.int .u8 s.state)) #[true, true, true, true, true, false, false, false, false, false] r38 rfl (by kernel_rfl) (fun _ _ _ h => h) rfl (fs_one s45 rfl) (fun w hF => r_loadE1 F.one5 (fs_get List.mem_cons_self hF) rfl (sts_vs hs 0 _ rfl)) ?_
      refine f_take (i := 5) (v := (.slice d ws.length e)) #[true, true, true, true, true, true, false, false, false, false] r38 rfl (by kernel_rfl) (fun _ _ _ h => h) rfl (fs_none rfl) (fun w hF => r_move s16) ?_
      refine f_take (i := 6) (v := (.int .i64 ((k : Nat) : Int))) #[true, true, true, true, true, true, true, false, false, false] r38 rfl (by kernel_rfl) (fun _ _ _ h => h) rfl (fs_none rfl) (fun w hF => r_move s18) ?_
      have k46 := hw.keep0 f3
      have k47 := k46.keep0 f14
      have k48 := k47.keep0 f37
      have ha49 : ∃ ad, d = some ad := k48.some (by rw [bv_len]; have := ((by first | omega | (simp only [settleTo_len, settle_len, startL_len, endsL_len, endL_len, cancelL_len, playL_len, newL_len, List.length_map, List.length_set, List.length_replicate, doL_len]; omega)) : k < (ws).length); omega)
      obtain ⟨y, hy⟩ := get_some (l := ws) (k := k) (by first | omega | (simp only [settleTo_len, settle_len, startL_len, endsL_len, endL_len, cancelL_len, playL_len, newL_len, List.length_map, List.length_set, List.length_replicate, doL_len]; omega))
      refine f_take (i := 7) (v := (.pointer (some ((adr d).add k)))) #[true, true, true, true, true, true, true, true, false, false] r38 rfl (by kernel_rfl) (fun _ _ _ h => h) rfl (fs_none rfl) (fun w hF => r_indexAddr F.sle22 rfl rfl ha49 (by omega) (by have := get_lt hy; (try simp only [settleTo_len, settle_len, startL_len, endsL_len, endL_len, cancelL_len, playL_len, newL_len, List.length_map, List.length_set, List.length_replicate, doL_len] at this); omega) (by first | rfl | simp | omega)) ?_
      refine f_take (i := 8) (v := (.int .u8 ((y.toNat : Nat) : Int))) #[true, true, true, true, true, true, true, true, true, false] r38 rfl (by kernel_rfl) (fun _ _ _ h => h) rfl (fs_next rfl (fs_one k48 rfl)) (fun w hF => r_loadE1 F.one5 (fs_get (List.mem_cons_of_mem _ List.mem_cons_self) hF) rfl (bv_vs hy)) ?_
      refine f_take (i := 9) (v := (.bool (decide (s.state ≠ ((y.toNat : Nat) : Int))))) #[true, true, true, true, true, true, true, true, true, true] r38 rfl (by kernel_rfl) (fun _ _ _ h => h) rfl (fs_none rfl) (fun w hF => r_neq rfl rfl) ?_
      refine f_done (by kernel_rfl) ?_
      refine (x_then ?_)
      refine c_if (p := s.state ≠ ((y.toNat : Nat) : Int)) rfl (fun c50 => ?_) (fun c50 => ?_)
      ·
        refine c_seq ?_
        refine c_region ?_
        refine l_v (v := (.bool false)) (r_assign rfl) ?_
        refine l_nil ?_
        refine (x_then ?_)
        refine c_ret ?_
        refine (x_blk_r (x_then_r (x_then_r (x_blk_r (x_then_r ?_)))))
        refine p_ret (v := (.bool false)) (res1 rfl rfl) ?_
        exact ⟨(by rw [decide_eq_false (ne_at (map_get hs) (map_get hy) (by unfold u8i; omega))]), t40⟩
      ·
        refine c_skip ?_
        refine (x_blk (x_then ?_))
        refine c_region ?_
        refine l_v (v := (.int .i64 ((k : Nat) : Int))) (r_move s18) ?_
        refine l_v (v := (.int .i64 ((k + 1 : Nat) : Int))) (r_add rfl rfl (w64 (by omega) (by omega) (by omega))) ?_
        refine l_v (v := (.int .i64 ((k + 1 : Nat) : Int))) (r_assign rfl) ?_
        refine l_nil ?_
        refine (x_then ?_)
        exact ⟨_, _, (by omega), rfl, k + 1, rfl, s15, s16, s17, rfl, s19, s20, s21, s22, s23, s24, s25, t41, (by omega), (eq_succ hall (map_get hs) (map_get hy) (by unfold u8i; omega))⟩
    ·
      refine c_exit ?_
      refine (x_then_x (x_then_x (x_blk_hit (x_then ?_))))
      refine c_seq ?_
      refine c_region ?_
      refine l_v (v := (.bool true)) (r_assign rfl) ?_
      refine l_nil ?_
      refine (x_then ?_)
      refine c_ret ?_
      refine p_ret (v := (.bool true)) (res1 rfl rfl) ?_
      exact ⟨(by rw [decide_eq_true (eq_all hall (by simp; omega) (by simp; omega))]), t28⟩

set_option maxHeartbeats 400000 in
set_option maxRecDepth 100000 in
theorem example_c {w : World}   :
    Calls Proofs.Try.prog 80 #[] w (Ret fun v w' => ∃ a : Option Addr, ∃ c : Nat, ∃ b1 : Nat, ∃ b2 : Nat, v = (.agg #[(.slice a ((exP b1 b2).length) c)]) ∧ Fr [] w w' ∧ Ro w' a ((exP b1 b2).length) c (pjs (exP b1 b2)) ∧ PNds w' [b1, b2] (exP b1 b2)) := by
  have t0 : Fr [] w w := Fr.refl _ _
  refine enter Proofs.Try.func80 rfl Proofs.Try.ntmps80 (Nat.le_of_ble_eq_true rfl) ?_
  refine c_seq ?_
  refine c_region ?_
  refine l_do rfl ?_
  refine d_alloc (cs := #[(.slice none 0 0)]) F.zero41 rfl ?_
  intro w1 b2 f3 a4 h5
  have z6 := f3.size
  have t7 := t0.trans0 f3
  have l8 := h5.lt
  refine l_nil ?_
  refine (x_then ?_)
  refine c_seq ?_
  refine c_region ?_
  refine l_v (v := (.agg #[(.string ⟨#[]⟩), (.slice none 0 0), (.slice none 0 0), (.slice none 0 0), (.slice none 0 0), (.slice none 0 0), (.int .i64 1), (.int .i64 0), (.bool false)])) (r_build (pc rfl pn) (by kernel_rfl)) ?_
  refine l_do rfl ?_
  refine d_lit (el := 3) (k' := 1) (ps := [(0, (.int .i64 0))]) (cells := #[(.int .i64 0)]) (pc rfl pn) (by kernel_rfl) rfl (Nat.le_of_ble_eq_true rfl) ?_
  intro w9 b10 f11 a12 h13
  have z14 := f11.size
  have t15 := t7.trans0 f11
  have g16 := ob_one_ge (o := 0) (s := none) a12
  have l17 := h13.lt
  have := ob_one_lt l17
  refine l_v (v := (.agg #[(.string ⟨#[]⟩), (.slice (some ⟨b10, 0, none⟩) 1 1), (.slice none 0 0), (.slice none 0 0), (.slice none 0 0), (.slice none 0 0), (.int .i64 2), (.int .i64 0), (.bool false)])) (r_build (pc rfl (pc rfl pn)) (by kernel_rfl)) ?_
  refine l_do rfl ?_
  refine d_lit (el := 3) (k' := 1) (ps := [(0, (.int .i64 1))]) (cells := #[(.int .i64 1)]) (pc rfl pn) (by kernel_rfl) rfl (Nat.le_of_ble_eq_true rfl) ?_
  intro w18 b19 f20 a21 h22
  have z23 := f20.size
  have t24 := t15.trans0 f20
  have g25 := ob_one_ge (o := 0) (s := none) a21
  have l26 := h22.lt
  have := ob_one_lt l26
  refine l_v (v := (.agg #[(.string ⟨#[]⟩), (.slice (some ⟨b19, 0, none⟩) 1 1), (.slice none 0 0), (.slice none 0 0), (.slice none 0 0), (.slice none 0 0), (.int .i64 1), (.int .i64 0), (.bool true)])) (r_build (pc rfl (pc rfl (pc rfl pn))) (by kernel_rfl)) ?_
  refine l_do rfl ?_
  refine d_lit (el := 60) (k' := 9) (ps := [(0, (.agg #[(.string ⟨#[]⟩), (.slice none 0 0), (.slice none 0 0), (.slice none 0 0), (.slice none 0 0), (.slice none 0 0), (.int .i64 1), (.int .i64 0), (.bool false)])), (1, (.agg #[(.string ⟨#[]⟩), (.slice (some ⟨b10, 0, none⟩) 1 1), (.slice none 0 0), (.slice none 0 0), (.slice none 0 0), (.slice none 0 0), (.int .i64 2), (.int .i64 0), (.bool false)])), (2, (.agg #[(.string ⟨#[]⟩), (.slice (some ⟨b19, 0, none⟩) 1 1), (.slice none 0 0), (.slice none 0 0), (.slice none 0 0), (.slice none 0 0), (.int .i64 1), (.int .i64 0), (.bool true)]))]) (cells := #[(.string ⟨#[]⟩), (.slice none 0 0), (.slice none 0 0), (.slice none 0 0), (.slice none 0 0), (.slice none 0 0), (.int .i64 1), (.int .i64 0), (.bool false), (.string ⟨#[]⟩), (.slice (some ⟨b10, 0, none⟩) 1 1), (.slice none 0 0), (.slice none 0 0), (.slice none 0 0), (.slice none 0 0), (.int .i64 2), (.int .i64 0), (.bool false), (.string ⟨#[]⟩), (.slice (some ⟨b19, 0, none⟩) 1 1), (.slice none 0 0), (.slice none 0 0), (.slice none 0 0), (.slice none 0 0), (.int .i64 1), (.int .i64 0), (.bool true)]) (pc rfl (pc rfl (pc rfl pn))) (by kernel_rfl) rfl (Nat.le_of_ble_eq_true rfl) ?_
  intro w27 b28 f29 a30 h31
  have z32 := f29.size
  have t33 := t24.trans0 f29
  have g34 := ob_one_ge (o := 0) (s := none) a30
  have l35 := h31.lt
  have := ob_one_lt l35
  refine l_v (v := (.agg #[(.slice (some ⟨b28, 0, none⟩) 3 3)])) (r_build (pc rfl pn) (by kernel_rfl)) ?_
  refine l_do rfl ?_
  have k39 := h5.keep0 f11
  have k40 := k39.keep0 f20
  have k41 := k40.keep0 f29
  refine d_storeA (l := [(.slice (some ⟨b28, 0, none⟩) 3 3)]) F.sz41 rfl rfl (by simp [Value.oneCell']) k41 rfl ?_
  intro w36 f37 h38
  have z42 := f37.size
  have t43 := t33.step f37 (one_new (by omega))
  refine l_nil ?_
  refine (x_then ?_)
  refine c_ret ?_
  refine p_ret (v := (.agg #[(.slice (some ⟨b28, 0, none⟩) 3 3)])) (resv1 rfl (rv_agg (l := [(.slice (some ⟨b28, 0, none⟩) 3 3)]) F.agg41 rfl h38 rfl)) ?_
  have k44 := h31.keep f37 (ob_of_one (not_in1 (by omega)))
  have s45 := k44.ro
  have k46 := h13.keep0 f20
  have k47 := k46.keep0 f29
  have k48 := k47.keep f37 (ob_of_one (not_in1 (by omega)))
  have s49 := k48.ro
  have k50 := h22.keep0 f29
  have k51 := k50.keep f37 (ob_of_one (not_in1 (by omega)))
  have s52 := k51.ro
  exact ⟨(some ⟨b28, 0, none⟩), 3, b10, b19, rfl, t43, (show Ro w36 _ _ _ _ from s45), (exP_nds s49 s52)⟩

set_option maxHeartbeats 400000 in
set_option maxRecDepth 100000 in
theorem works_c {w : World}   :
    Calls Proofs.Try.prog 22 #[] w (Ret fun v w' => v = (.bool true) ∧ Fr [] w w') := by
  have t0 : Fr [] w w := Fr.refl _ _
  refine enter Proofs.Try.func22 rfl Proofs.Try.ntmps22 (Nat.le_of_ble_eq_true rfl) ?_
  refine c_seq ?_
  refine c_region ?_
  refine l_v (v := (.bool false)) (r_assign rfl) ?_
  refine l_nil ?_
  refine (x_then ?_)
  refine c_seq ?_
  refine c_region ?_
  refine l_do rfl ?_
  refine d_call (fl := []) (cl := []) (A := []) (B := []) F.ok80 rfl an rfl (example_c  ) ?_
  rintro _ w1 ⟨a_3, c_4, b_5, b_6, rfl, f2, h7, h8⟩
  have z9 := f2.size
  have t10 := t0.trans0 f2
  refine l_do rfl ?_
  refine d_call (fl := []) (cl := []) (A := [(.agg #[(.slice a_3 ((exP b_5 b_6).length) c_4)])]) (B := [(.agg #[(.slice a_3 ((exP b_5 b_6).length) c_4)])]) F.ok24 rfl (ac rfl an) rfl (new_yes (ap := a_3) (ps := exP b_5 b_6) (cp := c_4) (LP := [b_5, b_6]) h7 h8 (exP_needs _ _) (by simp [exP]) (exP_may _ _)) ?_
  rintro _ w11 ⟨b_13, aj_14, cj_15, al_16, cl_17, js_18, L_19, rfl, f12, h20, h21, h22, h23, p24, p25, p26, p27, p28, p29, p30, p31, p32, p33, p34⟩
  have z35 := f12.size
  have t36 := t10.trans0 f12
  have l37 := h20.lt
  have l38 := h21.lt
  have l39 := h23.lt
  have l40 := h22.lt
  have hjM : js_18.map JobP.m = exM := p25
  have hjl : js_18.length = 3 := p24
  have hmM : mayB (js_18.map JobP.m) = true := by rw [hjM]; decide
  have hold : (newL ((exP b_5 b_6).map PJob.m)) = sx0 := sx_0
  have e41 : (newL ((exP b_5 b_6).map PJob.m)) = sx0 := by (try rw [hjM]); exact hold
  have h42 : At w11 b_13 (.cells #[(.slice aj_14 js_18.length cj_15), (.slice al_16 sx0.length cl_17)] 142 (0, 0)) := by have h := h20; rw [e41] at h; exact h
  have h43 : Own w11 56 6 al_16 sx0.length cl_17 (sts sx0) := by have h := h23; rw [e41] at h; exact h
  refine l_v (v := (.tuple #[(.pointer (some ⟨b_13, 0, none⟩)), (.int .i64 0)])) (r_move rfl) ?_
  refine l_v (v := (.pointer (some ⟨b_13, 0, none⟩))) (r_extract rfl rfl) ?_
  refine l_v (v := (.int .i64 0)) (r_extract rfl rfl) ?_
  refine l_v (v := (.pointer (some ⟨b_13, 0, none⟩))) (r_assign rfl) ?_
  refine l_v (v := (.int .i64 0)) (r_assign rfl) ?_
  refine l_nil ?_
  refine (x_then ?_)
  refine c_seq ?_
  refine c_seq ?_
  refine c_region ?_
  refine l_v (v := (.int .i64 0)) (r_move rfl) ?_
  refine l_v (v := (.bool false)) (r_neq_lit rfl rfl rfl) ?_
  refine l_v (v := (.bool false)) (r_move rfl) ?_
  refine l_gv (v := (.pointer (some ⟨b_13, 0, none⟩))) (wanted_run rfl rfl rfl) (r_move rfl) ?_
  refine l_gdo (wanted_run rfl rfl rfl) ?_
  refine d_lit (el := 5) (k' := 1) (ps := [(0, (.int .u8 3)), (1, (.int .u8 1)), (2, (.int .u8 1))]) (cells := #[(.int .u8 3), (.int .u8 1), (.int .u8 1)]) (pc rfl (pc rfl (pc rfl pn))) (by kernel_rfl) rfl (Nat.le_of_ble_eq_true rfl) ?_
  intro w44 b45 f46 a47 h48
  have z49 := f46.size
  have t50 := t36.trans0 f46
  have g51 := ob_one_ge (o := 0) (s := none) a47
  have l52 := h48.lt
  have := ob_one_lt l52
  refine l_gdo (wanted_run rfl rfl rfl) ?_
  have s53 := h48.sl
  have k54 := h42.keep0 f46
  have k55 := h43.keep0 f46
  refine d_call (fl := []) (cl := []) (A := [(.pointer (some ⟨b_13, 0, none⟩)), (.slice (some ⟨b45, 0, none⟩) 3 3)]) (B := [(.pointer (some ⟨b_13, 0, none⟩)), (.slice (some ⟨b45, 0, none⟩) 3 3)]) F.ok81 rfl (ac rfl (ac rfl an)) rfl (are_c (b := b_13) (d := (some ⟨b45, 0, none⟩)) (e := 3) (ws := [3, 1, 1]) (aj := aj_14) (js := js_18) (cj := cj_15) (al := al_16) (ss := sx0) (cl := cl_17) k54 k55 (show Sl w44 _ _ from s53) (by decide)) ?_
  rintro _ w56 ⟨rfl, f57⟩
  have z58 := f57.size
  have t59 := t50.trans0 f57
  have c60 : sx0.map St.state = [3, 1, 1].map u8i := by decide
  refine l_gv (v := (.bool false)) (wanted_run rfl rfl rfl) (r_not (bd rfl c60)) ?_
  refine l_v (v := (.bool false)) (r_pick_f rfl rfl) ?_
  refine l_v (v := (.bool false)) (r_move rfl) ?_
  refine l_gv (v := (.pointer (some ⟨b_13, 0, none⟩))) (wanted_run rfl rfl rfl) (r_move rfl) ?_
  refine l_gdo (wanted_run rfl rfl rfl) ?_
  have k61 := k54.keep0 f57
  have k62 := h21.keep0 f46
  have k63 := k62.keep0 f57
  have k64 := h22.keep0 f46
  have k65 := k64.keep0 f57
  have k66 := k55.keep0 f57
  refine d_call (fl := []) (cl := []) (A := [(.pointer (some ⟨b_13, 0, none⟩)), (.int .i64 0), (.int .i64 7), (.int .i64 3)]) (B := [(.pointer (some ⟨b_13, 0, none⟩)), (.int .i64 0), (.int .i64 7), (.int .i64 3)]) F.ok31 rfl (ac rfl (ac rfl (ac rfl (ac rfl an)))) rfl (start_c (b := b_13) (i := 0) (badge := 7) (now := 3) (aj := aj_14) (js := js_18) (cj := cj_15) (al := al_16) (ss := sx0) (cl := cl_17) (L := L_19) k61 k63 k65 k66 (by rw [hjl]; rfl) hmM p30 p31 p32 trx.1) ?_
  rintro _ w67 ⟨rfl, f68, h69, h70⟩
  have z71 := f68.size
  have t72 := t59.step f68 (ob_new p28 (by omega))
  have e73 : (startC sx0 0 7 3) = 0 := sx_1.1
  have e74 : (startL sx0 0 7 3) = sx1 := by (try rw [hjM]); exact sx_1.2
  have h75 : At w67 b_13 (.cells #[(.slice aj_14 js_18.length cj_15), (.slice al_16 sx1.length cl_17)] 142 (0, 0)) := by have h := h69; rw [e74] at h; exact h
  have h76 : Own w67 56 6 al_16 sx1.length cl_17 (sts sx1) := by have h := h70; rw [e74] at h; exact h
  refine l_gv (v := (.bool false)) (wanted_run rfl rfl rfl) (r_neq_lit (congrArg (Value.int .i64) e73) rfl rfl) ?_
  refine l_v (v := (.bool false)) (r_pick_f rfl rfl) ?_
  refine l_v (v := (.bool false)) (r_move rfl) ?_
  refine l_gv (v := (.pointer (some ⟨b_13, 0, none⟩))) (wanted_run rfl rfl rfl) (r_move rfl) ?_
  refine l_gdo (wanted_run rfl rfl rfl) ?_
  have k77 := k63.keep f68 p31
  have k78 := k65.keep f68 p32
  refine d_call (fl := []) (cl := []) (A := [(.pointer (some ⟨b_13, 0, none⟩)), (.int .i64 0), (.int .i64 7), (.int .i64 0)]) (B := [(.pointer (some ⟨b_13, 0, none⟩)), (.int .i64 0), (.int .i64 7), (.int .i64 0)]) F.ok30 rfl (ac rfl (ac rfl (ac rfl (ac rfl an)))) rfl (end_c (b := b_13) (i := 0) (badge := 7) (number := 0) (aj := aj_14) (js := js_18) (cj := cj_15) (al := al_16) (ss := sx1) (cl := cl_17) (L := L_19) h75 k77 k78 h76 (by rw [hjl]; rfl) hmM p30 p31 p32) ?_
  rintro _ w79 ⟨rfl, f80, h81, h82⟩
  have z83 := f80.size
  have t84 := t72.step f80 (ob_new p28 (by omega))
  have e85 : (endC sx1 0 7 0) = 0 := sx_2.1
  have e86 : (endL (js_18.map JobP.m) sx1 0 7 0) = sx2 := by (try rw [hjM]); exact sx_2.2
  have h87 : At w79 b_13 (.cells #[(.slice aj_14 js_18.length cj_15), (.slice al_16 sx2.length cl_17)] 142 (0, 0)) := by have h := h81; rw [e86] at h; exact h
  have h88 : Own w79 56 6 al_16 sx2.length cl_17 (sts sx2) := by have h := h82; rw [e86] at h; exact h
  refine l_gv (v := (.bool false)) (wanted_run rfl rfl rfl) (r_neq_lit (congrArg (Value.int .i64) e85) rfl rfl) ?_
  refine l_v (v := (.bool false)) (r_pick_f rfl rfl) ?_
  refine l_v (v := (.bool false)) (r_move rfl) ?_
  refine l_gv (v := (.pointer (some ⟨b_13, 0, none⟩))) (wanted_run rfl rfl rfl) (r_move rfl) ?_
  refine l_gdo (wanted_run rfl rfl rfl) ?_
  refine d_lit (el := 5) (k' := 1) (ps := [(0, (.int .u8 5)), (1, (.int .u8 3)), (2, (.int .u8 1))]) (cells := #[(.int .u8 5), (.int .u8 3), (.int .u8 1)]) (pc rfl (pc rfl (pc rfl pn))) (by kernel_rfl) rfl (Nat.le_of_ble_eq_true rfl) ?_
  intro w89 b90 f91 a92 h93
  have z94 := f91.size
  have t95 := t84.trans0 f91
  have g96 := ob_one_ge (o := 0) (s := none) a92
  have l97 := h93.lt
  have := ob_one_lt l97
  refine l_gdo (wanted_run rfl rfl rfl) ?_
  have s98 := h93.sl
  have k99 := h87.keep0 f91
  have k100 := h88.keep0 f91
  refine d_call (fl := []) (cl := []) (A := [(.pointer (some ⟨b_13, 0, none⟩)), (.slice (some ⟨b90, 0, none⟩) 3 3)]) (B := [(.pointer (some ⟨b_13, 0, none⟩)), (.slice (some ⟨b90, 0, none⟩) 3 3)]) F.ok81 rfl (ac rfl (ac rfl an)) rfl (are_c (b := b_13) (d := (some ⟨b90, 0, none⟩)) (e := 3) (ws := [5, 3, 1]) (aj := aj_14) (js := js_18) (cj := cj_15) (al := al_16) (ss := sx2) (cl := cl_17) k99 k100 (show Sl w89 _ _ from s98) (by decide)) ?_
  rintro _ w101 ⟨rfl, f102⟩
  have z103 := f102.size
  have t104 := t95.trans0 f102
  have c105 : sx2.map St.state = [5, 3, 1].map u8i := by decide
  refine l_gv (v := (.bool false)) (wanted_run rfl rfl rfl) (r_not (bd rfl c105)) ?_
  refine l_v (v := (.bool false)) (r_pick_f rfl rfl) ?_
  refine l_v (v := (.bool false)) (r_move rfl) ?_
  refine l_gv (v := (.pointer (some ⟨b_13, 0, none⟩))) (wanted_run rfl rfl rfl) (r_move rfl) ?_
  refine l_gdo (wanted_run rfl rfl rfl) ?_
  have k106 := k99.keep0 f102
  have k107 := k77.keep f80 p31
  have k108 := k107.keep0 f91
  have k109 := k108.keep0 f102
  have k110 := k78.keep f80 p32
  have k111 := k110.keep0 f91
  have k112 := k111.keep0 f102
  have k113 := k100.keep0 f102
  refine d_call (fl := []) (cl := []) (A := [(.pointer (some ⟨b_13, 0, none⟩)), (.int .i64 0), (.int .i64 7), (.int .i64 0)]) (B := [(.pointer (some ⟨b_13, 0, none⟩)), (.int .i64 0), (.int .i64 7), (.int .i64 0)]) F.ok30 rfl (ac rfl (ac rfl (ac rfl (ac rfl an)))) rfl (end_c (b := b_13) (i := 0) (badge := 7) (number := 0) (aj := aj_14) (js := js_18) (cj := cj_15) (al := al_16) (ss := sx2) (cl := cl_17) (L := L_19) k106 k109 k112 k113 (by rw [hjl]; rfl) hmM p30 p31 p32) ?_
  rintro _ w114 ⟨rfl, f115, h116, h117⟩
  have z118 := f115.size
  have t119 := t104.step f115 (ob_new p28 (by omega))
  have e120 : (endC sx2 0 7 0) = 60 := sx_3.1
  have e121 : (endL (js_18.map JobP.m) sx2 0 7 0) = sx2 := by (try rw [hjM]); exact sx_3.2
  have h122 : At w114 b_13 (.cells #[(.slice aj_14 js_18.length cj_15), (.slice al_16 sx2.length cl_17)] 142 (0, 0)) := by have h := h116; rw [e121] at h; exact h
  have h123 : Own w114 56 6 al_16 sx2.length cl_17 (sts sx2) := by have h := h117; rw [e121] at h; exact h
  refine l_gv (v := (.bool false)) (wanted_run rfl rfl rfl) (r_neq_lit (congrArg (Value.int .i64) e120) rfl rfl) ?_
  refine l_v (v := (.bool false)) (r_pick_f rfl rfl) ?_
  refine l_v (v := (.bool false)) (r_move rfl) ?_
  refine l_gv (v := (.pointer (some ⟨b_13, 0, none⟩))) (wanted_run rfl rfl rfl) (r_move rfl) ?_
  refine l_gdo (wanted_run rfl rfl rfl) ?_
  have k124 := k109.keep f115 p31
  have k125 := k112.keep f115 p32
  refine d_call (fl := []) (cl := []) (A := [(.pointer (some ⟨b_13, 0, none⟩)), (.int .i64 1), (.int .i64 8), (.int .i64 4)]) (B := [(.pointer (some ⟨b_13, 0, none⟩)), (.int .i64 1), (.int .i64 8), (.int .i64 4)]) F.ok31 rfl (ac rfl (ac rfl (ac rfl (ac rfl an)))) rfl (start_c (b := b_13) (i := 1) (badge := 8) (now := 4) (aj := aj_14) (js := js_18) (cj := cj_15) (al := al_16) (ss := sx2) (cl := cl_17) (L := L_19) h122 k124 k125 h123 (by rw [hjl]; rfl) hmM p30 p31 p32 trx.2.1) ?_
  rintro _ w126 ⟨rfl, f127, h128, h129⟩
  have z130 := f127.size
  have t131 := t119.step f127 (ob_new p28 (by omega))
  have e132 : (startC sx2 1 8 4) = 0 := sx_4.1
  have e133 : (startL sx2 1 8 4) = sx3 := by (try rw [hjM]); exact sx_4.2
  have h134 : At w126 b_13 (.cells #[(.slice aj_14 js_18.length cj_15), (.slice al_16 sx3.length cl_17)] 142 (0, 0)) := by have h := h128; rw [e133] at h; exact h
  have h135 : Own w126 56 6 al_16 sx3.length cl_17 (sts sx3) := by have h := h129; rw [e133] at h; exact h
  refine l_gv (v := (.bool false)) (wanted_run rfl rfl rfl) (r_neq_lit (congrArg (Value.int .i64) e132) rfl rfl) ?_
  refine l_v (v := (.bool false)) (r_pick_f rfl rfl) ?_
  refine l_v (v := (.bool false)) (r_move rfl) ?_
  refine l_gv (v := (.pointer (some ⟨b_13, 0, none⟩))) (wanted_run rfl rfl rfl) (r_move rfl) ?_
  refine l_gdo (wanted_run rfl rfl rfl) ?_
  have k136 := k124.keep f127 p31
  have k137 := k125.keep f127 p32
  refine d_call (fl := []) (cl := []) (A := [(.pointer (some ⟨b_13, 0, none⟩)), (.int .i64 1), (.int .i64 8), (.int .i64 2)]) (B := [(.pointer (some ⟨b_13, 0, none⟩)), (.int .i64 1), (.int .i64 8), (.int .i64 2)]) F.ok30 rfl (ac rfl (ac rfl (ac rfl (ac rfl an)))) rfl (end_c (b := b_13) (i := 1) (badge := 8) (number := 2) (aj := aj_14) (js := js_18) (cj := cj_15) (al := al_16) (ss := sx3) (cl := cl_17) (L := L_19) h134 k136 k137 h135 (by rw [hjl]; rfl) hmM p30 p31 p32) ?_
  rintro _ w138 ⟨rfl, f139, h140, h141⟩
  have z142 := f139.size
  have t143 := t131.step f139 (ob_new p28 (by omega))
  have e144 : (endC sx3 1 8 2) = 0 := sx_5.1
  have e145 : (endL (js_18.map JobP.m) sx3 1 8 2) = sx4 := by (try rw [hjM]); exact sx_5.2
  have h146 : At w138 b_13 (.cells #[(.slice aj_14 js_18.length cj_15), (.slice al_16 sx4.length cl_17)] 142 (0, 0)) := by have h := h140; rw [e145] at h; exact h
  have h147 : Own w138 56 6 al_16 sx4.length cl_17 (sts sx4) := by have h := h141; rw [e145] at h; exact h
  refine l_gv (v := (.bool false)) (wanted_run rfl rfl rfl) (r_neq_lit (congrArg (Value.int .i64) e144) rfl rfl) ?_
  refine l_v (v := (.bool false)) (r_pick_f rfl rfl) ?_
  refine l_v (v := (.bool false)) (r_move rfl) ?_
  refine l_gv (v := (.pointer (some ⟨b_13, 0, none⟩))) (wanted_run rfl rfl rfl) (r_move rfl) ?_
  refine l_gdo (wanted_run rfl rfl rfl) ?_
  refine d_lit (el := 5) (k' := 1) (ps := [(0, (.int .u8 5)), (1, (.int .u8 3)), (2, (.int .u8 1))]) (cells := #[(.int .u8 5), (.int .u8 3), (.int .u8 1)]) (pc rfl (pc rfl (pc rfl pn))) (by kernel_rfl) rfl (Nat.le_of_ble_eq_true rfl) ?_
  intro w148 b149 f150 a151 h152
  have z153 := f150.size
  have t154 := t143.trans0 f150
  have g155 := ob_one_ge (o := 0) (s := none) a151
  have l156 := h152.lt
  have := ob_one_lt l156
  refine l_gdo (wanted_run rfl rfl rfl) ?_
  have s157 := h152.sl
  have k158 := h146.keep0 f150
  have k159 := h147.keep0 f150
  refine d_call (fl := []) (cl := []) (A := [(.pointer (some ⟨b_13, 0, none⟩)), (.slice (some ⟨b149, 0, none⟩) 3 3)]) (B := [(.pointer (some ⟨b_13, 0, none⟩)), (.slice (some ⟨b149, 0, none⟩) 3 3)]) F.ok81 rfl (ac rfl (ac rfl an)) rfl (are_c (b := b_13) (d := (some ⟨b149, 0, none⟩)) (e := 3) (ws := [5, 3, 1]) (aj := aj_14) (js := js_18) (cj := cj_15) (al := al_16) (ss := sx4) (cl := cl_17) k158 k159 (show Sl w148 _ _ from s157) (by decide)) ?_
  rintro _ w160 ⟨rfl, f161⟩
  have z162 := f161.size
  have t163 := t154.trans0 f161
  have c164 : sx4.map St.state = [5, 3, 1].map u8i := by decide
  refine l_gv (v := (.bool false)) (wanted_run rfl rfl rfl) (r_not (bd rfl c164)) ?_
  refine l_v (v := (.bool false)) (r_pick_f rfl rfl) ?_
  refine l_v (v := (.bool false)) (r_move rfl) ?_
  refine l_gv (v := (.pointer (some ⟨b_13, 0, none⟩))) (wanted_run rfl rfl rfl) (r_move rfl) ?_
  refine l_gdo (wanted_run rfl rfl rfl) ?_
  have k165 := k158.keep0 f161
  have k166 := k136.keep f139 p31
  have k167 := k166.keep0 f150
  have k168 := k167.keep0 f161
  have k169 := k137.keep f139 p32
  have k170 := k169.keep0 f150
  have k171 := k170.keep0 f161
  have k172 := k159.keep0 f161
  refine d_call (fl := []) (cl := []) (A := [(.pointer (some ⟨b_13, 0, none⟩)), (.int .i64 1), (.int .i64 9), (.int .i64 5)]) (B := [(.pointer (some ⟨b_13, 0, none⟩)), (.int .i64 1), (.int .i64 9), (.int .i64 5)]) F.ok31 rfl (ac rfl (ac rfl (ac rfl (ac rfl an)))) rfl (start_c (b := b_13) (i := 1) (badge := 9) (now := 5) (aj := aj_14) (js := js_18) (cj := cj_15) (al := al_16) (ss := sx4) (cl := cl_17) (L := L_19) k165 k168 k171 k172 (by rw [hjl]; rfl) hmM p30 p31 p32 trx.2.2) ?_
  rintro _ w173 ⟨rfl, f174, h175, h176⟩
  have z177 := f174.size
  have t178 := t163.step f174 (ob_new p28 (by omega))
  have e179 : (startC sx4 1 9 5) = 0 := sx_6.1
  have e180 : (startL sx4 1 9 5) = sx5 := by (try rw [hjM]); exact sx_6.2
  have h181 : At w173 b_13 (.cells #[(.slice aj_14 js_18.length cj_15), (.slice al_16 sx5.length cl_17)] 142 (0, 0)) := by have h := h175; rw [e180] at h; exact h
  have h182 : Own w173 56 6 al_16 sx5.length cl_17 (sts sx5) := by have h := h176; rw [e180] at h; exact h
  refine l_gv (v := (.bool false)) (wanted_run rfl rfl rfl) (r_neq_lit (congrArg (Value.int .i64) e179) rfl rfl) ?_
  refine l_v (v := (.bool false)) (r_pick_f rfl rfl) ?_
  refine l_v (v := (.bool false)) (r_move rfl) ?_
  refine l_gv (v := (.pointer (some ⟨b_13, 0, none⟩))) (wanted_run rfl rfl rfl) (r_move rfl) ?_
  refine l_gdo (wanted_run rfl rfl rfl) ?_
  have k183 := k168.keep f174 p31
  have k184 := k171.keep f174 p32
  refine d_call (fl := []) (cl := []) (A := [(.pointer (some ⟨b_13, 0, none⟩)), (.int .i64 1), (.int .i64 9)]) (B := [(.pointer (some ⟨b_13, 0, none⟩)), (.int .i64 1), (.int .i64 9)]) F.ok82 rfl (ac rfl (ac rfl (ac rfl an))) rfl (lose_c (b := b_13) (i := 1) (badge := 9) (aj := aj_14) (js := js_18) (cj := cj_15) (al := al_16) (ss := sx5) (cl := cl_17) (L := L_19) h181 k183 k184 h182 (by rw [hjl]; rfl) hmM p30 p31 p32) ?_
  rintro _ w185 ⟨rfl, f186, h187, h188⟩
  have z189 := f186.size
  have t190 := t178.step f186 (ob_new p28 (by omega))
  have e191 : (runsC sx5 1 9) = 0 := sx_7.1
  have e192 : (endsL (js_18.map JobP.m) sx5 1 9 7 0) = sx6 := by (try rw [hjM]); exact sx_7.2
  have h193 : At w185 b_13 (.cells #[(.slice aj_14 js_18.length cj_15), (.slice al_16 sx6.length cl_17)] 142 (0, 0)) := by have h := h187; rw [e192] at h; exact h
  have h194 : Own w185 56 6 al_16 sx6.length cl_17 (sts sx6) := by have h := h188; rw [e192] at h; exact h
  refine l_gv (v := (.bool false)) (wanted_run rfl rfl rfl) (r_neq_lit (congrArg (Value.int .i64) e191) rfl rfl) ?_
  refine l_v (v := (.bool false)) (r_pick_f rfl rfl) ?_
  refine l_nil ?_
  refine (x_then ?_)
  refine c_false rfl ?_
  refine c_skip ?_
  refine (x_then ?_)
  refine c_seq ?_
  refine c_region ?_
  refine l_v (v := (.pointer (some ⟨b_13, 0, none⟩))) (r_move rfl) ?_
  refine l_do rfl ?_
  refine d_lit (el := 5) (k' := 1) (ps := [(0, (.int .u8 5)), (1, (.int .u8 7)), (2, (.int .u8 10))]) (cells := #[(.int .u8 5), (.int .u8 7), (.int .u8 10)]) (pc rfl (pc rfl (pc rfl pn))) (by kernel_rfl) rfl (Nat.le_of_ble_eq_true rfl) ?_
  intro w195 b196 f197 a198 h199
  have z200 := f197.size
  have t201 := t190.trans0 f197
  have g202 := ob_one_ge (o := 0) (s := none) a198
  have l203 := h199.lt
  have := ob_one_lt l203
  refine l_do rfl ?_
  have s204 := h199.sl
  have k205 := h193.keep0 f197
  have k206 := h194.keep0 f197
  refine d_call (fl := []) (cl := []) (A := [(.pointer (some ⟨b_13, 0, none⟩)), (.slice (some ⟨b196, 0, none⟩) 3 3)]) (B := [(.pointer (some ⟨b_13, 0, none⟩)), (.slice (some ⟨b196, 0, none⟩) 3 3)]) F.ok81 rfl (ac rfl (ac rfl an)) rfl (are_c (b := b_13) (d := (some ⟨b196, 0, none⟩)) (e := 3) (ws := [5, 7, 10]) (aj := aj_14) (js := js_18) (cj := cj_15) (al := al_16) (ss := sx6) (cl := cl_17) k205 k206 (show Sl w195 _ _ from s204) (by decide)) ?_
  rintro _ w207 ⟨rfl, f208⟩
  have z209 := f208.size
  have t210 := t201.trans0 f208
  have c211 : sx6.map St.state = [5, 7, 10].map u8i := by decide
  refine l_v (v := (.bool (decide (sx6.map St.state = [5, 7, 10].map u8i)))) (r_move rfl) ?_
  refine l_gv (v := (.pointer (some ⟨b_13, 0, none⟩))) (wanted_run rfl rfl (bd rfl c211)) (r_move rfl) ?_
  refine l_gdo (wanted_run rfl rfl (bd rfl c211)) ?_
  have k212 := k205.keep0 f208
  have k213 := k206.keep0 f208
  refine d_call (fl := []) (cl := []) (A := [(.pointer (some ⟨b_13, 0, none⟩))]) (B := [(.pointer (some ⟨b_13, 0, none⟩))]) F.ok28 rfl (ac rfl an) rfl (over_c (b := b_13) (aj := aj_14) (js := js_18) (cj := cj_15) (al := al_16) (ss := sx6) (cl := cl_17) k212 k213 (by decide)) ?_
  rintro _ w214 ⟨rfl, f215⟩
  have z216 := f215.size
  have t217 := t210.trans0 f215
  refine l_v (v := (.bool (decide ((((picks (fun _ s => !(endd s.state)) sx6).length : Nat) : Int) = 0)))) (r_pick_t (bd rfl c211) rfl) ?_
  refine l_v (v := (.bool (decide ((((picks (fun _ s => !(endd s.state)) sx6).length : Nat) : Int) = 0)))) (r_assign rfl) ?_
  refine l_nil ?_
  refine (x_then ?_)
  refine c_ret ?_
  refine p_ret (v := (.bool (decide ((((picks (fun _ s => !(endd s.state)) sx6).length : Nat) : Int) = 0)))) (res1 rfl rfl) ?_
  exact ⟨(by rw [decide_eq_true sx_over]), t217⟩

end Go.Sy
