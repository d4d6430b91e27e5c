/- The laws of trigger, walked. -/
import Derived.Test.YtnhpfhhpochgfaaWTrigL
import Derived.Test.YtnhpfhhpochgfaaWRef29L
namespace Go.Sy
set_option linter.unusedVariables false
set_option linter.unusedSimpArgs false

set_option maxHeartbeats 400000 in
set_option maxRecDepth 100000 in
theorem loads_none_c {w : World} {a : Option Addr} {c : Nat} {bs : List UInt8} (h1 : Ro w a bs.length c (bv bs)) (hn : loadE bs = none) :
    Calls Proofs.Try.prog 3 #[(.slice a bs.length c)] w (Ret fun v w' => v = (.bool true) ∧ Fr [] w w') := by
  have lt_h1 := h1.lt
  have t0 : Fr [] w w := Fr.refl _ _
  refine enter Proofs.Try.func3 rfl Proofs.Try.ntmps3 (Nat.le_of_ble_eq_true rfl) ?_
  refine c_seq ?_
  refine c_region ?_
  refine l_v (v := (.bool false)) (r_assign rfl) ?_
  refine l_nil ?_
  refine (x_then ?_)
  refine c_seq ?_
  refine c_seq ?_
  refine c_region ?_
  refine l_v (v := (.slice a bs.length c)) (r_move rfl) ?_
  refine l_v (v := (.int .i64 ((bs.length : Nat) : Int))) (r_lenSl F.sl22 rfl) ?_
  refine l_v (v := (.bool (decide (2000 < ((bs.length : Nat) : Int))))) (r_gtr rfl rfl) ?_
  refine l_nil ?_
  refine (x_then ?_)
  refine c_if (p := 2000 < ((bs.length : Nat) : Int)) rfl (fun c1 => ?_) (fun c1 => ?_)
  ·
    refine c_seq ?_
    refine c_region ?_
    refine l_v (v := (.bool true)) (r_assign rfl) ?_
    refine l_nil ?_
    refine (x_then ?_)
    refine c_ret ?_
    refine (x_then_r ?_)
    refine p_ret (v := (.bool true)) (res1 rfl rfl) ?_
    exact ⟨rfl, t0⟩
  ·
    refine c_skip ?_
    refine (x_then ?_)
    refine c_seq ?_
    refine c_region ?_
    refine l_do rfl ?_
    refine d_lit (el := 5) (k' := 1) (ps := []) (cells := #[]) pn (by kernel_rfl) rfl (Nat.le_of_ble_eq_true rfl) ?_
    intro w2 b3 f4 a5 h6
    have z7 := f4.size
    have t8 := t0.trans0 f4
    have g9 := ob_one_ge (o := 0) (s := none) a5
    have l10 := h6.lt
    have := ob_one_lt l10
    refine l_v (v := (.slice a bs.length c)) (r_move rfl) ?_
    refine l_do rfl ?_
    have k18 := h1.keep0 f4
    have s19 := k18.sl
    refine d_appendN (news := bv bs) (nn := bs.length) (cs' := bv bs) Proofs.Try.underlying22 F.inf5 rfl (Nat.le_of_ble_eq_true rfl) rfl h6 rfl s19 (by rw [bv_len]; omega) (bv_one bs) (by omega) (by simp only [maxLen]; omega) (by omega) (by simp) ?_
    intro w11 a_14 c_15 f12 h13 g16 n17
    have z20 := f12.size
    have t21 := t8.step f12 (ob_new g9 (by omega))
    have l22 := h13.lt
    have g23 := ob_age g9 g16 (by omega)
    refine l_v (v := (.slice a_14 bs.length c_15)) (r_assign rfl) ?_
    refine l_nil ?_
    refine (x_then ?_)
    refine c_seq ?_
    refine c_region ?_
    refine l_v (v := (.slice a_14 bs.length c_15)) (r_move rfl) ?_
    refine l_do rfl ?_
    have s24 := h13.sl
    refine d_call (fl := []) (cl := []) (A := [(.slice a_14 bs.length c_15)]) (B := [(.slice a_14 bs.length c_15)]) F.ok16 rfl (ac rfl an) rfl (load_none_c (a0 := a_14) (bs := bs) (c0 := c_15) s24 (by omega) hn) ?_
    rintro _ w25 ⟨rfl, f26⟩
    have z27 := f26.size
    have t28 := t21.trans0 f26
    refine l_v (v := (.tuple #[(.pointer none), (.int .i64 4)])) (r_move rfl) ?_
    refine l_v (v := (.pointer none)) (r_extract rfl rfl) ?_
    refine l_v (v := (.int .i64 4)) (r_extract rfl rfl) ?_
    refine l_v (v := (.pointer none)) (r_assign rfl) ?_
    refine l_v (v := (.int .i64 4)) (r_assign rfl) ?_
    refine l_nil ?_
    refine (x_then ?_)
    refine c_seq ?_
    refine c_region ?_
    refine l_v (v := (.slice a bs.length c)) (r_move rfl) ?_
    refine l_do rfl ?_
    have k29 := k18.keep f12 (ob_not1 (not_ob_old lt_h1 (by omega)))
    have k30 := k29.keep0 f26
    refine d_call (fl := []) (cl := []) (A := [(.slice a bs.length c)]) (B := [(.slice a bs.length c)]) F.ok17 rfl (ac rfl an) rfl (rload_none_c (a0 := a) (bs := bs) (c0 := c) k30 (by omega) hn) ?_
    rintro _ w31 ⟨rfl, f32⟩
    have z33 := f32.size
    have t34 := t28.trans0 f32
    refine l_v (v := (.tuple #[(.pointer none), (.int .i64 4)])) (r_move rfl) ?_
    refine l_v (v := (.pointer none)) (r_extract rfl rfl) ?_
    refine l_v (v := (.int .i64 4)) (r_extract rfl rfl) ?_
    refine l_v (v := (.pointer none)) (r_assign rfl) ?_
    refine l_v (v := (.int .i64 4)) (r_assign rfl) ?_
    refine l_nil ?_
    refine (x_then ?_)
    refine c_seq ?_
    refine c_seq ?_
    refine c_region ?_
    refine l_v (v := (.int .i64 4)) (r_move rfl) ?_
    refine l_v (v := (.int .i64 4)) (r_move rfl) ?_
    refine l_v (v := (.bool false)) (r_neq_lit rfl rfl rfl) ?_
    refine l_v (v := (.bool false)) (r_move rfl) ?_
    refine l_gv (v := (.int .i64 4)) (wanted_run rfl rfl rfl) (r_move rfl) ?_
    refine l_gv (v := (.bool true)) (wanted_run rfl rfl rfl) (r_neq_lit rfl rfl rfl) ?_
    refine l_v (v := (.bool true)) (r_pick_f rfl rfl) ?_
    refine l_nil ?_
    refine (x_then ?_)
    refine c_true rfl ?_
    refine c_seq ?_
    refine c_region ?_
    refine l_v (v := (.int .i64 4)) (r_move rfl) ?_
    refine l_v (v := (.int .i64 4)) (r_move rfl) ?_
    refine l_v (v := (.bool true)) (r_eql_lit rfl rfl rfl) ?_
    refine l_v (v := (.bool true)) (r_move rfl) ?_
    refine l_gv (v := (.pointer none)) (wanted_run rfl rfl rfl) (r_move rfl) ?_
    refine l_gv (v := (.bool true)) (wanted_run rfl rfl rfl) (r_eqlPn (a := none) F.ptr23 rfl) ?_
    refine l_v (v := (.bool true)) (r_pick_t rfl rfl) ?_
    refine l_v (v := (.bool true)) (r_assign rfl) ?_
    refine l_nil ?_
    refine (x_then ?_)
    refine c_ret ?_
    refine (x_then_r ?_)
    refine p_ret (v := (.bool true)) (res1 rfl rfl) ?_
    exact ⟨rfl, t34⟩

set_option maxHeartbeats 400000 in
set_option maxRecDepth 100000 in
theorem loads_some_c {w : World} {a : Option Addr} {c : Nat} {bs : List UInt8} {ys : List Ev} (h1 : Ro w a bs.length c (bv bs)) (hn : loadE bs = some ys) :
    Calls Proofs.Try.prog 3 #[(.slice a bs.length c)] w (Ret fun v w' => v = (.bool true) ∧ Fr [] w w') := by
  have lt_h1 := h1.lt
  have t0 : Fr [] w w := Fr.refl _ _
  refine enter Proofs.Try.func3 rfl Proofs.Try.ntmps3 (Nat.le_of_ble_eq_true rfl) ?_
  refine c_seq ?_
  refine c_region ?_
  refine l_v (v := (.bool false)) (r_assign rfl) ?_
  refine l_nil ?_
  refine (x_then ?_)
  refine c_seq ?_
  refine c_seq ?_
  refine c_region ?_
  refine l_v (v := (.slice a bs.length c)) (r_move rfl) ?_
  refine l_v (v := (.int .i64 ((bs.length : Nat) : Int))) (r_lenSl F.sl22 rfl) ?_
  refine l_v (v := (.bool (decide (2000 < ((bs.length : Nat) : Int))))) (r_gtr rfl rfl) ?_
  refine l_nil ?_
  refine (x_then ?_)
  refine c_if (p := 2000 < ((bs.length : Nat) : Int)) rfl (fun c1 => ?_) (fun c1 => ?_)
  ·
    refine c_seq ?_
    refine c_region ?_
    refine l_v (v := (.bool true)) (r_assign rfl) ?_
    refine l_nil ?_
    refine (x_then ?_)
    refine c_ret ?_
    refine (x_then_r ?_)
    refine p_ret (v := (.bool true)) (res1 rfl rfl) ?_
    exact ⟨(by simp [*, load_bytes hn]), t0⟩
  ·
    refine c_skip ?_
    refine (x_then ?_)
    refine c_seq ?_
    refine c_region ?_
    refine l_do rfl ?_
    refine d_lit (el := 5) (k' := 1) (ps := []) (cells := #[]) pn (by kernel_rfl) rfl (Nat.le_of_ble_eq_true rfl) ?_
    intro w2 b3 f4 a5 h6
    have z7 := f4.size
    have t8 := t0.trans0 f4
    have g9 := ob_one_ge (o := 0) (s := none) a5
    have l10 := h6.lt
    have := ob_one_lt l10
    refine l_v (v := (.slice a bs.length c)) (r_move rfl) ?_
    refine l_do rfl ?_
    have k18 := h1.keep0 f4
    have s19 := k18.sl
    refine d_appendN (news := bv bs) (nn := bs.length) (cs' := bv bs) Proofs.Try.underlying22 F.inf5 rfl (Nat.le_of_ble_eq_true rfl) rfl h6 rfl s19 (by rw [bv_len]; omega) (bv_one bs) (by omega) (by simp only [maxLen]; omega) (by omega) (by simp) ?_
    intro w11 a_14 c_15 f12 h13 g16 n17
    have z20 := f12.size
    have t21 := t8.step f12 (ob_new g9 (by omega))
    have l22 := h13.lt
    have g23 := ob_age g9 g16 (by omega)
    refine l_v (v := (.slice a_14 bs.length c_15)) (r_assign rfl) ?_
    refine l_nil ?_
    refine (x_then ?_)
    refine c_seq ?_
    refine c_region ?_
    refine l_v (v := (.slice a_14 bs.length c_15)) (r_move rfl) ?_
    refine l_do rfl ?_
    have s24 := h13.sl
    refine d_call (fl := []) (cl := []) (A := [(.slice a_14 bs.length c_15)]) (B := [(.slice a_14 bs.length c_15)]) F.ok16 rfl (ac rfl an) rfl (load_some_c (a0 := a_14) (bs := bs) (c0 := c_15) s24 (by omega) hn) ?_
    rintro _ w25 ⟨b_27, a_28, c_29, rfl, f26, h30, h31, p32, p33, p34⟩
    have z35 := f26.size
    have t36 := t21.trans0 f26
    have l37 := h30.lt
    have l39 := h31.lt
    refine l_v (v := (.tuple #[(.pointer (some ⟨b_27, 0, none⟩)), (.int .i64 0)])) (r_move rfl) ?_
    refine l_v (v := (.pointer (some ⟨b_27, 0, none⟩))) (r_extract rfl rfl) ?_
    refine l_v (v := (.int .i64 0)) (r_extract rfl rfl) ?_
    refine l_v (v := (.pointer (some ⟨b_27, 0, none⟩))) (r_assign rfl) ?_
    refine l_v (v := (.int .i64 0)) (r_assign rfl) ?_
    refine l_nil ?_
    refine (x_then ?_)
    refine c_seq ?_
    refine c_region ?_
    refine l_v (v := (.slice a bs.length c)) (r_move rfl) ?_
    refine l_do rfl ?_
    have k40 := k18.keep f12 (ob_not1 (not_ob_old lt_h1 (by omega)))
    have k41 := k40.keep0 f26
    refine d_call (fl := []) (cl := []) (A := [(.slice a bs.length c)]) (B := [(.slice a bs.length c)]) F.ok17 rfl (ac rfl an) rfl (rload_some_c (a0 := a) (bs := bs) (c0 := c) k41 (by omega) hn) ?_
    rintro _ w42 ⟨b_44, a_45, c_46, rfl, f43, h47, h48, p49, p50, p51⟩
    have z52 := f43.size
    have t53 := t36.trans0 f43
    have l54 := h47.lt
    have l55 := h48.lt
    refine l_v (v := (.tuple #[(.pointer (some ⟨b_44, 0, none⟩)), (.int .i64 0)])) (r_move rfl) ?_
    refine l_v (v := (.pointer (some ⟨b_44, 0, none⟩))) (r_extract rfl rfl) ?_
    refine l_v (v := (.int .i64 0)) (r_extract rfl rfl) ?_
    refine l_v (v := (.pointer (some ⟨b_44, 0, none⟩))) (r_assign rfl) ?_
    refine l_v (v := (.int .i64 0)) (r_assign rfl) ?_
    refine l_nil ?_
    refine (x_then ?_)
    refine c_seq ?_
    refine c_seq ?_
    refine c_region ?_
    refine l_v (v := (.int .i64 0)) (r_move rfl) ?_
    refine l_v (v := (.int .i64 0)) (r_move rfl) ?_
    refine l_v (v := (.bool false)) (r_neq_lit rfl rfl rfl) ?_
    refine l_v (v := (.bool false)) (r_move rfl) ?_
    refine l_gv (v := (.int .i64 0)) (wanted_run rfl rfl rfl) (r_move rfl) ?_
    refine l_gv (v := (.bool false)) (wanted_run rfl rfl rfl) (r_neq_lit rfl rfl rfl) ?_
    refine l_v (v := (.bool false)) (r_pick_f rfl rfl) ?_
    refine l_nil ?_
    refine (x_then ?_)
    refine c_false rfl ?_
    refine c_skip ?_
    refine (x_then ?_)
    refine c_seq ?_
    refine c_seq ?_
    refine c_region ?_
    refine l_v (v := (.int .i64 0)) (r_assign rfl) ?_
    refine l_nil ?_
    refine (x_then ?_)
    refine c_block ?_
    have k56 := h13.keep0 f26
    have k57 := k56.keep0 f43
    refine c_loop (fun (m : Nat) (e' : Nat → Value) (w' : World) => ∃ k : Nat, ∃ xx : List Value, m = bs.length - k ∧ e' 0 = (.slice a bs.length c) ∧ e' 2 = (.bool false) ∧ e' 3 = (.slice a_14 bs.length c_15) ∧ e' 4 = (.pointer (some ⟨b_27, 0, none⟩)) ∧ e' 5 = (.int .i64 0) ∧ e' 6 = (.pointer (some ⟨b_44, 0, none⟩)) ∧ e' 7 = (.int .i64 0) ∧ e' 8 = (.int .i64 ((k : Nat) : Int)) ∧ e' 9 = (.slice a bs.length c) ∧ e' 10 = (.int .i64 ((bs.length : Nat) : Int)) ∧ e' 11 = (.bool (decide (2000 < ((bs.length : Nat) : Int)))) ∧ e' 12 = (.slice (some ⟨b3, 0, none⟩) 0 0) ∧ e' 13 = (.slice a bs.length c) ∧ e' 14 = (.slice a_14 bs.length c_15) ∧ e' 15 = (.tuple #[(.pointer (some ⟨b_27, 0, none⟩)), (.int .i64 0)]) ∧ e' 16 = (.slice a_14 bs.length c_15) ∧ e' 17 = (.tuple #[(.pointer (some ⟨b_27, 0, none⟩)), (.int .i64 0)]) ∧ e' 18 = (.pointer (some ⟨b_27, 0, none⟩)) ∧ e' 19 = (.int .i64 0) ∧ e' 20 = (.tuple #[(.pointer (some ⟨b_44, 0, none⟩)), (.int .i64 0)]) ∧ e' 21 = (.slice a bs.length c) ∧ e' 22 = (.tuple #[(.pointer (some ⟨b_44, 0, none⟩)), (.int .i64 0)]) ∧ e' 23 = (.pointer (some ⟨b_44, 0, none⟩)) ∧ e' 24 = (.int .i64 0) ∧ e' 25 = (.int .i64 0) ∧ e' 26 = (.int .i64 0) ∧ e' 27 = (.bool false) ∧ e' 28 = (.bool false) ∧ e' 29 = (.int .i64 0) ∧ e' 30 = (.bool false) ∧ e' 31 = (.bool false) ∧ Fr (ob a_14) w42 w' ∧ Own w' 5 1 a_14 bs.length c_15 xx ∧ (k ≤ bs.length)) (bs.length - 0) ⟨0, bv bs, rfl, rfl, rfl, rfl, rfl, rfl, rfl, rfl, rfl, rfl, rfl, rfl, rfl, rfl, rfl, rfl, rfl, rfl, rfl, rfl, rfl, rfl, rfl, rfl, rfl, rfl, rfl, rfl, rfl, rfl, rfl, rfl, Fr.refl _ _, k57, (by omega)⟩ ?_
    rintro m_f60 e58 w59 ⟨k, xx, hm_f60, s61, s62, s63, s64, s65, s66, s67, s68, s69, s70, s71, s72, s73, s74, s75, s76, s77, s78, s79, s80, s81, s82, s83, s84, s85, s86, s87, s88, s89, s90, s91, f60, h92, p93⟩
    have z94 := f60.size
    have t95 := t53.step f60 (ob_new g23 (by omega))
    have t_f60 : Fr (ob a_14) w42 w59 := f60
    refine c_seq ?_
    refine c_seq ?_
    refine c_region ?_
    refine l_v (v := (.int .i64 ((k : Nat) : Int))) (r_move s68) ?_
    refine l_v (v := (.slice a_14 bs.length c_15)) (r_move s63) ?_
    refine l_v (v := (.int .i64 ((bs.length : Nat) : Int))) (r_lenSl F.sl22 rfl) ?_
    refine l_v (v := (.bool (decide (((k : Nat) : Int) < ((bs.length : Nat) : Int))))) (r_lss rfl rfl) ?_
    refine l_nil ?_
    refine (x_then ?_)
    refine c_if (p := ((k : Nat) : Int) < ((bs.length : Nat) : Int)) rfl (fun c96 => ?_) (fun c96 => ?_)
    ·
      refine c_skip ?_
      refine (x_then ?_)
      refine c_seq ?_
      refine c_block ?_
      refine c_region ?_
      refine l_v (v := (.slice a_14 bs.length c_15)) (r_move s63) ?_
      refine l_v (v := (.int .i64 ((k : Nat) : Int))) (r_move s68) ?_
      refine l_v (v := (.pointer (some ((adr a_14).add k)))) (r_indexAddr F.sle22 rfl rfl (h92.sl.some (by rw [h92.len]; omega)) (by omega) (by omega) (by first | rfl | simp | omega)) ?_
      refine l_do rfl ?_
      refine d_storeE (v := (.int .u8 122)) F.sz5 rfl rfl rfl h92 (by omega) ?_
      intro w97 f98 h99
      have z100 := f98.size
      have t101 := t95.step f98 (ob_new g23 (by omega))
      have t102 := t_f60.step f98 (ob_in (by intro x hx; simp [hx]))
      refine l_nil ?_
      refine (x_blk (x_then ?_))
      refine c_region ?_
      refine l_v (v := (.int .i64 ((k : Nat) : Int))) (r_move s68) ?_
      refine l_v (v := (.int .i64 ((k + 1 : Nat) : Int))) (r_add rfl rfl (w64 (by omega) (by omega) (by omega))) ?_
      refine l_v (v := (.int .i64 ((k + 1 : Nat) : Int))) (r_assign rfl) ?_
      refine l_nil ?_
      refine (x_then ?_)
      exact ⟨_, _, (by omega), rfl, k + 1, spl xx k [(.int .u8 122)], rfl, s61, s62, s63, s64, s65, s66, s67, rfl, s69, s70, s71, s72, s73, s74, s75, s76, s77, s78, s79, s80, s81, s82, s83, s84, s85, s86, s87, s88, s89, s90, s91, t102, h99, (by omega)⟩
    ·
      refine c_exit ?_
      refine (x_then_x (x_then_x (x_blk_hit (x_then ?_))))
      refine c_seq ?_
      refine f_start (masks := [0, 1, 3, 0, 8, 24, 56, 127, 255, 511, 1023, 2047, 511, 4607, 16383, 32767, 65535]) (F := Fs [(6, fun w => At w b_44 (.cells #[(.slice a_45 ys.length c_46)] 36 (0, 0)))]) #[false, false, false, false, false, false, false, false, false, false, false, false, false, false, false, false, false] F.mixed rfl rfl (by kernel_rfl) ?_
      intro w104 f105 r106
      have z107 := f105.size
      have t108 := t95.trans0 f105
      have t109 := t_f60.trans0 f105
      refine f_take (i := 0) (v := (.pointer (some ⟨b_27, 0, none⟩))) #[true, false, false, false, false, false, false, false, false, false, false, false, false, false, false, false, false] r106 rfl (by kernel_rfl) (fun _ _ _ h => h) rfl (fs_none rfl) (fun w hF => r_move s64) ?_
      refine f_take (i := 3) (v := (.pointer (some ⟨b_44, 0, none⟩))) #[true, false, false, true, false, false, false, false, false, false, false, false, false, false, false, false, false] r106 rfl (by kernel_rfl) (fun _ _ _ h => h) rfl (fs_none rfl) (fun w hF => r_move s66) ?_
      refine f_take (i := 4) (v := (.pointer (some ⟨b_44, 0, none⟩))) #[true, false, false, true, true, false, false, false, false, false, false, false, false, false, false, false, false] r106 rfl (by kernel_rfl) (fun _ _ _ h => h) rfl (fs_none rfl) (fun w hF => r_nil_ptr rfl) ?_
      refine f_take (i := 5) (v := (.pointer (some ⟨b_44, 0, none⟩))) #[true, false, false, true, true, true, false, false, false, false, false, false, false, false, false, false, false] r106 rfl (by kernel_rfl) (fun _ _ _ h => h) rfl (fs_none rfl) (fun w hF => r_field_l F.fo36_0 rfl rfl) ?_
      have k110 := h47.keep f60 (not_ob_old l22 (by omega))
      have k111 := k110.keep0 f105
      refine f_take (i := 6) (v := (.slice a_45 ys.length c_46)) #[true, false, false, true, true, true, true, false, false, false, false, false, false, false, false, false, false] r106 rfl (by kernel_rfl) (fun _ _ _ h => h) rfl (fs_one k111 rfl) (fun w hF => r_load1 F.one31 rfl (At.cell (fs_get List.mem_cons_self hF) rfl)) ?_
      refine f_one (i := 1) #[true, true, false, true, true, true, true, false, false, false, false, false, false, false, false, false, false] rfl (by kernel_rfl) rfl ?_
      have k112 := h30.keep0 f43
      have k113 := k112.keep f60 (not_ob_old l22 (by omega))
      have k114 := k113.keep0 f105
      have k115 := h31.keep0 f43
      have k116 := k115.keep f60 (ob_ob_old p33 l22 (by omega))
      have k117 := k116.keep0 f105
      refine d_call (fl := []) (cl := []) (A := [(.pointer (some ⟨b_27, 0, none⟩))]) (B := [(.pointer (some ⟨b_27, 0, none⟩))]) F.ok20 rfl (ac rfl an) rfl (list_c (b := b_27) (a := a_28) (xs := ys) (c := c_29) k114 k117 p34.1) ?_
      rintro _ w118 ⟨a_120, c_121, rfl, f119, h122, p123⟩
      have z124 := f119.size
      have t125 := t108.trans0 f119
      have t126 := t109.trans0 f119
      have l128 := h122.lt
      refine ⟨(pres_of (pcn_cons (fun _ h => h.keep0 f119) pcn_nil)), ?_⟩
      refine f_one (i := 2) #[true, true, true, true, true, true, true, false, false, false, false, false, false, false, false, false, false] rfl (by kernel_rfl) rfl ?_
      have s129 := h122.sl
      refine d_call (fl := []) (cl := []) (A := [(.slice a_120 ys.length c_121)]) (B := [(.slice a_120 ys.length c_121)]) F.ok19 rfl (ac rfl an) rfl (events_c (a := a_120) (xs := ys) (c := c_121) s129 p34.1) ?_
      rintro _ w130 ⟨a_132, c_133, rfl, f131, h134, p135⟩
      have z136 := f131.size
      have t137 := t125.trans0 f131
      have t138 := t126.trans0 f131
      have l139 := h134.lt
      refine ⟨(pres_of (pcn_cons (fun _ h => h.keep0 f131) pcn_nil)), ?_⟩
      refine f_one (i := 7) #[true, true, true, true, true, true, true, true, false, false, false, false, false, false, false, false, false] rfl (by kernel_rfl) rfl ?_
      have s140 := h134.sl
      have k141 := h48.keep f60 (ob_ob_old p50 l22 (by omega))
      have k142 := k141.keep0 f105
      have k143 := k142.keep0 f119
      have k144 := k143.keep0 f131
      have s145 := k144.sl
      refine d_call (fl := []) (cl := []) (A := [(.slice a_132 ys.length c_133), (.slice a_45 ys.length c_46)]) (B := [(.slice a_132 ys.length c_133), (.slice a_45 ys.length c_46)]) F.ok18 rfl (ac rfl (ac rfl an)) rfl (rSame_c (a := a_132) (xs := ys) (c := c_133) (d := a_45) (ys := ys) (e := c_46) s140 s145 p34.1) ?_
      rintro _ w146 ⟨rfl, f147⟩
      have z148 := f147.size
      have t149 := t137.trans0 f147
      have t150 := t138.trans0 f147
      refine ⟨(pres_all (by kernel_rfl)), ?_⟩
      refine f_take (i := 8) (v := (.bool (decide (ys = ys)))) #[true, true, true, true, true, true, true, true, true, false, false, false, false, false, false, false, false] r106 rfl (by kernel_rfl) (fun _ _ _ h => h) rfl (fs_none rfl) (fun w hF => r_move rfl) ?_
      refine f_em (p := ys = ys) ?_ ?_
      · intro c151
        refine f_take (i := 9) (v := (.pointer (some ⟨b_27, 0, none⟩))) #[true, true, true, true, true, true, true, true, true, true, false, false, false, false, false, false, false] r106 rfl (by kernel_rfl) (fun _ _ _ h => h) (wanted_run rfl rfl (bd rfl c151)) (fs_none rfl) (fun w hF => r_move s64) ?_
        refine f_take (i := 12) (v := (.slice a bs.length c)) #[true, true, true, true, true, true, true, true, true, true, false, false, true, false, false, false, false] r106 rfl (by kernel_rfl) (fun _ _ _ h => h) (wanted_run rfl rfl (bd rfl c151)) (fs_none rfl) (fun w hF => r_move s61) ?_
        have k152 := s19.keep f12 (ob_not1 (not_ob_old lt_h1 (by omega)))
        have k153 := k152.keep0 f26
        have k154 := k153.keep0 f43
        have k155 := k154.keep f60 (ob_ob_new lt_h1 g23 (by omega))
        have k156 := k155.keep0 f105
        have k157 := k156.keep0 f119
        have k158 := k157.keep0 f131
        have k159 := k158.keep0 f147
        refine f_many [10, 13] (by kernel_rfl) ?_
        refine each_cons #[true, true, true, true, true, true, true, true, true, true, true, false, true, false, false, false, false] rfl rfl (wanted_run rfl rfl (bd rfl c151)) ?_ ?_
        ·
          have k160 := k114.keep0 f119
          have k161 := k160.keep0 f131
          have k162 := k161.keep0 f147
          have k163 := k117.keep0 f119
          have k164 := k163.keep0 f131
          have k165 := k164.keep0 f147
          refine d_call (fl := []) (cl := []) (A := [(.pointer (some ⟨b_27, 0, none⟩))]) (B := [(.pointer (some ⟨b_27, 0, none⟩))]) F.ok21 rfl (ac rfl an) rfl (bytes_c (b := b_27) (a := a_28) (xs := ys) (c := c_29) k162 k165 p34) ?_
          rintro _ w166 ⟨a_168, c_169, rfl, f167, h170, p171⟩
          have z172 := f167.size
          have t173 := t149.trans0 f167
          have t174 := t150.trans0 f167
          have l176 := h170.lt
          refine ⟨(pres_all (by kernel_rfl)), ?_⟩
          have s177 := h170.sl
          have k178 := k159.keep0 f167
          refine f_many [11, 13] (by kernel_rfl) ?_
          refine each_cons #[true, true, true, true, true, true, true, true, true, true, true, true, true, false, false, false, false] rfl rfl (wanted_run rfl rfl (bd rfl c151)) ?_ ?_
          ·
            refine d_quiet (v := (.string (mkS (evBytes ys)))) rfl (r_bytes (bs := evBytes ys) Proofs.Try.underlying22 Proofs.Try.underlying5 Proofs.Try.underlying9 rfl s177 (by first | rfl | omega | (simp; done) | (simp; omega))) ?_
            refine ⟨(pres_all (by kernel_rfl)), ?_⟩
            refine f_one (i := 13) #[true, true, true, true, true, true, true, true, true, true, true, true, true, true, false, false, false] rfl (by kernel_rfl) (wanted_run rfl rfl (bd rfl c151)) ?_
            refine d_quiet (v := (.string (mkS bs))) rfl (r_bytes (bs := bs) Proofs.Try.underlying22 Proofs.Try.underlying5 Proofs.Try.underlying9 rfl k178 (by first | rfl | omega | (simp; done) | (simp; omega))) ?_
            refine ⟨(pres_all (by kernel_rfl)), ?_⟩
            refine f_take (i := 14) (v := (.bool ((mkS (evBytes ys)).toList == (mkS bs).toList))) #[true, true, true, true, true, true, true, true, true, true, true, true, true, true, true, false, false] r106 rfl (by kernel_rfl) (fun _ _ _ h => h) (wanted_run rfl rfl (bd rfl c151)) (fs_none rfl) (fun w hF => r_eqlS rfl rfl) ?_
            refine f_take (i := 15) (v := (.bool ((mkS (evBytes ys)).toList == (mkS bs).toList))) #[true, true, true, true, true, true, true, true, true, true, true, true, true, true, true, true, false] r106 rfl (by kernel_rfl) (fun _ _ _ h => h) rfl (fs_none rfl) (fun w hF => r_pick_t (bd rfl c151) rfl) ?_
            refine f_take (i := 16) (v := (.bool ((mkS (evBytes ys)).toList == (mkS bs).toList))) #[true, true, true, true, true, true, true, true, true, true, true, true, true, true, true, true, true] r106 rfl (by kernel_rfl) (fun _ _ _ h => h) rfl (fs_none rfl) (fun w hF => r_assign rfl) ?_
            refine f_done (by kernel_rfl) ?_
            refine (x_then ?_)
            refine c_ret ?_
            refine p_ret (v := (.bool ((mkS (evBytes ys)).toList == (mkS bs).toList))) (res1 rfl rfl) ?_
            exact ⟨(by simp [*, load_bytes hn]), t173⟩
          refine each_cons #[true, true, true, true, true, true, true, true, true, true, true, false, true, true, false, false, false] rfl rfl (wanted_run rfl rfl (bd rfl c151)) ?_ ?_
          ·
            refine d_quiet (v := (.string (mkS bs))) rfl (r_bytes (bs := bs) Proofs.Try.underlying22 Proofs.Try.underlying5 Proofs.Try.underlying9 rfl k178 (by first | rfl | omega | (simp; done) | (simp; omega))) ?_
            refine ⟨(pres_all (by kernel_rfl)), ?_⟩
            refine f_one (i := 11) #[true, true, true, true, true, true, true, true, true, true, true, true, true, true, false, false, false] rfl (by kernel_rfl) (wanted_run rfl rfl (bd rfl c151)) ?_
            refine d_quiet (v := (.string (mkS (evBytes ys)))) rfl (r_bytes (bs := evBytes ys) Proofs.Try.underlying22 Proofs.Try.underlying5 Proofs.Try.underlying9 rfl s177 (by first | rfl | omega | (simp; done) | (simp; omega))) ?_
            refine ⟨(pres_all (by kernel_rfl)), ?_⟩
            refine f_take (i := 14) (v := (.bool ((mkS (evBytes ys)).toList == (mkS bs).toList))) #[true, true, true, true, true, true, true, true, true, true, true, true, true, true, true, false, false] r106 rfl (by kernel_rfl) (fun _ _ _ h => h) (wanted_run rfl rfl (bd rfl c151)) (fs_none rfl) (fun w hF => r_eqlS rfl rfl) ?_
            refine f_take (i := 15) (v := (.bool ((mkS (evBytes ys)).toList == (mkS bs).toList))) #[true, true, true, true, true, true, true, true, true, true, true, true, true, true, true, true, false] r106 rfl (by kernel_rfl) (fun _ _ _ h => h) rfl (fs_none rfl) (fun w hF => r_pick_t (bd rfl c151) rfl) ?_
            refine f_take (i := 16) (v := (.bool ((mkS (evBytes ys)).toList == (mkS bs).toList))) #[true, true, true, true, true, true, true, true, true, true, true, true, true, true, true, true, true] r106 rfl (by kernel_rfl) (fun _ _ _ h => h) rfl (fs_none rfl) (fun w hF => r_assign rfl) ?_
            refine f_done (by kernel_rfl) ?_
            refine (x_then ?_)
            refine c_ret ?_
            refine p_ret (v := (.bool ((mkS (evBytes ys)).toList == (mkS bs).toList))) (res1 rfl rfl) ?_
            exact ⟨(by simp [*, load_bytes hn]), t173⟩
          exact each_nil
        refine each_cons #[true, true, true, true, true, true, true, true, true, true, false, false, true, true, false, false, false] rfl rfl (wanted_run rfl rfl (bd rfl c151)) ?_ ?_
        ·
          refine d_quiet (v := (.string (mkS bs))) rfl (r_bytes (bs := bs) Proofs.Try.underlying22 Proofs.Try.underlying5 Proofs.Try.underlying9 rfl k159 (by first | rfl | omega | (simp; done) | (simp; omega))) ?_
          refine ⟨(pres_all (by kernel_rfl)), ?_⟩
          refine f_one (i := 10) #[true, true, true, true, true, true, true, true, true, true, true, false, true, true, false, false, false] rfl (by kernel_rfl) (wanted_run rfl rfl (bd rfl c151)) ?_
          have k179 := k114.keep0 f119
          have k180 := k179.keep0 f131
          have k181 := k180.keep0 f147
          have k182 := k117.keep0 f119
          have k183 := k182.keep0 f131
          have k184 := k183.keep0 f147
          refine d_call (fl := []) (cl := []) (A := [(.pointer (some ⟨b_27, 0, none⟩))]) (B := [(.pointer (some ⟨b_27, 0, none⟩))]) F.ok21 rfl (ac rfl an) rfl (bytes_c (b := b_27) (a := a_28) (xs := ys) (c := c_29) k181 k184 p34) ?_
          rintro _ w185 ⟨a_187, c_188, rfl, f186, h189, p190⟩
          have z191 := f186.size
          have t192 := t149.trans0 f186
          have t193 := t150.trans0 f186
          have l195 := h189.lt
          refine ⟨(pres_all (by kernel_rfl)), ?_⟩
          have s196 := h189.sl
          refine f_one (i := 11) #[true, true, true, true, true, true, true, true, true, true, true, true, true, true, false, false, false] rfl (by kernel_rfl) (wanted_run rfl rfl (bd rfl c151)) ?_
          refine d_quiet (v := (.string (mkS (evBytes ys)))) rfl (r_bytes (bs := evBytes ys) Proofs.Try.underlying22 Proofs.Try.underlying5 Proofs.Try.underlying9 rfl s196 (by first | rfl | omega | (simp; done) | (simp; omega))) ?_
          refine ⟨(pres_all (by kernel_rfl)), ?_⟩
          refine f_take (i := 14) (v := (.bool ((mkS (evBytes ys)).toList == (mkS bs).toList))) #[true, true, true, true, true, true, true, true, true, true, true, true, true, true, true, false, false] r106 rfl (by kernel_rfl) (fun _ _ _ h => h) (wanted_run rfl rfl (bd rfl c151)) (fs_none rfl) (fun w hF => r_eqlS rfl rfl) ?_
          refine f_take (i := 15) (v := (.bool ((mkS (evBytes ys)).toList == (mkS bs).toList))) #[true, true, true, true, true, true, true, true, true, true, true, true, true, true, true, true, false] r106 rfl (by kernel_rfl) (fun _ _ _ h => h) rfl (fs_none rfl) (fun w hF => r_pick_t (bd rfl c151) rfl) ?_
          refine f_take (i := 16) (v := (.bool ((mkS (evBytes ys)).toList == (mkS bs).toList))) #[true, true, true, true, true, true, true, true, true, true, true, true, true, true, true, true, true] r106 rfl (by kernel_rfl) (fun _ _ _ h => h) rfl (fs_none rfl) (fun w hF => r_assign rfl) ?_
          refine f_done (by kernel_rfl) ?_
          refine (x_then ?_)
          refine c_ret ?_
          refine p_ret (v := (.bool ((mkS (evBytes ys)).toList == (mkS bs).toList))) (res1 rfl rfl) ?_
          exact ⟨(by simp [*, load_bytes hn]), t192⟩
        exact each_nil
      · intro c151
        refine f_skip (i := 9) #[true, true, true, true, true, true, true, true, true, true, false, false, false, false, false, false, false] r106 rfl (by kernel_rfl) (fun _ _ _ h => h) (wanted_not rfl rfl (bn rfl c151) (by decide)) (fs_none rfl) ?_
        refine f_skip (i := 10) #[true, true, true, true, true, true, true, true, true, true, true, false, false, false, false, false, false] r106 rfl (by kernel_rfl) (fun _ _ _ h => h) (wanted_not rfl rfl (bn rfl c151) (by decide)) (fs_none rfl) ?_
        refine f_skip (i := 11) #[true, true, true, true, true, true, true, true, true, true, true, true, false, false, false, false, false] r106 rfl (by kernel_rfl) (fun _ _ _ h => h) (wanted_not rfl rfl (bn rfl c151) (by decide)) (fs_none rfl) ?_
        refine f_skip (i := 12) #[true, true, true, true, true, true, true, true, true, true, true, true, true, false, false, false, false] r106 rfl (by kernel_rfl) (fun _ _ _ h => h) (wanted_not rfl rfl (bn rfl c151) (by decide)) (fs_none rfl) ?_
        refine f_skip (i := 13) #[true, true, true, true, true, true, true, true, true, true, true, true, true, true, false, false, false] r106 rfl (by kernel_rfl) (fun _ _ _ h => h) (wanted_not rfl rfl (bn rfl c151) (by decide)) (fs_none rfl) ?_
        refine f_skip (i := 14) #[true, true, true, true, true, true, true, true, true, true, true, true, true, true, true, false, false] r106 rfl (by kernel_rfl) (fun _ _ _ h => h) (wanted_not rfl rfl (bn rfl c151) (by decide)) (fs_none rfl) ?_
        refine f_take (i := 15) (v := (.bool false)) #[true, true, true, true, true, true, true, true, true, true, true, true, true, true, true, true, false] r106 rfl (by kernel_rfl) (fun _ _ _ h => h) rfl (fs_none rfl) (fun w hF => r_pick_f (bn rfl c151) rfl) ?_
        refine f_take (i := 16) (v := (.bool false)) #[true, true, true, true, true, true, true, true, true, true, true, true, true, true, true, true, true] r106 rfl (by kernel_rfl) (fun _ _ _ h => h) rfl (fs_none rfl) (fun w hF => r_assign rfl) ?_
        refine f_done (by kernel_rfl) ?_
        refine (x_then ?_)
        refine c_ret ?_
        refine p_ret (v := (.bool false)) (res1 rfl rfl) ?_
        exact absurd rfl c151

end Go.Sy
