/- Walks of package trigger: loading. -/
import Derived.Test.YtnhpfhhpochgfaaWTrig
namespace Go.Sy
set_option linter.unusedVariables false
set_option linter.unusedSimpArgs false

set_option maxHeartbeats 400000 in
set_option maxRecDepth 100000 in
theorem load_none_c {w : World} {a0 : Option Addr} {c0 : Nat} {bs : List UInt8} (h1 : Sl w a0 (bv bs)) (h3 : bs.length ≤ 100000) (hn : loadE bs = none) :
    Calls Proofs.Try.prog 16 #[(.slice a0 bs.length c0)] w (Ret fun v w' => v = (.tuple #[(.pointer none), (.int .i64 4)]) ∧ Fr [] w w') := by
  have hcu := mCount_le (rdP (mkS bs) 0) 8
  have t0 : Fr [] w w := Fr.refl _ _
  refine enter Proofs.Try.func16 rfl Proofs.Try.ntmps16 (Nat.le_of_ble_eq_true rfl) ?_
  refine c_seq ?_
  refine c_region ?_
  refine l_v (v := (.pointer none)) (r_assign rfl) ?_
  refine l_v (v := (.int .i64 0)) (r_assign rfl) ?_
  refine l_nil ?_
  refine (x_then ?_)
  refine c_seq ?_
  refine c_region ?_
  refine l_do rfl ?_
  refine d_call (fl := []) (cl := []) (A := []) (B := []) F.ok33 rfl an rfl (new_c  ) ?_
  rintro _ w1 ⟨b_3, rfl, f2, h4, p5⟩
  have z6 := f2.size
  have t7 := t0.trans0 f2
  have l8 := h4.lt
  refine l_v (v := (.pointer (some ⟨b_3, 0, none⟩))) (r_assign rfl) ?_
  refine l_nil ?_
  refine (x_then ?_)
  refine c_seq ?_
  refine c_region ?_
  refine l_v (v := (.slice a0 bs.length c0)) (r_move rfl) ?_
  refine l_do rfl ?_
  have k9 := h1.keep0 f2
  refine d_call (fl := []) (cl := []) (A := [(.slice a0 bs.length c0)]) (B := [(.slice a0 bs.length c0)]) F.ok69 rfl (ac rfl an) rfl (newReader_c (a := a0) (bs := bs) (c := c0) k9) ?_
  rintro _ w10 ⟨b_12, rfl, f11, h13, p14⟩
  have z15 := f11.size
  have t16 := t7.trans0 f11
  have l17 := h13.lt
  refine l_v (v := (.pointer (some ⟨b_12, 0, none⟩))) (r_assign rfl) ?_
  refine l_nil ?_
  refine (x_then ?_)
  refine c_seq ?_
  refine c_seq ?_
  refine c_region ?_
  refine l_v (v := (.pointer (some ⟨b_12, 0, none⟩))) (r_move rfl) ?_
  refine l_do rfl ?_
  refine d_call (fl := []) (cl := []) (A := [(.pointer (some ⟨b_12, 0, none⟩)), (.int .i64 8)]) (B := [(.pointer (some ⟨b_12, 0, none⟩)), (.int .i64 8)]) F.ok70 rfl (ac rfl (ac rfl an)) rfl (rCount_c (b := b_12) (above := 8) (s := mkS bs) (n := 0) h13 (by rw [mkS_size]; omega) (by omega)) ?_
  rintro _ w18 ⟨n_20, rfl, f19, h21, p22, p23⟩
  have z24 := f19.size
  have t25 := t16.step f19 (one_new (by omega))
  refine l_v (v := (.int .i64 0)) (r_move rfl) ?_
  refine l_nil ?_
  refine (x_then ?_)
  refine c_block ?_
  have k26 := h4.keep0 f11
  have k27 := k26.keep f19 (not_in1 (by omega))
  refine c_loop (fun (m : Nat) (e' : Nat → Value) (w' : World) => ∃ k : Nat, ∃ n : Nat, ∃ a : Option Addr, ∃ c : Nat, ∃ xs : List Ev, m = (mCount (rdP (mkS bs) 0) 8).1 - k ∧ e' 0 = (.slice a0 bs.length c0) ∧ e' 4 = (.pointer (some ⟨b_3, 0, none⟩)) ∧ e' 5 = (.pointer (some ⟨b_12, 0, none⟩)) ∧ e' 7 = (.pointer (some ⟨b_3, 0, none⟩)) ∧ e' 8 = (.slice a0 bs.length c0) ∧ e' 9 = (.pointer (some ⟨b_12, 0, none⟩)) ∧ e' 10 = (.pointer (some ⟨b_12, 0, none⟩)) ∧ e' 11 = (.int .i64 (((mCount (rdP (mkS bs) 0) 8).1 : Nat) : Int)) ∧ e' 12 = (.int .i64 ((k : Nat) : Int)) ∧ Fr [b_3, b_12] w18 w' ∧ At w' b_12 (.cells #[(.string (mkS bs)), (.int .i64 ((n : Nat) : Int))] 177 (0, 0)) ∧ At w' b_3 (.cells #[(.slice a xs.length c)] 133 (0, 0)) ∧ Own w' 74 2 a xs.length c (evs xs) ∧ (k ≤ (mCount (rdP (mkS bs) 0) 8).1) ∧ (n ≤ bs.length + 1) ∧ (Good xs) ∧ (ldP ((mCount (rdP (mkS bs) 0) 8).1 - k) (rdP (mkS bs) n) xs = ldP (mCount (rdP (mkS bs) 0) 8).1 (mCount (rdP (mkS bs) 0) 8).2 []) ∧ (∀ x ∈ ob a, w18.heap.size ≤ x)) ((mCount (rdP (mkS bs) 0) 8).1 - 0) ⟨0, n_20, none, 0, [], rfl, rfl, rfl, rfl, rfl, rfl, rfl, rfl, rfl, rfl, Fr.refl _ _, h21, (by simpa using k27), Own.nil _ _ _, (by omega), (by have := p22; rw [mkS_size] at this; exact this), good_nil, (by rw [p23]; rfl), (fun x hx => by cases hx)⟩ ?_
  rintro m_f30 e28 w29 ⟨k, n, a, c, xs, hm_f30, s31, s32, s33, s34, s35, s36, s37, s38, s39, f30, h40, h41, h42, p43, p44, hg, inv, hge⟩
  have z45 := f30.size
  have t46 := t25.step f30 (app_new (one_new (by omega)) (one_new (by omega)))
  have l47 := h42.lt
  have n48 := ob_ne' h42.tag h40 rfl
  have n49 := ob_ne' h42.tag h41 rfl
  have t_f30 : Fr [b_3, b_12] w18 w29 := f30
  refine c_seq ?_
  refine c_region ?_
  refine l_v (v := (.bool (decide (((k : Nat) : Int) < (((mCount (rdP (mkS bs) 0) 8).1 : Nat) : Int))))) (r_lss s39 s38) ?_
  refine l_nil ?_
  refine (x_then ?_)
  refine c_seq ?_
  refine c_if (p := ((k : Nat) : Int) < (((mCount (rdP (mkS bs) 0) 8).1 : Nat) : Int)) rfl (fun c50 => ?_) (fun c50 => ?_)
  ·
    refine c_skip ?_
    refine (x_then ?_)
    refine c_seq ?_
    refine c_block ?_
    refine c_seq ?_
    refine c_region ?_
    refine l_v (v := (.pointer (some ⟨b_12, 0, none⟩))) (r_move s33) ?_
    refine l_do rfl ?_
    refine d_call (fl := []) (cl := []) (A := [(.pointer (some ⟨b_12, 0, none⟩)), (.int .i64 64)]) (B := [(.pointer (some ⟨b_12, 0, none⟩)), (.int .i64 64)]) F.ok71 rfl (ac rfl (ac rfl an)) rfl (rStr_c (b := b_12) (above := 64) (s := mkS bs) (n := n) h40 (by rw [mkS_size]; omega) (by rw [mkS_size]; omega)) ?_
    rintro _ w51 ⟨n_53, rfl, f52, h54, p55, p56⟩
    have z57 := f52.size
    have t58 := t46.step f52 (one_new (by omega))
    have t59 := t_f30.step f52 (one_in (by simp))
    have he1 := p56
    have hb1 := p55
    refine l_v (v := (.string (mkS (mStr (rdP (mkS bs) n) 64).1))) (r_assign rfl) ?_
    refine l_nil ?_
    refine (x_then ?_)
    refine c_seq ?_
    refine c_region ?_
    refine l_v (v := (.pointer (some ⟨b_3, 0, none⟩))) (r_move s32) ?_
    refine l_v (v := (.string (mkS (mStr (rdP (mkS bs) n) 64).1))) (r_move rfl) ?_
    refine l_v (v := (.pointer (some ⟨b_12, 0, none⟩))) (r_move s33) ?_
    refine l_do rfl ?_
    refine d_call (fl := []) (cl := []) (A := [(.pointer (some ⟨b_12, 0, none⟩)), (.int .i64 2147483647)]) (B := [(.pointer (some ⟨b_12, 0, none⟩)), (.int .i64 2147483647)]) F.ok70 rfl (ac rfl (ac rfl an)) rfl (rCount_c (b := b_12) (above := 2147483647) (s := mkS bs) (n := n_53) h54 (by rw [mkS_size]; omega) hb1) ?_
    rintro _ w60 ⟨n_62, rfl, f61, h63, p64, p65⟩
    have z66 := f61.size
    have t67 := t58.step f61 (one_new (by omega))
    have t68 := t59.step f61 (one_in (by simp))
    have he2 := p65
    have hb2 := p64
    refine l_do rfl ?_
    have k69 := h41.keep f52 (not_in1 (by omega))
    have k70 := k69.keep f61 (not_in1 (by omega))
    have k71 := h42.keep f52 (ob_not1 n48)
    have k72 := k71.keep f61 (ob_not1 n48)
    refine d_call (fl := []) (cl := []) (A := [(.pointer (some ⟨b_3, 0, none⟩)), (.string (mkS (mStr (rdP (mkS bs) n) 64).1)), (.int .i64 (((mCount (rdP (mkS bs) n_53) 2147483647).1 : Nat) : Int))]) (B := [(.pointer (some ⟨b_3, 0, none⟩)), (.string (mkS (mStr (rdP (mkS bs) n) 64).1)), (.int .i64 (((mCount (rdP (mkS bs) n_53) 2147483647).1 : Nat) : Int))]) F.ok34 rfl (ac rfl (ac rfl (ac rfl an))) rfl (take_c (b := b_3) (id := mkS (mStr (rdP (mkS bs) n) 64).1) (p := (((mCount (rdP (mkS bs) n_53) 2147483647).1 : Nat) : Int)) (a := a) (xs := xs) (c := c) k70 k72 hg.1 (by rw [mkS_size]; have := mStr_len (mkS bs) n 64; rw [mkS_size] at this; omega)) ?_
    rintro _ w73 ⟨a_75, c_76, rfl, f74, h77, h78, p79⟩
    have z80 := f74.size
    have t81 := t67.step f74 (app_new (one_new (by omega)) (ob_new hge (by omega)))
    have t82 := t68.step f74 (app_new (one_in (by simp)) (ob_new hge (by omega)))
    have l84 := h78.lt
    have g85 := ob_age hge p79 (by omega)
    refine l_v (v := (.bool (decide ((takeC xs (mkS (mStr (rdP (mkS bs) n) 64).1) (((mCount (rdP (mkS bs) n_53) 2147483647).1 : Nat) : Int)) ≠ 0)))) (r_neq rfl rfl) ?_
    refine l_nil ?_
    refine (x_then ?_)
    refine c_if (p := (takeC xs (mkS (mStr (rdP (mkS bs) n) 64).1) (((mCount (rdP (mkS bs) n_53) 2147483647).1 : Nat) : Int)) ≠ 0) rfl (fun c86 => ?_) (fun c86 => ?_)
    ·
      refine c_seq ?_
      refine c_region ?_
      refine l_v (v := (.pointer none)) (r_assign rfl) ?_
      refine l_v (v := (.int .i64 4)) (r_assign rfl) ?_
      refine l_nil ?_
      refine (x_then ?_)
      refine c_ret ?_
      refine (x_blk_r (x_then_r (x_then_r (x_blk_r (x_then_r ?_)))))
      refine p_ret (v := (.tuple #[(.pointer none), (.int .i64 4)])) (res2 rfl rfl rfl) ?_
      exact ⟨rfl, t81⟩
    ·
      refine c_skip ?_
      refine (x_blk (x_then ?_))
      refine c_region ?_
      refine l_v (v := (.int .i64 ((k + 1 : Nat) : Int))) (r_add s39 rfl (w64 (by omega) (by omega) (by omega))) ?_
      refine l_v (v := (.int .i64 ((k + 1 : Nat) : Int))) (r_move rfl) ?_
      refine l_nil ?_
      refine (x_then ?_)
      have k87 := h63.keep f74 (not_app (not_in1 (by omega)) n48)
      exact ⟨_, _, (by omega), rfl, k + 1, n_62, a_75, c_76, (takeL xs (mkS (mStr (rdP (mkS bs) n) 64).1) (((mCount (rdP (mkS bs) n_53) 2147483647).1 : Nat) : Int)), rfl, s31, s32, s33, s34, s35, s36, s37, s38, rfl, t82, k87, h77, h78, (by omega), (by have := hb2; rw [mkS_size] at this; exact this), (good_take hg), (by rw [he2, he1, ← inv]; exact (ld_step (by omega) (by rw [← he1]; omega)).symm), g85⟩
  ·
    refine c_exit ?_
    refine (x_then_x (x_then_x (x_blk_hit (x_then ?_))))
    refine c_seq ?_
    refine c_seq ?_
    refine c_region ?_
    refine l_v (v := (.pointer (some ⟨b_12, 0, none⟩))) (r_move s33) ?_
    refine l_do rfl ?_
    refine d_call (fl := []) (cl := []) (A := [(.pointer (some ⟨b_12, 0, none⟩))]) (B := [(.pointer (some ⟨b_12, 0, none⟩))]) F.ok72 rfl (ac rfl an) rfl (rDone_c (b := b_12) (s := mkS bs) (n := n) h40) ?_
    rintro _ w88 ⟨rfl, f89⟩
    have z90 := f89.size
    have t91 := t46.trans0 f89
    have t92 := t_f30.trans0 f89
    refine l_v (v := (.bool (decide (¬ (((n : Nat) : Int) = ((bs.length : Nat) : Int)))))) (r_notP rfl) ?_
    refine l_nil ?_
    refine (x_then ?_)
    refine c_if (p := ¬ (((n : Nat) : Int) = ((bs.length : Nat) : Int))) rfl (fun c93 => ?_) (fun c93 => ?_)
    ·
      refine c_seq ?_
      refine c_region ?_
      refine l_v (v := (.pointer none)) (r_assign rfl) ?_
      refine l_v (v := (.int .i64 4)) (r_assign rfl) ?_
      refine l_nil ?_
      refine (x_then ?_)
      refine c_ret ?_
      refine (x_then_r ?_)
      refine p_ret (v := (.tuple #[(.pointer none), (.int .i64 4)])) (res2 rfl rfl rfl) ?_
      exact ⟨rfl, t91⟩
    ·
      refine c_skip ?_
      refine (x_then ?_)
      refine c_seq ?_
      refine c_region ?_
      refine l_v (v := (.pointer (some ⟨b_3, 0, none⟩))) (r_move s32) ?_
      refine l_v (v := (.pointer (some ⟨b_3, 0, none⟩))) (r_assign rfl) ?_
      refine l_v (v := (.int .i64 0)) (r_assign rfl) ?_
      refine l_nil ?_
      refine (x_then ?_)
      refine c_ret ?_
      refine p_ret (v := (.tuple #[(.pointer (some ⟨b_3, 0, none⟩)), (.int .i64 0)])) (res2 rfl rfl rfl) ?_
      exfalso; have e := load_end (by omega) inv; rw [if_pos (by have := mkS_size bs; omega), hn] at e; cases e

set_option maxHeartbeats 400000 in
set_option maxRecDepth 100000 in
theorem load_some_c {w : World} {a0 : Option Addr} {c0 : Nat} {bs : List UInt8} {ys : List Ev} (h1 : Sl w a0 (bv bs)) (h3 : bs.length ≤ 100000) (hn : loadE bs = some ys) :
    Calls Proofs.Try.prog 16 #[(.slice a0 bs.length c0)] w (Ret fun v w' => ∃ b : Nat, ∃ a : Option Addr, ∃ c : Nat, v = (.tuple #[(.pointer (some ⟨b, 0, none⟩)), (.int .i64 0)]) ∧ Fr [] w w' ∧ At w' b (.cells #[(.slice a ys.length c)] 133 (0, 0)) ∧ Own w' 74 2 a ys.length c (evs ys) ∧ (w.heap.size ≤ b) ∧ (∀ x ∈ ob a, w.heap.size ≤ x) ∧ (Good ys)) := by
  have hcu := mCount_le (rdP (mkS bs) 0) 8
  have t0 : Fr [] w w := Fr.refl _ _
  refine enter Proofs.Try.func16 rfl Proofs.Try.ntmps16 (Nat.le_of_ble_eq_true rfl) ?_
  refine c_seq ?_
  refine c_region ?_
  refine l_v (v := (.pointer none)) (r_assign rfl) ?_
  refine l_v (v := (.int .i64 0)) (r_assign rfl) ?_
  refine l_nil ?_
  refine (x_then ?_)
  refine c_seq ?_
  refine c_region ?_
  refine l_do rfl ?_
  refine d_call (fl := []) (cl := []) (A := []) (B := []) F.ok33 rfl an rfl (new_c  ) ?_
  rintro _ w1 ⟨b_3, rfl, f2, h4, p5⟩
  have z6 := f2.size
  have t7 := t0.trans0 f2
  have l8 := h4.lt
  refine l_v (v := (.pointer (some ⟨b_3, 0, none⟩))) (r_assign rfl) ?_
  refine l_nil ?_
  refine (x_then ?_)
  refine c_seq ?_
  refine c_region ?_
  refine l_v (v := (.slice a0 bs.length c0)) (r_move rfl) ?_
  refine l_do rfl ?_
  have k9 := h1.keep0 f2
  refine d_call (fl := []) (cl := []) (A := [(.slice a0 bs.length c0)]) (B := [(.slice a0 bs.length c0)]) F.ok69 rfl (ac rfl an) rfl (newReader_c (a := a0) (bs := bs) (c := c0) k9) ?_
  rintro _ w10 ⟨b_12, rfl, f11, h13, p14⟩
  have z15 := f11.size
  have t16 := t7.trans0 f11
  have l17 := h13.lt
  refine l_v (v := (.pointer (some ⟨b_12, 0, none⟩))) (r_assign rfl) ?_
  refine l_nil ?_
  refine (x_then ?_)
  refine c_seq ?_
  refine c_seq ?_
  refine c_region ?_
  refine l_v (v := (.pointer (some ⟨b_12, 0, none⟩))) (r_move rfl) ?_
  refine l_do rfl ?_
  refine d_call (fl := []) (cl := []) (A := [(.pointer (some ⟨b_12, 0, none⟩)), (.int .i64 8)]) (B := [(.pointer (some ⟨b_12, 0, none⟩)), (.int .i64 8)]) F.ok70 rfl (ac rfl (ac rfl an)) rfl (rCount_c (b := b_12) (above := 8) (s := mkS bs) (n := 0) h13 (by rw [mkS_size]; omega) (by omega)) ?_
  rintro _ w18 ⟨n_20, rfl, f19, h21, p22, p23⟩
  have z24 := f19.size
  have t25 := t16.step f19 (one_new (by omega))
  refine l_v (v := (.int .i64 0)) (r_move rfl) ?_
  refine l_nil ?_
  refine (x_then ?_)
  refine c_block ?_
  have k26 := h4.keep0 f11
  have k27 := k26.keep f19 (not_in1 (by omega))
  refine c_loop (fun (m : Nat) (e' : Nat → Value) (w' : World) => ∃ k : Nat, ∃ n : Nat, ∃ a : Option Addr, ∃ c : Nat, ∃ xs : List Ev, m = (mCount (rdP (mkS bs) 0) 8).1 - k ∧ e' 0 = (.slice a0 bs.length c0) ∧ e' 4 = (.pointer (some ⟨b_3, 0, none⟩)) ∧ e' 5 = (.pointer (some ⟨b_12, 0, none⟩)) ∧ e' 7 = (.pointer (some ⟨b_3, 0, none⟩)) ∧ e' 8 = (.slice a0 bs.length c0) ∧ e' 9 = (.pointer (some ⟨b_12, 0, none⟩)) ∧ e' 10 = (.pointer (some ⟨b_12, 0, none⟩)) ∧ e' 11 = (.int .i64 (((mCount (rdP (mkS bs) 0) 8).1 : Nat) : Int)) ∧ e' 12 = (.int .i64 ((k : Nat) : Int)) ∧ Fr [b_3, b_12] w18 w' ∧ At w' b_12 (.cells #[(.string (mkS bs)), (.int .i64 ((n : Nat) : Int))] 177 (0, 0)) ∧ At w' b_3 (.cells #[(.slice a xs.length c)] 133 (0, 0)) ∧ Own w' 74 2 a xs.length c (evs xs) ∧ (k ≤ (mCount (rdP (mkS bs) 0) 8).1) ∧ (n ≤ bs.length + 1) ∧ (Good xs) ∧ (ldP ((mCount (rdP (mkS bs) 0) 8).1 - k) (rdP (mkS bs) n) xs = ldP (mCount (rdP (mkS bs) 0) 8).1 (mCount (rdP (mkS bs) 0) 8).2 []) ∧ (∀ x ∈ ob a, w18.heap.size ≤ x)) ((mCount (rdP (mkS bs) 0) 8).1 - 0) ⟨0, n_20, none, 0, [], rfl, rfl, rfl, rfl, rfl, rfl, rfl, rfl, rfl, rfl, Fr.refl _ _, h21, (by simpa using k27), Own.nil _ _ _, (by omega), (by have := p22; rw [mkS_size] at this; exact this), good_nil, (by rw [p23]; rfl), (fun x hx => by cases hx)⟩ ?_
  rintro m_f30 e28 w29 ⟨k, n, a, c, xs, hm_f30, s31, s32, s33, s34, s35, s36, s37, s38, s39, f30, h40, h41, h42, p43, p44, hg, inv, hge⟩
  have z45 := f30.size
  have t46 := t25.step f30 (app_new (one_new (by omega)) (one_new (by omega)))
  have l47 := h42.lt
  have n48 := ob_ne' h42.tag h40 rfl
  have n49 := ob_ne' h42.tag h41 rfl
  have t_f30 : Fr [b_3, b_12] w18 w29 := f30
  refine c_seq ?_
  refine c_region ?_
  refine l_v (v := (.bool (decide (((k : Nat) : Int) < (((mCount (rdP (mkS bs) 0) 8).1 : Nat) : Int))))) (r_lss s39 s38) ?_
  refine l_nil ?_
  refine (x_then ?_)
  refine c_seq ?_
  refine c_if (p := ((k : Nat) : Int) < (((mCount (rdP (mkS bs) 0) 8).1 : Nat) : Int)) rfl (fun c50 => ?_) (fun c50 => ?_)
  ·
    refine c_skip ?_
    refine (x_then ?_)
    refine c_seq ?_
    refine c_block ?_
    refine c_seq ?_
    refine c_region ?_
    refine l_v (v := (.pointer (some ⟨b_12, 0, none⟩))) (r_move s33) ?_
    refine l_do rfl ?_
    refine d_call (fl := []) (cl := []) (A := [(.pointer (some ⟨b_12, 0, none⟩)), (.int .i64 64)]) (B := [(.pointer (some ⟨b_12, 0, none⟩)), (.int .i64 64)]) F.ok71 rfl (ac rfl (ac rfl an)) rfl (rStr_c (b := b_12) (above := 64) (s := mkS bs) (n := n) h40 (by rw [mkS_size]; omega) (by rw [mkS_size]; omega)) ?_
    rintro _ w51 ⟨n_53, rfl, f52, h54, p55, p56⟩
    have z57 := f52.size
    have t58 := t46.step f52 (one_new (by omega))
    have t59 := t_f30.step f52 (one_in (by simp))
    have he1 := p56
    have hb1 := p55
    refine l_v (v := (.string (mkS (mStr (rdP (mkS bs) n) 64).1))) (r_assign rfl) ?_
    refine l_nil ?_
    refine (x_then ?_)
    refine c_seq ?_
    refine c_region ?_
    refine l_v (v := (.pointer (some ⟨b_3, 0, none⟩))) (r_move s32) ?_
    refine l_v (v := (.string (mkS (mStr (rdP (mkS bs) n) 64).1))) (r_move rfl) ?_
    refine l_v (v := (.pointer (some ⟨b_12, 0, none⟩))) (r_move s33) ?_
    refine l_do rfl ?_
    refine d_call (fl := []) (cl := []) (A := [(.pointer (some ⟨b_12, 0, none⟩)), (.int .i64 2147483647)]) (B := [(.pointer (some ⟨b_12, 0, none⟩)), (.int .i64 2147483647)]) F.ok70 rfl (ac rfl (ac rfl an)) rfl (rCount_c (b := b_12) (above := 2147483647) (s := mkS bs) (n := n_53) h54 (by rw [mkS_size]; omega) hb1) ?_
    rintro _ w60 ⟨n_62, rfl, f61, h63, p64, p65⟩
    have z66 := f61.size
    have t67 := t58.step f61 (one_new (by omega))
    have t68 := t59.step f61 (one_in (by simp))
    have he2 := p65
    have hb2 := p64
    refine l_do rfl ?_
    have k69 := h41.keep f52 (not_in1 (by omega))
    have k70 := k69.keep f61 (not_in1 (by omega))
    have k71 := h42.keep f52 (ob_not1 n48)
    have k72 := k71.keep f61 (ob_not1 n48)
    refine d_call (fl := []) (cl := []) (A := [(.pointer (some ⟨b_3, 0, none⟩)), (.string (mkS (mStr (rdP (mkS bs) n) 64).1)), (.int .i64 (((mCount (rdP (mkS bs) n_53) 2147483647).1 : Nat) : Int))]) (B := [(.pointer (some ⟨b_3, 0, none⟩)), (.string (mkS (mStr (rdP (mkS bs) n) 64).1)), (.int .i64 (((mCount (rdP (mkS bs) n_53) 2147483647).1 : Nat) : Int))]) F.ok34 rfl (ac rfl (ac rfl (ac rfl an))) rfl (take_c (b := b_3) (id := mkS (mStr (rdP (mkS bs) n) 64).1) (p := (((mCount (rdP (mkS bs) n_53) 2147483647).1 : Nat) : Int)) (a := a) (xs := xs) (c := c) k70 k72 hg.1 (by rw [mkS_size]; have := mStr_len (mkS bs) n 64; rw [mkS_size] at this; omega)) ?_
    rintro _ w73 ⟨a_75, c_76, rfl, f74, h77, h78, p79⟩
    have z80 := f74.size
    have t81 := t67.step f74 (app_new (one_new (by omega)) (ob_new hge (by omega)))
    have t82 := t68.step f74 (app_new (one_in (by simp)) (ob_new hge (by omega)))
    have l84 := h78.lt
    have g85 := ob_age hge p79 (by omega)
    refine l_v (v := (.bool (decide ((takeC xs (mkS (mStr (rdP (mkS bs) n) 64).1) (((mCount (rdP (mkS bs) n_53) 2147483647).1 : Nat) : Int)) ≠ 0)))) (r_neq rfl rfl) ?_
    refine l_nil ?_
    refine (x_then ?_)
    refine c_if (p := (takeC xs (mkS (mStr (rdP (mkS bs) n) 64).1) (((mCount (rdP (mkS bs) n_53) 2147483647).1 : Nat) : Int)) ≠ 0) rfl (fun c86 => ?_) (fun c86 => ?_)
    ·
      refine c_seq ?_
      refine c_region ?_
      refine l_v (v := (.pointer none)) (r_assign rfl) ?_
      refine l_v (v := (.int .i64 4)) (r_assign rfl) ?_
      refine l_nil ?_
      refine (x_then ?_)
      refine c_ret ?_
      refine (x_blk_r (x_then_r (x_then_r (x_blk_r (x_then_r ?_)))))
      refine p_ret (v := (.tuple #[(.pointer none), (.int .i64 4)])) (res2 rfl rfl rfl) ?_
      exfalso; have e := ld_stop (N := (mCount (rdP (mkS bs) 0) 8).1) (k := k) (r := rdP (mkS bs) n) (xs := xs) (by omega) (by rw [← he1]; omega); rw [inv] at e; rw [load_stop e] at hn; cases hn
    ·
      refine c_skip ?_
      refine (x_blk (x_then ?_))
      refine c_region ?_
      refine l_v (v := (.int .i64 ((k + 1 : Nat) : Int))) (r_add s39 rfl (w64 (by omega) (by omega) (by omega))) ?_
      refine l_v (v := (.int .i64 ((k + 1 : Nat) : Int))) (r_move rfl) ?_
      refine l_nil ?_
      refine (x_then ?_)
      have k87 := h63.keep f74 (not_app (not_in1 (by omega)) n48)
      exact ⟨_, _, (by omega), rfl, k + 1, n_62, a_75, c_76, (takeL xs (mkS (mStr (rdP (mkS bs) n) 64).1) (((mCount (rdP (mkS bs) n_53) 2147483647).1 : Nat) : Int)), rfl, s31, s32, s33, s34, s35, s36, s37, s38, rfl, t82, k87, h77, h78, (by omega), (by have := hb2; rw [mkS_size] at this; exact this), (good_take hg), (by rw [he2, he1, ← inv]; exact (ld_step (by omega) (by rw [← he1]; omega)).symm), g85⟩
  ·
    refine c_exit ?_
    refine (x_then_x (x_then_x (x_blk_hit (x_then ?_))))
    refine c_seq ?_
    refine c_seq ?_
    refine c_region ?_
    refine l_v (v := (.pointer (some ⟨b_12, 0, none⟩))) (r_move s33) ?_
    refine l_do rfl ?_
    refine d_call (fl := []) (cl := []) (A := [(.pointer (some ⟨b_12, 0, none⟩))]) (B := [(.pointer (some ⟨b_12, 0, none⟩))]) F.ok72 rfl (ac rfl an) rfl (rDone_c (b := b_12) (s := mkS bs) (n := n) h40) ?_
    rintro _ w88 ⟨rfl, f89⟩
    have z90 := f89.size
    have t91 := t46.trans0 f89
    have t92 := t_f30.trans0 f89
    refine l_v (v := (.bool (decide (¬ (((n : Nat) : Int) = ((bs.length : Nat) : Int)))))) (r_notP rfl) ?_
    refine l_nil ?_
    refine (x_then ?_)
    refine c_if (p := ¬ (((n : Nat) : Int) = ((bs.length : Nat) : Int))) rfl (fun c93 => ?_) (fun c93 => ?_)
    ·
      refine c_seq ?_
      refine c_region ?_
      refine l_v (v := (.pointer none)) (r_assign rfl) ?_
      refine l_v (v := (.int .i64 4)) (r_assign rfl) ?_
      refine l_nil ?_
      refine (x_then ?_)
      refine c_ret ?_
      refine (x_then_r ?_)
      refine p_ret (v := (.tuple #[(.pointer none), (.int .i64 4)])) (res2 rfl rfl rfl) ?_
      exfalso; have e := load_end (by omega) inv; rw [if_neg (by have := mkS_size bs; omega), hn] at e; cases e
    ·
      refine c_skip ?_
      refine (x_then ?_)
      refine c_seq ?_
      refine c_region ?_
      refine l_v (v := (.pointer (some ⟨b_3, 0, none⟩))) (r_move s32) ?_
      refine l_v (v := (.pointer (some ⟨b_3, 0, none⟩))) (r_assign rfl) ?_
      refine l_v (v := (.int .i64 0)) (r_assign rfl) ?_
      refine l_nil ?_
      refine (x_then ?_)
      refine c_ret ?_
      refine p_ret (v := (.tuple #[(.pointer (some ⟨b_3, 0, none⟩)), (.int .i64 0)])) (res2 rfl rfl rfl) ?_
      have e := load_end (by omega) inv
      rw [if_pos (by have := mkS_size bs; omega), hn] at e
      have e2 := Option.some.inj e
      subst e2
      have k94 := h41.keep0 f89
      have k95 := h42.keep0 f89
      exact ⟨b_3, a, c, rfl, t91, k94, k95, (by omega), (ob_ge hge (by omega)), hg⟩

end Go.Sy
