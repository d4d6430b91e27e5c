/- Walks of the reader of package code. -/
import Derived.Test.YtnhpfhhpochgfaaFacts
import Derived.Test.YtnhpfhhpochgfaaPRead
import Derived.Test.YtnhpfhhpochgfaaWCode
namespace Go.Sy
set_option linter.unusedVariables false
set_option linter.unusedSimpArgs false

set_option maxHeartbeats 400000 in
set_option maxRecDepth 100000 in
theorem number_c {w : World} {s : ByteArray} (h9 : s.size ≤ 3000000000) :
    Calls Proofs.Try.prog 166 #[(.string s)] w (Ret fun v w' => v = (.tuple #[(.int .u64 ((numU s.data.toList : Nat) : Int)), (.int .i64 ((numN s.data.toList : Nat) : Int))]) ∧ Fr [] w w') := by
  have t0 : Fr [] w w := Fr.refl _ _
  refine enter Proofs.Try.func166 rfl Proofs.Try.ntmps166 (Nat.le_of_ble_eq_true rfl) ?_
  refine c_seq ?_
  refine c_region ?_
  refine l_v (v := (.int .u64 0)) (r_assign rfl) ?_
  refine l_v (v := (.int .i64 0)) (r_assign rfl) ?_
  refine l_nil ?_
  refine (x_then ?_)
  refine c_seq ?_
  refine c_region ?_
  refine l_v (v := (.int .i64 0)) (r_assign rfl) ?_
  refine l_nil ?_
  refine (x_then ?_)
  refine c_seq ?_
  refine c_block ?_
  refine c_loop (fun (m : Nat) (e' : Nat → Value) (w' : World) => ∃ k : Nat, m = s.size - k ∧ e' 0 = (.string s) ∧ e' 2 = (.int .u64 0) ∧ e' 3 = (.int .i64 0) ∧ e' 4 = (.int .i64 ((k : Nat) : Int)) ∧ Fr [] w w' ∧ (k ≤ 10) ∧ (k ≤ s.size) ∧ (∀ j, j < k → ∀ c, s.data.toList[j]? = some c → 128 ≤ c.toNat)) (s.size - 0) ⟨0, rfl, rfl, rfl, rfl, rfl, Fr.refl _ _, (by omega), (by omega), (fun j hj => by omega)⟩ ?_
  rintro m_f3 e1 w2 ⟨k, hm_f3, s4, s5, s6, s7, f3, p8, p9, hall⟩
  have z10 := f3.size
  have t11 := t0.trans0 f3
  have t_f3 : Fr [] w w2 := f3
  refine c_seq ?_
  refine c_seq ?_
  refine c_region ?_
  refine l_v (v := (.int .i64 ((k : Nat) : Int))) (r_move s7) ?_
  refine l_v (v := (.string s)) (r_move s4) ?_
  refine l_v (v := (.int .i64 ((s.size : Nat) : Int))) (r_lenSn Proofs.Try.underlying9 rfl rfl) ?_
  refine l_v (v := (.int .i64 ((min s.size 10 : Nat) : Int))) (r_min rfl rfl (by split <;> omega)) ?_
  refine l_v (v := (.bool (decide (((k : Nat) : Int) < ((min s.size 10 : Nat) : Int))))) (r_lss rfl rfl) ?_
  refine l_v (v := (.bool (decide (((k : Nat) : Int) < ((min s.size 10 : Nat) : Int))))) (r_move rfl) ?_
  refine l_em (p := ((k : Nat) : Int) < ((min s.size 10 : Nat) : Int)) ?_ ?_
  · intro c12
    refine l_gv (v := (.string s)) (wanted_run rfl rfl (bd rfl c12)) (r_move s4) ?_
    refine l_gv (v := (.int .i64 ((k : Nat) : Int))) (wanted_run rfl rfl (bd rfl c12)) (r_move s7) ?_
    obtain ⟨x, hx⟩ := byte_some (s := s) (k := k) (by omega)
    refine l_gv (v := (.int .u8 ((x.toNat : Nat) : Int))) (wanted_run rfl rfl (bd rfl c12)) (r_indexS Proofs.Try.underlying9 rfl rfl (by omega) (byte_get rfl hx)) ?_
    refine l_gv (v := (.bool (decide (128 ≤ ((x.toNat : Nat) : Int))))) (wanted_run rfl rfl (bd rfl c12)) (r_geq rfl rfl) ?_
    refine l_v (v := (.bool (decide (128 ≤ ((x.toNat : Nat) : Int))))) (r_pick_t (bd rfl c12) rfl) ?_
    refine l_nil ?_
    refine (x_then ?_)
    refine c_if (p := 128 ≤ ((x.toNat : Nat) : Int)) rfl (fun c13 => ?_) (fun c13 => ?_)
    ·
      refine c_skip ?_
      refine (x_then ?_)
      refine c_block ?_
      refine c_region ?_
      refine l_v (v := (.int .i64 ((k : Nat) : Int))) (r_move s7) ?_
      refine l_v (v := (.int .i64 ((k + 1 : Nat) : Int))) (r_add rfl rfl (w64 (by omega) (by omega) (by omega))) ?_
      refine l_v (v := (.int .i64 ((k + 1 : Nat) : Int))) (r_assign rfl) ?_
      refine l_nil ?_
      refine (x_blk (x_then ?_))
      exact ⟨_, _, (by omega), rfl, k + 1, rfl, s4, s5, s6, rfl, t_f3, (by omega), (by omega), (hall_succ hall hx (by omega))⟩
    ·
      refine c_exit ?_
      refine (x_then_x (x_then_x (x_blk_hit (x_then ?_))))
      refine c_seq ?_
      refine c_seq ?_
      refine c_region ?_
      refine l_v (v := (.int .i64 ((k : Nat) : Int))) (r_move s7) ?_
      refine l_v (v := (.string s)) (r_move s4) ?_
      refine l_v (v := (.int .i64 ((s.size : Nat) : Int))) (r_lenSn Proofs.Try.underlying9 rfl rfl) ?_
      refine l_v (v := (.bool (decide (((s.size : Nat) : Int) ≤ ((k : Nat) : Int))))) (r_geq rfl rfl) ?_
      refine l_v (v := (.bool (decide (((s.size : Nat) : Int) ≤ ((k : Nat) : Int))))) (r_move rfl) ?_
      refine l_em (p := ((s.size : Nat) : Int) ≤ ((k : Nat) : Int)) ?_ ?_
      · intro c14
        refine l_skip (wanted_not rfl rfl (bd rfl c14) (by decide)) ?_
        refine l_skip (wanted_not rfl rfl (bd rfl c14) (by decide)) ?_
        refine l_v (v := (.bool true)) (r_pick_t (bd rfl c14) rfl) ?_
        refine l_v (v := (.bool true)) (r_move rfl) ?_
        refine l_skip (wanted_not rfl rfl rfl (by decide)) ?_
        refine l_skip (wanted_not rfl rfl rfl (by decide)) ?_
        refine l_skip (wanted_not rfl rfl rfl (by decide)) ?_
        refine l_skip (wanted_undef rfl rfl rfl) ?_
        refine l_skip (wanted_undef rfl rfl rfl) ?_
        refine l_skip (wanted_undef rfl rfl rfl) ?_
        refine l_skip (wanted_undef rfl rfl rfl) ?_
        refine l_skip (wanted_not rfl rfl rfl (by decide)) ?_
        refine l_v (v := (.bool true)) (r_pick_t rfl rfl) ?_
        refine l_nil ?_
        refine (x_then ?_)
        refine c_true rfl ?_
        refine c_seq ?_
        refine c_region ?_
        refine l_v (v := (.int .u64 0)) (r_assign rfl) ?_
        refine l_v (v := (.int .i64 0)) (r_assign rfl) ?_
        refine l_nil ?_
        refine (x_then ?_)
        refine c_ret ?_
        refine (x_then_r ?_)
        refine p_ret (v := (.tuple #[(.int .u64 0), (.int .i64 0)])) (res2 rfl rfl rfl) ?_
        exact ⟨(by first | (exfalso; omega) | (have e := num_long hall (by have := size_eq s; omega); rw [e.1, e.2]; rfl) | (have e := num_ten hall (by omega) hy (by omega); rw [e.1, e.2]; rfl) | (obtain rfl : j = 0 := (by omega); have e := num_end hall hx (by omega) hu; rw [if_neg (by omega)] at e; rw [e.1, e.2]; rfl)), t11⟩
      · intro c14
        refine l_gv (v := (.int .i64 ((k : Nat) : Int))) (wanted_run rfl rfl (bn rfl c14)) (r_move s7) ?_
        refine l_gv (v := (.bool (decide (((k : Nat) : Int) = 10)))) (wanted_run rfl rfl (bn rfl c14)) (r_eql rfl rfl) ?_
        refine l_v (v := (.bool (decide (((k : Nat) : Int) = 10)))) (r_pick_f (bn rfl c14) rfl) ?_
        refine l_v (v := (.bool (decide (((k : Nat) : Int) = 10)))) (r_move rfl) ?_
        refine l_em (p := ((k : Nat) : Int) = 10) ?_ ?_
        · intro c15
          exfalso; omega
        · intro c15
          refine l_gv (v := (.int .i64 ((k : Nat) : Int))) (wanted_run rfl rfl (bn rfl c15)) (r_move s7) ?_
          refine l_gv (v := (.bool (decide (((k : Nat) : Int) = 9)))) (wanted_run rfl rfl (bn rfl c15)) (r_eql rfl rfl) ?_
          refine l_gv (v := (.bool (decide (((k : Nat) : Int) = 9)))) (wanted_run rfl rfl (bn rfl c15)) (r_move rfl) ?_
          refine l_em (p := ((k : Nat) : Int) = 9) ?_ ?_
          · intro c16
            refine l_gv (v := (.string s)) (wanted_run rfl rfl (bd rfl c16)) (r_move s4) ?_
            refine l_gv (v := (.int .i64 ((k : Nat) : Int))) (wanted_run rfl rfl (bd rfl c16)) (r_move s7) ?_
            obtain ⟨y, hy⟩ := byte_some (s := s) (k := k) (by omega)
            refine l_gv (v := (.int .u8 ((y.toNat : Nat) : Int))) (wanted_run rfl rfl (bd rfl c16)) (r_indexS Proofs.Try.underlying9 rfl rfl (by omega) (byte_get rfl hy)) ?_
            refine l_gv (v := (.bool (decide (1 < ((y.toNat : Nat) : Int))))) (wanted_run rfl rfl (bd rfl c16)) (r_gtr rfl rfl) ?_
            refine l_gv (v := (.bool (decide (1 < ((y.toNat : Nat) : Int))))) (wanted_run rfl rfl (bn rfl c15)) (r_pick_t (bd rfl c16) rfl) ?_
            refine l_v (v := (.bool (decide (1 < ((y.toNat : Nat) : Int))))) (r_pick_f (bn rfl c15) rfl) ?_
            refine l_nil ?_
            refine (x_then ?_)
            refine c_if (p := 1 < ((y.toNat : Nat) : Int)) rfl (fun c17 => ?_) (fun c17 => ?_)
            ·
              refine c_seq ?_
              refine c_region ?_
              refine l_v (v := (.int .u64 0)) (r_assign rfl) ?_
              refine l_v (v := (.int .i64 0)) (r_assign rfl) ?_
              refine l_nil ?_
              refine (x_then ?_)
              refine c_ret ?_
              refine (x_then_r ?_)
              refine p_ret (v := (.tuple #[(.int .u64 0), (.int .i64 0)])) (res2 rfl rfl rfl) ?_
              exact ⟨(by first | (exfalso; omega) | (have e := num_long hall (by have := size_eq s; omega); rw [e.1, e.2]; rfl) | (have e := num_ten hall (by omega) hy (by omega); rw [e.1, e.2]; rfl) | (obtain rfl : j = 0 := (by omega); have e := num_end hall hx (by omega) hu; rw [if_neg (by omega)] at e; rw [e.1, e.2]; rfl)), t11⟩
            ·
              refine c_skip ?_
              refine (x_then ?_)
              refine c_seq ?_
              refine c_region ?_
              refine l_v (v := (.int .u64 0)) (r_assign rfl) ?_
              refine l_nil ?_
              refine (x_then ?_)
              refine c_seq ?_
              refine c_seq ?_
              refine c_region ?_
              refine l_v (v := (.int .i64 ((k : Nat) : Int))) (r_move s7) ?_
              refine l_v (v := (.int .i64 ((k : Nat) : Int))) (r_assign rfl) ?_
              refine l_nil ?_
              refine (x_then ?_)
              refine c_block ?_
              refine c_loop (fun (m : Nat) (e' : Nat → Value) (w' : World) => ∃ j : Nat, m = j ∧ e' 0 = (.string s) ∧ e' 2 = (.int .u64 0) ∧ e' 3 = (.int .i64 0) ∧ e' 4 = (.int .i64 ((k : Nat) : Int)) ∧ e' 5 = (.int .u64 ((val7 (seg s.data.toList j (k + 1)) : Nat) : Int)) ∧ e' 6 = (.int .i64 (((j : Nat) : Int) - 1)) ∧ e' 7 = (.int .i64 ((k : Nat) : Int)) ∧ e' 8 = (.string s) ∧ e' 9 = (.int .i64 ((s.size : Nat) : Int)) ∧ e' 10 = (.int .i64 ((min s.size 10 : Nat) : Int)) ∧ e' 11 = (.bool (decide (((k : Nat) : Int) < ((min s.size 10 : Nat) : Int)))) ∧ e' 12 = (.bool (decide (((k : Nat) : Int) < ((min s.size 10 : Nat) : Int)))) ∧ e' 13 = (.string s) ∧ e' 14 = (.int .i64 ((k : Nat) : Int)) ∧ e' 15 = (.int .u8 ((x.toNat : Nat) : Int)) ∧ e' 16 = (.bool (decide (128 ≤ ((x.toNat : Nat) : Int)))) ∧ e' 17 = (.bool (decide (128 ≤ ((x.toNat : Nat) : Int)))) ∧ e' 20 = (.int .i64 ((k : Nat) : Int)) ∧ e' 21 = (.string s) ∧ e' 22 = (.int .i64 ((s.size : Nat) : Int)) ∧ e' 23 = (.bool (decide (((s.size : Nat) : Int) ≤ ((k : Nat) : Int)))) ∧ e' 24 = (.bool (decide (((s.size : Nat) : Int) ≤ ((k : Nat) : Int)))) ∧ e' 25 = (.int .i64 ((k : Nat) : Int)) ∧ e' 26 = (.bool (decide (((k : Nat) : Int) = 10))) ∧ e' 27 = (.bool (decide (((k : Nat) : Int) = 10))) ∧ e' 28 = (.bool (decide (((k : Nat) : Int) = 10))) ∧ e' 29 = (.int .i64 ((k : Nat) : Int)) ∧ e' 30 = (.bool (decide (((k : Nat) : Int) = 9))) ∧ e' 31 = (.bool (decide (((k : Nat) : Int) = 9))) ∧ e' 32 = (.string s) ∧ e' 33 = (.int .i64 ((k : Nat) : Int)) ∧ e' 34 = (.int .u8 ((y.toNat : Nat) : Int)) ∧ e' 35 = (.bool (decide (1 < ((y.toNat : Nat) : Int)))) ∧ e' 36 = (.bool (decide (1 < ((y.toNat : Nat) : Int)))) ∧ e' 37 = (.bool (decide (1 < ((y.toNat : Nat) : Int)))) ∧ e' 38 = (.int .i64 ((k : Nat) : Int)) ∧ Fr [] w2 w' ∧ (j ≤ k + 1)) ((k + 1)) ⟨k + 1, rfl, s4, s5, s6, s7, (by rw [seg_end]; rfl), (show Value.int _ _ = Value.int _ _ by congr 1; omega), rfl, rfl, rfl, rfl, rfl, rfl, rfl, rfl, rfl, rfl, rfl, rfl, rfl, rfl, rfl, rfl, rfl, rfl, rfl, rfl, rfl, rfl, rfl, rfl, rfl, rfl, rfl, rfl, rfl, rfl, Fr.refl _ _, (by omega)⟩ ?_
              rintro m_f20 e18 w19 ⟨j, hm_f20, s21, s22, s23, s24, s25, s26, s27, s28, s29, s30, s31, s32, s33, s34, s35, s36, s37, s38, s39, s40, s41, s42, s43, s44, s45, s46, s47, s48, s49, s50, s51, s52, s53, s54, s55, s56, f20, p57⟩
              have z58 := f20.size
              have t59 := t11.trans0 f20
              have t60 := t_f3.trans0 f20
              have t_f20 : Fr [] w2 w19 := f20
              refine c_seq ?_
              refine c_seq ?_
              refine c_region ?_
              refine l_v (v := (.int .i64 (((j : Nat) : Int) - 1))) (r_move s26) ?_
              refine l_v (v := (.bool (decide (0 ≤ ((j : Nat) : Int) - 1)))) (r_geq rfl rfl) ?_
              refine l_nil ?_
              refine (x_then ?_)
              refine c_if (p := 0 ≤ ((j : Nat) : Int) - 1) rfl (fun c61 => ?_) (fun c61 => ?_)
              ·
                refine c_skip ?_
                refine (x_then ?_)
                refine c_seq ?_
                refine c_block ?_
                refine c_region ?_
                have hbd := seg_bound (j := j) hx (by omega) (fun h => by first | omega | (exfalso; omega) | (have e := hx.symm.trans hy; cases e; omega)) (by omega) (by omega)
                obtain ⟨z, hz⟩ := byte_some (s := s) (k := j - 1) (by omega)
                refine l_v (v := (.int .u64 ((val7 (seg s.data.toList j (k + 1)) : Nat) : Int))) (r_move s25) ?_
                refine l_v (v := (.int .u64 ((val7 (seg s.data.toList j (k + 1)) * 128 : Nat) : Int))) (r_shl rfl rfl (by decide) (by decide) (shl7 (by omega))) ?_
                refine l_v (v := (.string s)) (r_move s21) ?_
                refine l_v (v := (.int .i64 (((j : Nat) : Int) - 1))) (r_move s26) ?_
                refine l_v (v := (.int .u8 ((z.toNat : Nat) : Int))) (r_indexS Proofs.Try.underlying9 rfl rfl (by omega) (byte_get (by omega) hz)) ?_
                refine l_v (v := (.int .u8 ((z.toNat % 128 : Nat) : Int))) (r_andNot rfl rfl (not128b z)) ?_
                refine l_v (v := (.int .u64 ((z.toNat % 128 : Nat) : Int))) (r_convI F.und5 Proofs.Try.underlying189 rfl (wu64 (by omega) (by omega) rfl)) ?_
                refine l_v (v := (.int .u64 ((val7 (seg s.data.toList (j - 1) (k + 1)) : Nat) : Int))) (r_or rfl rfl (or_seg (by omega) (by omega) hz (by omega))) ?_
                refine l_v (v := (.int .u64 ((val7 (seg s.data.toList (j - 1) (k + 1)) : Nat) : Int))) (r_assign rfl) ?_
                refine l_nil ?_
                refine (x_blk (x_then ?_))
                refine c_region ?_
                refine l_v (v := (.int .i64 (((j : Nat) : Int) - 1))) (r_move s26) ?_
                refine l_v (v := (.int .i64 (((j : Nat) : Int) - 1 - 1))) (r_sub rfl rfl (w64 (by omega) (by omega) rfl)) ?_
                refine l_v (v := (.int .i64 (((j : Nat) : Int) - 1 - 1))) (r_assign rfl) ?_
                refine l_nil ?_
                refine (x_then ?_)
                exact ⟨_, _, (by omega), rfl, j - 1, rfl, s21, s22, s23, s24, rfl, (show Value.int _ _ = Value.int _ _ by congr 1; omega), s27, s28, s29, s30, s31, s32, s33, s34, s35, s36, s37, s38, s39, s40, s41, s42, s43, s44, s45, s46, s47, s48, s49, s50, s51, s52, s53, s54, s55, s56, t_f20, (by omega)⟩
              ·
                refine c_exit ?_
                refine (x_then_x (x_then_x (x_blk_hit (x_then ?_))))
                refine c_seq ?_
                refine c_seq ?_
                refine c_region ?_
                have hj0 : j = 0 := by omega
                have hu : val7 (seg s.data.toList 0 (k + 1)) < 18446744073709551616 := seg_all hx (by omega) (fun h => by first | omega | (have e := hx.symm.trans hy; cases e; omega))
                refine l_v (v := (.int .u64 ((val7 (seg s.data.toList j (k + 1)) : Nat) : Int))) (r_move s25) ?_
                refine l_do rfl ?_
                refine d_call (fl := []) (cl := []) (A := [(.int .u64 ((val7 (seg s.data.toList j (k + 1)) : Nat) : Int))]) (B := [(.int .u64 ((val7 (seg s.data.toList j (k + 1)) : Nat) : Int))]) F.ok168 rfl (ac rfl an) rfl (groups_c (u := val7 (seg s.data.toList j (k + 1))) (by rw [hj0]; exact hu)) ?_
                rintro _ w62 ⟨rfl, f63⟩
                have z64 := f63.size
                have t65 := t59.trans0 f63
                have t66 := t60.trans0 f63
                have t67 := t_f20.trans0 f63
                refine l_v (v := (.int .i64 ((k : Nat) : Int))) (r_move s24) ?_
                refine l_v (v := (.int .i64 ((k + 1 : Nat) : Int))) (r_add rfl rfl (w64 (by omega) (by omega) (by omega))) ?_
                refine l_v (v := (.bool (decide (((ngr (val7 (seg s.data.toList j (k + 1))) : Nat) : Int) ≠ ((k + 1 : Nat) : Int))))) (r_neq rfl rfl) ?_
                refine l_nil ?_
                refine (x_then ?_)
                refine c_if (p := ((ngr (val7 (seg s.data.toList j (k + 1))) : Nat) : Int) ≠ ((k + 1 : Nat) : Int)) rfl (fun c68 => ?_) (fun c68 => ?_)
                ·
                  refine c_seq ?_
                  refine c_region ?_
                  refine l_v (v := (.int .u64 0)) (r_assign rfl) ?_
                  refine l_v (v := (.int .i64 0)) (r_assign rfl) ?_
                  refine l_nil ?_
                  refine (x_then ?_)
                  refine c_ret ?_
                  refine (x_then_r ?_)
                  refine p_ret (v := (.tuple #[(.int .u64 0), (.int .i64 0)])) (res2 rfl rfl rfl) ?_
                  exact ⟨(by first | (exfalso; omega) | (have e := num_long hall (by have := size_eq s; omega); rw [e.1, e.2]; rfl) | (have e := num_ten hall (by omega) hy (by omega); rw [e.1, e.2]; rfl) | (obtain rfl : j = 0 := (by omega); have e := num_end hall hx (by omega) hu; rw [if_neg (by omega)] at e; rw [e.1, e.2]; rfl)), t65⟩
                ·
                  refine c_skip ?_
                  refine (x_then ?_)
                  refine c_seq ?_
                  refine c_region ?_
                  refine l_v (v := (.int .u64 ((val7 (seg s.data.toList j (k + 1)) : Nat) : Int))) (r_move s25) ?_
                  refine l_v (v := (.int .i64 ((k : Nat) : Int))) (r_move s24) ?_
                  refine l_v (v := (.int .i64 ((k + 1 : Nat) : Int))) (r_add rfl rfl (w64 (by omega) (by omega) (by omega))) ?_
                  refine l_v (v := (.int .u64 ((val7 (seg s.data.toList j (k + 1)) : Nat) : Int))) (r_assign rfl) ?_
                  refine l_v (v := (.int .i64 ((k + 1 : Nat) : Int))) (r_assign rfl) ?_
                  refine l_nil ?_
                  refine (x_then ?_)
                  refine c_ret ?_
                  refine p_ret (v := (.tuple #[(.int .u64 ((val7 (seg s.data.toList j (k + 1)) : Nat) : Int)), (.int .i64 ((k + 1 : Nat) : Int))])) (res2 rfl rfl rfl) ?_
                  exact ⟨(by obtain rfl : j = 0 := (by omega); have e := num_end hall hx (by omega) hu; rw [if_pos (by omega)] at e; rw [e.1, e.2]), t65⟩
          · intro c16
            refine l_skip (wanted_not rfl rfl (bn rfl c16) (by decide)) ?_
            refine l_skip (wanted_not rfl rfl (bn rfl c16) (by decide)) ?_
            refine l_skip (wanted_not rfl rfl (bn rfl c16) (by decide)) ?_
            refine l_skip (wanted_not rfl rfl (bn rfl c16) (by decide)) ?_
            refine l_gv (v := (.bool false)) (wanted_run rfl rfl (bn rfl c15)) (r_pick_f (bn rfl c16) rfl) ?_
            refine l_v (v := (.bool false)) (r_pick_f (bn rfl c15) rfl) ?_
            refine l_nil ?_
            refine (x_then ?_)
            refine c_false rfl ?_
            refine c_skip ?_
            refine (x_then ?_)
            refine c_seq ?_
            refine c_region ?_
            refine l_v (v := (.int .u64 0)) (r_assign rfl) ?_
            refine l_nil ?_
            refine (x_then ?_)
            refine c_seq ?_
            refine c_seq ?_
            refine c_region ?_
            refine l_v (v := (.int .i64 ((k : Nat) : Int))) (r_move s7) ?_
            refine l_v (v := (.int .i64 ((k : Nat) : Int))) (r_assign rfl) ?_
            refine l_nil ?_
            refine (x_then ?_)
            refine c_block ?_
            refine c_loop (fun (m : Nat) (e' : Nat → Value) (w' : World) => ∃ j : Nat, m = j ∧ e' 0 = (.string s) ∧ e' 2 = (.int .u64 0) ∧ e' 3 = (.int .i64 0) ∧ e' 4 = (.int .i64 ((k : Nat) : Int)) ∧ e' 5 = (.int .u64 ((val7 (seg s.data.toList j (k + 1)) : Nat) : Int)) ∧ e' 6 = (.int .i64 (((j : Nat) : Int) - 1)) ∧ e' 7 = (.int .i64 ((k : Nat) : Int)) ∧ e' 8 = (.string s) ∧ e' 9 = (.int .i64 ((s.size : Nat) : Int)) ∧ e' 10 = (.int .i64 ((min s.size 10 : Nat) : Int)) ∧ e' 11 = (.bool (decide (((k : Nat) : Int) < ((min s.size 10 : Nat) : Int)))) ∧ e' 12 = (.bool (decide (((k : Nat) : Int) < ((min s.size 10 : Nat) : Int)))) ∧ e' 13 = (.string s) ∧ e' 14 = (.int .i64 ((k : Nat) : Int)) ∧ e' 15 = (.int .u8 ((x.toNat : Nat) : Int)) ∧ e' 16 = (.bool (decide (128 ≤ ((x.toNat : Nat) : Int)))) ∧ e' 17 = (.bool (decide (128 ≤ ((x.toNat : Nat) : Int)))) ∧ e' 20 = (.int .i64 ((k : Nat) : Int)) ∧ e' 21 = (.string s) ∧ e' 22 = (.int .i64 ((s.size : Nat) : Int)) ∧ e' 23 = (.bool (decide (((s.size : Nat) : Int) ≤ ((k : Nat) : Int)))) ∧ e' 24 = (.bool (decide (((s.size : Nat) : Int) ≤ ((k : Nat) : Int)))) ∧ e' 25 = (.int .i64 ((k : Nat) : Int)) ∧ e' 26 = (.bool (decide (((k : Nat) : Int) = 10))) ∧ e' 27 = (.bool (decide (((k : Nat) : Int) = 10))) ∧ e' 28 = (.bool (decide (((k : Nat) : Int) = 10))) ∧ e' 29 = (.int .i64 ((k : Nat) : Int)) ∧ e' 30 = (.bool (decide (((k : Nat) : Int) = 9))) ∧ e' 31 = (.bool (decide (((k : Nat) : Int) = 9))) ∧ e' 36 = (.bool false) ∧ e' 37 = (.bool false) ∧ e' 38 = (.int .i64 ((k : Nat) : Int)) ∧ Fr [] w2 w' ∧ (j ≤ k + 1)) ((k + 1)) ⟨k + 1, rfl, s4, s5, s6, s7, (by rw [seg_end]; rfl), (show Value.int _ _ = Value.int _ _ by congr 1; omega), rfl, rfl, rfl, rfl, rfl, rfl, rfl, rfl, rfl, rfl, rfl, rfl, rfl, rfl, rfl, rfl, rfl, rfl, rfl, rfl, rfl, rfl, rfl, rfl, rfl, rfl, Fr.refl _ _, (by omega)⟩ ?_
            rintro m_f71 e69 w70 ⟨j, hm_f71, s72, s73, s74, s75, s76, s77, s78, s79, s80, s81, s82, s83, s84, s85, s86, s87, s88, s89, s90, s91, s92, s93, s94, s95, s96, s97, s98, s99, s100, s101, s102, s103, f71, p104⟩
            have z105 := f71.size
            have t106 := t11.trans0 f71
            have t107 := t_f3.trans0 f71
            have t_f71 : Fr [] w2 w70 := f71
            refine c_seq ?_
            refine c_seq ?_
            refine c_region ?_
            refine l_v (v := (.int .i64 (((j : Nat) : Int) - 1))) (r_move s77) ?_
            refine l_v (v := (.bool (decide (0 ≤ ((j : Nat) : Int) - 1)))) (r_geq rfl rfl) ?_
            refine l_nil ?_
            refine (x_then ?_)
            refine c_if (p := 0 ≤ ((j : Nat) : Int) - 1) rfl (fun c108 => ?_) (fun c108 => ?_)
            ·
              refine c_skip ?_
              refine (x_then ?_)
              refine c_seq ?_
              refine c_block ?_
              refine c_region ?_
              have hbd := seg_bound (j := j) hx (by omega) (fun h => by first | omega | (exfalso; omega) | (have e := hx.symm.trans hy; cases e; omega)) (by omega) (by omega)
              obtain ⟨z, hz⟩ := byte_some (s := s) (k := j - 1) (by omega)
              refine l_v (v := (.int .u64 ((val7 (seg s.data.toList j (k + 1)) : Nat) : Int))) (r_move s76) ?_
              refine l_v (v := (.int .u64 ((val7 (seg s.data.toList j (k + 1)) * 128 : Nat) : Int))) (r_shl rfl rfl (by decide) (by decide) (shl7 (by omega))) ?_
              refine l_v (v := (.string s)) (r_move s72) ?_
              refine l_v (v := (.int .i64 (((j : Nat) : Int) - 1))) (r_move s77) ?_
              refine l_v (v := (.int .u8 ((z.toNat : Nat) : Int))) (r_indexS Proofs.Try.underlying9 rfl rfl (by omega) (byte_get (by omega) hz)) ?_
              refine l_v (v := (.int .u8 ((z.toNat % 128 : Nat) : Int))) (r_andNot rfl rfl (not128b z)) ?_
              refine l_v (v := (.int .u64 ((z.toNat % 128 : Nat) : Int))) (r_convI F.und5 Proofs.Try.underlying189 rfl (wu64 (by omega) (by omega) rfl)) ?_
              refine l_v (v := (.int .u64 ((val7 (seg s.data.toList (j - 1) (k + 1)) : Nat) : Int))) (r_or rfl rfl (or_seg (by omega) (by omega) hz (by omega))) ?_
              refine l_v (v := (.int .u64 ((val7 (seg s.data.toList (j - 1) (k + 1)) : Nat) : Int))) (r_assign rfl) ?_
              refine l_nil ?_
              refine (x_blk (x_then ?_))
              refine c_region ?_
              refine l_v (v := (.int .i64 (((j : Nat) : Int) - 1))) (r_move s77) ?_
              refine l_v (v := (.int .i64 (((j : Nat) : Int) - 1 - 1))) (r_sub rfl rfl (w64 (by omega) (by omega) rfl)) ?_
              refine l_v (v := (.int .i64 (((j : Nat) : Int) - 1 - 1))) (r_assign rfl) ?_
              refine l_nil ?_
              refine (x_then ?_)
              exact ⟨_, _, (by omega), rfl, j - 1, rfl, s72, s73, s74, s75, rfl, (show Value.int _ _ = Value.int _ _ by congr 1; omega), s78, s79, s80, s81, s82, s83, s84, s85, s86, s87, s88, s89, s90, s91, s92, s93, s94, s95, s96, s97, s98, s99, s100, s101, s102, s103, t_f71, (by omega)⟩
            ·
              refine c_exit ?_
              refine (x_then_x (x_then_x (x_blk_hit (x_then ?_))))
              refine c_seq ?_
              refine c_seq ?_
              refine c_region ?_
              have hj0 : j = 0 := by omega
              have hu : val7 (seg s.data.toList 0 (k + 1)) < 18446744073709551616 := seg_all hx (by omega) (fun h => by first | omega | (have e := hx.symm.trans hy; cases e; omega))
              refine l_v (v := (.int .u64 ((val7 (seg s.data.toList j (k + 1)) : Nat) : Int))) (r_move s76) ?_
              refine l_do rfl ?_
              refine d_call (fl := []) (cl := []) (A := [(.int .u64 ((val7 (seg s.data.toList j (k + 1)) : Nat) : Int))]) (B := [(.int .u64 ((val7 (seg s.data.toList j (k + 1)) : Nat) : Int))]) F.ok168 rfl (ac rfl an) rfl (groups_c (u := val7 (seg s.data.toList j (k + 1))) (by rw [hj0]; exact hu)) ?_
              rintro _ w109 ⟨rfl, f110⟩
              have z111 := f110.size
              have t112 := t106.trans0 f110
              have t113 := t107.trans0 f110
              have t114 := t_f71.trans0 f110
              refine l_v (v := (.int .i64 ((k : Nat) : Int))) (r_move s75) ?_
              refine l_v (v := (.int .i64 ((k + 1 : Nat) : Int))) (r_add rfl rfl (w64 (by omega) (by omega) (by omega))) ?_
              refine l_v (v := (.bool (decide (((ngr (val7 (seg s.data.toList j (k + 1))) : Nat) : Int) ≠ ((k + 1 : Nat) : Int))))) (r_neq rfl rfl) ?_
              refine l_nil ?_
              refine (x_then ?_)
              refine c_if (p := ((ngr (val7 (seg s.data.toList j (k + 1))) : Nat) : Int) ≠ ((k + 1 : Nat) : Int)) rfl (fun c115 => ?_) (fun c115 => ?_)
              ·
                refine c_seq ?_
                refine c_region ?_
                refine l_v (v := (.int .u64 0)) (r_assign rfl) ?_
                refine l_v (v := (.int .i64 0)) (r_assign rfl) ?_
                refine l_nil ?_
                refine (x_then ?_)
                refine c_ret ?_
                refine (x_then_r ?_)
                refine p_ret (v := (.tuple #[(.int .u64 0), (.int .i64 0)])) (res2 rfl rfl rfl) ?_
                exact ⟨(by first | (exfalso; omega) | (have e := num_long hall (by have := size_eq s; omega); rw [e.1, e.2]; rfl) | (have e := num_ten hall (by omega) hy (by omega); rw [e.1, e.2]; rfl) | (obtain rfl : j = 0 := (by omega); have e := num_end hall hx (by omega) hu; rw [if_neg (by omega)] at e; rw [e.1, e.2]; rfl)), t112⟩
              ·
                refine c_skip ?_
                refine (x_then ?_)
                refine c_seq ?_
                refine c_region ?_
                refine l_v (v := (.int .u64 ((val7 (seg s.data.toList j (k + 1)) : Nat) : Int))) (r_move s76) ?_
                refine l_v (v := (.int .i64 ((k : Nat) : Int))) (r_move s75) ?_
                refine l_v (v := (.int .i64 ((k + 1 : Nat) : Int))) (r_add rfl rfl (w64 (by omega) (by omega) (by omega))) ?_
                refine l_v (v := (.int .u64 ((val7 (seg s.data.toList j (k + 1)) : Nat) : Int))) (r_assign rfl) ?_
                refine l_v (v := (.int .i64 ((k + 1 : Nat) : Int))) (r_assign rfl) ?_
                refine l_nil ?_
                refine (x_then ?_)
                refine c_ret ?_
                refine p_ret (v := (.tuple #[(.int .u64 ((val7 (seg s.data.toList j (k + 1)) : Nat) : Int)), (.int .i64 ((k + 1 : Nat) : Int))])) (res2 rfl rfl rfl) ?_
                exact ⟨(by obtain rfl : j = 0 := (by omega); have e := num_end hall hx (by omega) hu; rw [if_pos (by omega)] at e; rw [e.1, e.2]), t112⟩
  · intro c12
    refine l_skip (wanted_not rfl rfl (bn rfl c12) (by decide)) ?_
    refine l_skip (wanted_not rfl rfl (bn rfl c12) (by decide)) ?_
    refine l_skip (wanted_not rfl rfl (bn rfl c12) (by decide)) ?_
    refine l_skip (wanted_not rfl rfl (bn rfl c12) (by decide)) ?_
    refine l_v (v := (.bool false)) (r_pick_f (bn rfl c12) rfl) ?_
    refine l_nil ?_
    refine (x_then ?_)
    refine c_false rfl ?_
    refine c_exit ?_
    refine (x_then_x (x_then_x (x_blk_hit (x_then ?_))))
    refine c_seq ?_
    refine c_seq ?_
    refine c_region ?_
    refine l_v (v := (.int .i64 ((k : Nat) : Int))) (r_move s7) ?_
    refine l_v (v := (.string s)) (r_move s4) ?_
    refine l_v (v := (.int .i64 ((s.size : Nat) : Int))) (r_lenSn Proofs.Try.underlying9 rfl rfl) ?_
    refine l_v (v := (.bool (decide (((s.size : Nat) : Int) ≤ ((k : Nat) : Int))))) (r_geq rfl rfl) ?_
    refine l_v (v := (.bool (decide (((s.size : Nat) : Int) ≤ ((k : Nat) : Int))))) (r_move rfl) ?_
    refine l_em (p := ((s.size : Nat) : Int) ≤ ((k : Nat) : Int)) ?_ ?_
    · intro c116
      refine l_skip (wanted_not rfl rfl (bd rfl c116) (by decide)) ?_
      refine l_skip (wanted_not rfl rfl (bd rfl c116) (by decide)) ?_
      refine l_v (v := (.bool true)) (r_pick_t (bd rfl c116) rfl) ?_
      refine l_v (v := (.bool true)) (r_move rfl) ?_
      refine l_skip (wanted_not rfl rfl rfl (by decide)) ?_
      refine l_skip (wanted_not rfl rfl rfl (by decide)) ?_
      refine l_skip (wanted_not rfl rfl rfl (by decide)) ?_
      refine l_skip (wanted_undef rfl rfl rfl) ?_
      refine l_skip (wanted_undef rfl rfl rfl) ?_
      refine l_skip (wanted_undef rfl rfl rfl) ?_
      refine l_skip (wanted_undef rfl rfl rfl) ?_
      refine l_skip (wanted_not rfl rfl rfl (by decide)) ?_
      refine l_v (v := (.bool true)) (r_pick_t rfl rfl) ?_
      refine l_nil ?_
      refine (x_then ?_)
      refine c_true rfl ?_
      refine c_seq ?_
      refine c_region ?_
      refine l_v (v := (.int .u64 0)) (r_assign rfl) ?_
      refine l_v (v := (.int .i64 0)) (r_assign rfl) ?_
      refine l_nil ?_
      refine (x_then ?_)
      refine c_ret ?_
      refine (x_then_r ?_)
      refine p_ret (v := (.tuple #[(.int .u64 0), (.int .i64 0)])) (res2 rfl rfl rfl) ?_
      exact ⟨(by first | (exfalso; omega) | (have e := num_long hall (by have := size_eq s; omega); rw [e.1, e.2]; rfl) | (have e := num_ten hall (by omega) hy (by omega); rw [e.1, e.2]; rfl) | (obtain rfl : j = 0 := (by omega); have e := num_end hall hx (by omega) hu; rw [if_neg (by omega)] at e; rw [e.1, e.2]; rfl)), t11⟩
    · intro c116
      refine l_gv (v := (.int .i64 ((k : Nat) : Int))) (wanted_run rfl rfl (bn rfl c116)) (r_move s7) ?_
      refine l_gv (v := (.bool (decide (((k : Nat) : Int) = 10)))) (wanted_run rfl rfl (bn rfl c116)) (r_eql rfl rfl) ?_
      refine l_v (v := (.bool (decide (((k : Nat) : Int) = 10)))) (r_pick_f (bn rfl c116) rfl) ?_
      refine l_v (v := (.bool (decide (((k : Nat) : Int) = 10)))) (r_move rfl) ?_
      refine l_em (p := ((k : Nat) : Int) = 10) ?_ ?_
      · intro c117
        refine l_skip (wanted_not rfl rfl (bd rfl c117) (by decide)) ?_
        refine l_skip (wanted_not rfl rfl (bd rfl c117) (by decide)) ?_
        refine l_skip (wanted_not rfl rfl (bd rfl c117) (by decide)) ?_
        refine l_skip (wanted_undef rfl rfl rfl) ?_
        refine l_skip (wanted_undef rfl rfl rfl) ?_
        refine l_skip (wanted_undef rfl rfl rfl) ?_
        refine l_skip (wanted_undef rfl rfl rfl) ?_
        refine l_skip (wanted_not rfl rfl (bd rfl c117) (by decide)) ?_
        refine l_v (v := (.bool true)) (r_pick_t (bd rfl c117) rfl) ?_
        refine l_nil ?_
        refine (x_then ?_)
        refine c_true rfl ?_
        refine c_seq ?_
        refine c_region ?_
        refine l_v (v := (.int .u64 0)) (r_assign rfl) ?_
        refine l_v (v := (.int .i64 0)) (r_assign rfl) ?_
        refine l_nil ?_
        refine (x_then ?_)
        refine c_ret ?_
        refine (x_then_r ?_)
        refine p_ret (v := (.tuple #[(.int .u64 0), (.int .i64 0)])) (res2 rfl rfl rfl) ?_
        exact ⟨(by first | (exfalso; omega) | (have e := num_long hall (by have := size_eq s; omega); rw [e.1, e.2]; rfl) | (have e := num_ten hall (by omega) hy (by omega); rw [e.1, e.2]; rfl) | (obtain rfl : j = 0 := (by omega); have e := num_end hall hx (by omega) hu; rw [if_neg (by omega)] at e; rw [e.1, e.2]; rfl)), t11⟩
      · intro c117
        exfalso; omega

set_option maxHeartbeats 400000 in
set_option maxRecDepth 100000 in
theorem within_c {w : World} {s : ByteArray} {above : Int} (h9 : s.size ≤ 3000000000) :
    Calls Proofs.Try.prog 139 #[(.string s), (.int .i64 above)] w (Ret fun v w' => v = (.tuple #[(.int .i64 ((cntU s.data.toList above : Nat) : Int)), (.int .i64 ((cntN s.data.toList above : Nat) : Int))]) ∧ Fr [] w w') := by
  have t0 : Fr [] w w := Fr.refl _ _
  refine enter Proofs.Try.func139 rfl Proofs.Try.ntmps139 (Nat.le_of_ble_eq_true rfl) ?_
  refine c_seq ?_
  refine c_region ?_
  refine l_v (v := (.int .i64 0)) (r_assign rfl) ?_
  refine l_v (v := (.int .i64 0)) (r_assign rfl) ?_
  refine l_nil ?_
  refine (x_then ?_)
  refine c_seq ?_
  refine c_region ?_
  refine l_v (v := (.string s)) (r_move rfl) ?_
  refine l_do rfl ?_
  refine d_call (fl := []) (cl := []) (A := [(.string s)]) (B := [(.string s)]) F.ok166 rfl (ac rfl an) rfl (number_c (s := s) (by omega)) ?_
  rintro _ w1 ⟨rfl, f2⟩
  have z3 := f2.size
  have t4 := t0.trans0 f2
  refine l_v (v := (.tuple #[(.int .u64 ((numU s.data.toList : Nat) : Int)), (.int .i64 ((numN s.data.toList : Nat) : Int))])) (r_move rfl) ?_
  refine l_v (v := (.int .u64 ((numU s.data.toList : Nat) : Int))) (r_extract rfl rfl) ?_
  refine l_v (v := (.int .i64 ((numN s.data.toList : Nat) : Int))) (r_extract rfl rfl) ?_
  refine l_v (v := (.int .u64 ((numU s.data.toList : Nat) : Int))) (r_assign rfl) ?_
  refine l_v (v := (.int .i64 ((numN s.data.toList : Nat) : Int))) (r_assign rfl) ?_
  refine l_nil ?_
  refine (x_then ?_)
  refine c_seq ?_
  refine c_seq ?_
  refine c_region ?_
  have hlt := numU_lt s.data.toList
  refine l_v (v := (.int .u64 ((numU s.data.toList : Nat) : Int))) (r_move rfl) ?_
  refine l_v (v := (.bool (decide (2147483647 < ((numU s.data.toList : Nat) : Int))))) (r_gtr rfl rfl) ?_
  refine l_v (v := (.bool (decide (2147483647 < ((numU s.data.toList : Nat) : Int))))) (r_move rfl) ?_
  refine l_em (p := 2147483647 < ((numU s.data.toList : Nat) : Int)) ?_ ?_
  · intro c5
    refine l_skip (wanted_not rfl rfl (bd rfl c5) (by decide)) ?_
    refine l_skip (wanted_not rfl rfl (bd rfl c5) (by decide)) ?_
    refine l_skip (wanted_not rfl rfl (bd rfl c5) (by decide)) ?_
    refine l_skip (wanted_not rfl rfl (bd rfl c5) (by decide)) ?_
    refine l_v (v := (.bool true)) (r_pick_t (bd rfl c5) rfl) ?_
    refine l_nil ?_
    refine (x_then ?_)
    refine c_true rfl ?_
    refine c_seq ?_
    refine c_region ?_
    refine l_v (v := (.int .i64 0)) (r_assign rfl) ?_
    refine l_v (v := (.int .i64 0)) (r_assign rfl) ?_
    refine l_nil ?_
    refine (x_then ?_)
    refine c_ret ?_
    refine (x_then_r ?_)
    refine p_ret (v := (.tuple #[(.int .i64 0), (.int .i64 0)])) (res2 rfl rfl rfl) ?_
    exact ⟨(by unfold cntU cntN; rw [if_pos (by omega), if_pos (by omega)]; rfl), t4⟩
  · intro c5
    refine l_gv (v := (.int .u64 ((numU s.data.toList : Nat) : Int))) (wanted_run rfl rfl (bn rfl c5)) (r_move rfl) ?_
    refine l_gv (v := (.int .i64 ((numU s.data.toList : Nat) : Int))) (wanted_run rfl rfl (bn rfl c5)) (r_convI F.und189 Proofs.Try.underlying3 rfl (w64 (by omega) (by omega) rfl)) ?_
    refine l_gv (v := (.int .i64 above)) (wanted_run rfl rfl (bn rfl c5)) (r_move rfl) ?_
    refine l_gv (v := (.bool (decide (above < ((numU s.data.toList : Nat) : Int))))) (wanted_run rfl rfl (bn rfl c5)) (r_gtr rfl rfl) ?_
    refine l_v (v := (.bool (decide (above < ((numU s.data.toList : Nat) : Int))))) (r_pick_f (bn rfl c5) rfl) ?_
    refine l_nil ?_
    refine (x_then ?_)
    refine c_if (p := above < ((numU s.data.toList : Nat) : Int)) rfl (fun c6 => ?_) (fun c6 => ?_)
    ·
      refine c_seq ?_
      refine c_region ?_
      refine l_v (v := (.int .i64 0)) (r_assign rfl) ?_
      refine l_v (v := (.int .i64 0)) (r_assign rfl) ?_
      refine l_nil ?_
      refine (x_then ?_)
      refine c_ret ?_
      refine (x_then_r ?_)
      refine p_ret (v := (.tuple #[(.int .i64 0), (.int .i64 0)])) (res2 rfl rfl rfl) ?_
      exact ⟨(by unfold cntU cntN; rw [if_pos (by omega), if_pos (by omega)]; rfl), t4⟩
    ·
      refine c_skip ?_
      refine (x_then ?_)
      refine c_seq ?_
      refine c_region ?_
      refine l_v (v := (.int .u64 ((numU s.data.toList : Nat) : Int))) (r_move rfl) ?_
      refine l_v (v := (.int .i64 ((numU s.data.toList : Nat) : Int))) (r_convI F.und189 Proofs.Try.underlying3 rfl (w64 (by omega) (by omega) rfl)) ?_
      refine l_v (v := (.int .i64 ((numN s.data.toList : Nat) : Int))) (r_move rfl) ?_
      refine l_v (v := (.int .i64 ((numU s.data.toList : Nat) : Int))) (r_assign rfl) ?_
      refine l_v (v := (.int .i64 ((numN s.data.toList : Nat) : Int))) (r_assign rfl) ?_
      refine l_nil ?_
      refine (x_then ?_)
      refine c_ret ?_
      refine p_ret (v := (.tuple #[(.int .i64 ((numU s.data.toList : Nat) : Int)), (.int .i64 ((numN s.data.toList : Nat) : Int))])) (res2 rfl rfl rfl) ?_
      exact ⟨(by unfold cntU cntN; rw [if_neg (by omega), if_neg (by omega)]), t4⟩

set_option maxHeartbeats 400000 in
set_option maxRecDepth 100000 in
theorem count1_c {w : World} {s : ByteArray} {q : Nat} {above : Int} (h9 : s.size ≤ 3000000000) (h1 : At w q (.cells #[(.int .i64 above)] 3 (0, 0))) :
    Calls Proofs.Try.prog 138 #[(.string s), (.pointer (some ⟨q, 0, none⟩))] w (Ret fun v w' => v = (.tuple #[(.int .i64 ((cntU s.data.toList above : Nat) : Int)), (.int .i64 ((cntN s.data.toList above : Nat) : Int))]) ∧ Fr [] w w') := by
  have lt_h1 := h1.lt
  have t0 : Fr [] w w := Fr.refl _ _
  refine enter Proofs.Try.func138 rfl Proofs.Try.ntmps138 (Nat.le_of_ble_eq_true rfl) ?_
  refine c_seq ?_
  refine c_region ?_
  refine l_v (v := (.int .i64 0)) (r_assign rfl) ?_
  refine l_v (v := (.int .i64 0)) (r_assign rfl) ?_
  refine l_nil ?_
  refine (x_then ?_)
  refine c_seq ?_
  refine c_region ?_
  refine l_v (v := (.string s)) (r_move rfl) ?_
  refine l_v (v := (.int .i64 above)) (r_load1 F.one3 rfl (At.cell h1 rfl)) ?_
  refine l_do rfl ?_
  refine d_call (fl := []) (cl := []) (A := [(.string s), (.int .i64 above)]) (B := [(.string s), (.int .i64 above)]) F.ok139 rfl (ac rfl (ac rfl an)) rfl (within_c (s := s) (above := above) (by omega)) ?_
  rintro _ w1 ⟨rfl, f2⟩
  have z3 := f2.size
  have t4 := t0.trans0 f2
  refine l_v (v := (.int .i64 ((cntU s.data.toList above : Nat) : Int))) (r_extract rfl rfl) ?_
  refine l_v (v := (.int .i64 ((cntN s.data.toList above : Nat) : Int))) (r_extract rfl rfl) ?_
  refine l_v (v := (.int .i64 ((cntU s.data.toList above : Nat) : Int))) (r_assign rfl) ?_
  refine l_v (v := (.int .i64 ((cntN s.data.toList above : Nat) : Int))) (r_assign rfl) ?_
  refine l_nil ?_
  refine (x_then ?_)
  refine c_ret ?_
  refine p_ret (v := (.tuple #[(.int .i64 ((cntU s.data.toList above : Nat) : Int)), (.int .i64 ((cntN s.data.toList above : Nat) : Int))])) (res2 rfl rfl rfl) ?_
  exact ⟨rfl, t4⟩

set_option maxHeartbeats 400000 in
set_option maxRecDepth 100000 in
theorem str1_c {w : World} {l : List UInt8} {q : Nat} {above : Int} (h9 : l.length ≤ 3000000000) (h1 : At w q (.cells #[(.int .i64 above)] 3 (0, 0))) :
    Calls Proofs.Try.prog 141 #[(.string (mkS l)), (.pointer (some ⟨q, 0, none⟩))] w (Ret fun v w' => v = (.tuple #[(.string (mkS (strV l above))), (.int .i64 ((strN l above : Nat) : Int))]) ∧ Fr [] w w') := by
  have lt_h1 := h1.lt
  have t0 : Fr [] w w := Fr.refl _ _
  refine enter Proofs.Try.func141 rfl Proofs.Try.ntmps141 (Nat.le_of_ble_eq_true rfl) ?_
  refine c_seq ?_
  refine c_region ?_
  refine l_v (v := (.string ⟨#[]⟩)) (r_assign rfl) ?_
  refine l_v (v := (.int .i64 0)) (r_assign rfl) ?_
  refine l_nil ?_
  refine (x_then ?_)
  refine c_seq ?_
  refine c_region ?_
  refine l_v (v := (.string (mkS l))) (r_move rfl) ?_
  refine l_v (v := (.int .i64 above)) (r_load1 F.one3 rfl (At.cell h1 rfl)) ?_
  refine l_do rfl ?_
  refine d_call (fl := []) (cl := []) (A := [(.string (mkS l)), (.int .i64 above)]) (B := [(.string (mkS l)), (.int .i64 above)]) F.ok139 rfl (ac rfl (ac rfl an)) rfl (within_c (s := mkS l) (above := above) (by rw [mkS_size]; exact h9)) ?_
  rintro _ w1 ⟨rfl, f2⟩
  have z3 := f2.size
  have t4 := t0.trans0 f2
  refine l_v (v := (.tuple #[(.int .i64 ((cntU l above : Nat) : Int)), (.int .i64 ((cntN l above : Nat) : Int))])) (r_move rfl) ?_
  refine l_v (v := (.int .i64 ((cntU l above : Nat) : Int))) (r_extract rfl rfl) ?_
  refine l_v (v := (.int .i64 ((cntN l above : Nat) : Int))) (r_extract rfl rfl) ?_
  refine l_v (v := (.int .i64 ((cntU l above : Nat) : Int))) (r_assign rfl) ?_
  refine l_v (v := (.int .i64 ((cntN l above : Nat) : Int))) (r_assign rfl) ?_
  refine l_nil ?_
  refine (x_then ?_)
  refine c_seq ?_
  refine c_seq ?_
  refine c_region ?_
  have hcn := cntN_le l above
  have hcu := cntU_le l above
  refine l_v (v := (.int .i64 ((cntN l above : Nat) : Int))) (r_move rfl) ?_
  refine l_v (v := (.bool (decide (((cntN l above : Nat) : Int) = 0)))) (r_eql rfl rfl) ?_
  refine l_v (v := (.bool (decide (((cntN l above : Nat) : Int) = 0)))) (r_move rfl) ?_
  refine l_em (p := ((cntN l above : Nat) : Int) = 0) ?_ ?_
  · intro c5
    refine l_skip (wanted_not rfl rfl (bd rfl c5) (by decide)) ?_
    refine l_skip (wanted_not rfl rfl (bd rfl c5) (by decide)) ?_
    refine l_skip (wanted_not rfl rfl (bd rfl c5) (by decide)) ?_
    refine l_skip (wanted_not rfl rfl (bd rfl c5) (by decide)) ?_
    refine l_skip (wanted_not rfl rfl (bd rfl c5) (by decide)) ?_
    refine l_skip (wanted_not rfl rfl (bd rfl c5) (by decide)) ?_
    refine l_v (v := (.bool true)) (r_pick_t (bd rfl c5) rfl) ?_
    refine l_nil ?_
    refine (x_then ?_)
    refine c_true rfl ?_
    refine c_seq ?_
    refine c_region ?_
    refine l_v (v := (.string ⟨#[]⟩)) (r_assign rfl) ?_
    refine l_v (v := (.int .i64 0)) (r_assign rfl) ?_
    refine l_nil ?_
    refine (x_then ?_)
    refine c_ret ?_
    refine (x_then_r ?_)
    refine p_ret (v := (.tuple #[(.string ⟨#[]⟩), (.int .i64 0)])) (res2 rfl rfl rfl) ?_
    exact ⟨(by unfold strV strN; rw [if_pos (by omega), if_pos (by omega)]; rfl), t4⟩
  · intro c5
    refine l_gv (v := (.int .i64 ((cntU l above : Nat) : Int))) (wanted_run rfl rfl (bn rfl c5)) (r_move rfl) ?_
    refine l_gv (v := (.string (mkS l))) (wanted_run rfl rfl (bn rfl c5)) (r_move rfl) ?_
    refine l_gv (v := (.int .i64 ((l.length : Nat) : Int))) (wanted_run rfl rfl (bn rfl c5)) (r_lenSn Proofs.Try.underlying9 rfl rfl) ?_
    refine l_gv (v := (.int .i64 ((cntN l above : Nat) : Int))) (wanted_run rfl rfl (bn rfl c5)) (r_move rfl) ?_
    refine l_gv (v := (.int .i64 ((l.length - (cntN l above) : Nat) : Int))) (wanted_run rfl rfl (bn rfl c5)) (r_sub rfl rfl (w64 (by omega) (by omega) (by omega))) ?_
    refine l_gv (v := (.bool (decide (((l.length - (cntN l above) : Nat) : Int) < ((cntU l above : Nat) : Int))))) (wanted_run rfl rfl (bn rfl c5)) (r_gtr rfl rfl) ?_
    refine l_v (v := (.bool (decide (((l.length - (cntN l above) : Nat) : Int) < ((cntU l above : Nat) : Int))))) (r_pick_f (bn rfl c5) rfl) ?_
    refine l_nil ?_
    refine (x_then ?_)
    refine c_if (p := ((l.length - (cntN l above) : Nat) : Int) < ((cntU l above : Nat) : Int)) rfl (fun c6 => ?_) (fun c6 => ?_)
    ·
      refine c_seq ?_
      refine c_region ?_
      refine l_v (v := (.string ⟨#[]⟩)) (r_assign rfl) ?_
      refine l_v (v := (.int .i64 0)) (r_assign rfl) ?_
      refine l_nil ?_
      refine (x_then ?_)
      refine c_ret ?_
      refine (x_then_r ?_)
      refine p_ret (v := (.tuple #[(.string ⟨#[]⟩), (.int .i64 0)])) (res2 rfl rfl rfl) ?_
      exact ⟨(by unfold strV strN; rw [if_pos (by omega), if_pos (by omega)]; rfl), t4⟩
    ·
      refine c_skip ?_
      refine (x_then ?_)
      refine c_seq ?_
      refine c_region ?_
      refine l_v (v := (.string (mkS l))) (r_move rfl) ?_
      refine l_v (v := (.int .i64 ((cntN l above : Nat) : Int))) (r_move rfl) ?_
      refine l_v (v := (.int .i64 ((cntN l above : Nat) : Int))) (r_move rfl) ?_
      refine l_v (v := (.int .i64 ((cntU l above : Nat) : Int))) (r_move rfl) ?_
      refine l_v (v := (.int .i64 ((cntN l above + (cntU l above) : Nat) : Int))) (r_add rfl rfl (w64 (by omega) (by omega) (by omega))) ?_
      refine l_v (v := (.string ((mkS l).extract (cntN l above) (cntN l above + (cntU l above))))) (r_sliceS Proofs.Try.underlying9 rfl ⟨_, rfl⟩ ⟨_, rfl⟩ (by omega) (by first | omega | (simp only [mkS_size]; omega))) ?_
      refine l_v (v := (.int .i64 ((cntN l above : Nat) : Int))) (r_move rfl) ?_
      refine l_v (v := (.int .i64 ((cntU l above : Nat) : Int))) (r_move rfl) ?_
      refine l_v (v := (.int .i64 ((cntN l above + (cntU l above) : Nat) : Int))) (r_add rfl rfl (w64 (by omega) (by omega) (by omega))) ?_
      refine l_v (v := (.string ((mkS l).extract (cntN l above) (cntN l above + (cntU l above))))) (r_assign rfl) ?_
      refine l_v (v := (.int .i64 ((cntN l above + (cntU l above) : Nat) : Int))) (r_assign rfl) ?_
      refine l_nil ?_
      refine (x_then ?_)
      refine c_ret ?_
      refine p_ret (v := (.tuple #[(.string ((mkS l).extract (cntN l above) (cntN l above + (cntU l above)))), (.int .i64 ((cntN l above + (cntU l above) : Nat) : Int))])) (res2 rfl rfl rfl) ?_
      exact ⟨(by unfold strV strN; rw [if_neg (by omega), if_neg (by omega), ext_mkS, Nat.add_sub_cancel_left]), t4⟩

set_option maxHeartbeats 400000 in
set_option maxRecDepth 100000 in
theorem spotOK_c {w : World} {b n : Nat} {s : ByteArray} (h1 : At w b (.cells #[(.string s), (.int .i64 ((n : Nat) : Int))] 177 (0, 0))) :
    Calls Proofs.Try.prog 173 #[(.pointer (some ⟨b, 0, none⟩))] w (Ret fun v w' => v = (.bool (decide (((n : Nat) : Int) ≤ ((s.size : Nat) : Int)))) ∧ Fr [] w w') := by
  have lt_h1 := h1.lt
  have t0 : Fr [] w w := Fr.refl _ _
  refine enter Proofs.Try.func173 rfl Proofs.Try.ntmps173 (Nat.le_of_ble_eq_true rfl) ?_
  refine c_seq ?_
  refine c_region ?_
  refine l_v (v := (.bool false)) (r_assign rfl) ?_
  refine l_nil ?_
  refine (x_then ?_)
  refine c_seq ?_
  refine f_start (masks := [0, 1, 3, 7, 0, 16, 48, 112, 240, 511, 1023]) (F := Fs [(3, fun w => At w b (.cells #[(.string s), (.int .i64 ((n : Nat) : Int))] 177 (0, 0))), (7, fun w => At w b (.cells #[(.string s), (.int .i64 ((n : Nat) : Int))] 177 (0, 0)))]) #[false, false, false, false, false, false, false, false, false, false, false] F.mixed rfl rfl (by kernel_rfl) ?_
  intro w1 f2 r3
  have z4 := f2.size
  have t5 := t0.trans0 f2
  refine f_take (i := 0) (v := (.pointer (some ⟨b, 0, none⟩))) #[true, false, false, false, false, false, false, false, false, false, false] r3 rfl (by kernel_rfl) (fun _ _ _ h => h) rfl (fs_none rfl) (fun w hF => r_move rfl) ?_
  refine f_take (i := 1) (v := (.pointer (some ⟨b, 0, none⟩))) #[true, true, false, false, false, false, false, false, false, false, false] r3 rfl (by kernel_rfl) (fun _ _ _ h => h) rfl (fs_none rfl) (fun w hF => r_nil_ptr rfl) ?_
  refine f_take (i := 2) (v := (.pointer (some ⟨b, 1, none⟩))) #[true, true, true, false, false, false, false, false, false, false, false] r3 rfl (by kernel_rfl) (fun _ _ _ h => h) rfl (fs_none rfl) (fun w hF => r_field_l F.fo175_1 rfl rfl) ?_
  have k6 := h1.keep0 f2
  refine f_take (i := 3) (v := (.int .i64 ((n : Nat) : Int))) #[true, true, true, true, false, false, false, false, false, false, false] r3 rfl (by kernel_rfl) (fun _ _ _ h => h) rfl (fs_one k6 rfl) (fun w hF => r_load1 F.one3 rfl (At.cell (fs_get List.mem_cons_self hF) rfl)) ?_
  refine f_take (i := 4) (v := (.pointer (some ⟨b, 0, none⟩))) #[true, true, true, true, true, false, false, false, false, false, false] r3 rfl (by kernel_rfl) (fun _ _ _ h => h) rfl (fs_none rfl) (fun w hF => r_move rfl) ?_
  refine f_take (i := 5) (v := (.pointer (some ⟨b, 0, none⟩))) #[true, true, true, true, true, true, false, false, false, false, false] r3 rfl (by kernel_rfl) (fun _ _ _ h => h) rfl (fs_none rfl) (fun w hF => r_nil_ptr rfl) ?_
  refine f_take (i := 6) (v := (.pointer (some ⟨b, 0, none⟩))) #[true, true, true, true, true, true, true, false, false, false, false] r3 rfl (by kernel_rfl) (fun _ _ _ h => h) rfl (fs_none rfl) (fun w hF => r_field_l F.fo175_0 rfl rfl) ?_
  refine f_take (i := 7) (v := (.string s)) #[true, true, true, true, true, true, true, true, false, false, false] r3 rfl (by kernel_rfl) (fun _ _ _ h => h) rfl (fs_next rfl (fs_one k6 rfl)) (fun w hF => r_load1 F.one9 rfl (At.cell (fs_get (List.mem_cons_of_mem _ List.mem_cons_self) hF) rfl)) ?_
  refine f_take (i := 8) (v := (.int .i64 ((s.size : Nat) : Int))) #[true, true, true, true, true, true, true, true, true, false, false] r3 rfl (by kernel_rfl) (fun _ _ _ h => h) rfl (fs_none rfl) (fun w hF => r_lenSn Proofs.Try.underlying9 rfl rfl) ?_
  refine f_take (i := 9) (v := (.bool (decide (((n : Nat) : Int) ≤ ((s.size : Nat) : Int))))) #[true, true, true, true, true, true, true, true, true, true, false] r3 rfl (by kernel_rfl) (fun _ _ _ h => h) rfl (fs_none rfl) (fun w hF => r_leq rfl rfl) ?_
  refine f_take (i := 10) (v := (.bool (decide (((n : Nat) : Int) ≤ ((s.size : Nat) : Int))))) #[true, true, true, true, true, true, true, true, true, true, true] r3 rfl (by kernel_rfl) (fun _ _ _ h => h) rfl (fs_none rfl) (fun w hF => r_assign rfl) ?_
  refine f_done (by kernel_rfl) ?_
  refine (x_then ?_)
  refine c_ret ?_
  refine p_ret (v := (.bool (decide (((n : Nat) : Int) ≤ ((s.size : Nat) : Int))))) (res1 rfl rfl) ?_
  exact ⟨rfl, t5⟩

set_option maxHeartbeats 400000 in
set_option maxRecDepth 100000 in
theorem spotDone_c {w : World} {b n : Nat} {s : ByteArray} (h1 : At w b (.cells #[(.string s), (.int .i64 ((n : Nat) : Int))] 177 (0, 0))) :
    Calls Proofs.Try.prog 142 #[(.pointer (some ⟨b, 0, none⟩))] w (Ret fun v w' => v = (.bool (decide (((n : Nat) : Int) = ((s.size : Nat) : Int)))) ∧ Fr [] w w') := by
  have lt_h1 := h1.lt
  have t0 : Fr [] w w := Fr.refl _ _
  refine enter Proofs.Try.func142 rfl Proofs.Try.ntmps142 (Nat.le_of_ble_eq_true rfl) ?_
  refine c_seq ?_
  refine c_region ?_
  refine l_v (v := (.bool false)) (r_assign rfl) ?_
  refine l_nil ?_
  refine (x_then ?_)
  refine c_seq ?_
  refine f_start (masks := [0, 1, 3, 7, 0, 16, 48, 112, 240, 511, 1023]) (F := Fs [(3, fun w => At w b (.cells #[(.string s), (.int .i64 ((n : Nat) : Int))] 177 (0, 0))), (7, fun w => At w b (.cells #[(.string s), (.int .i64 ((n : Nat) : Int))] 177 (0, 0)))]) #[false, false, false, false, false, false, false, false, false, false, false] F.mixed rfl rfl (by kernel_rfl) ?_
  intro w1 f2 r3
  have z4 := f2.size
  have t5 := t0.trans0 f2
  refine f_take (i := 0) (v := (.pointer (some ⟨b, 0, none⟩))) #[true, false, false, false, false, false, false, false, false, false, false] r3 rfl (by kernel_rfl) (fun _ _ _ h => h) rfl (fs_none rfl) (fun w hF => r_move rfl) ?_
  refine f_take (i := 1) (v := (.pointer (some ⟨b, 0, none⟩))) #[true, true, false, false, false, false, false, false, false, false, false] r3 rfl (by kernel_rfl) (fun _ _ _ h => h) rfl (fs_none rfl) (fun w hF => r_nil_ptr rfl) ?_
  refine f_take (i := 2) (v := (.pointer (some ⟨b, 1, none⟩))) #[true, true, true, false, false, false, false, false, false, false, false] r3 rfl (by kernel_rfl) (fun _ _ _ h => h) rfl (fs_none rfl) (fun w hF => r_field_l F.fo175_1 rfl rfl) ?_
  have k6 := h1.keep0 f2
  refine f_take (i := 3) (v := (.int .i64 ((n : Nat) : Int))) #[true, true, true, true, false, false, false, false, false, false, false] r3 rfl (by kernel_rfl) (fun _ _ _ h => h) rfl (fs_one k6 rfl) (fun w hF => r_load1 F.one3 rfl (At.cell (fs_get List.mem_cons_self hF) rfl)) ?_
  refine f_take (i := 4) (v := (.pointer (some ⟨b, 0, none⟩))) #[true, true, true, true, true, false, false, false, false, false, false] r3 rfl (by kernel_rfl) (fun _ _ _ h => h) rfl (fs_none rfl) (fun w hF => r_move rfl) ?_
  refine f_take (i := 5) (v := (.pointer (some ⟨b, 0, none⟩))) #[true, true, true, true, true, true, false, false, false, false, false] r3 rfl (by kernel_rfl) (fun _ _ _ h => h) rfl (fs_none rfl) (fun w hF => r_nil_ptr rfl) ?_
  refine f_take (i := 6) (v := (.pointer (some ⟨b, 0, none⟩))) #[true, true, true, true, true, true, true, false, false, false, false] r3 rfl (by kernel_rfl) (fun _ _ _ h => h) rfl (fs_none rfl) (fun w hF => r_field_l F.fo175_0 rfl rfl) ?_
  refine f_take (i := 7) (v := (.string s)) #[true, true, true, true, true, true, true, true, false, false, false] r3 rfl (by kernel_rfl) (fun _ _ _ h => h) rfl (fs_next rfl (fs_one k6 rfl)) (fun w hF => r_load1 F.one9 rfl (At.cell (fs_get (List.mem_cons_of_mem _ List.mem_cons_self) hF) rfl)) ?_
  refine f_take (i := 8) (v := (.int .i64 ((s.size : Nat) : Int))) #[true, true, true, true, true, true, true, true, true, false, false] r3 rfl (by kernel_rfl) (fun _ _ _ h => h) rfl (fs_none rfl) (fun w hF => r_lenSn Proofs.Try.underlying9 rfl rfl) ?_
  refine f_take (i := 9) (v := (.bool (decide (((n : Nat) : Int) = ((s.size : Nat) : Int))))) #[true, true, true, true, true, true, true, true, true, true, false] r3 rfl (by kernel_rfl) (fun _ _ _ h => h) rfl (fs_none rfl) (fun w hF => r_eql rfl rfl) ?_
  refine f_take (i := 10) (v := (.bool (decide (((n : Nat) : Int) = ((s.size : Nat) : Int))))) #[true, true, true, true, true, true, true, true, true, true, true] r3 rfl (by kernel_rfl) (fun _ _ _ h => h) rfl (fs_none rfl) (fun w hF => r_assign rfl) ?_
  refine f_done (by kernel_rfl) ?_
  refine (x_then ?_)
  refine c_ret ?_
  refine p_ret (v := (.bool (decide (((n : Nat) : Int) = ((s.size : Nat) : Int))))) (res1 rfl rfl) ?_
  exact ⟨rfl, t5⟩

set_option maxHeartbeats 400000 in
set_option maxRecDepth 100000 in
theorem rest_c {w : World} {b n : Nat} {s : ByteArray} (h1 : At w b (.cells #[(.string s), (.int .i64 ((n : Nat) : Int))] 177 (0, 0))) :
    Calls Proofs.Try.prog 165 #[(.pointer (some ⟨b, 0, none⟩))] w (Ret fun v w' => v = (.string (mkS (s.data.toList.drop n))) ∧ Fr [] w w') := by
  have lt_h1 := h1.lt
  have t0 : Fr [] w w := Fr.refl _ _
  refine enter Proofs.Try.func165 rfl Proofs.Try.ntmps165 (Nat.le_of_ble_eq_true rfl) ?_
  refine c_seq ?_
  refine c_region ?_
  refine l_v (v := (.string ⟨#[]⟩)) (r_assign rfl) ?_
  refine l_nil ?_
  refine (x_then ?_)
  refine c_seq ?_
  refine f_start (masks := [0, 1, 3, 7, 0, 16, 48, 112, 0, 256, 768, 1792, 3840, 8176, 16383, 32767]) (F := Fs [(3, fun w => At w b (.cells #[(.string s), (.int .i64 ((n : Nat) : Int))] 177 (0, 0))), (7, fun w => At w b (.cells #[(.string s), (.int .i64 ((n : Nat) : Int))] 177 (0, 0))), (11, fun w => At w b (.cells #[(.string s), (.int .i64 ((n : Nat) : Int))] 177 (0, 0)))]) #[false, false, false, false, false, false, false, false, false, false, false, false, false, false, false, false] F.mixed rfl rfl (by kernel_rfl) ?_
  intro w1 f2 r3
  have z4 := f2.size
  have t5 := t0.trans0 f2
  refine f_take (i := 0) (v := (.pointer (some ⟨b, 0, none⟩))) #[true, false, false, false, false, false, false, false, false, false, false, false, false, false, false, false] r3 rfl (by kernel_rfl) (fun _ _ _ h => h) rfl (fs_none rfl) (fun w hF => r_move rfl) ?_
  refine f_take (i := 1) (v := (.pointer (some ⟨b, 0, none⟩))) #[true, true, false, false, false, false, false, false, false, false, false, false, false, false, false, false] r3 rfl (by kernel_rfl) (fun _ _ _ h => h) rfl (fs_none rfl) (fun w hF => r_nil_ptr rfl) ?_
  refine f_take (i := 2) (v := (.pointer (some ⟨b, 0, none⟩))) #[true, true, true, false, false, false, false, false, false, false, false, false, false, false, false, false] r3 rfl (by kernel_rfl) (fun _ _ _ h => h) rfl (fs_none rfl) (fun w hF => r_field_l F.fo175_0 rfl rfl) ?_
  have k6 := h1.keep0 f2
  refine f_take (i := 3) (v := (.string s)) #[true, true, true, true, false, false, false, false, false, false, false, false, false, false, false, false] r3 rfl (by kernel_rfl) (fun _ _ _ h => h) rfl (fs_one k6 rfl) (fun w hF => r_load1 F.one9 rfl (At.cell (fs_get List.mem_cons_self hF) rfl)) ?_
  refine f_take (i := 4) (v := (.pointer (some ⟨b, 0, none⟩))) #[true, true, true, true, true, false, false, false, false, false, false, false, false, false, false, false] r3 rfl (by kernel_rfl) (fun _ _ _ h => h) rfl (fs_none rfl) (fun w hF => r_move rfl) ?_
  refine f_take (i := 5) (v := (.pointer (some ⟨b, 0, none⟩))) #[true, true, true, true, true, true, false, false, false, false, false, false, false, false, false, false] r3 rfl (by kernel_rfl) (fun _ _ _ h => h) rfl (fs_none rfl) (fun w hF => r_nil_ptr rfl) ?_
  refine f_take (i := 6) (v := (.pointer (some ⟨b, 1, none⟩))) #[true, true, true, true, true, true, true, false, false, false, false, false, false, false, false, false] r3 rfl (by kernel_rfl) (fun _ _ _ h => h) rfl (fs_none rfl) (fun w hF => r_field_l F.fo175_1 rfl rfl) ?_
  refine f_take (i := 7) (v := (.int .i64 ((n : Nat) : Int))) #[true, true, true, true, true, true, true, true, false, false, false, false, false, false, false, false] r3 rfl (by kernel_rfl) (fun _ _ _ h => h) rfl (fs_next rfl (fs_one k6 rfl)) (fun w hF => r_load1 F.one3 rfl (At.cell (fs_get (List.mem_cons_of_mem _ List.mem_cons_self) hF) rfl)) ?_
  refine f_take (i := 8) (v := (.pointer (some ⟨b, 0, none⟩))) #[true, true, true, true, true, true, true, true, true, false, false, false, false, false, false, false] r3 rfl (by kernel_rfl) (fun _ _ _ h => h) rfl (fs_none rfl) (fun w hF => r_move rfl) ?_
  refine f_take (i := 9) (v := (.pointer (some ⟨b, 0, none⟩))) #[true, true, true, true, true, true, true, true, true, true, false, false, false, false, false, false] r3 rfl (by kernel_rfl) (fun _ _ _ h => h) rfl (fs_none rfl) (fun w hF => r_nil_ptr rfl) ?_
  refine f_take (i := 10) (v := (.pointer (some ⟨b, 0, none⟩))) #[true, true, true, true, true, true, true, true, true, true, true, false, false, false, false, false] r3 rfl (by kernel_rfl) (fun _ _ _ h => h) rfl (fs_none rfl) (fun w hF => r_field_l F.fo175_0 rfl rfl) ?_
  refine f_take (i := 11) (v := (.string s)) #[true, true, true, true, true, true, true, true, true, true, true, true, false, false, false, false] r3 rfl (by kernel_rfl) (fun _ _ _ h => h) rfl (fs_next rfl (fs_next rfl (fs_one k6 rfl))) (fun w hF => r_load1 F.one9 rfl (At.cell (fs_get (List.mem_cons_of_mem _ (List.mem_cons_of_mem _ List.mem_cons_self)) hF) rfl)) ?_
  refine f_take (i := 12) (v := (.int .i64 ((s.size : Nat) : Int))) #[true, true, true, true, true, true, true, true, true, true, true, true, true, false, false, false] r3 rfl (by kernel_rfl) (fun _ _ _ h => h) rfl (fs_none rfl) (fun w hF => r_lenSn Proofs.Try.underlying9 rfl rfl) ?_
  refine f_take (i := 13) (v := (.int .i64 ((min n s.size : Nat) : Int))) #[true, true, true, true, true, true, true, true, true, true, true, true, true, true, false, false] r3 rfl (by kernel_rfl) (fun _ _ _ h => h) rfl (fs_none rfl) (fun w hF => r_min rfl rfl (by split <;> omega)) ?_
  refine f_take (i := 14) (v := (.string (s.extract (min n s.size) s.size))) #[true, true, true, true, true, true, true, true, true, true, true, true, true, true, true, false] r3 rfl (by kernel_rfl) (fun _ _ _ h => h) rfl (fs_none rfl) (fun w hF => r_sliceS Proofs.Try.underlying9 rfl ⟨_, rfl⟩ rfl (by omega) (by first | omega | (simp only [mkS_size]; omega))) ?_
  refine f_take (i := 15) (v := (.string (s.extract (min n s.size) s.size))) #[true, true, true, true, true, true, true, true, true, true, true, true, true, true, true, true] r3 rfl (by kernel_rfl) (fun _ _ _ h => h) rfl (fs_none rfl) (fun w hF => r_assign rfl) ?_
  refine f_done (by kernel_rfl) ?_
  refine (x_then ?_)
  refine c_ret ?_
  refine p_ret (v := (.string (s.extract (min n s.size) s.size))) (res1 rfl rfl) ?_
  exact ⟨(by rw [ext_drop]), t5⟩

set_option maxHeartbeats 400000 in
set_option maxRecDepth 100000 in
theorem rOK_c {w : World} {b n : Nat} {s : ByteArray} (h1 : At w b (.cells #[(.string s), (.int .i64 ((n : Nat) : Int))] 177 (0, 0))) :
    Calls Proofs.Try.prog 164 #[(.pointer (some ⟨b, 0, none⟩))] w (Ret fun v w' => v = (.bool (decide (((n : Nat) : Int) ≤ ((s.size : Nat) : Int)))) ∧ Fr [] w w') := by
  have lt_h1 := h1.lt
  have t0 : Fr [] w w := Fr.refl _ _
  refine enter Proofs.Try.func164 rfl Proofs.Try.ntmps164 (Nat.le_of_ble_eq_true rfl) ?_
  refine c_seq ?_
  refine c_region ?_
  refine l_v (v := (.bool false)) (r_assign rfl) ?_
  refine l_nil ?_
  refine (x_then ?_)
  refine c_seq ?_
  refine c_region ?_
  refine l_v (v := (.pointer (some ⟨b, 0, none⟩))) (r_move rfl) ?_
  refine l_v (v := (.bool true)) (r_neqPn (a := (some ⟨b, 0, none⟩)) F.ptr124 rfl) ?_
  refine l_v (v := (.bool true)) (r_move rfl) ?_
  refine l_gv (v := (.pointer (some ⟨b, 0, none⟩))) (wanted_run rfl rfl rfl) (r_move rfl) ?_
  refine l_gv (v := (.pointer (some ⟨b, 0, none⟩))) (wanted_run rfl rfl rfl) (r_nil_ptr rfl) ?_
  refine l_gv (v := (.pointer (some ⟨b, 0, none⟩))) (wanted_run rfl rfl rfl) (r_field_l F.fo177_0 rfl rfl) ?_
  refine l_gdo (wanted_run rfl rfl rfl) ?_
  refine d_call (fl := []) (cl := []) (A := [(.pointer (some ⟨b, 0, none⟩))]) (B := [(.pointer (some ⟨b, 0, none⟩))]) F.ok173 rfl (ac rfl an) rfl (spotOK_c (b := b) (s := s) (n := n) h1) ?_
  rintro _ w1 ⟨rfl, f2⟩
  have z3 := f2.size
  have t4 := t0.trans0 f2
  refine l_v (v := (.bool (decide (((n : Nat) : Int) ≤ ((s.size : Nat) : Int))))) (r_pick_t rfl rfl) ?_
  refine l_v (v := (.bool (decide (((n : Nat) : Int) ≤ ((s.size : Nat) : Int))))) (r_assign rfl) ?_
  refine l_nil ?_
  refine (x_then ?_)
  refine c_ret ?_
  refine p_ret (v := (.bool (decide (((n : Nat) : Int) ≤ ((s.size : Nat) : Int))))) (res1 rfl rfl) ?_
  exact ⟨rfl, t4⟩

set_option maxHeartbeats 400000 in
set_option maxRecDepth 100000 in
theorem rDone_c {w : World} {b n : Nat} {s : ByteArray} (h1 : At w b (.cells #[(.string s), (.int .i64 ((n : Nat) : Int))] 177 (0, 0))) :
    Calls Proofs.Try.prog 72 #[(.pointer (some ⟨b, 0, none⟩))] w (Ret fun v w' => v = (.bool (decide (((n : Nat) : Int) = ((s.size : Nat) : Int)))) ∧ Fr [] w w') := by
  have lt_h1 := h1.lt
  have t0 : Fr [] w w := Fr.refl _ _
  refine enter Proofs.Try.func72 rfl Proofs.Try.ntmps72 (Nat.le_of_ble_eq_true rfl) ?_
  refine c_seq ?_
  refine c_region ?_
  refine l_v (v := (.bool false)) (r_assign rfl) ?_
  refine l_nil ?_
  refine (x_then ?_)
  refine c_seq ?_
  refine c_region ?_
  refine l_v (v := (.pointer (some ⟨b, 0, none⟩))) (r_move rfl) ?_
  refine l_v (v := (.bool true)) (r_neqPn (a := (some ⟨b, 0, none⟩)) F.ptr124 rfl) ?_
  refine l_v (v := (.bool true)) (r_move rfl) ?_
  refine l_gv (v := (.pointer (some ⟨b, 0, none⟩))) (wanted_run rfl rfl rfl) (r_move rfl) ?_
  refine l_gv (v := (.pointer (some ⟨b, 0, none⟩))) (wanted_run rfl rfl rfl) (r_nil_ptr rfl) ?_
  refine l_gv (v := (.pointer (some ⟨b, 0, none⟩))) (wanted_run rfl rfl rfl) (r_field_l F.fo177_0 rfl rfl) ?_
  refine l_gdo (wanted_run rfl rfl rfl) ?_
  refine d_call (fl := []) (cl := []) (A := [(.pointer (some ⟨b, 0, none⟩))]) (B := [(.pointer (some ⟨b, 0, none⟩))]) F.ok142 rfl (ac rfl an) rfl (spotDone_c (b := b) (s := s) (n := n) h1) ?_
  rintro _ w1 ⟨rfl, f2⟩
  have z3 := f2.size
  have t4 := t0.trans0 f2
  refine l_v (v := (.bool (decide (((n : Nat) : Int) = ((s.size : Nat) : Int))))) (r_pick_t rfl rfl) ?_
  refine l_v (v := (.bool (decide (((n : Nat) : Int) = ((s.size : Nat) : Int))))) (r_assign rfl) ?_
  refine l_nil ?_
  refine (x_then ?_)
  refine c_ret ?_
  refine p_ret (v := (.bool (decide (((n : Nat) : Int) = ((s.size : Nat) : Int))))) (res1 rfl rfl) ?_
  exact ⟨rfl, t4⟩

set_option maxHeartbeats 400000 in
set_option maxRecDepth 100000 in
theorem offI_c {w : World} {b n q : Nat} {s : ByteArray} {above : Int} (h1 : At w b (.cells #[(.string s), (.int .i64 ((n : Nat) : Int))] 177 (0, 0))) (h2 : At w q (.cells #[(.int .i64 above)] 3 (0, 0))) (h9 : s.size ≤ 1000000000) (h8 : n ≤ s.size + 1) (h7 : q ≠ b) :
    Calls Proofs.Try.prog 137 #[(.pointer (some ⟨b, 0, none⟩)), (.func (.func 138) #[] #[(.pointer (some ⟨q, 0, none⟩))])] w (Ret fun v w' => ∃ n' : Nat, v = (.int .i64 (((mCount (rdP s n) above).1 : Nat) : Int)) ∧ Fr [b] w w' ∧ At w' b (.cells #[(.string s), (.int .i64 ((n' : Nat) : Int))] 177 (0, 0)) ∧ (n' ≤ s.size + 1) ∧ (rdP s n' = (mCount (rdP s n) above).2)) := by
  have lt_h1 := h1.lt
  have lt_h2 := h2.lt
  have n1 := ne_tag h2 h1 rfl
  have t0 : Fr [b] w w := Fr.refl _ _
  refine enter Proofs.Try.func137 rfl Proofs.Try.ntmps137 (Nat.le_of_ble_eq_true rfl) ?_
  refine c_seq ?_
  refine c_region ?_
  refine l_v (v := (.int .i64 0)) (r_assign rfl) ?_
  refine l_nil ?_
  refine (x_then ?_)
  refine c_seq ?_
  refine c_region ?_
  refine l_v (v := (.int .i64 0)) (r_assign rfl) ?_
  refine l_nil ?_
  refine (x_then ?_)
  refine c_seq ?_
  refine c_seq ?_
  refine c_region ?_
  refine l_v (v := (.pointer (some ⟨b, 0, none⟩))) (r_move rfl) ?_
  refine l_do rfl ?_
  refine d_call (fl := []) (cl := []) (A := [(.pointer (some ⟨b, 0, none⟩))]) (B := [(.pointer (some ⟨b, 0, none⟩))]) F.ok164 rfl (ac rfl an) rfl (rOK_c (b := b) (s := s) (n := n) h1) ?_
  rintro _ w2 ⟨rfl, f3⟩
  have z4 := f3.size
  have t5 := t0.trans0 f3
  refine l_v (v := (.bool (decide (¬ (((n : Nat) : Int) ≤ ((s.size : Nat) : Int)))))) (r_notP rfl) ?_
  refine l_nil ?_
  refine (x_then ?_)
  refine c_if (p := ¬ (((n : Nat) : Int) ≤ ((s.size : Nat) : Int))) rfl (fun c6 => ?_) (fun c6 => ?_)
  ·
    refine c_seq ?_
    refine c_region ?_
    refine l_v (v := (.int .i64 0)) (r_move rfl) ?_
    refine l_v (v := (.int .i64 0)) (r_assign rfl) ?_
    refine l_nil ?_
    refine (x_then ?_)
    refine c_ret ?_
    refine (x_then_r ?_)
    refine p_ret (v := (.int .i64 0)) (res1 rfl rfl) ?_
    have eoff := count_fail (s := s) (n := n) (a := above) (by omega)
    have k7 := h1.keep0 f3
    exact ⟨n, (by rw [eoff]; rfl), t5, k7, (by omega), (by rw [eoff])⟩
  ·
    refine c_skip ?_
    refine (x_then ?_)
    refine c_seq ?_
    refine c_region ?_
    refine l_v (v := (.func (.func 138) #[] #[(.pointer (some ⟨q, 0, none⟩))])) (r_move rfl) ?_
    refine l_v (v := (.pointer (some ⟨b, 0, none⟩))) (r_move rfl) ?_
    refine l_v (v := (.pointer (some ⟨b, 0, none⟩))) (r_nil_ptr rfl) ?_
    refine l_v (v := (.pointer (some ⟨b, 0, none⟩))) (r_field_l F.fo177_0 rfl rfl) ?_
    refine l_do rfl ?_
    have k8 := h1.keep0 f3
    refine d_call (fl := []) (cl := []) (A := [(.pointer (some ⟨b, 0, none⟩))]) (B := [(.pointer (some ⟨b, 0, none⟩))]) F.ok165 rfl (ac rfl an) rfl (rest_c (b := b) (s := s) (n := n) k8) ?_
    rintro _ w9 ⟨rfl, f10⟩
    have z11 := f10.size
    have t12 := t5.trans0 f10
    refine l_do rfl ?_
    have k13 := h2.keep0 f3
    have k14 := k13.keep0 f10
    refine d_call (fl := []) (cl := [(.pointer (some ⟨q, 0, none⟩))]) (A := [(.string (mkS (s.data.toList.drop n)))]) (B := [(.string (mkS (s.data.toList.drop n))), (.pointer (some ⟨q, 0, none⟩))]) F.ok138 rfl (ac rfl an) rfl (count1_c (s := mkS (s.data.toList.drop n)) (q := q) (above := above) (by rw [mkS_size, List.length_drop, ← size_eq]; omega) k14) ?_
    rintro _ w15 ⟨rfl, f16⟩
    have z17 := f16.size
    have t18 := t12.trans0 f16
    refine l_v (v := (.tuple #[(.int .i64 ((cntU (s.data.toList.drop n) above : Nat) : Int)), (.int .i64 ((cntN (s.data.toList.drop n) above : Nat) : Int))])) (r_move rfl) ?_
    refine l_v (v := (.int .i64 ((cntU (s.data.toList.drop n) above : Nat) : Int))) (r_extract rfl rfl) ?_
    refine l_v (v := (.int .i64 ((cntN (s.data.toList.drop n) above : Nat) : Int))) (r_extract rfl rfl) ?_
    refine l_v (v := (.int .i64 ((cntU (s.data.toList.drop n) above : Nat) : Int))) (r_assign rfl) ?_
    refine l_v (v := (.int .i64 ((cntN (s.data.toList.drop n) above : Nat) : Int))) (r_assign rfl) ?_
    refine l_nil ?_
    refine (x_then ?_)
    refine c_seq ?_
    refine c_seq ?_
    refine c_region ?_
    refine l_v (v := (.int .i64 ((cntN (s.data.toList.drop n) above : Nat) : Int))) (r_move rfl) ?_
    refine l_v (v := (.bool (decide (((cntN (s.data.toList.drop n) above : Nat) : Int) = 0)))) (r_eql rfl rfl) ?_
    refine l_nil ?_
    refine (x_then ?_)
    refine c_if (p := ((cntN (s.data.toList.drop n) above : Nat) : Int) = 0) rfl (fun c19 => ?_) (fun c19 => ?_)
    ·
      refine c_seq ?_
      refine c_region ?_
      refine l_v (v := (.pointer (some ⟨b, 0, none⟩))) (r_move rfl) ?_
      refine l_v (v := (.pointer (some ⟨b, 0, none⟩))) (r_move rfl) ?_
      refine l_v (v := (.pointer (some ⟨b, 0, none⟩))) (r_nil_ptr rfl) ?_
      refine l_v (v := (.pointer (some ⟨b, 0, none⟩))) (r_field_l F.fo177_0 rfl rfl) ?_
      refine l_v (v := (.pointer (some ⟨b, 0, none⟩))) (r_field_l F.fo175_0 rfl rfl) ?_
      have k20 := k8.keep0 f10
      have k21 := k20.keep0 f16
      refine l_v (v := (.string s)) (r_load1 F.one9 rfl (At.cell k21 rfl)) ?_
      refine l_v (v := (.int .i64 ((s.size : Nat) : Int))) (r_lenSn Proofs.Try.underlying9 rfl rfl) ?_
      have hcl := cntN_le (s.data.toList.drop n) above
      rw [List.length_drop, ← size_eq] at hcl
      refine l_v (v := (.int .i64 ((s.size + 1 : Nat) : Int))) (r_add rfl rfl (w64 (by omega) (by omega) (by omega))) ?_
      refine l_v (v := (.pointer (some ⟨b, 0, none⟩))) (r_nil_ptr rfl) ?_
      refine l_v (v := (.pointer (some ⟨b, 0, none⟩))) (r_field_l F.fo177_0 rfl rfl) ?_
      refine l_v (v := (.pointer (some ⟨b, 1, none⟩))) (r_field_l F.fo175_1 rfl rfl) ?_
      refine l_do rfl ?_
      refine d_store1 (v := (.int .i64 ((s.size + 1 : Nat) : Int))) (c' := #[(.string s), (.int .i64 ((s.size + 1 : Nat) : Int))]) F.sz3 rfl rfl rfl k21 (by simp) rfl ?_
      intro w22 f23 h24
      have z25 := f23.size
      have t26 := t18.step f23 (one_in (by simp))
      refine l_nil ?_
      refine (x_then ?_)
      refine c_seq ?_
      refine c_region ?_
      refine l_v (v := (.int .i64 0)) (r_move rfl) ?_
      refine l_v (v := (.int .i64 0)) (r_assign rfl) ?_
      refine l_nil ?_
      refine (x_then ?_)
      refine c_ret ?_
      refine (x_then_r ?_)
      refine p_ret (v := (.int .i64 0)) (res1 rfl rfl) ?_
      have eoff := count_zero (s := s) (n := n) (a := above) (by omega) (by omega)
      exact ⟨s.size + 1, (by rw [eoff]; rfl), t26, h24, (by omega), (by rw [eoff])⟩
    ·
      refine c_skip ?_
      refine (x_then ?_)
      refine c_seq ?_
      refine c_region ?_
      refine l_v (v := (.pointer (some ⟨b, 0, none⟩))) (r_move rfl) ?_
      refine l_v (v := (.pointer (some ⟨b, 0, none⟩))) (r_nil_ptr rfl) ?_
      refine l_v (v := (.pointer (some ⟨b, 0, none⟩))) (r_field_l F.fo177_0 rfl rfl) ?_
      refine l_v (v := (.pointer (some ⟨b, 1, none⟩))) (r_field_l F.fo175_1 rfl rfl) ?_
      have k27 := k8.keep0 f10
      have k28 := k27.keep0 f16
      refine l_v (v := (.int .i64 ((n : Nat) : Int))) (r_load1 F.one3 rfl (At.cell k28 rfl)) ?_
      refine l_v (v := (.int .i64 ((cntN (s.data.toList.drop n) above : Nat) : Int))) (r_move rfl) ?_
      have hcl := cntN_le (s.data.toList.drop n) above
      rw [List.length_drop, ← size_eq] at hcl
      refine l_v (v := (.int .i64 ((n + (cntN (s.data.toList.drop n) above) : Nat) : Int))) (r_add rfl rfl (w64 (by omega) (by omega) (by omega))) ?_
      refine l_v (v := (.pointer (some ⟨b, 0, none⟩))) (r_nil_ptr rfl) ?_
      refine l_v (v := (.pointer (some ⟨b, 0, none⟩))) (r_field_l F.fo177_0 rfl rfl) ?_
      refine l_v (v := (.pointer (some ⟨b, 1, none⟩))) (r_field_l F.fo175_1 rfl rfl) ?_
      refine l_do rfl ?_
      refine d_store1 (v := (.int .i64 ((n + (cntN (s.data.toList.drop n) above) : Nat) : Int))) (c' := #[(.string s), (.int .i64 ((n + (cntN (s.data.toList.drop n) above) : Nat) : Int))]) F.sz3 rfl rfl rfl k28 (by simp) rfl ?_
      intro w29 f30 h31
      have z32 := f30.size
      have t33 := t18.step f30 (one_in (by simp))
      refine l_nil ?_
      refine (x_then ?_)
      refine c_seq ?_
      refine c_region ?_
      refine l_v (v := (.int .i64 ((cntU (s.data.toList.drop n) above : Nat) : Int))) (r_move rfl) ?_
      refine l_v (v := (.int .i64 ((cntU (s.data.toList.drop n) above : Nat) : Int))) (r_assign rfl) ?_
      refine l_nil ?_
      refine (x_then ?_)
      refine c_ret ?_
      refine p_ret (v := (.int .i64 ((cntU (s.data.toList.drop n) above : Nat) : Int))) (res1 rfl rfl) ?_
      have eoff := count_ok (s := s) (n := n) (a := above) (by omega) (by omega)
      exact ⟨n + (cntN (s.data.toList.drop n) above), (by rw [eoff]), t33, h31, (by omega), (by rw [eoff])⟩

set_option maxHeartbeats 400000 in
set_option maxRecDepth 100000 in
theorem offS_c {w : World} {b n q : Nat} {s : ByteArray} {above : Int} (h1 : At w b (.cells #[(.string s), (.int .i64 ((n : Nat) : Int))] 177 (0, 0))) (h2 : At w q (.cells #[(.int .i64 above)] 3 (0, 0))) (h9 : s.size ≤ 1000000000) (h8 : n ≤ s.size + 1) (h7 : q ≠ b) :
    Calls Proofs.Try.prog 140 #[(.pointer (some ⟨b, 0, none⟩)), (.func (.func 141) #[] #[(.pointer (some ⟨q, 0, none⟩))])] w (Ret fun v w' => ∃ n' : Nat, v = (.string (mkS (mStr (rdP s n) above).1)) ∧ Fr [b] w w' ∧ At w' b (.cells #[(.string s), (.int .i64 ((n' : Nat) : Int))] 177 (0, 0)) ∧ (n' ≤ s.size + 1) ∧ (rdP s n' = (mStr (rdP s n) above).2)) := by
  have lt_h1 := h1.lt
  have lt_h2 := h2.lt
  have n1 := ne_tag h2 h1 rfl
  have t0 : Fr [b] w w := Fr.refl _ _
  refine enter Proofs.Try.func140 rfl Proofs.Try.ntmps140 (Nat.le_of_ble_eq_true rfl) ?_
  refine c_seq ?_
  refine c_region ?_
  refine l_v (v := (.string ⟨#[]⟩)) (r_assign rfl) ?_
  refine l_nil ?_
  refine (x_then ?_)
  refine c_seq ?_
  refine c_region ?_
  refine l_v (v := (.string ⟨#[]⟩)) (r_assign rfl) ?_
  refine l_nil ?_
  refine (x_then ?_)
  refine c_seq ?_
  refine c_seq ?_
  refine c_region ?_
  refine l_v (v := (.pointer (some ⟨b, 0, none⟩))) (r_move rfl) ?_
  refine l_do rfl ?_
  refine d_call (fl := []) (cl := []) (A := [(.pointer (some ⟨b, 0, none⟩))]) (B := [(.pointer (some ⟨b, 0, none⟩))]) F.ok164 rfl (ac rfl an) rfl (rOK_c (b := b) (s := s) (n := n) h1) ?_
  rintro _ w2 ⟨rfl, f3⟩
  have z4 := f3.size
  have t5 := t0.trans0 f3
  refine l_v (v := (.bool (decide (¬ (((n : Nat) : Int) ≤ ((s.size : Nat) : Int)))))) (r_notP rfl) ?_
  refine l_nil ?_
  refine (x_then ?_)
  refine c_if (p := ¬ (((n : Nat) : Int) ≤ ((s.size : Nat) : Int))) rfl (fun c6 => ?_) (fun c6 => ?_)
  ·
    refine c_seq ?_
    refine c_region ?_
    refine l_v (v := (.string ⟨#[]⟩)) (r_move rfl) ?_
    refine l_v (v := (.string ⟨#[]⟩)) (r_assign rfl) ?_
    refine l_nil ?_
    refine (x_then ?_)
    refine c_ret ?_
    refine (x_then_r ?_)
    refine p_ret (v := (.string ⟨#[]⟩)) (res1 rfl rfl) ?_
    have eoff := str_fail (s := s) (n := n) (a := above) (by omega)
    have k7 := h1.keep0 f3
    exact ⟨n, (by rw [eoff]; rfl), t5, k7, (by omega), (by rw [eoff])⟩
  ·
    refine c_skip ?_
    refine (x_then ?_)
    refine c_seq ?_
    refine c_region ?_
    refine l_v (v := (.func (.func 141) #[] #[(.pointer (some ⟨q, 0, none⟩))])) (r_move rfl) ?_
    refine l_v (v := (.pointer (some ⟨b, 0, none⟩))) (r_move rfl) ?_
    refine l_v (v := (.pointer (some ⟨b, 0, none⟩))) (r_nil_ptr rfl) ?_
    refine l_v (v := (.pointer (some ⟨b, 0, none⟩))) (r_field_l F.fo177_0 rfl rfl) ?_
    refine l_do rfl ?_
    have k8 := h1.keep0 f3
    refine d_call (fl := []) (cl := []) (A := [(.pointer (some ⟨b, 0, none⟩))]) (B := [(.pointer (some ⟨b, 0, none⟩))]) F.ok165 rfl (ac rfl an) rfl (rest_c (b := b) (s := s) (n := n) k8) ?_
    rintro _ w9 ⟨rfl, f10⟩
    have z11 := f10.size
    have t12 := t5.trans0 f10
    refine l_do rfl ?_
    have k13 := h2.keep0 f3
    have k14 := k13.keep0 f10
    refine d_call (fl := []) (cl := [(.pointer (some ⟨q, 0, none⟩))]) (A := [(.string (mkS (s.data.toList.drop n)))]) (B := [(.string (mkS (s.data.toList.drop n))), (.pointer (some ⟨q, 0, none⟩))]) F.ok141 rfl (ac rfl an) rfl (str1_c (q := q) (l := s.data.toList.drop n) (above := above) (by rw [List.length_drop, ← size_eq]; omega) k14) ?_
    rintro _ w15 ⟨rfl, f16⟩
    have z17 := f16.size
    have t18 := t12.trans0 f16
    refine l_v (v := (.tuple #[(.string (mkS (strV (s.data.toList.drop n) above))), (.int .i64 ((strN (s.data.toList.drop n) above : Nat) : Int))])) (r_move rfl) ?_
    refine l_v (v := (.string (mkS (strV (s.data.toList.drop n) above)))) (r_extract rfl rfl) ?_
    refine l_v (v := (.int .i64 ((strN (s.data.toList.drop n) above : Nat) : Int))) (r_extract rfl rfl) ?_
    refine l_v (v := (.string (mkS (strV (s.data.toList.drop n) above)))) (r_assign rfl) ?_
    refine l_v (v := (.int .i64 ((strN (s.data.toList.drop n) above : Nat) : Int))) (r_assign rfl) ?_
    refine l_nil ?_
    refine (x_then ?_)
    refine c_seq ?_
    refine c_seq ?_
    refine c_region ?_
    refine l_v (v := (.int .i64 ((strN (s.data.toList.drop n) above : Nat) : Int))) (r_move rfl) ?_
    refine l_v (v := (.bool (decide (((strN (s.data.toList.drop n) above : Nat) : Int) = 0)))) (r_eql rfl rfl) ?_
    refine l_nil ?_
    refine (x_then ?_)
    refine c_if (p := ((strN (s.data.toList.drop n) above : Nat) : Int) = 0) rfl (fun c19 => ?_) (fun c19 => ?_)
    ·
      refine c_seq ?_
      refine c_region ?_
      refine l_v (v := (.pointer (some ⟨b, 0, none⟩))) (r_move rfl) ?_
      refine l_v (v := (.pointer (some ⟨b, 0, none⟩))) (r_move rfl) ?_
      refine l_v (v := (.pointer (some ⟨b, 0, none⟩))) (r_nil_ptr rfl) ?_
      refine l_v (v := (.pointer (some ⟨b, 0, none⟩))) (r_field_l F.fo177_0 rfl rfl) ?_
      refine l_v (v := (.pointer (some ⟨b, 0, none⟩))) (r_field_l F.fo175_0 rfl rfl) ?_
      have k20 := k8.keep0 f10
      have k21 := k20.keep0 f16
      refine l_v (v := (.string s)) (r_load1 F.one9 rfl (At.cell k21 rfl)) ?_
      refine l_v (v := (.int .i64 ((s.size : Nat) : Int))) (r_lenSn Proofs.Try.underlying9 rfl rfl) ?_
      have hcl := strN_le (s.data.toList.drop n) above
      rw [List.length_drop, ← size_eq] at hcl
      refine l_v (v := (.int .i64 ((s.size + 1 : Nat) : Int))) (r_add rfl rfl (w64 (by omega) (by omega) (by omega))) ?_
      refine l_v (v := (.pointer (some ⟨b, 0, none⟩))) (r_nil_ptr rfl) ?_
      refine l_v (v := (.pointer (some ⟨b, 0, none⟩))) (r_field_l F.fo177_0 rfl rfl) ?_
      refine l_v (v := (.pointer (some ⟨b, 1, none⟩))) (r_field_l F.fo175_1 rfl rfl) ?_
      refine l_do rfl ?_
      refine d_store1 (v := (.int .i64 ((s.size + 1 : Nat) : Int))) (c' := #[(.string s), (.int .i64 ((s.size + 1 : Nat) : Int))]) F.sz3 rfl rfl rfl k21 (by simp) rfl ?_
      intro w22 f23 h24
      have z25 := f23.size
      have t26 := t18.step f23 (one_in (by simp))
      refine l_nil ?_
      refine (x_then ?_)
      refine c_seq ?_
      refine c_region ?_
      refine l_v (v := (.string ⟨#[]⟩)) (r_move rfl) ?_
      refine l_v (v := (.string ⟨#[]⟩)) (r_assign rfl) ?_
      refine l_nil ?_
      refine (x_then ?_)
      refine c_ret ?_
      refine (x_then_r ?_)
      refine p_ret (v := (.string ⟨#[]⟩)) (res1 rfl rfl) ?_
      have eoff := str_zero (s := s) (n := n) (a := above) (by omega) (by omega)
      exact ⟨s.size + 1, (by rw [eoff]; rfl), t26, h24, (by omega), (by rw [eoff])⟩
    ·
      refine c_skip ?_
      refine (x_then ?_)
      refine c_seq ?_
      refine c_region ?_
      refine l_v (v := (.pointer (some ⟨b, 0, none⟩))) (r_move rfl) ?_
      refine l_v (v := (.pointer (some ⟨b, 0, none⟩))) (r_nil_ptr rfl) ?_
      refine l_v (v := (.pointer (some ⟨b, 0, none⟩))) (r_field_l F.fo177_0 rfl rfl) ?_
      refine l_v (v := (.pointer (some ⟨b, 1, none⟩))) (r_field_l F.fo175_1 rfl rfl) ?_
      have k27 := k8.keep0 f10
      have k28 := k27.keep0 f16
      refine l_v (v := (.int .i64 ((n : Nat) : Int))) (r_load1 F.one3 rfl (At.cell k28 rfl)) ?_
      refine l_v (v := (.int .i64 ((strN (s.data.toList.drop n) above : Nat) : Int))) (r_move rfl) ?_
      have hcl := strN_le (s.data.toList.drop n) above
      rw [List.length_drop, ← size_eq] at hcl
      refine l_v (v := (.int .i64 ((n + (strN (s.data.toList.drop n) above) : Nat) : Int))) (r_add rfl rfl (w64 (by omega) (by omega) (by omega))) ?_
      refine l_v (v := (.pointer (some ⟨b, 0, none⟩))) (r_nil_ptr rfl) ?_
      refine l_v (v := (.pointer (some ⟨b, 0, none⟩))) (r_field_l F.fo177_0 rfl rfl) ?_
      refine l_v (v := (.pointer (some ⟨b, 1, none⟩))) (r_field_l F.fo175_1 rfl rfl) ?_
      refine l_do rfl ?_
      refine d_store1 (v := (.int .i64 ((n + (strN (s.data.toList.drop n) above) : Nat) : Int))) (c' := #[(.string s), (.int .i64 ((n + (strN (s.data.toList.drop n) above) : Nat) : Int))]) F.sz3 rfl rfl rfl k28 (by simp) rfl ?_
      intro w29 f30 h31
      have z32 := f30.size
      have t33 := t18.step f30 (one_in (by simp))
      refine l_nil ?_
      refine (x_then ?_)
      refine c_seq ?_
      refine c_region ?_
      refine l_v (v := (.string (mkS (strV (s.data.toList.drop n) above)))) (r_move rfl) ?_
      refine l_v (v := (.string (mkS (strV (s.data.toList.drop n) above)))) (r_assign rfl) ?_
      refine l_nil ?_
      refine (x_then ?_)
      refine c_ret ?_
      refine p_ret (v := (.string (mkS (strV (s.data.toList.drop n) above)))) (res1 rfl rfl) ?_
      have eoff := str_ok (s := s) (n := n) (a := above) (by omega) (by omega)
      exact ⟨n + (strN (s.data.toList.drop n) above), (by rw [eoff]), t33, h31, (by omega), (by rw [eoff])⟩

set_option maxHeartbeats 400000 in
set_option maxRecDepth 100000 in
theorem rCount_c {w : World} {b n : Nat} {s : ByteArray} {above : Int} (h1 : At w b (.cells #[(.string s), (.int .i64 ((n : Nat) : Int))] 177 (0, 0))) (h9 : s.size ≤ 1000000000) (h8 : n ≤ s.size + 1) :
    Calls Proofs.Try.prog 70 #[(.pointer (some ⟨b, 0, none⟩)), (.int .i64 above)] w (Ret fun v w' => ∃ n' : Nat, v = (.int .i64 (((mCount (rdP s n) above).1 : Nat) : Int)) ∧ Fr [b] w w' ∧ At w' b (.cells #[(.string s), (.int .i64 ((n' : Nat) : Int))] 177 (0, 0)) ∧ (n' ≤ s.size + 1) ∧ (rdP s n' = (mCount (rdP s n) above).2)) := by
  have lt_h1 := h1.lt
  have t0 : Fr [b] w w := Fr.refl _ _
  refine enter Proofs.Try.func70 rfl Proofs.Try.ntmps70 (Nat.le_of_ble_eq_true rfl) ?_
  refine c_seq ?_
  refine c_region ?_
  refine l_do rfl ?_
  refine d_box (v := (.int .i64 above)) (cs := #[(.int .i64 above)]) rfl rfl ?_
  intro w1 b2 f3 a4 h5
  have z6 := f3.size
  have t7 := t0.trans0 f3
  have l8 := h5.lt
  refine l_v (v := (.int .i64 0)) (r_assign rfl) ?_
  refine l_nil ?_
  refine (x_then ?_)
  refine c_seq ?_
  refine c_region ?_
  refine l_v (v := (.pointer (some ⟨b, 0, none⟩))) (r_move rfl) ?_
  refine l_v (v := (.func (.func 138) #[] #[(.pointer (some ⟨b2, 0, none⟩))])) (r_makeFunc an (ac rfl an)) ?_
  refine l_do rfl ?_
  have k9 := h1.keep0 f3
  refine d_call (fl := []) (cl := []) (A := [(.pointer (some ⟨b, 0, none⟩)), (.func (.func 138) #[] #[(.pointer (some ⟨b2, 0, none⟩))])]) (B := [(.pointer (some ⟨b, 0, none⟩)), (.func (.func 138) #[] #[(.pointer (some ⟨b2, 0, none⟩))])]) F.ok137 rfl (ac rfl (ac rfl an)) rfl (offI_c (b := b) (q := b2) (s := s) (n := n) (above := above) k9 h5 (by omega) (by omega) (by omega)) ?_
  rintro _ w10 ⟨n_12, rfl, f11, h13, p14, p15⟩
  have z16 := f11.size
  have t17 := t7.step f11 (one_in (by simp))
  refine l_v (v := (.int .i64 (((mCount (rdP s n) above).1 : Nat) : Int))) (r_assign rfl) ?_
  refine l_nil ?_
  refine (x_then ?_)
  refine c_ret ?_
  refine p_ret (v := (.int .i64 (((mCount (rdP s n) above).1 : Nat) : Int))) (res1 rfl rfl) ?_
  exact ⟨n_12, rfl, t17, h13, p14, p15⟩

set_option maxHeartbeats 400000 in
set_option maxRecDepth 100000 in
theorem rStr_c {w : World} {b n : Nat} {s : ByteArray} {above : Int} (h1 : At w b (.cells #[(.string s), (.int .i64 ((n : Nat) : Int))] 177 (0, 0))) (h9 : s.size ≤ 1000000000) (h8 : n ≤ s.size + 1) :
    Calls Proofs.Try.prog 71 #[(.pointer (some ⟨b, 0, none⟩)), (.int .i64 above)] w (Ret fun v w' => ∃ n' : Nat, v = (.string (mkS (mStr (rdP s n) above).1)) ∧ Fr [b] w w' ∧ At w' b (.cells #[(.string s), (.int .i64 ((n' : Nat) : Int))] 177 (0, 0)) ∧ (n' ≤ s.size + 1) ∧ (rdP s n' = (mStr (rdP s n) above).2)) := by
  have lt_h1 := h1.lt
  have t0 : Fr [b] w w := Fr.refl _ _
  refine enter Proofs.Try.func71 rfl Proofs.Try.ntmps71 (Nat.le_of_ble_eq_true rfl) ?_
  refine c_seq ?_
  refine c_region ?_
  refine l_do rfl ?_
  refine d_box (v := (.int .i64 above)) (cs := #[(.int .i64 above)]) rfl rfl ?_
  intro w1 b2 f3 a4 h5
  have z6 := f3.size
  have t7 := t0.trans0 f3
  have l8 := h5.lt
  refine l_v (v := (.string ⟨#[]⟩)) (r_assign rfl) ?_
  refine l_nil ?_
  refine (x_then ?_)
  refine c_seq ?_
  refine c_region ?_
  refine l_v (v := (.pointer (some ⟨b, 0, none⟩))) (r_move rfl) ?_
  refine l_v (v := (.func (.func 141) #[] #[(.pointer (some ⟨b2, 0, none⟩))])) (r_makeFunc an (ac rfl an)) ?_
  refine l_do rfl ?_
  have k9 := h1.keep0 f3
  refine d_call (fl := []) (cl := []) (A := [(.pointer (some ⟨b, 0, none⟩)), (.func (.func 141) #[] #[(.pointer (some ⟨b2, 0, none⟩))])]) (B := [(.pointer (some ⟨b, 0, none⟩)), (.func (.func 141) #[] #[(.pointer (some ⟨b2, 0, none⟩))])]) F.ok140 rfl (ac rfl (ac rfl an)) rfl (offS_c (b := b) (q := b2) (s := s) (n := n) (above := above) k9 h5 (by omega) (by omega) (by omega)) ?_
  rintro _ w10 ⟨n_12, rfl, f11, h13, p14, p15⟩
  have z16 := f11.size
  have t17 := t7.step f11 (one_in (by simp))
  refine l_v (v := (.string (mkS (mStr (rdP s n) above).1))) (r_assign rfl) ?_
  refine l_nil ?_
  refine (x_then ?_)
  refine c_ret ?_
  refine p_ret (v := (.string (mkS (mStr (rdP s n) above).1))) (res1 rfl rfl) ?_
  exact ⟨n_12, rfl, t17, h13, p14, p15⟩

set_option maxHeartbeats 400000 in
set_option maxRecDepth 100000 in
theorem rFlag_c {w : World} {b n : Nat} {s : ByteArray} (h1 : At w b (.cells #[(.string s), (.int .i64 ((n : Nat) : Int))] 177 (0, 0))) (h9 : s.size ≤ 1000000000) (h8 : n ≤ s.size + 1) :
    Calls Proofs.Try.prog 100 #[(.pointer (some ⟨b, 0, none⟩))] w (Ret fun v w' => ∃ n' : Nat, v = (.bool (decide ((((mCount (rdP s n) 1).1 : Nat) : Int) = 1))) ∧ Fr [b] w w' ∧ At w' b (.cells #[(.string s), (.int .i64 ((n' : Nat) : Int))] 177 (0, 0)) ∧ (n' ≤ s.size + 1) ∧ (rdP s n' = (mCount (rdP s n) 1).2)) := by
  have lt_h1 := h1.lt
  have t0 : Fr [b] w w := Fr.refl _ _
  refine enter Proofs.Try.func100 rfl Proofs.Try.ntmps100 (Nat.le_of_ble_eq_true rfl) ?_
  refine c_seq ?_
  refine c_region ?_
  refine l_v (v := (.bool false)) (r_assign rfl) ?_
  refine l_nil ?_
  refine (x_then ?_)
  refine c_seq ?_
  refine c_region ?_
  refine l_v (v := (.pointer (some ⟨b, 0, none⟩))) (r_move rfl) ?_
  refine l_do rfl ?_
  refine d_call (fl := []) (cl := []) (A := [(.pointer (some ⟨b, 0, none⟩)), (.int .i64 1)]) (B := [(.pointer (some ⟨b, 0, none⟩)), (.int .i64 1)]) F.ok70 rfl (ac rfl (ac rfl an)) rfl (rCount_c (b := b) (above := 1) (s := s) (n := n) h1 (by omega) (by omega)) ?_
  rintro _ w1 ⟨n_3, rfl, f2, h4, p5, p6⟩
  have z7 := f2.size
  have t8 := t0.step f2 (one_in (by simp))
  refine l_v (v := (.bool (decide ((((mCount (rdP s n) 1).1 : Nat) : Int) = 1)))) (r_eql rfl rfl) ?_
  refine l_v (v := (.bool (decide ((((mCount (rdP s n) 1).1 : Nat) : Int) = 1)))) (r_assign rfl) ?_
  refine l_nil ?_
  refine (x_then ?_)
  refine c_ret ?_
  refine p_ret (v := (.bool (decide ((((mCount (rdP s n) 1).1 : Nat) : Int) = 1)))) (res1 rfl rfl) ?_
  exact ⟨n_3, rfl, t8, h4, p5, p6⟩

set_option maxHeartbeats 400000 in
set_option maxRecDepth 100000 in
theorem newReader_c {w : World} {a : Option Addr} {c : Nat} {bs : List UInt8} (h1 : Sl w a (bv bs)) :
    Calls Proofs.Try.prog 69 #[(.slice a bs.length c)] w (Ret fun v w' => ∃ b : Nat, v = (.pointer (some ⟨b, 0, none⟩)) ∧ Fr [] w w' ∧ At w' b (.cells #[(.string (mkS bs)), (.int .i64 0)] 177 (0, 0)) ∧ (w.heap.size ≤ b)) := by
  have t0 : Fr [] w w := Fr.refl _ _
  refine enter Proofs.Try.func69 rfl Proofs.Try.ntmps69 (Nat.le_of_ble_eq_true rfl) ?_
  refine c_seq ?_
  refine c_region ?_
  refine l_v (v := (.pointer none)) (r_assign rfl) ?_
  refine l_nil ?_
  refine (x_then ?_)
  refine c_seq ?_
  refine c_region ?_
  refine l_v (v := (.slice a bs.length c)) (r_move rfl) ?_
  refine l_v (v := (.string (mkS bs))) (r_bytes (bs := bs) Proofs.Try.underlying22 Proofs.Try.underlying5 Proofs.Try.underlying9 rfl h1 (by first | rfl | omega | (simp; done) | (simp; omega))) ?_
  refine l_v (v := (.agg #[(.string (mkS bs)), (.int .i64 0)])) (r_build (pc rfl pn) rfl) ?_
  refine l_v (v := (.agg #[(.string (mkS bs)), (.int .i64 0)])) (r_build (pc rfl pn) rfl) ?_
  refine l_do rfl ?_
  refine d_box (v := (.agg #[(.string (mkS bs)), (.int .i64 0)])) (cs := #[(.string (mkS bs)), (.int .i64 0)]) rfl rfl ?_
  intro w1 b2 f3 a4 h5
  have z6 := f3.size
  have t7 := t0.trans0 f3
  have l8 := h5.lt
  refine l_v (v := (.pointer (some ⟨b2, 0, none⟩))) (r_assign rfl) ?_
  refine l_nil ?_
  refine (x_then ?_)
  refine c_ret ?_
  refine p_ret (v := (.pointer (some ⟨b2, 0, none⟩))) (res1 rfl rfl) ?_
  exact ⟨b2, rfl, t7, h5, (by omega)⟩

end Go.Sy
