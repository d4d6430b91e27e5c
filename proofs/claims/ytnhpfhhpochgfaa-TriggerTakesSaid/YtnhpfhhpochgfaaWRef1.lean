/- Walks of the document's package code. -/
import Derived.Test.YtnhpfhhpochgfaaFacts
import Derived.Test.YtnhpfhhpochgfaaPRef1
namespace Go.Sy
set_option linter.unusedVariables false
set_option linter.unusedSimpArgs false

set_option maxHeartbeats 400000 in
set_option maxRecDepth 100000 in
theorem rgroups_c {w : World} {u : Nat} (h1 : u < 18446744073709551616) :
    Calls Proofs.Try.prog 153 #[(.int .u64 ((u : Nat) : Int))] w (Ret fun v w' => v = (.string (mkS (grp u))) ∧ Fr [] w w') := by
  have t0 : Fr [] w w := Fr.refl _ _
  refine enter Proofs.Try.func153 rfl Proofs.Try.ntmps153 (Nat.le_of_ble_eq_true rfl) ?_
  refine c_seq ?_
  refine c_region ?_
  refine l_v (v := (.string ⟨#[]⟩)) (r_assign rfl) ?_
  refine l_nil ?_
  refine (x_then ?_)
  refine c_seq ?_
  refine c_seq ?_
  refine c_region ?_
  refine l_v (v := (.int .u64 ((u : Nat) : Int))) (r_move rfl) ?_
  refine l_v (v := (.bool (decide (((u : Nat) : Int) < 128)))) (r_lss rfl rfl) ?_
  refine l_nil ?_
  refine (x_then ?_)
  refine c_if (p := ((u : Nat) : Int) < 128) rfl (fun c1 => ?_) (fun c1 => ?_)
  ·
    refine c_seq ?_
    refine c_region ?_
    refine l_v (v := (.int .u64 ((u : Nat) : Int))) (r_move rfl) ?_
    refine l_v (v := (.int .u8 ((u : Nat) : Int))) (r_convI F.und189 Proofs.Try.underlying5 rfl (wu8 (by omega) (by omega) rfl)) ?_
    refine l_do rfl ?_
    refine d_lit (el := 5) (k' := 1) (ps := [(0, (.int .u8 ((u : Nat) : Int)))]) (cells := #[(.int .u8 ((u : Nat) : Int))]) (pc rfl pn) (by kernel_rfl) rfl (Nat.le_of_ble_eq_true rfl) ?_
    intro w2 b3 f4 a5 h6
    have z7 := f4.size
    have t8 := t0.trans0 f4
    have g9 := ob_one_ge (o := 0) (s := none) a5
    have l10 := h6.lt
    have := ob_one_lt l10
    have s11 := h6.sl
    refine l_v (v := (.string (mkS [UInt8.ofNat u]))) (r_bytes (bs := [UInt8.ofNat u]) Proofs.Try.underlying22 Proofs.Try.underlying5 Proofs.Try.underlying9 rfl (bytes1 (by omega) s11) (by first | rfl | omega | (simp; done) | (simp; omega))) ?_
    refine l_v (v := (.string (mkS [UInt8.ofNat u]))) (r_assign rfl) ?_
    refine l_nil ?_
    refine (x_then ?_)
    refine c_ret ?_
    refine (x_then_r ?_)
    refine p_ret (v := (.string (mkS [UInt8.ofNat u]))) (res1 rfl rfl) ?_
    exact ⟨(by rw [grp_small (by omega)]), t8⟩
  ·
    refine c_skip ?_
    refine (x_then ?_)
    refine c_seq ?_
    refine f_start (masks := [0, 1, 3, 7, 15, 31, 0, 64, 192, 511, 1023]) (F := Fs []) #[false, false, false, false, false, false, false, false, false, false, false] F.mixed rfl rfl (by kernel_rfl) ?_
    intro w12 f13 r14
    have z15 := f13.size
    have t16 := t0.trans0 f13
    refine f_take (i := 0) (v := (.int .u64 ((u : Nat) : Int))) #[true, false, false, false, false, false, false, false, false, false, false] r14 rfl (by kernel_rfl) (fun _ _ _ h => h) rfl (fs_none rfl) (fun w hF => r_move rfl) ?_
    refine f_take (i := 1) (v := (.int .u64 ((u % 128 : Nat) : Int))) #[true, true, false, false, false, false, false, false, false, false, false] r14 rfl (by kernel_rfl) (fun _ _ _ h => h) rfl (fs_none rfl) (fun w hF => r_rem rfl rfl (by decide) (rem_nat u 128)) ?_
    refine f_take (i := 2) (v := (.int .u64 ((128 + (u % 128) : Nat) : Int))) #[true, true, true, false, false, false, false, false, false, false, false] r14 rfl (by kernel_rfl) (fun _ _ _ h => h) rfl (fs_none rfl) (fun w hF => r_add rfl rfl (wu64 (by omega) (by omega) (by omega))) ?_
    refine f_take (i := 3) (v := (.int .u8 ((128 + (u % 128) : Nat) : Int))) #[true, true, true, true, false, false, false, false, false, false, false] r14 rfl (by kernel_rfl) (fun _ _ _ h => h) rfl (fs_none rfl) (fun w hF => r_convI F.und189 Proofs.Try.underlying5 rfl (wu8 (by omega) (by omega) rfl)) ?_
    refine f_take (i := 6) (v := (.int .u64 ((u : Nat) : Int))) #[true, true, true, true, false, false, true, false, false, false, false] r14 rfl (by kernel_rfl) (fun _ _ _ h => h) rfl (fs_none rfl) (fun w hF => r_move rfl) ?_
    refine f_take (i := 7) (v := (.int .u64 ((u / 128 : Nat) : Int))) #[true, true, true, true, false, false, true, true, false, false, false] r14 rfl (by kernel_rfl) (fun _ _ _ h => h) rfl (fs_none rfl) (fun w hF => r_quo rfl rfl (by decide) (quo_natU (y := 128) (by omega))) ?_
    refine f_many [4, 8] (by kernel_rfl) ?_
    refine each_cons #[true, true, true, true, true, false, true, true, false, false, false] rfl rfl rfl ?_ ?_
    ·
      refine d_lit (el := 5) (k' := 1) (ps := [(0, (.int .u8 ((128 + (u % 128) : Nat) : Int)))]) (cells := #[(.int .u8 ((128 + (u % 128) : Nat) : Int))]) (pc rfl pn) (by kernel_rfl) rfl (Nat.le_of_ble_eq_true rfl) ?_
      intro w17 b18 f19 a20 h21
      have z22 := f19.size
      have t23 := t16.trans0 f19
      have g24 := ob_one_ge (o := 0) (s := none) a20
      have l25 := h21.lt
      have := ob_one_lt l25
      refine ⟨(pres_all (by kernel_rfl)), ?_⟩
      have s26 := h21.sl
      refine f_many [5, 8] (by kernel_rfl) ?_
      refine each_cons #[true, true, true, true, true, true, true, true, false, false, false] rfl rfl rfl ?_ ?_
      ·
        refine d_quiet (v := (.string (mkS [UInt8.ofNat (128 + u % 128)]))) rfl (r_bytes (bs := [UInt8.ofNat (128 + u % 128)]) Proofs.Try.underlying22 Proofs.Try.underlying5 Proofs.Try.underlying9 rfl (bytes1 (by omega) s26) (by first | rfl | omega | (simp; done) | (simp; omega))) ?_
        refine ⟨(pres_all (by kernel_rfl)), ?_⟩
        refine f_one (i := 8) #[true, true, true, true, true, true, true, true, true, false, false] rfl (by kernel_rfl) rfl ?_
        refine d_call (fl := []) (cl := []) (A := [(.int .u64 ((u / 128 : Nat) : Int))]) (B := [(.int .u64 ((u / 128 : Nat) : Int))]) F.ok153 rfl (ac rfl an) rfl (rgroups_c (u := u / 128) (by omega)) ?_
        rintro _ w27 ⟨rfl, f28⟩
        have z29 := f28.size
        have t30 := t23.trans0 f28
        refine ⟨(pres_all (by kernel_rfl)), ?_⟩
        have hgl := grp_len (u / 128)
        have hgn := ngr_le (u := u / 128) (by omega)
        refine f_take (i := 9) (v := (.string (mkS (grp u)))) #[true, true, true, true, true, true, true, true, true, true, false] r14 rfl (by kernel_rfl) (fun _ _ _ h => h) rfl (fs_none rfl) (fun w hF => r_addS rfl rfl (by rw [mkS_size, mkS_size, grp_len]; simp; omega) (by rw [grp_more (u := u) (by omega)]; exact mkS_app _ _)) ?_
        refine f_take (i := 10) (v := (.string (mkS (grp u)))) #[true, true, true, true, true, true, true, true, true, true, true] r14 rfl (by kernel_rfl) (fun _ _ _ h => h) rfl (fs_none rfl) (fun w hF => r_assign rfl) ?_
        refine f_done (by kernel_rfl) ?_
        refine (x_then ?_)
        refine c_ret ?_
        refine p_ret (v := (.string (mkS (grp u)))) (res1 rfl rfl) ?_
        exact ⟨rfl, t30⟩
      refine each_cons #[true, true, true, true, true, false, true, true, true, false, false] rfl rfl rfl ?_ ?_
      ·
        refine d_call (fl := []) (cl := []) (A := [(.int .u64 ((u / 128 : Nat) : Int))]) (B := [(.int .u64 ((u / 128 : Nat) : Int))]) F.ok153 rfl (ac rfl an) rfl (rgroups_c (u := u / 128) (by omega)) ?_
        rintro _ w31 ⟨rfl, f32⟩
        have z33 := f32.size
        have t34 := t23.trans0 f32
        refine ⟨(pres_all (by kernel_rfl)), ?_⟩
        have k35 := s26.keep0 f32
        refine f_one (i := 5) #[true, true, true, true, true, true, true, true, true, false, false] rfl (by kernel_rfl) rfl ?_
        refine d_quiet (v := (.string (mkS [UInt8.ofNat (128 + u % 128)]))) rfl (r_bytes (bs := [UInt8.ofNat (128 + u % 128)]) Proofs.Try.underlying22 Proofs.Try.underlying5 Proofs.Try.underlying9 rfl (bytes1 (by omega) k35) (by first | rfl | omega | (simp; done) | (simp; omega))) ?_
        refine ⟨(pres_all (by kernel_rfl)), ?_⟩
        have hgl := grp_len (u / 128)
        have hgn := ngr_le (u := u / 128) (by omega)
        refine f_take (i := 9) (v := (.string (mkS (grp u)))) #[true, true, true, true, true, true, true, true, true, true, false] r14 rfl (by kernel_rfl) (fun _ _ _ h => h) rfl (fs_none rfl) (fun w hF => r_addS rfl rfl (by rw [mkS_size, mkS_size, grp_len]; simp; omega) (by rw [grp_more (u := u) (by omega)]; exact mkS_app _ _)) ?_
        refine f_take (i := 10) (v := (.string (mkS (grp u)))) #[true, true, true, true, true, true, true, true, true, true, true] r14 rfl (by kernel_rfl) (fun _ _ _ h => h) rfl (fs_none rfl) (fun w hF => r_assign rfl) ?_
        refine f_done (by kernel_rfl) ?_
        refine (x_then ?_)
        refine c_ret ?_
        refine p_ret (v := (.string (mkS (grp u)))) (res1 rfl rfl) ?_
        exact ⟨rfl, t34⟩
      exact each_nil
    refine each_cons #[true, true, true, true, false, false, true, true, true, false, false] rfl rfl rfl ?_ ?_
    ·
      refine d_call (fl := []) (cl := []) (A := [(.int .u64 ((u / 128 : Nat) : Int))]) (B := [(.int .u64 ((u / 128 : Nat) : Int))]) F.ok153 rfl (ac rfl an) rfl (rgroups_c (u := u / 128) (by omega)) ?_
      rintro _ w36 ⟨rfl, f37⟩
      have z38 := f37.size
      have t39 := t16.trans0 f37
      refine ⟨(pres_all (by kernel_rfl)), ?_⟩
      refine f_one (i := 4) #[true, true, true, true, true, false, true, true, true, false, false] rfl (by kernel_rfl) rfl ?_
      refine d_lit (el := 5) (k' := 1) (ps := [(0, (.int .u8 ((128 + (u % 128) : Nat) : Int)))]) (cells := #[(.int .u8 ((128 + (u % 128) : Nat) : Int))]) (pc rfl pn) (by kernel_rfl) rfl (Nat.le_of_ble_eq_true rfl) ?_
      intro w40 b41 f42 a43 h44
      have z45 := f42.size
      have t46 := t39.trans0 f42
      have g47 := ob_one_ge (o := 0) (s := none) a43
      have l48 := h44.lt
      have := ob_one_lt l48
      refine ⟨(pres_all (by kernel_rfl)), ?_⟩
      have s49 := h44.sl
      refine f_one (i := 5) #[true, true, true, true, true, true, true, true, true, false, false] rfl (by kernel_rfl) rfl ?_
      refine d_quiet (v := (.string (mkS [UInt8.ofNat (128 + u % 128)]))) rfl (r_bytes (bs := [UInt8.ofNat (128 + u % 128)]) Proofs.Try.underlying22 Proofs.Try.underlying5 Proofs.Try.underlying9 rfl (bytes1 (by omega) s49) (by first | rfl | omega | (simp; done) | (simp; omega))) ?_
      refine ⟨(pres_all (by kernel_rfl)), ?_⟩
      have hgl := grp_len (u / 128)
      have hgn := ngr_le (u := u / 128) (by omega)
      refine f_take (i := 9) (v := (.string (mkS (grp u)))) #[true, true, true, true, true, true, true, true, true, true, false] r14 rfl (by kernel_rfl) (fun _ _ _ h => h) rfl (fs_none rfl) (fun w hF => r_addS rfl rfl (by rw [mkS_size, mkS_size, grp_len]; simp; omega) (by rw [grp_more (u := u) (by omega)]; exact mkS_app _ _)) ?_
      refine f_take (i := 10) (v := (.string (mkS (grp u)))) #[true, true, true, true, true, true, true, true, true, true, true] r14 rfl (by kernel_rfl) (fun _ _ _ h => h) rfl (fs_none rfl) (fun w hF => r_assign rfl) ?_
      refine f_done (by kernel_rfl) ?_
      refine (x_then ?_)
      refine c_ret ?_
      refine p_ret (v := (.string (mkS (grp u)))) (res1 rfl rfl) ?_
      exact ⟨rfl, t46⟩
    exact each_nil
termination_by u
decreasing_by all_goals omega

set_option maxHeartbeats 400000 in
set_option maxRecDepth 100000 in
theorem rbehind_c {w : World} {a : Option Addr} {c : Nat} {bs l : List UInt8} {s : ByteArray} (h1 : Sl w a (bv bs)) (h2 : bs.length ≤ 1000000000) (h3 : s.size ≤ 3000000000) (hl : l = bs ++ s.data.toList) :
    Calls Proofs.Try.prog 143 #[(.slice a bs.length c), (.string s)] w (Ret fun v w' => ∃ a' : Option Addr, ∃ c' : Nat, v = (.slice a' l.length c') ∧ Fr [] w w' ∧ Own w' 5 1 a' l.length c' (bv l) ∧ (∀ x ∈ ob a', w.heap.size ≤ x)) := by
  have t0 : Fr [] w w := Fr.refl _ _
  refine enter Proofs.Try.func143 rfl Proofs.Try.ntmps143 (Nat.le_of_ble_eq_true rfl) ?_
  refine c_seq ?_
  refine c_region ?_
  refine l_v (v := (.slice none 0 0)) (r_assign rfl) ?_
  refine l_nil ?_
  refine (x_then ?_)
  refine c_seq ?_
  refine c_region ?_
  refine l_v (v := (.slice none 0 0)) (r_assign rfl) ?_
  refine l_nil ?_
  refine (x_then ?_)
  refine c_seq ?_
  refine c_seq ?_
  refine c_region ?_
  refine l_v (v := (.int .i64 0)) (r_assign rfl) ?_
  refine l_nil ?_
  refine (x_then ?_)
  refine c_block ?_
  refine c_loop (fun (m : Nat) (e' : Nat → Value) (w' : World) => ∃ k : Nat, ∃ a3 : Option Addr, ∃ c3 : Nat, m = bs.length - k ∧ e' 0 = (.slice a bs.length c) ∧ e' 1 = (.string s) ∧ e' 4 = (.slice none 0 0) ∧ e' 5 = (.slice a3 k c3) ∧ e' 6 = (.int .i64 ((k : Nat) : Int)) ∧ Fr [] w w' ∧ Own w' 5 1 a3 k c3 (bv ([] ++ bs.take k)) ∧ (k ≤ bs.length) ∧ (∀ x ∈ ob a3, w.heap.size ≤ x)) (bs.length - 0) ⟨0, none, 0, rfl, rfl, rfl, rfl, rfl, rfl, Fr.refl _ _, Own.nil _ _ _, (by omega), (fun x hx => by cases hx)⟩ ?_
  rintro m_f3 e1 w2 ⟨k, a3, c3, hm_f3, s4, s5, s6, s7, s8, f3, h9, p10, hge⟩
  have z11 := f3.size
  have t12 := t0.trans0 f3
  have l13 := h9.lt
  have t_f3 : Fr [] w w2 := f3
  refine c_seq ?_
  refine c_seq ?_
  refine c_region ?_
  refine l_v (v := (.int .i64 ((k : Nat) : Int))) (r_move s8) ?_
  refine l_v (v := (.slice a bs.length c)) (r_move s4) ?_
  refine l_v (v := (.int .i64 ((bs.length : Nat) : Int))) (r_lenSl F.sl22 rfl) ?_
  refine l_v (v := (.bool (decide (((k : Nat) : Int) < ((bs.length : Nat) : Int))))) (r_lss rfl rfl) ?_
  refine l_nil ?_
  refine (x_then ?_)
  refine c_if (p := ((k : Nat) : Int) < ((bs.length : Nat) : Int)) rfl (fun c14 => ?_) (fun c14 => ?_)
  ·
    refine c_skip ?_
    refine (x_then ?_)
    refine c_seq ?_
    refine c_block ?_
    refine c_region ?_
    refine l_v (v := (.slice a3 k c3)) (r_move s7) ?_
    refine l_v (v := (.slice a bs.length c)) (r_move s4) ?_
    refine l_v (v := (.int .i64 ((k : Nat) : Int))) (r_move s8) ?_
    obtain ⟨x, hx⟩ := get_some (l := bs) (k := k) (by omega)
    have ha : ∃ ad, a = some ad := h1.some (by rw [bv_len]; omega)
    refine l_v (v := (.pointer (some ((adr a).add k)))) (r_indexAddr F.sle22 rfl rfl ha (by omega) (by omega) (by first | rfl | simp | omega)) ?_
    have k15 := h1.keep0 f3
    refine l_v (v := (.int .u8 ((x.toNat : Nat) : Int))) (r_loadE1 F.one5 k15 rfl (bv_vs hx)) ?_
    refine l_do rfl ?_
    refine d_lit (el := 5) (k' := 1) (ps := [(0, (.int .u8 ((x.toNat : Nat) : Int)))]) (cells := #[(.int .u8 ((x.toNat : Nat) : Int))]) (pc rfl pn) (by kernel_rfl) rfl (Nat.le_of_ble_eq_true rfl) ?_
    intro w16 b17 f18 a19 h20
    have z21 := f18.size
    have t22 := t12.trans0 f18
    have t23 := t_f3.trans0 f18
    have g24 := ob_one_ge (o := 0) (s := none) a19
    have l25 := h20.lt
    have := ob_one_lt l25
    refine l_do rfl ?_
    have k33 := h9.keep0 f18
    have s34 := h20.sl
    refine d_appendN (news := [(.int .u8 ((x.toNat : Nat) : Int))]) (nn := k + 1) (cs' := bv ([] ++ bs.take (k + 1))) Proofs.Try.underlying22 F.inf5 rfl (Nat.le_of_ble_eq_true rfl) rfl k33 rfl s34 (by first | rfl | simp | omega) (by simp [Value.oneCell']) (by omega) (by simp only [maxLen]; omega) (by omega) (by exact bv_take_succ hx) ?_
    intro w26 a_29 c_30 f27 h28 g31 n32
    have z35 := f27.size
    have t36 := t22.step f27 (ob_new hge (by omega))
    have t37 := t23.step f27 (ob_new hge (by omega))
    have l38 := h28.lt
    have g39 := ob_age hge g31 (by omega)
    refine l_v (v := (.slice a_29 (k + 1) c_30)) (r_assign rfl) ?_
    refine l_nil ?_
    refine (x_blk (x_then ?_))
    refine c_region ?_
    refine l_v (v := (.int .i64 ((k : Nat) : Int))) (r_move s8) ?_
    refine l_v (v := (.int .i64 ((k + 1 : Nat) : Int))) (r_add rfl rfl (w64 (by omega) (by omega) (by omega))) ?_
    refine l_v (v := (.int .i64 ((k + 1 : Nat) : Int))) (r_assign rfl) ?_
    refine l_nil ?_
    refine (x_then ?_)
    exact ⟨_, _, (by omega), rfl, k + 1, a_29, c_30, rfl, s4, s5, s6, rfl, rfl, t37, h28, (by omega), (ob_ge g39 (by omega))⟩
  ·
    refine c_exit ?_
    refine (x_then_x (x_then_x (x_blk_hit (x_then ?_))))
    refine c_seq ?_
    refine c_seq ?_
    refine c_region ?_
    refine l_v (v := (.int .i64 0)) (r_assign rfl) ?_
    refine l_nil ?_
    refine (x_then ?_)
    refine c_block ?_
    refine c_loop (fun (m : Nat) (e' : Nat → Value) (w' : World) => ∃ j : Nat, ∃ a4 : Option Addr, ∃ c4 : Nat, m = s.size - j ∧ e' 0 = (.slice a bs.length c) ∧ e' 1 = (.string s) ∧ e' 4 = (.slice none 0 0) ∧ e' 5 = (.slice a4 (bs.length + j) c4) ∧ e' 6 = (.int .i64 ((k : Nat) : Int)) ∧ e' 7 = (.int .i64 ((j : Nat) : Int)) ∧ e' 8 = (.int .i64 ((k : Nat) : Int)) ∧ e' 9 = (.slice a bs.length c) ∧ e' 10 = (.int .i64 ((bs.length : Nat) : Int)) ∧ e' 11 = (.bool (decide (((k : Nat) : Int) < ((bs.length : Nat) : Int)))) ∧ Fr (ob a3) w2 w' ∧ Own w' 5 1 a4 (bs.length + j) c4 (bv (bs ++ s.data.toList.take j)) ∧ (j ≤ s.size) ∧ (∀ x ∈ ob a4, w.heap.size ≤ x) ∧ (∀ x ∈ ob a4, x ∈ ob a3 ∨ w2.heap.size ≤ x)) (s.size - 0) ⟨0, a3, c3, rfl, s4, s5, s6, (by have e := s7; rw [show bs.length + 0 = k by omega]; exact e), s8, rfl, rfl, rfl, rfl, rfl, Fr.refl _ _, (by have e : k = bs.length := (by omega); subst e; simpa using h9), (by omega), hge, grow_refl⟩ ?_
    rintro m_f42 e40 w41 ⟨j, a4, c4, hm_f42, s43, s44, s45, s46, s47, s48, s49, s50, s51, s52, f42, h53, p54, hge4, hgr⟩
    have z55 := f42.size
    have t56 := t12.step f42 (ob_new hge (by omega))
    have t57 := t_f3.step f42 (ob_new hge (by omega))
    have l58 := h53.lt
    have t_f42 : Fr (ob a3) w2 w41 := f42
    refine c_seq ?_
    refine c_seq ?_
    refine c_region ?_
    refine l_v (v := (.int .i64 ((j : Nat) : Int))) (r_move s48) ?_
    refine l_v (v := (.string s)) (r_move s44) ?_
    refine l_v (v := (.int .i64 ((s.size : Nat) : Int))) (r_lenSn Proofs.Try.underlying9 rfl rfl) ?_
    refine l_v (v := (.bool (decide (((j : Nat) : Int) < ((s.size : Nat) : Int))))) (r_lss rfl rfl) ?_
    refine l_nil ?_
    refine (x_then ?_)
    refine c_if (p := ((j : Nat) : Int) < ((s.size : Nat) : Int)) rfl (fun c59 => ?_) (fun c59 => ?_)
    ·
      refine c_skip ?_
      refine (x_then ?_)
      refine c_seq ?_
      refine c_block ?_
      refine c_region ?_
      refine l_v (v := (.slice a4 (bs.length + j) c4)) (r_move s46) ?_
      refine l_v (v := (.string s)) (r_move s44) ?_
      refine l_v (v := (.int .i64 ((j : Nat) : Int))) (r_move s48) ?_
      obtain ⟨y, hy⟩ := byte_some (s := s) (k := j) (by omega)
      refine l_v (v := (.int .u8 ((y.toNat : Nat) : Int))) (r_indexS Proofs.Try.underlying9 rfl rfl (by omega) (byte_get rfl hy)) ?_
      refine l_do rfl ?_
      refine d_lit (el := 5) (k' := 1) (ps := [(0, (.int .u8 ((y.toNat : Nat) : Int)))]) (cells := #[(.int .u8 ((y.toNat : Nat) : Int))]) (pc rfl pn) (by kernel_rfl) rfl (Nat.le_of_ble_eq_true rfl) ?_
      intro w60 b61 f62 a63 h64
      have z65 := f62.size
      have t66 := t56.trans0 f62
      have t67 := t57.trans0 f62
      have t68 := t_f42.trans0 f62
      have g69 := ob_one_ge (o := 0) (s := none) a63
      have l70 := h64.lt
      have := ob_one_lt l70
      refine l_do rfl ?_
      have k78 := h53.keep0 f62
      have s79 := h64.sl
      refine d_appendN (news := [(.int .u8 ((y.toNat : Nat) : Int))]) (nn := bs.length + (j + 1)) (cs' := bv (bs ++ s.data.toList.take (j + 1))) Proofs.Try.underlying22 F.inf5 rfl (Nat.le_of_ble_eq_true rfl) rfl k78 rfl s79 (by first | rfl | simp | omega) (by simp [Value.oneCell']) (by omega) (by simp only [maxLen]; omega) (by omega) (by exact bv_take_succ hy) ?_
      intro w71 a_74 c_75 f72 h73 g76 n77
      have z80 := f72.size
      have t81 := t66.step f72 (ob_new hge4 (by omega))
      have t82 := t67.step f72 (ob_new hge4 (by omega))
      have t83 := t68.step f72 (ob_grow hgr (by omega) (by intro x hx; simp [hx]))
      have l84 := h73.lt
      have g85 := ob_age hge4 g76 (by omega)
      have g86 := grow_trans hgr g76 (by omega)
      refine l_v (v := (.slice a_74 (bs.length + (j + 1)) c_75)) (r_assign rfl) ?_
      refine l_nil ?_
      refine (x_blk (x_then ?_))
      refine c_region ?_
      refine l_v (v := (.int .i64 ((j : Nat) : Int))) (r_move s48) ?_
      refine l_v (v := (.int .i64 ((j + 1 : Nat) : Int))) (r_add rfl rfl (w64 (by omega) (by omega) (by omega))) ?_
      refine l_v (v := (.int .i64 ((j + 1 : Nat) : Int))) (r_assign rfl) ?_
      refine l_nil ?_
      refine (x_then ?_)
      exact ⟨_, _, (by omega), rfl, j + 1, a_74, c_75, rfl, s43, s44, s45, rfl, s47, rfl, s49, s50, s51, s52, t83, h73, (by omega), (ob_ge g85 (by omega)), g86⟩
    ·
      refine c_exit ?_
      refine (x_then_x (x_then_x (x_blk_hit (x_then ?_))))
      refine c_seq ?_
      refine c_region ?_
      refine l_v (v := (.slice a4 (bs.length + j) c4)) (r_move s46) ?_
      refine l_v (v := (.slice a4 (bs.length + j) c4)) (r_assign rfl) ?_
      refine l_nil ?_
      refine (x_then ?_)
      refine c_ret ?_
      refine p_ret (v := (.slice a4 (bs.length + j) c4)) (res1 rfl rfl) ?_
      have ej : j = s.size := by omega
      have el : l = bs ++ s.data.toList.take j := by rw [hl, ej, size_eq, List.take_length]
      have eln : l.length = bs.length + j := by rw [hl, ej, List.length_append, size_eq]
      exact ⟨a4, c4, (by rw [eln]), t56, (by rw [eln, el]; exact h53), (ob_ge hge4 (by omega))⟩

set_option maxHeartbeats 400000 in
set_option maxRecDepth 100000 in
theorem roff_c {w : World} {b c : Nat} {a : Option Addr} {f : Bool} {l : List UInt8} (h1 : At w b (.cells #[(.slice a l.length c), (.bool f)] 185 (0, 0))) (h2 : Ro w a l.length c (bv l)) (h3 : l.length ≤ 1000000000) :
    Calls Proofs.Try.prog 167 #[(.pointer (some ⟨b, 0, none⟩))] w (Ret fun v w' => v = (.tuple #[(.int .u64 ((numU l : Nat) : Int)), (.int .i64 ((numN l : Nat) : Int))]) ∧ Fr [] w w') := by
  have lt_h1 := h1.lt
  have lt_h2 := h2.lt
  have hcap := h2.cap
  have t0 : Fr [] w w := Fr.refl _ _
  refine enter Proofs.Try.func167 rfl Proofs.Try.ntmps167 (Nat.le_of_ble_eq_true rfl) ?_
  refine c_seq ?_
  refine c_region ?_
  refine l_v (v := (.int .u64 0)) (r_assign rfl) ?_
  refine l_v (v := (.int .i64 0)) (r_assign rfl) ?_
  refine l_nil ?_
  refine (x_then ?_)
  refine c_seq ?_
  refine c_region ?_
  refine l_v (v := (.int .u64 0)) (r_assign rfl) ?_
  refine l_nil ?_
  refine (x_then ?_)
  refine c_seq ?_
  refine c_seq ?_
  refine c_region ?_
  refine l_v (v := (.int .i64 1)) (r_assign rfl) ?_
  refine l_nil ?_
  refine (x_then ?_)
  refine c_block ?_
  refine c_loop (fun (m : Nat) (e' : Nat → Value) (w' : World) => ∃ n : Nat, m = 11 - n ∧ e' 0 = (.pointer (some ⟨b, 0, none⟩)) ∧ e' 5 = (.int .i64 ((n : Nat) : Int)) ∧ Fr [] w w' ∧ (1 ≤ n) ∧ (∀ m, 1 ≤ m → m < n → grp (q64 (val7 (seg l 0 m))) ≠ l.take m)) (11 - 1) ⟨1, rfl, rfl, rfl, Fr.refl _ _, (by omega), (fun m h1 h2 => by omega)⟩ ?_
  rintro m_f3 e1 w2 ⟨n, hm_f3, s4, s5, f3, p6, hall⟩
  have z7 := f3.size
  have t8 := t0.trans0 f3
  have t_f3 : Fr [] w w2 := f3
  refine c_seq ?_
  refine c_seq ?_
  refine c_region ?_
  refine l_v (v := (.int .i64 ((n : Nat) : Int))) (r_move s5) ?_
  refine l_v (v := (.bool (decide (((n : Nat) : Int) ≤ 10)))) (r_leq rfl rfl) ?_
  refine l_v (v := (.bool (decide (((n : Nat) : Int) ≤ 10)))) (r_move rfl) ?_
  refine l_em (p := ((n : Nat) : Int) ≤ 10) ?_ ?_
  · intro c9
    refine l_gv (v := (.int .i64 ((n : Nat) : Int))) (wanted_run rfl rfl (bd rfl c9)) (r_move s5) ?_
    refine l_gv (v := (.pointer (some ⟨b, 0, none⟩))) (wanted_run rfl rfl (bd rfl c9)) (r_move s4) ?_
    refine l_gv (v := (.pointer (some ⟨b, 0, none⟩))) (wanted_run rfl rfl (bd rfl c9)) (r_nil_ptr rfl) ?_
    refine l_gv (v := (.pointer (some ⟨b, 0, none⟩))) (wanted_run rfl rfl (bd rfl c9)) (r_field_l F.fo185_0 rfl rfl) ?_
    have k10 := h1.keep0 f3
    refine l_gv (v := (.slice a l.length c)) (wanted_run rfl rfl (bd rfl c9)) (r_load1 F.one22 rfl (At.cell k10 rfl)) ?_
    refine l_gv (v := (.int .i64 ((l.length : Nat) : Int))) (wanted_run rfl rfl (bd rfl c9)) (r_lenSl F.sl22 rfl) ?_
    refine l_gv (v := (.bool (decide (((n : Nat) : Int) ≤ ((l.length : Nat) : Int))))) (wanted_run rfl rfl (bd rfl c9)) (r_leq rfl rfl) ?_
    refine l_v (v := (.bool (decide (((n : Nat) : Int) ≤ ((l.length : Nat) : Int))))) (r_pick_t (bd rfl c9) rfl) ?_
    refine l_nil ?_
    refine (x_then ?_)
    refine c_if (p := ((n : Nat) : Int) ≤ ((l.length : Nat) : Int)) rfl (fun c11 => ?_) (fun c11 => ?_)
    ·
      refine c_skip ?_
      refine (x_then ?_)
      refine c_seq ?_
      refine c_block ?_
      refine c_seq ?_
      refine c_region ?_
      refine l_v (v := (.int .u64 0)) (r_assign rfl) ?_
      refine l_nil ?_
      refine (x_then ?_)
      refine c_seq ?_
      refine c_seq ?_
      refine c_region ?_
      refine l_v (v := (.int .i64 ((n : Nat) : Int))) (r_move s5) ?_
      refine l_v (v := (.int .i64 ((n : Nat) : Int))) (r_assign rfl) ?_
      refine l_nil ?_
      refine (x_then ?_)
      refine c_block ?_
      refine c_loop (fun (m : Nat) (e' : Nat → Value) (w' : World) => ∃ j : Nat, m = j ∧ e' 0 = (.pointer (some ⟨b, 0, none⟩)) ∧ e' 4 = (.int .u64 ((q64 (val7 (seg l j n)) : Nat) : Int)) ∧ e' 5 = (.int .i64 ((n : Nat) : Int)) ∧ e' 6 = (.int .i64 ((j : Nat) : Int)) ∧ e' 7 = (.int .i64 ((n : Nat) : Int)) ∧ e' 8 = (.bool (decide (((n : Nat) : Int) ≤ 10))) ∧ e' 9 = (.bool (decide (((n : Nat) : Int) ≤ 10))) ∧ e' 10 = (.int .i64 ((n : Nat) : Int)) ∧ e' 11 = (.pointer (some ⟨b, 0, none⟩)) ∧ e' 12 = (.pointer (some ⟨b, 0, none⟩)) ∧ e' 13 = (.pointer (some ⟨b, 0, none⟩)) ∧ e' 14 = (.slice a l.length c) ∧ e' 15 = (.int .i64 ((l.length : Nat) : Int)) ∧ e' 16 = (.bool (decide (((n : Nat) : Int) ≤ ((l.length : Nat) : Int)))) ∧ e' 17 = (.bool (decide (((n : Nat) : Int) ≤ ((l.length : Nat) : Int)))) ∧ e' 20 = (.int .i64 ((n : Nat) : Int)) ∧ Fr [] w2 w' ∧ (j ≤ n)) (n) ⟨n, rfl, s4, (by rw [seg_end]; rfl), s5, rfl, rfl, rfl, rfl, rfl, rfl, rfl, rfl, rfl, rfl, rfl, rfl, rfl, Fr.refl _ _, (by omega)⟩ ?_
      rintro m_f14 e12 w13 ⟨j, hm_f14, s15, s16, s17, s18, s19, s20, s21, s22, s23, s24, s25, s26, s27, s28, s29, s30, f14, p31⟩
      have z32 := f14.size
      have t33 := t8.trans0 f14
      have t34 := t_f3.trans0 f14
      have t_f14 : Fr [] w2 w13 := f14
      refine c_seq ?_
      refine c_seq ?_
      refine c_region ?_
      refine l_v (v := (.int .i64 ((j : Nat) : Int))) (r_move s18) ?_
      refine l_v (v := (.bool (decide (0 < ((j : Nat) : Int))))) (r_gtr rfl rfl) ?_
      refine l_nil ?_
      refine (x_then ?_)
      refine c_if (p := 0 < ((j : Nat) : Int)) rfl (fun c35 => ?_) (fun c35 => ?_)
      ·
        refine c_skip ?_
        refine (x_then ?_)
        refine c_seq ?_
        refine c_block ?_
        refine c_region ?_
        refine l_v (v := (.int .u64 ((q64 (val7 (seg l j n)) : Nat) : Int))) (r_move s16) ?_
        refine l_v (v := (.int .u64 ((128 * q64 (val7 (seg l j n)) % 18446744073709551616 : Nat) : Int))) (r_mul rfl rfl off_mul) ?_
        refine l_v (v := (.pointer (some ⟨b, 0, none⟩))) (r_move s15) ?_
        refine l_v (v := (.pointer (some ⟨b, 0, none⟩))) (r_nil_ptr rfl) ?_
        refine l_v (v := (.pointer (some ⟨b, 0, none⟩))) (r_field_l F.fo185_0 rfl rfl) ?_
        have k36 := k10.keep0 f14
        refine l_v (v := (.slice a l.length c)) (r_load1 F.one22 rfl (At.cell k36 rfl)) ?_
        refine l_v (v := (.int .i64 ((j : Nat) : Int))) (r_move s18) ?_
        refine l_v (v := (.int .i64 ((j - 1 : Nat) : Int))) (r_sub rfl rfl (w64 (by omega) (by omega) (by omega))) ?_
        have k37 := h2.keep0 f3
        have k38 := k37.keep0 f14
        have ha39 : ∃ ad, a = some ad := k38.sl.some (by rw [bv_len]; have := ((by omega) : j - 1 < (l).length); omega)
        obtain ⟨x, hx⟩ := get_some (l := l) (k := j - 1) (by omega)
        refine l_v (v := (.pointer (some ((adr a).add (j - 1))))) (r_indexAddr F.sle22 rfl rfl ha39 (by omega) (by have := get_lt hx; omega) (by first | rfl | simp | omega)) ?_
        have s40 := k38.sl
        refine l_v (v := (.int .u8 ((x.toNat : Nat) : Int))) (r_loadE1 F.one5 s40 rfl (bv_vs hx)) ?_
        refine l_v (v := (.int .u8 ((x.toNat % 128 : Nat) : Int))) (r_rem rfl rfl (by decide) (rem_nat _ 128)) ?_
        refine l_v (v := (.int .u64 ((x.toNat % 128 : Nat) : Int))) (r_convI F.und5 Proofs.Try.underlying189 rfl (wu64 (by omega) (by omega) rfl)) ?_
        refine l_v (v := (.int .u64 ((q64 (val7 (seg l (j - 1) n)) : Nat) : Int))) (r_add rfl rfl (off_step (by omega) (by omega) hx)) ?_
        refine l_v (v := (.int .u64 ((q64 (val7 (seg l (j - 1) n)) : Nat) : Int))) (r_assign rfl) ?_
        refine l_nil ?_
        refine (x_blk (x_then ?_))
        refine c_region ?_
        refine l_v (v := (.int .i64 ((j : Nat) : Int))) (r_move s18) ?_
        refine l_v (v := (.int .i64 ((j - 1 : Nat) : Int))) (r_sub rfl rfl (w64 (by omega) (by omega) (by omega))) ?_
        refine l_v (v := (.int .i64 ((j - 1 : Nat) : Int))) (r_assign rfl) ?_
        refine l_nil ?_
        refine (x_then ?_)
        exact ⟨_, _, (by omega), rfl, j - 1, rfl, s15, rfl, s17, rfl, s19, s20, s21, s22, s23, s24, s25, s26, s27, s28, s29, s30, t_f14, (by omega)⟩
      ·
        refine c_exit ?_
        refine (x_then_x (x_then_x (x_blk_hit (x_then ?_))))
        refine c_seq ?_
        refine f_start (masks := [0, 1, 0, 4, 12, 28, 0, 124, 252, 511]) (F := Fs [(5, fun w => At w b (.cells #[(.slice a l.length c), (.bool f)] 185 (0, 0))), (8, fun w => Sl w (cutA a c 0 1) (bv (l.take n)))]) #[false, false, false, false, false, false, false, false, false, false] F.mixed rfl rfl (by kernel_rfl) ?_
        intro w47 f48 r49
        have z50 := f48.size
        have t51 := t33.trans0 f48
        have t52 := t34.trans0 f48
        have t53 := t_f14.trans0 f48
        refine f_take (i := 0) (v := (.int .u64 ((q64 (val7 (seg l j n)) : Nat) : Int))) #[true, false, false, false, false, false, false, false, false, false] r49 rfl (by kernel_rfl) (fun _ _ _ h => h) rfl (fs_none rfl) (fun w hF => r_move s16) ?_
        refine f_take (i := 2) (v := (.pointer (some ⟨b, 0, none⟩))) #[true, false, true, false, false, false, false, false, false, false] r49 rfl (by kernel_rfl) (fun _ _ _ h => h) rfl (fs_none rfl) (fun w hF => r_move s15) ?_
        refine f_take (i := 3) (v := (.pointer (some ⟨b, 0, none⟩))) #[true, false, true, true, false, false, false, false, false, false] r49 rfl (by kernel_rfl) (fun _ _ _ h => h) rfl (fs_none rfl) (fun w hF => r_nil_ptr rfl) ?_
        refine f_take (i := 4) (v := (.pointer (some ⟨b, 0, none⟩))) #[true, false, true, true, true, false, false, false, false, false] r49 rfl (by kernel_rfl) (fun _ _ _ h => h) rfl (fs_none rfl) (fun w hF => r_field_l F.fo185_0 rfl rfl) ?_
        have k54 := k10.keep0 f14
        have k55 := k54.keep0 f48
        refine f_take (i := 5) (v := (.slice a l.length c)) #[true, false, true, true, true, true, false, false, false, false] r49 rfl (by kernel_rfl) (fun _ _ _ h => h) rfl (fs_one k55 rfl) (fun w hF => r_load1 F.one22 rfl (At.cell (fs_get List.mem_cons_self hF) rfl)) ?_
        refine f_take (i := 6) (v := (.int .i64 ((n : Nat) : Int))) #[true, false, true, true, true, true, true, false, false, false] r49 rfl (by kernel_rfl) (fun _ _ _ h => h) rfl (fs_none rfl) (fun w hF => r_move s17) ?_
        have k56 := h2.keep0 f3
        have k57 := k56.keep0 f14
        have k58 := k57.keep0 f48
        have q59 := k58.cap
        have s60 : Ro w47 (cutA a c 0 1) n c (bv (l.take n)) := by
          have e0 := Ro.cut (k := 1) k58 (by first | (simp only [bv_len]; done) | (simp only [bv_len]; omega) | (simp [bv_len]; done) | (simp [bv_len]; omega)) 0 n (by omega) (by omega)
          have e1 : (bv l).drop (0 * 1) = (bv l).drop (0 * 1) := rfl
          have en : n - 0 = n := by omega
          have ec : c - 0 = c := by omega
          have ecs : ((bv l).drop (0 * 1)).take ((n - 0) * 1) = bv (l.take n) := by rw [bv_drop, bv_take, List.drop_zero, Nat.sub_zero]
          first | (rw [ecs] at e0; exact e0) | (rw [ecs, ec] at e0; exact e0) | (rw [ecs, en, ec] at e0; exact e0)
        refine f_take (i := 7) (v := (.slice (cutA a c 0 1) n c)) #[true, false, true, true, true, true, true, true, false, false] r49 rfl (by kernel_rfl) (fun _ _ _ h => h) rfl (fs_none rfl) (fun w hF => r_cutN (l := 0) (h := n) F.sle22 rfl rfl ⟨_, rfl⟩ (by omega) (by omega) (by omega) (by omega) (by omega)) ?_
        have s61 := s60.sl
        refine f_take (i := 8) (v := (.string (mkS (l.take n)))) #[true, false, true, true, true, true, true, true, true, false] r49 rfl (by kernel_rfl) (fun _ _ _ h => h) rfl (fs_next rfl (fs_one s61 rfl)) (fun w hF => r_bytes (bs := l.take n) Proofs.Try.underlying22 Proofs.Try.underlying5 Proofs.Try.underlying9 rfl (fs_get (List.mem_cons_of_mem _ List.mem_cons_self) hF) (by first | rfl | omega | (simp; done) | (simp; omega))) ?_
        refine f_one (i := 1) #[true, true, true, true, true, true, true, true, true, false] rfl (by kernel_rfl) rfl ?_
        refine d_call (fl := []) (cl := []) (A := [(.int .u64 ((q64 (val7 (seg l j n)) : Nat) : Int))]) (B := [(.int .u64 ((q64 (val7 (seg l j n)) : Nat) : Int))]) F.ok153 rfl (ac rfl an) rfl (rgroups_c (u := q64 (val7 (seg l j n))) (q64_lt _)) ?_
        rintro _ w62 ⟨rfl, f63⟩
        have z64 := f63.size
        have t65 := t51.trans0 f63
        have t66 := t52.trans0 f63
        have t67 := t53.trans0 f63
        refine ⟨(pres_of (pcn_cons (fun _ h => h.keep0 f63) (pcn_cons (fun _ h => h.keep0 f63) pcn_nil))), ?_⟩
        refine f_take (i := 9) (v := (.bool ((mkS (grp (q64 (val7 (seg l j n))))).toList == (mkS (l.take n)).toList))) #[true, true, true, true, true, true, true, true, true, true] r49 rfl (by kernel_rfl) (fun _ _ _ h => h) rfl (fs_none rfl) (fun w hF => r_eqlS rfl rfl) ?_
        refine f_done (by kernel_rfl) ?_
        refine (x_then ?_)
        refine c_split (t := ((mkS (grp (q64 (val7 (seg l j n))))).toList == (mkS (l.take n)).toList)) rfl (fun c68 => ?_) (fun c68 => ?_)
        ·
          refine c_seq ?_
          refine c_region ?_
          refine l_v (v := (.int .u64 ((q64 (val7 (seg l j n)) : Nat) : Int))) (r_move s16) ?_
          refine l_v (v := (.int .i64 ((n : Nat) : Int))) (r_move s17) ?_
          refine l_v (v := (.int .u64 ((q64 (val7 (seg l j n)) : Nat) : Int))) (r_assign rfl) ?_
          refine l_v (v := (.int .i64 ((n : Nat) : Int))) (r_assign rfl) ?_
          refine l_nil ?_
          refine (x_then ?_)
          refine c_ret ?_
          refine (x_blk_r (x_then_r (x_then_r (x_blk_r (x_then_r ?_)))))
          refine p_ret (v := (.tuple #[(.int .u64 ((q64 (val7 (seg l j n)) : Nat) : Int)), (.int .i64 ((n : Nat) : Int))])) (res2 rfl rfl rfl) ?_
          exact ⟨(by obtain rfl : j = 0 := (by omega); have e := off_hit (l := l) (n := n) (by omega) (of_decide_eq_true (mkS_beq.symm.trans c68)); rw [e.1, e.2]), t65⟩
        ·
          refine c_skip ?_
          refine (x_blk (x_then ?_))
          refine c_region ?_
          refine l_v (v := (.int .i64 ((n : Nat) : Int))) (r_move s17) ?_
          refine l_v (v := (.int .i64 ((n + 1 : Nat) : Int))) (r_add rfl rfl (w64 (by omega) (by omega) (by omega))) ?_
          refine l_v (v := (.int .i64 ((n + 1 : Nat) : Int))) (r_assign rfl) ?_
          refine l_nil ?_
          refine (x_then ?_)
          exact ⟨_, _, (by omega), rfl, n + 1, rfl, s15, rfl, t66, (by omega), (off_succ hall (by obtain rfl : j = 0 := (by omega); exact of_decide_eq_false (mkS_beq.symm.trans c68)))⟩
    ·
      refine c_exit ?_
      refine (x_then_x (x_then_x (x_blk_hit (x_then ?_))))
      refine c_seq ?_
      refine c_region ?_
      refine l_v (v := (.int .u64 0)) (r_assign rfl) ?_
      refine l_v (v := (.int .i64 0)) (r_assign rfl) ?_
      refine l_nil ?_
      refine (x_then ?_)
      refine c_ret ?_
      refine p_ret (v := (.tuple #[(.int .u64 0), (.int .i64 0)])) (res2 rfl rfl rfl) ?_
      exact ⟨(by have e := off_none hall (by omega); rw [e.1, e.2]; rfl), t8⟩
  · intro c9
    refine l_skip (wanted_not rfl rfl (bn rfl c9) (by decide)) ?_
    refine l_skip (wanted_not rfl rfl (bn rfl c9) (by decide)) ?_
    refine l_skip (wanted_not rfl rfl (bn rfl c9) (by decide)) ?_
    refine l_skip (wanted_not rfl rfl (bn rfl c9) (by decide)) ?_
    refine l_skip (wanted_not rfl rfl (bn rfl c9) (by decide)) ?_
    refine l_skip (wanted_not rfl rfl (bn rfl c9) (by decide)) ?_
    refine l_skip (wanted_not rfl rfl (bn rfl c9) (by decide)) ?_
    refine l_v (v := (.bool false)) (r_pick_f (bn rfl c9) rfl) ?_
    refine l_nil ?_
    refine (x_then ?_)
    refine c_false rfl ?_
    refine c_exit ?_
    refine (x_then_x (x_then_x (x_blk_hit (x_then ?_))))
    refine c_seq ?_
    refine c_region ?_
    refine l_v (v := (.int .u64 0)) (r_assign rfl) ?_
    refine l_v (v := (.int .i64 0)) (r_assign rfl) ?_
    refine l_nil ?_
    refine (x_then ?_)
    refine c_ret ?_
    refine p_ret (v := (.tuple #[(.int .u64 0), (.int .i64 0)])) (res2 rfl rfl rfl) ?_
    exact ⟨(by have e := off_none hall (by omega); rw [e.1, e.2]; rfl), t8⟩

set_option maxHeartbeats 400000 in
set_option maxRecDepth 100000 in
theorem rcnt_c {w : World} {b c : Nat} {a : Option Addr} {f : Bool} {l : List UInt8} {most : Int} (h1 : At w b (.cells #[(.slice a l.length c), (.bool f)] 185 (0, 0))) (h2 : Ro w a l.length c (bv l)) (h3 : l.length ≤ 1000000000) :
    Calls Proofs.Try.prog 144 #[(.pointer (some ⟨b, 0, none⟩)), (.int .i64 most)] w (Ret fun v w' => v = (.tuple #[(.int .i64 ((cntU l most : Nat) : Int)), (.int .i64 ((cntN l most : Nat) : Int))]) ∧ Fr [] w w') := by
  have lt_h1 := h1.lt
  have lt_h2 := h2.lt
  have t0 : Fr [] w w := Fr.refl _ _
  refine enter Proofs.Try.func144 rfl Proofs.Try.ntmps144 (Nat.le_of_ble_eq_true rfl) ?_
  refine c_seq ?_
  refine c_region ?_
  refine l_v (v := (.int .i64 0)) (r_assign rfl) ?_
  refine l_v (v := (.int .i64 0)) (r_assign rfl) ?_
  refine l_nil ?_
  refine (x_then ?_)
  refine c_seq ?_
  refine c_region ?_
  refine l_v (v := (.pointer (some ⟨b, 0, none⟩))) (r_move rfl) ?_
  refine l_do rfl ?_
  refine d_call (fl := []) (cl := []) (A := [(.pointer (some ⟨b, 0, none⟩))]) (B := [(.pointer (some ⟨b, 0, none⟩))]) F.ok167 rfl (ac rfl an) rfl (roff_c (b := b) (a := a) (l := l) (c := c) (f := f) h1 h2 (by omega)) ?_
  rintro _ w1 ⟨rfl, f2⟩
  have z3 := f2.size
  have t4 := t0.trans0 f2
  refine l_v (v := (.tuple #[(.int .u64 ((numU l : Nat) : Int)), (.int .i64 ((numN l : Nat) : Int))])) (r_move rfl) ?_
  refine l_v (v := (.int .u64 ((numU l : Nat) : Int))) (r_extract rfl rfl) ?_
  refine l_v (v := (.int .i64 ((numN l : Nat) : Int))) (r_extract rfl rfl) ?_
  refine l_v (v := (.int .u64 ((numU l : Nat) : Int))) (r_assign rfl) ?_
  refine l_v (v := (.int .i64 ((numN l : Nat) : Int))) (r_assign rfl) ?_
  refine l_nil ?_
  refine (x_then ?_)
  refine c_seq ?_
  refine c_seq ?_
  refine c_region ?_
  refine l_v (v := (.int .i64 ((numN l : Nat) : Int))) (r_move rfl) ?_
  refine l_v (v := (.bool (decide (((numN l : Nat) : Int) = 0)))) (r_eql rfl rfl) ?_
  refine l_v (v := (.bool (decide (((numN l : Nat) : Int) = 0)))) (r_move rfl) ?_
  refine l_em (p := ((numN l : Nat) : Int) = 0) ?_ ?_
  · intro c5
    refine l_skip (wanted_not rfl rfl (bd rfl c5) (by decide)) ?_
    refine l_skip (wanted_not rfl rfl (bd rfl c5) (by decide)) ?_
    refine l_v (v := (.bool true)) (r_pick_t (bd rfl c5) rfl) ?_
    refine l_v (v := (.bool true)) (r_move rfl) ?_
    refine l_skip (wanted_not rfl rfl rfl (by decide)) ?_
    refine l_skip (wanted_not rfl rfl rfl (by decide)) ?_
    refine l_skip (wanted_not rfl rfl rfl (by decide)) ?_
    refine l_skip (wanted_not rfl rfl rfl (by decide)) ?_
    refine l_v (v := (.bool true)) (r_pick_t rfl rfl) ?_
    refine l_nil ?_
    refine (x_then ?_)
    refine c_true rfl ?_
    refine c_seq ?_
    refine c_region ?_
    refine l_v (v := (.int .i64 0)) (r_assign rfl) ?_
    refine l_v (v := (.int .i64 0)) (r_assign rfl) ?_
    refine l_nil ?_
    refine (x_then ?_)
    refine c_ret ?_
    refine (x_then_r ?_)
    refine p_ret (v := (.tuple #[(.int .i64 0), (.int .i64 0)])) (res2 rfl rfl rfl) ?_
    exact ⟨(by have e := cnt_zero (l := l) (a := most) (by omega); rw [e.1, e.2]; rfl), t4⟩
  · intro c5
    refine l_gv (v := (.int .u64 ((numU l : Nat) : Int))) (wanted_run rfl rfl (bn rfl c5)) (r_move rfl) ?_
    refine l_gv (v := (.bool (decide (2147483647 < ((numU l : Nat) : Int))))) (wanted_run rfl rfl (bn rfl c5)) (r_gtr rfl rfl) ?_
    refine l_v (v := (.bool (decide (2147483647 < ((numU l : Nat) : Int))))) (r_pick_f (bn rfl c5) rfl) ?_
    refine l_v (v := (.bool (decide (2147483647 < ((numU l : Nat) : Int))))) (r_move rfl) ?_
    refine l_em (p := 2147483647 < ((numU l : Nat) : Int)) ?_ ?_
    · intro c6
      refine l_skip (wanted_not rfl rfl (bd rfl c6) (by decide)) ?_
      refine l_skip (wanted_not rfl rfl (bd rfl c6) (by decide)) ?_
      refine l_skip (wanted_not rfl rfl (bd rfl c6) (by decide)) ?_
      refine l_skip (wanted_not rfl rfl (bd rfl c6) (by decide)) ?_
      refine l_v (v := (.bool true)) (r_pick_t (bd rfl c6) rfl) ?_
      refine l_nil ?_
      refine (x_then ?_)
      refine c_true rfl ?_
      refine c_seq ?_
      refine c_region ?_
      refine l_v (v := (.int .i64 0)) (r_assign rfl) ?_
      refine l_v (v := (.int .i64 0)) (r_assign rfl) ?_
      refine l_nil ?_
      refine (x_then ?_)
      refine c_ret ?_
      refine (x_then_r ?_)
      refine p_ret (v := (.tuple #[(.int .i64 0), (.int .i64 0)])) (res2 rfl rfl rfl) ?_
      exact ⟨(by have e := cnt_zero (l := l) (a := most) (by omega); rw [e.1, e.2]; rfl), t4⟩
    · intro c6
      refine l_gv (v := (.int .i64 most)) (wanted_run rfl rfl (bn rfl c6)) (r_move rfl) ?_
      refine l_gv (v := (.int .u64 ((numU l : Nat) : Int))) (wanted_run rfl rfl (bn rfl c6)) (r_move rfl) ?_
      refine l_gv (v := (.int .i64 ((numU l : Nat) : Int))) (wanted_run rfl rfl (bn rfl c6)) (r_convI F.und189 Proofs.Try.underlying3 rfl (w64 (by omega) (by omega) rfl)) ?_
      refine l_gv (v := (.bool (decide (most < ((numU l : Nat) : Int))))) (wanted_run rfl rfl (bn rfl c6)) (r_lss rfl rfl) ?_
      refine l_v (v := (.bool (decide (most < ((numU l : Nat) : Int))))) (r_pick_f (bn rfl c6) rfl) ?_
      refine l_nil ?_
      refine (x_then ?_)
      refine c_if (p := most < ((numU l : Nat) : Int)) rfl (fun c7 => ?_) (fun c7 => ?_)
      ·
        refine c_seq ?_
        refine c_region ?_
        refine l_v (v := (.int .i64 0)) (r_assign rfl) ?_
        refine l_v (v := (.int .i64 0)) (r_assign rfl) ?_
        refine l_nil ?_
        refine (x_then ?_)
        refine c_ret ?_
        refine (x_then_r ?_)
        refine p_ret (v := (.tuple #[(.int .i64 0), (.int .i64 0)])) (res2 rfl rfl rfl) ?_
        exact ⟨(by have e := cnt_zero (l := l) (a := most) (by omega); rw [e.1, e.2]; rfl), t4⟩
      ·
        refine c_skip ?_
        refine (x_then ?_)
        refine c_seq ?_
        refine c_region ?_
        refine l_v (v := (.int .u64 ((numU l : Nat) : Int))) (r_move rfl) ?_
        refine l_v (v := (.int .i64 ((numU l : Nat) : Int))) (r_convI F.und189 Proofs.Try.underlying3 rfl (w64 (by omega) (by omega) rfl)) ?_
        refine l_v (v := (.int .i64 ((numN l : Nat) : Int))) (r_move rfl) ?_
        refine l_v (v := (.int .i64 ((numU l : Nat) : Int))) (r_assign rfl) ?_
        refine l_v (v := (.int .i64 ((numN l : Nat) : Int))) (r_assign rfl) ?_
        refine l_nil ?_
        refine (x_then ?_)
        refine c_ret ?_
        refine p_ret (v := (.tuple #[(.int .i64 ((numU l : Nat) : Int)), (.int .i64 ((numN l : Nat) : Int))])) (res2 rfl rfl rfl) ?_
        exact ⟨(by have e := cnt_some (l := l) (a := most) (by omega) (by omega); rw [e.1, e.2]), t4⟩

set_option maxHeartbeats 400000 in
set_option maxRecDepth 100000 in
theorem rfails_c {w : World} {b n c : Nat} {a : Option Addr} {f : Bool} (h1 : At w b (.cells #[(.slice a n c), (.bool f)] 185 (0, 0))) :
    Calls Proofs.Try.prog 145 #[(.pointer (some ⟨b, 0, none⟩))] w (Ret fun v w' => v = (.tuple #[]) ∧ Fr [b] w w' ∧ At w' b (.cells #[(.slice none 0 0), (.bool true)] 185 (0, 0))) := by
  have lt_h1 := h1.lt
  have t0 : Fr [b] w w := Fr.refl _ _
  refine enter Proofs.Try.func145 rfl Proofs.Try.ntmps145 (Nat.le_of_ble_eq_true rfl) ?_
  refine c_seq ?_
  refine c_region ?_
  refine l_v (v := (.pointer (some ⟨b, 0, none⟩))) (r_move rfl) ?_
  refine l_v (v := (.pointer (some ⟨b, 0, none⟩))) (r_nil_ptr rfl) ?_
  refine l_v (v := (.pointer (some ⟨b, 1, none⟩))) (r_field_l F.fo185_1 rfl rfl) ?_
  refine l_do rfl ?_
  refine d_store1 (v := (.bool true)) (c' := #[(.slice a n c), (.bool true)]) F.sz4 rfl rfl rfl h1 (by simp) rfl ?_
  intro w1 f2 h3
  have z4 := f2.size
  have t5 := t0.step f2 (one_in (by simp))
  refine l_nil ?_
  refine (x_then ?_)
  refine c_region ?_
  refine l_v (v := (.pointer (some ⟨b, 0, none⟩))) (r_move rfl) ?_
  refine l_v (v := (.pointer (some ⟨b, 0, none⟩))) (r_nil_ptr rfl) ?_
  refine l_v (v := (.pointer (some ⟨b, 0, none⟩))) (r_field_l F.fo185_0 rfl rfl) ?_
  refine l_do rfl ?_
  refine d_store1 (v := (.slice none 0 0)) (c' := #[(.slice none 0 0), (.bool true)]) F.sz22 rfl rfl rfl h3 (by simp) rfl ?_
  intro w6 f7 h8
  have z9 := f7.size
  have t10 := t5.step f7 (one_in (by simp))
  refine l_nil ?_
  refine p_end (v := .tuple #[]) (res0 rfl) ?_
  exact ⟨rfl, t10, h8⟩

set_option maxHeartbeats 400000 in
set_option maxRecDepth 100000 in
theorem rrCount_c {w : World} {b c : Nat} {a : Option Addr} {f : Bool} {l : List UInt8} {most : Int} (h1 : At w b (.cells #[(.slice a l.length c), (.bool f)] 185 (0, 0))) (h2 : Ro w a l.length c (bv l)) (h3 : l.length ≤ 1000000000) (hf : f = true → l = []) (hn : b ∉ ob a) :
    Calls Proofs.Try.prog 74 #[(.pointer (some ⟨b, 0, none⟩)), (.int .i64 most)] w (Ret fun v w' => ∃ a' : Option Addr, ∃ c' : Nat, ∃ f' : Bool, ∃ l' : List UInt8, v = (.int .i64 (((mCount (rdR f l) most).1 : Nat) : Int)) ∧ Fr [b] w w' ∧ At w' b (.cells #[(.slice a' l'.length c'), (.bool f')] 185 (0, 0)) ∧ Ro w' a' l'.length c' (bv l') ∧ (f' = true → l' = []) ∧ (rdR f' l' = (mCount (rdR f l) most).2) ∧ (l'.length ≤ l.length) ∧ (∀ x ∈ ob a', x ∈ ob a ∨ w.heap.size ≤ x) ∧ (b ∉ ob a')) := by
  have lt_h1 := h1.lt
  have lt_h2 := h2.lt
  have hcap := h2.cap
  have hcl := cntN_le l most
  have t0 : Fr [b] w w := Fr.refl _ _
  refine enter Proofs.Try.func74 rfl Proofs.Try.ntmps74 (Nat.le_of_ble_eq_true rfl) ?_
  refine c_seq ?_
  refine c_region ?_
  refine l_v (v := (.int .i64 0)) (r_assign rfl) ?_
  refine l_nil ?_
  refine (x_then ?_)
  refine c_seq ?_
  refine c_region ?_
  refine l_v (v := (.pointer (some ⟨b, 0, none⟩))) (r_move rfl) ?_
  refine l_v (v := (.int .i64 most)) (r_move rfl) ?_
  refine l_do rfl ?_
  refine d_call (fl := []) (cl := []) (A := [(.pointer (some ⟨b, 0, none⟩)), (.int .i64 most)]) (B := [(.pointer (some ⟨b, 0, none⟩)), (.int .i64 most)]) F.ok144 rfl (ac rfl (ac rfl an)) rfl (rcnt_c (b := b) (most := most) (a := a) (l := l) (c := c) (f := f) h1 h2 (by omega)) ?_
  rintro _ w1 ⟨rfl, f2⟩
  have z3 := f2.size
  have t4 := t0.trans0 f2
  refine l_v (v := (.tuple #[(.int .i64 ((cntU l most : Nat) : Int)), (.int .i64 ((cntN l most : Nat) : Int))])) (r_move rfl) ?_
  refine l_v (v := (.int .i64 ((cntU l most : Nat) : Int))) (r_extract rfl rfl) ?_
  refine l_v (v := (.int .i64 ((cntN l most : Nat) : Int))) (r_extract rfl rfl) ?_
  refine l_v (v := (.int .i64 ((cntU l most : Nat) : Int))) (r_assign rfl) ?_
  refine l_v (v := (.int .i64 ((cntN l most : Nat) : Int))) (r_assign rfl) ?_
  refine l_nil ?_
  refine (x_then ?_)
  refine c_seq ?_
  refine c_seq ?_
  refine c_region ?_
  refine l_v (v := (.int .i64 ((cntN l most : Nat) : Int))) (r_move rfl) ?_
  refine l_v (v := (.bool (decide (((cntN l most : Nat) : Int) = 0)))) (r_eql rfl rfl) ?_
  refine l_nil ?_
  refine (x_then ?_)
  refine c_if (p := ((cntN l most : Nat) : Int) = 0) rfl (fun c5 => ?_) (fun c5 => ?_)
  ·
    refine c_seq ?_
    refine c_region ?_
    refine l_v (v := (.pointer (some ⟨b, 0, none⟩))) (r_move rfl) ?_
    refine l_do rfl ?_
    have k6 := h1.keep0 f2
    refine d_call (fl := []) (cl := []) (A := [(.pointer (some ⟨b, 0, none⟩))]) (B := [(.pointer (some ⟨b, 0, none⟩))]) F.ok145 rfl (ac rfl an) rfl (rfails_c (b := b) (a := a) (n := l.length) (c := c) (f := f) k6) ?_
    rintro _ w7 ⟨rfl, f8, h9⟩
    have z10 := f8.size
    have t11 := t4.step f8 (one_in (by simp))
    refine l_nil ?_
    refine (x_then ?_)
    refine c_seq ?_
    refine c_region ?_
    refine l_v (v := (.int .i64 0)) (r_assign rfl) ?_
    refine l_nil ?_
    refine (x_then ?_)
    refine c_ret ?_
    refine (x_then_r ?_)
    refine p_ret (v := (.int .i64 0)) (res1 rfl rfl) ?_
    have ez := rc_zero (f := f) (l := l) (a := most) (by omega)
    exact ⟨none, 0, true, [], (by rw [ez]; rfl), t11, h9, (Ro.nil _), (fun _ => rfl), (by rw [ez]; rfl), (Nat.zero_le _), (fun x hx => by cases hx), (by simp [ob])⟩
  ·
    refine c_skip ?_
    refine (x_then ?_)
    refine c_seq ?_
    refine c_region ?_
    refine l_v (v := (.pointer (some ⟨b, 0, none⟩))) (r_move rfl) ?_
    refine l_v (v := (.pointer (some ⟨b, 0, none⟩))) (r_move rfl) ?_
    refine l_v (v := (.pointer (some ⟨b, 0, none⟩))) (r_nil_ptr rfl) ?_
    refine l_v (v := (.pointer (some ⟨b, 0, none⟩))) (r_field_l F.fo185_0 rfl rfl) ?_
    have k12 := h1.keep0 f2
    refine l_v (v := (.slice a l.length c)) (r_load1 F.one22 rfl (At.cell k12 rfl)) ?_
    refine l_v (v := (.int .i64 ((cntN l most : Nat) : Int))) (r_move rfl) ?_
    have k13 := h2.keep0 f2
    have q14 := k13.cap
    have s15 : Ro w1 (cutA a c (cntN l most) 1) (l.length - (cntN l most)) (c - (cntN l most)) (bv (l.drop (cntN l most))) := by
      have e0 := Ro.cut0 (k := 1) k13 (by first | (simp only [bv_len]; done) | (simp only [bv_len]; omega) | (simp [bv_len]; done) | (simp [bv_len]; omega)) (cntN l most) (by omega)
      have e1 : (bv l).drop ((cntN l most) * 1) = (bv l).drop ((cntN l most) * 1) := rfl
      have en : l.length - (cntN l most) = l.length - (cntN l most) := by omega
      have ec : c - (cntN l most) = c - (cntN l most) := by omega
      have ecs : (bv l).drop ((cntN l most) * 1) = bv (l.drop (cntN l most)) := by rw [bv_drop]
      first | (rw [ecs] at e0; exact e0) | (rw [ecs, ec] at e0; exact e0) | (rw [ecs, en, ec] at e0; exact e0)
    refine l_v (v := (.slice (cutA a c (cntN l most) 1) (l.length - (cntN l most)) (c - (cntN l most)))) (r_cutN (l := cntN l most) (h := l.length) F.sle22 rfl ⟨_, rfl⟩ rfl (by omega) (by omega) (by omega) (by omega) (by omega)) ?_
    refine l_v (v := (.pointer (some ⟨b, 0, none⟩))) (r_nil_ptr rfl) ?_
    refine l_v (v := (.pointer (some ⟨b, 0, none⟩))) (r_field_l F.fo185_0 rfl rfl) ?_
    refine l_do rfl ?_
    refine d_store1 (v := (.slice (cutA a c (cntN l most) 1) (l.length - (cntN l most)) (c - (cntN l most)))) (c' := #[(.slice (cutA a c (cntN l most) 1) (l.length - (cntN l most)) (c - (cntN l most))), (.bool f)]) F.sz22 rfl rfl rfl k12 (by simp) rfl ?_
    intro w16 f17 h18
    have z19 := f17.size
    have t20 := t4.step f17 (one_in (by simp))
    refine l_nil ?_
    refine (x_then ?_)
    refine c_seq ?_
    refine c_region ?_
    refine l_v (v := (.int .i64 ((cntU l most : Nat) : Int))) (r_move rfl) ?_
    refine l_v (v := (.int .i64 ((cntU l most : Nat) : Int))) (r_assign rfl) ?_
    refine l_nil ?_
    refine (x_then ?_)
    refine c_ret ?_
    refine p_ret (v := (.int .i64 ((cntU l most : Nat) : Int))) (res1 rfl rfl) ?_
    have ez := rc_some (f := f) (l := l) (a := most) hf (by omega)
    have hff : rdR false (l.drop (cntN l most)) = some (l.drop (cntN l most)) := rfl
    have k21 := s15.keep f17 (by rw [ob_cutA]; exact (ob_not1 hn))
    exact ⟨(cutA a c (cntN l most) 1), c - (cntN l most), f, (l.drop (cntN l most)), (by rw [ez]), t20, (by rw [List.length_drop]; exact h18), (by rw [List.length_drop]; exact k21), (fun h => by rw [hf h]; simp), (by rw [ez]; cases hf2 : f with | false => rfl | true => (have := hf hf2; subst this; exfalso; have := cntN_nil most; omega)), (by rw [List.length_drop]; omega), (by rw [ob_cutA]; exact grow_refl), (by rw [ob_cutA]; exact hn)⟩

set_option maxHeartbeats 400000 in
set_option maxRecDepth 100000 in
theorem rrStr_c {w : World} {b c : Nat} {a : Option Addr} {f : Bool} {l : List UInt8} {most : Int} (h1 : At w b (.cells #[(.slice a l.length c), (.bool f)] 185 (0, 0))) (h2 : Ro w a l.length c (bv l)) (h3 : l.length ≤ 1000000000) (hf : f = true → l = []) (hn : b ∉ ob a) :
    Calls Proofs.Try.prog 75 #[(.pointer (some ⟨b, 0, none⟩)), (.int .i64 most)] w (Ret fun v w' => ∃ a' : Option Addr, ∃ c' : Nat, ∃ f' : Bool, ∃ l' : List UInt8, v = (.string (mkS (mStr (rdR f l) most).1)) ∧ Fr [b] w w' ∧ At w' b (.cells #[(.slice a' l'.length c'), (.bool f')] 185 (0, 0)) ∧ Ro w' a' l'.length c' (bv l') ∧ (f' = true → l' = []) ∧ (rdR f' l' = (mStr (rdR f l) most).2) ∧ (l'.length ≤ l.length) ∧ (∀ x ∈ ob a', x ∈ ob a ∨ w.heap.size ≤ x) ∧ (b ∉ ob a')) := by
  have lt_h1 := h1.lt
  have lt_h2 := h2.lt
  have hcap := h2.cap
  have hcl := cntN_le l most
  have hcu := cntU_le l most
  have t0 : Fr [b] w w := Fr.refl _ _
  refine enter Proofs.Try.func75 rfl Proofs.Try.ntmps75 (Nat.le_of_ble_eq_true rfl) ?_
  refine c_seq ?_
  refine c_region ?_
  refine l_v (v := (.string ⟨#[]⟩)) (r_assign rfl) ?_
  refine l_nil ?_
  refine (x_then ?_)
  refine c_seq ?_
  refine c_region ?_
  refine l_v (v := (.pointer (some ⟨b, 0, none⟩))) (r_move rfl) ?_
  refine l_v (v := (.int .i64 most)) (r_move rfl) ?_
  refine l_do rfl ?_
  refine d_call (fl := []) (cl := []) (A := [(.pointer (some ⟨b, 0, none⟩)), (.int .i64 most)]) (B := [(.pointer (some ⟨b, 0, none⟩)), (.int .i64 most)]) F.ok144 rfl (ac rfl (ac rfl an)) rfl (rcnt_c (b := b) (most := most) (a := a) (l := l) (c := c) (f := f) h1 h2 (by omega)) ?_
  rintro _ w1 ⟨rfl, f2⟩
  have z3 := f2.size
  have t4 := t0.trans0 f2
  refine l_v (v := (.tuple #[(.int .i64 ((cntU l most : Nat) : Int)), (.int .i64 ((cntN l most : Nat) : Int))])) (r_move rfl) ?_
  refine l_v (v := (.int .i64 ((cntU l most : Nat) : Int))) (r_extract rfl rfl) ?_
  refine l_v (v := (.int .i64 ((cntN l most : Nat) : Int))) (r_extract rfl rfl) ?_
  refine l_v (v := (.int .i64 ((cntU l most : Nat) : Int))) (r_assign rfl) ?_
  refine l_v (v := (.int .i64 ((cntN l most : Nat) : Int))) (r_assign rfl) ?_
  refine l_nil ?_
  refine (x_then ?_)
  refine c_seq ?_
  refine c_seq ?_
  refine c_region ?_
  refine l_v (v := (.int .i64 ((cntN l most : Nat) : Int))) (r_move rfl) ?_
  refine l_v (v := (.bool (decide (((cntN l most : Nat) : Int) = 0)))) (r_eql rfl rfl) ?_
  refine l_v (v := (.bool (decide (((cntN l most : Nat) : Int) = 0)))) (r_move rfl) ?_
  refine l_em (p := ((cntN l most : Nat) : Int) = 0) ?_ ?_
  · intro c5
    refine l_skip (wanted_not rfl rfl (bd rfl c5) (by decide)) ?_
    refine l_skip (wanted_not rfl rfl (bd rfl c5) (by decide)) ?_
    refine l_skip (wanted_not rfl rfl (bd rfl c5) (by decide)) ?_
    refine l_skip (wanted_not rfl rfl (bd rfl c5) (by decide)) ?_
    refine l_skip (wanted_not rfl rfl (bd rfl c5) (by decide)) ?_
    refine l_skip (wanted_not rfl rfl (bd rfl c5) (by decide)) ?_
    refine l_skip (wanted_not rfl rfl (bd rfl c5) (by decide)) ?_
    refine l_skip (wanted_not rfl rfl (bd rfl c5) (by decide)) ?_
    refine l_skip (wanted_not rfl rfl (bd rfl c5) (by decide)) ?_
    refine l_v (v := (.bool true)) (r_pick_t (bd rfl c5) rfl) ?_
    refine l_nil ?_
    refine (x_then ?_)
    refine c_true rfl ?_
    refine c_seq ?_
    refine c_region ?_
    refine l_v (v := (.pointer (some ⟨b, 0, none⟩))) (r_move rfl) ?_
    refine l_do rfl ?_
    have k6 := h1.keep0 f2
    refine d_call (fl := []) (cl := []) (A := [(.pointer (some ⟨b, 0, none⟩))]) (B := [(.pointer (some ⟨b, 0, none⟩))]) F.ok145 rfl (ac rfl an) rfl (rfails_c (b := b) (a := a) (n := l.length) (c := c) (f := f) k6) ?_
    rintro _ w7 ⟨rfl, f8, h9⟩
    have z10 := f8.size
    have t11 := t4.step f8 (one_in (by simp))
    refine l_nil ?_
    refine (x_then ?_)
    refine c_seq ?_
    refine c_region ?_
    refine l_v (v := (.string ⟨#[]⟩)) (r_assign rfl) ?_
    refine l_nil ?_
    refine (x_then ?_)
    refine c_ret ?_
    refine (x_then_r ?_)
    refine p_ret (v := (.string ⟨#[]⟩)) (res1 rfl rfl) ?_
    have ez := rs_zero (f := f) (l := l) (a := most) (str_zero' (by omega)).1
    exact ⟨none, 0, true, [], (by rw [ez]; rfl), t11, h9, (Ro.nil _), (fun _ => rfl), (by rw [ez]; rfl), (Nat.zero_le _), (fun x hx => by cases hx), (by simp [ob])⟩
  · intro c5
    refine l_gv (v := (.int .i64 ((cntN l most : Nat) : Int))) (wanted_run rfl rfl (bn rfl c5)) (r_move rfl) ?_
    refine l_gv (v := (.int .i64 ((cntU l most : Nat) : Int))) (wanted_run rfl rfl (bn rfl c5)) (r_move rfl) ?_
    refine l_gv (v := (.int .i64 ((cntN l most + (cntU l most) : Nat) : Int))) (wanted_run rfl rfl (bn rfl c5)) (r_add rfl rfl (w64 (by omega) (by omega) (by omega))) ?_
    refine l_gv (v := (.pointer (some ⟨b, 0, none⟩))) (wanted_run rfl rfl (bn rfl c5)) (r_move rfl) ?_
    refine l_gv (v := (.pointer (some ⟨b, 0, none⟩))) (wanted_run rfl rfl (bn rfl c5)) (r_nil_ptr rfl) ?_
    refine l_gv (v := (.pointer (some ⟨b, 0, none⟩))) (wanted_run rfl rfl (bn rfl c5)) (r_field_l F.fo185_0 rfl rfl) ?_
    have k12 := h1.keep0 f2
    refine l_gv (v := (.slice a l.length c)) (wanted_run rfl rfl (bn rfl c5)) (r_load1 F.one22 rfl (At.cell k12 rfl)) ?_
    refine l_gv (v := (.int .i64 ((l.length : Nat) : Int))) (wanted_run rfl rfl (bn rfl c5)) (r_lenSl F.sl22 rfl) ?_
    refine l_gv (v := (.bool (decide (((l.length : Nat) : Int) < ((cntN l most + (cntU l most) : Nat) : Int))))) (wanted_run rfl rfl (bn rfl c5)) (r_gtr rfl rfl) ?_
    refine l_v (v := (.bool (decide (((l.length : Nat) : Int) < ((cntN l most + (cntU l most) : Nat) : Int))))) (r_pick_f (bn rfl c5) rfl) ?_
    refine l_nil ?_
    refine (x_then ?_)
    refine c_if (p := ((l.length : Nat) : Int) < ((cntN l most + (cntU l most) : Nat) : Int)) rfl (fun c13 => ?_) (fun c13 => ?_)
    ·
      refine c_seq ?_
      refine c_region ?_
      refine l_v (v := (.pointer (some ⟨b, 0, none⟩))) (r_move rfl) ?_
      refine l_do rfl ?_
      refine d_call (fl := []) (cl := []) (A := [(.pointer (some ⟨b, 0, none⟩))]) (B := [(.pointer (some ⟨b, 0, none⟩))]) F.ok145 rfl (ac rfl an) rfl (rfails_c (b := b) (a := a) (n := l.length) (c := c) (f := f) k12) ?_
      rintro _ w14 ⟨rfl, f15, h16⟩
      have z17 := f15.size
      have t18 := t4.step f15 (one_in (by simp))
      refine l_nil ?_
      refine (x_then ?_)
      refine c_seq ?_
      refine c_region ?_
      refine l_v (v := (.string ⟨#[]⟩)) (r_assign rfl) ?_
      refine l_nil ?_
      refine (x_then ?_)
      refine c_ret ?_
      refine (x_then_r ?_)
      refine p_ret (v := (.string ⟨#[]⟩)) (res1 rfl rfl) ?_
      have ez := rs_zero (f := f) (l := l) (a := most) (str_zero' (by omega)).1
      exact ⟨none, 0, true, [], (by rw [ez]; rfl), t18, h16, (Ro.nil _), (fun _ => rfl), (by rw [ez]; rfl), (Nat.zero_le _), (fun x hx => by cases hx), (by simp [ob])⟩
    ·
      refine c_skip ?_
      refine (x_then ?_)
      refine c_seq ?_
      refine c_region ?_
      refine l_v (v := (.pointer (some ⟨b, 0, none⟩))) (r_move rfl) ?_
      refine l_v (v := (.pointer (some ⟨b, 0, none⟩))) (r_nil_ptr rfl) ?_
      refine l_v (v := (.pointer (some ⟨b, 0, none⟩))) (r_field_l F.fo185_0 rfl rfl) ?_
      refine l_v (v := (.slice a l.length c)) (r_load1 F.one22 rfl (At.cell k12 rfl)) ?_
      refine l_v (v := (.int .i64 ((cntN l most : Nat) : Int))) (r_move rfl) ?_
      refine l_v (v := (.int .i64 ((cntN l most : Nat) : Int))) (r_move rfl) ?_
      refine l_v (v := (.int .i64 ((cntU l most : Nat) : Int))) (r_move rfl) ?_
      refine l_v (v := (.int .i64 ((cntN l most + (cntU l most) : Nat) : Int))) (r_add rfl rfl (w64 (by omega) (by omega) (by omega))) ?_
      have k19 := h2.keep0 f2
      have q20 := k19.cap
      have s21 : Ro w1 (cutA a c (cntN l most) 1) (cntU l most) (c - (cntN l most)) (bv ((l.drop (cntN l most)).take (cntU l most))) := by
        have e0 := Ro.cut (k := 1) k19 (by first | (simp only [bv_len]; done) | (simp only [bv_len]; omega) | (simp [bv_len]; done) | (simp [bv_len]; omega)) (cntN l most) (cntN l most + (cntU l most)) (by omega) (by omega)
        have e1 : (bv l).drop ((cntN l most) * 1) = (bv l).drop ((cntN l most) * 1) := rfl
        have en : cntN l most + (cntU l most) - (cntN l most) = cntU l most := by omega
        have ec : c - (cntN l most) = c - (cntN l most) := by omega
        have ecs : ((bv l).drop ((cntN l most) * 1)).take ((cntN l most + (cntU l most) - (cntN l most)) * 1) = bv ((l.drop (cntN l most)).take (cntU l most)) := by rw [bv_drop, bv_take, Nat.add_sub_cancel_left]
        first | (rw [ecs] at e0; exact e0) | (rw [ecs, ec] at e0; exact e0) | (rw [ecs, en, ec] at e0; exact e0)
      refine l_v (v := (.slice (cutA a c (cntN l most) 1) (cntU l most) (c - (cntN l most)))) (r_cutN (l := cntN l most) (h := cntN l most + (cntU l most)) F.sle22 rfl ⟨_, rfl⟩ ⟨_, rfl⟩ (by omega) (by omega) (by omega) (by omega) (by omega)) ?_
      have s22 := s21.sl
      refine l_v (v := (.string (mkS ((l.drop (cntN l most)).take (cntU l most))))) (r_bytes (bs := (l.drop (cntN l most)).take (cntU l most)) Proofs.Try.underlying22 Proofs.Try.underlying5 Proofs.Try.underlying9 rfl s22 (by first | rfl | omega | (simp; done) | (simp; omega))) ?_
      refine l_v (v := (.string (mkS ((l.drop (cntN l most)).take (cntU l most))))) (r_assign rfl) ?_
      refine l_nil ?_
      refine (x_then ?_)
      refine c_seq ?_
      refine c_region ?_
      refine l_v (v := (.pointer (some ⟨b, 0, none⟩))) (r_move rfl) ?_
      refine l_v (v := (.pointer (some ⟨b, 0, none⟩))) (r_move rfl) ?_
      refine l_v (v := (.pointer (some ⟨b, 0, none⟩))) (r_nil_ptr rfl) ?_
      refine l_v (v := (.pointer (some ⟨b, 0, none⟩))) (r_field_l F.fo185_0 rfl rfl) ?_
      refine l_v (v := (.slice a l.length c)) (r_load1 F.one22 rfl (At.cell k12 rfl)) ?_
      refine l_v (v := (.int .i64 ((cntN l most : Nat) : Int))) (r_move rfl) ?_
      refine l_v (v := (.int .i64 ((cntU l most : Nat) : Int))) (r_move rfl) ?_
      refine l_v (v := (.int .i64 ((cntN l most + (cntU l most) : Nat) : Int))) (r_add rfl rfl (w64 (by omega) (by omega) (by omega))) ?_
      have q23 := k19.cap
      have s24 : Ro w1 (cutA a c (cntN l most + (cntU l most)) 1) (l.length - (cntN l most + (cntU l most))) (c - (cntN l most + (cntU l most))) (bv (l.drop (cntN l most + (cntU l most)))) := by
        have e0 := Ro.cut0 (k := 1) k19 (by first | (simp only [bv_len]; done) | (simp only [bv_len]; omega) | (simp [bv_len]; done) | (simp [bv_len]; omega)) (cntN l most + (cntU l most)) (by omega)
        have e1 : (bv l).drop ((cntN l most + (cntU l most)) * 1) = (bv l).drop ((cntN l most + (cntU l most)) * 1) := rfl
        have en : l.length - (cntN l most + (cntU l most)) = l.length - (cntN l most + (cntU l most)) := by omega
        have ec : c - (cntN l most + (cntU l most)) = c - (cntN l most + (cntU l most)) := by omega
        have ecs : (bv l).drop ((cntN l most + (cntU l most)) * 1) = bv (l.drop (cntN l most + (cntU l most))) := by rw [bv_drop]
        first | (rw [ecs] at e0; exact e0) | (rw [ecs, ec] at e0; exact e0) | (rw [ecs, en, ec] at e0; exact e0)
      refine l_v (v := (.slice (cutA a c (cntN l most + (cntU l most)) 1) (l.length - (cntN l most + (cntU l most))) (c - (cntN l most + (cntU l most))))) (r_cutN (l := cntN l most + (cntU l most)) (h := l.length) F.sle22 rfl ⟨_, rfl⟩ rfl (by omega) (by omega) (by omega) (by omega) (by omega)) ?_
      refine l_v (v := (.pointer (some ⟨b, 0, none⟩))) (r_nil_ptr rfl) ?_
      refine l_v (v := (.pointer (some ⟨b, 0, none⟩))) (r_field_l F.fo185_0 rfl rfl) ?_
      refine l_do rfl ?_
      refine d_store1 (v := (.slice (cutA a c (cntN l most + (cntU l most)) 1) (l.length - (cntN l most + (cntU l most))) (c - (cntN l most + (cntU l most))))) (c' := #[(.slice (cutA a c (cntN l most + (cntU l most)) 1) (l.length - (cntN l most + (cntU l most))) (c - (cntN l most + (cntU l most)))), (.bool f)]) F.sz22 rfl rfl rfl k12 (by simp) rfl ?_
      intro w25 f26 h27
      have z28 := f26.size
      have t29 := t4.step f26 (one_in (by simp))
      refine l_nil ?_
      refine (x_then ?_)
      refine c_seq ?_
      refine c_region ?_
      refine l_v (v := (.string (mkS ((l.drop (cntN l most)).take (cntU l most))))) (r_move rfl) ?_
      refine l_v (v := (.string (mkS ((l.drop (cntN l most)).take (cntU l most))))) (r_assign rfl) ?_
      refine l_nil ?_
      refine (x_then ?_)
      refine c_ret ?_
      refine p_ret (v := (.string (mkS ((l.drop (cntN l most)).take (cntU l most))))) (res1 rfl rfl) ?_
      have es := str_some' (l := l) (a := most) (by omega) (by omega)
      have ez := rs_some (f := f) (l := l) (a := most) hf (by omega)
      rw [es.1, es.2] at ez
      have hff : rdR false (l.drop (cntN l most + cntU l most)) = some (l.drop (cntN l most + cntU l most)) := rfl
      have k30 := s24.keep f26 (by rw [ob_cutA]; exact (ob_not1 hn))
      exact ⟨(cutA a c (cntN l most + (cntU l most)) 1), c - (cntN l most + (cntU l most)), f, (l.drop (cntN l most + cntU l most)), (by rw [ez]), t29, (by rw [List.length_drop]; exact h27), (by rw [List.length_drop]; exact k30), (fun h => by rw [hf h]; simp), (by rw [ez]; cases hf2 : f with | false => rfl | true => (have := hf hf2; subst this; exfalso; have := cntN_nil most; omega)), (by rw [List.length_drop]; omega), (by rw [ob_cutA]; exact grow_refl), (by rw [ob_cutA]; exact hn)⟩

set_option maxHeartbeats 400000 in
set_option maxRecDepth 100000 in
theorem rrFlag_c {w : World} {b c : Nat} {a : Option Addr} {f : Bool} {l : List UInt8} (h1 : At w b (.cells #[(.slice a l.length c), (.bool f)] 185 (0, 0))) (h2 : Ro w a l.length c (bv l)) (h3 : l.length ≤ 1000000000) (hf : f = true → l = []) (hn : b ∉ ob a) :
    Calls Proofs.Try.prog 103 #[(.pointer (some ⟨b, 0, none⟩))] w (Ret fun v w' => ∃ a' : Option Addr, ∃ c' : Nat, ∃ f' : Bool, ∃ l' : List UInt8, v = (.bool (decide ((((mCount (rdR f l) 1).1 : Nat) : Int) = 1))) ∧ Fr [b] w w' ∧ At w' b (.cells #[(.slice a' l'.length c'), (.bool f')] 185 (0, 0)) ∧ Ro w' a' l'.length c' (bv l') ∧ (f' = true → l' = []) ∧ (rdR f' l' = (mCount (rdR f l) 1).2) ∧ (l'.length ≤ l.length) ∧ (∀ x ∈ ob a', x ∈ ob a ∨ w.heap.size ≤ x) ∧ (b ∉ ob a')) := by
  have lt_h1 := h1.lt
  have lt_h2 := h2.lt
  have hcap := h2.cap
  have t0 : Fr [b] w w := Fr.refl _ _
  refine enter Proofs.Try.func103 rfl Proofs.Try.ntmps103 (Nat.le_of_ble_eq_true rfl) ?_
  refine c_seq ?_
  refine c_region ?_
  refine l_v (v := (.bool false)) (r_assign rfl) ?_
  refine l_nil ?_
  refine (x_then ?_)
  refine c_seq ?_
  refine c_seq ?_
  refine c_region ?_
  refine l_v (v := (.pointer (some ⟨b, 0, none⟩))) (r_move rfl) ?_
  refine l_v (v := (.pointer (some ⟨b, 0, none⟩))) (r_nil_ptr rfl) ?_
  refine l_v (v := (.pointer (some ⟨b, 0, none⟩))) (r_field_l F.fo185_0 rfl rfl) ?_
  refine l_v (v := (.slice a l.length c)) (r_load1 F.one22 rfl (At.cell h1 rfl)) ?_
  refine l_v (v := (.int .i64 ((l.length : Nat) : Int))) (r_lenSl F.sl22 rfl) ?_
  refine l_v (v := (.bool (decide (((l.length : Nat) : Int) = 0)))) (r_eql rfl rfl) ?_
  refine l_v (v := (.bool (decide (((l.length : Nat) : Int) = 0)))) (r_move rfl) ?_
  refine l_em (p := ((l.length : Nat) : Int) = 0) ?_ ?_
  · intro c1
    refine l_skip (wanted_not rfl rfl (bd rfl c1) (by decide)) ?_
    refine l_skip (wanted_not rfl rfl (bd rfl c1) (by decide)) ?_
    refine l_skip (wanted_not rfl rfl (bd rfl c1) (by decide)) ?_
    refine l_skip (wanted_not rfl rfl (bd rfl c1) (by decide)) ?_
    refine l_skip (wanted_not rfl rfl (bd rfl c1) (by decide)) ?_
    refine l_skip (wanted_not rfl rfl (bd rfl c1) (by decide)) ?_
    refine l_skip (wanted_not rfl rfl (bd rfl c1) (by decide)) ?_
    refine l_v (v := (.bool true)) (r_pick_t (bd rfl c1) rfl) ?_
    refine l_nil ?_
    refine (x_then ?_)
    refine c_true rfl ?_
    refine c_seq ?_
    refine c_region ?_
    refine l_v (v := (.pointer (some ⟨b, 0, none⟩))) (r_move rfl) ?_
    refine l_do rfl ?_
    refine d_call (fl := []) (cl := []) (A := [(.pointer (some ⟨b, 0, none⟩))]) (B := [(.pointer (some ⟨b, 0, none⟩))]) F.ok145 rfl (ac rfl an) rfl (rfails_c (b := b) (a := a) (n := l.length) (c := c) (f := f) h1) ?_
    rintro _ w2 ⟨rfl, f3, h4⟩
    have z5 := f3.size
    have t6 := t0.step f3 (one_in (by simp))
    refine l_nil ?_
    refine (x_then ?_)
    refine c_seq ?_
    refine c_region ?_
    refine l_v (v := (.bool false)) (r_assign rfl) ?_
    refine l_nil ?_
    refine (x_then ?_)
    refine c_ret ?_
    refine (x_then_r ?_)
    refine p_ret (v := (.bool false)) (res1 rfl rfl) ?_
    have ez := rc_zero (f := f) (l := l) (a := 1) (flag_none (by first | exact .inl (by omega) | exact .inr ⟨_, hx, by omega⟩))
    exact ⟨none, 0, true, [], (by rw [ez]; rfl), t6, h4, (Ro.nil _), (fun _ => rfl), (by rw [ez]; rfl), (Nat.zero_le _), (fun x hx => by cases hx), (by simp [ob])⟩
  · intro c1
    refine l_gv (v := (.pointer (some ⟨b, 0, none⟩))) (wanted_run rfl rfl (bn rfl c1)) (r_move rfl) ?_
    refine l_gv (v := (.pointer (some ⟨b, 0, none⟩))) (wanted_run rfl rfl (bn rfl c1)) (r_nil_ptr rfl) ?_
    refine l_gv (v := (.pointer (some ⟨b, 0, none⟩))) (wanted_run rfl rfl (bn rfl c1)) (r_field_l F.fo185_0 rfl rfl) ?_
    refine l_gv (v := (.slice a l.length c)) (wanted_run rfl rfl (bn rfl c1)) (r_load1 F.one22 rfl (At.cell h1 rfl)) ?_
    have ha7 : ∃ ad, a = some ad := h2.sl.some (by rw [bv_len]; have := ((by omega) : 0 < (l).length); omega)
    obtain ⟨x, hx⟩ := get_some (l := l) (k := 0) (by omega)
    refine l_gv (v := (.pointer (some ((adr a).add 0)))) (wanted_run rfl rfl (bn rfl c1)) (r_indexAddr F.sle22 rfl rfl ha7 (by omega) (by have := get_lt hx; omega) (by first | rfl | simp | omega)) ?_
    have s8 := h2.sl
    refine l_gv (v := (.int .u8 ((x.toNat : Nat) : Int))) (wanted_run rfl rfl (bn rfl c1)) (r_loadE1 F.one5 s8 rfl (bv_vs hx)) ?_
    refine l_gv (v := (.bool (decide (1 < ((x.toNat : Nat) : Int))))) (wanted_run rfl rfl (bn rfl c1)) (r_gtr rfl rfl) ?_
    refine l_v (v := (.bool (decide (1 < ((x.toNat : Nat) : Int))))) (r_pick_f (bn rfl c1) rfl) ?_
    refine l_nil ?_
    refine (x_then ?_)
    refine c_if (p := 1 < ((x.toNat : Nat) : Int)) rfl (fun c9 => ?_) (fun c9 => ?_)
    ·
      refine c_seq ?_
      refine c_region ?_
      refine l_v (v := (.pointer (some ⟨b, 0, none⟩))) (r_move rfl) ?_
      refine l_do rfl ?_
      refine d_call (fl := []) (cl := []) (A := [(.pointer (some ⟨b, 0, none⟩))]) (B := [(.pointer (some ⟨b, 0, none⟩))]) F.ok145 rfl (ac rfl an) rfl (rfails_c (b := b) (a := a) (n := l.length) (c := c) (f := f) h1) ?_
      rintro _ w10 ⟨rfl, f11, h12⟩
      have z13 := f11.size
      have t14 := t0.step f11 (one_in (by simp))
      refine l_nil ?_
      refine (x_then ?_)
      refine c_seq ?_
      refine c_region ?_
      refine l_v (v := (.bool false)) (r_assign rfl) ?_
      refine l_nil ?_
      refine (x_then ?_)
      refine c_ret ?_
      refine (x_then_r ?_)
      refine p_ret (v := (.bool false)) (res1 rfl rfl) ?_
      have ez := rc_zero (f := f) (l := l) (a := 1) (flag_none (by first | exact .inl (by omega) | exact .inr ⟨_, hx, by omega⟩))
      exact ⟨none, 0, true, [], (by rw [ez]; rfl), t14, h12, (Ro.nil _), (fun _ => rfl), (by rw [ez]; rfl), (Nat.zero_le _), (fun x hx => by cases hx), (by simp [ob])⟩
    ·
      refine c_skip ?_
      refine (x_then ?_)
      refine c_seq ?_
      refine c_region ?_
      refine l_v (v := (.pointer (some ⟨b, 0, none⟩))) (r_move rfl) ?_
      refine l_v (v := (.pointer (some ⟨b, 0, none⟩))) (r_nil_ptr rfl) ?_
      refine l_v (v := (.pointer (some ⟨b, 0, none⟩))) (r_field_l F.fo185_0 rfl rfl) ?_
      refine l_v (v := (.slice a l.length c)) (r_load1 F.one22 rfl (At.cell h1 rfl)) ?_
      have ha15 : ∃ ad, a = some ad := h2.sl.some (by rw [bv_len]; have := ((by omega) : 0 < (l).length); omega)
      refine l_v (v := (.pointer (some ((adr a).add 0)))) (r_indexAddr F.sle22 rfl rfl ha15 (by omega) (by have := get_lt hx; omega) (by first | rfl | simp | omega)) ?_
      refine l_v (v := (.int .u8 ((x.toNat : Nat) : Int))) (r_loadE1 F.one5 s8 rfl (bv_vs hx)) ?_
      refine l_v (v := (.bool (decide (((x.toNat : Nat) : Int) = 1)))) (r_eql rfl rfl) ?_
      refine l_v (v := (.bool (decide (((x.toNat : Nat) : Int) = 1)))) (r_assign rfl) ?_
      refine l_nil ?_
      refine (x_then ?_)
      refine c_seq ?_
      refine c_region ?_
      refine l_v (v := (.pointer (some ⟨b, 0, none⟩))) (r_move rfl) ?_
      refine l_v (v := (.pointer (some ⟨b, 0, none⟩))) (r_move rfl) ?_
      refine l_v (v := (.pointer (some ⟨b, 0, none⟩))) (r_nil_ptr rfl) ?_
      refine l_v (v := (.pointer (some ⟨b, 0, none⟩))) (r_field_l F.fo185_0 rfl rfl) ?_
      refine l_v (v := (.slice a l.length c)) (r_load1 F.one22 rfl (At.cell h1 rfl)) ?_
      have q16 := h2.cap
      have s17 : Ro w (cutA a c 1 1) (l.length - 1) (c - 1) (bv (l.drop 1)) := by
        have e0 := Ro.cut0 (k := 1) h2 (by first | (simp only [bv_len]; done) | (simp only [bv_len]; omega) | (simp [bv_len]; done) | (simp [bv_len]; omega)) 1 (by omega)
        have e1 : (bv l).drop (1 * 1) = (bv l).drop (1 * 1) := rfl
        have en : l.length - 1 = l.length - 1 := by omega
        have ec : c - 1 = c - 1 := by omega
        have ecs : (bv l).drop (1 * 1) = bv (l.drop 1) := by rw [bv_drop]
        first | (rw [ecs] at e0; exact e0) | (rw [ecs, ec] at e0; exact e0) | (rw [ecs, en, ec] at e0; exact e0)
      refine l_v (v := (.slice (cutA a c 1 1) (l.length - 1) (c - 1))) (r_cutN (l := 1) (h := l.length) F.sle22 rfl ⟨_, rfl⟩ rfl (by omega) (by omega) (by omega) (by omega) (by omega)) ?_
      refine l_v (v := (.pointer (some ⟨b, 0, none⟩))) (r_nil_ptr rfl) ?_
      refine l_v (v := (.pointer (some ⟨b, 0, none⟩))) (r_field_l F.fo185_0 rfl rfl) ?_
      refine l_do rfl ?_
      refine d_store1 (v := (.slice (cutA a c 1 1) (l.length - 1) (c - 1))) (c' := #[(.slice (cutA a c 1 1) (l.length - 1) (c - 1)), (.bool f)]) F.sz22 rfl rfl rfl h1 (by simp) rfl ?_
      intro w18 f19 h20
      have z21 := f19.size
      have t22 := t0.step f19 (one_in (by simp))
      refine l_nil ?_
      refine (x_then ?_)
      refine c_seq ?_
      refine c_region ?_
      refine l_v (v := (.bool (decide (((x.toNat : Nat) : Int) = 1)))) (r_move rfl) ?_
      refine l_v (v := (.bool (decide (((x.toNat : Nat) : Int) = 1)))) (r_assign rfl) ?_
      refine l_nil ?_
      refine (x_then ?_)
      refine c_ret ?_
      refine p_ret (v := (.bool (decide (((x.toNat : Nat) : Int) = 1)))) (res1 rfl rfl) ?_
      have ef := flag_some hx (by omega)
      have ez := rc_some (f := f) (l := l) (a := 1) hf (by omega)
      rw [ef.1, ef.2] at ez
      have hff : rdR false (l.drop 1) = some (l.drop 1) := rfl
      have k23 := s17.keep f19 (by rw [ob_cutA]; exact (ob_not1 hn))
      exact ⟨(cutA a c 1 1), c - 1, f, (l.drop 1), (by rw [ez]), t22, (by rw [List.length_drop]; exact h20), (by rw [List.length_drop]; exact k23), (fun h => by rw [hf h]; simp), (by rw [ez]; cases hf2 : f with | false => rfl | true => (have := hf hf2; subst this; exfalso; simp at hx)), (by rw [List.length_drop]; omega), (by rw [ob_cutA]; exact grow_refl), (by rw [ob_cutA]; exact hn)⟩

set_option maxHeartbeats 400000 in
set_option maxRecDepth 100000 in
theorem rrOK_c {w : World} {b c : Nat} {a : Option Addr} {f : Bool} {l : List UInt8} (h1 : At w b (.cells #[(.slice a l.length c), (.bool f)] 185 (0, 0))) :
    Calls Proofs.Try.prog 127 #[(.pointer (some ⟨b, 0, none⟩))] w (Ret fun v w' => v = (.bool (!f)) ∧ Fr [] w w') := by
  have lt_h1 := h1.lt
  have t0 : Fr [] w w := Fr.refl _ _
  refine enter Proofs.Try.func127 rfl Proofs.Try.ntmps127 (Nat.le_of_ble_eq_true rfl) ?_
  refine c_seq ?_
  refine c_region ?_
  refine l_v (v := (.bool false)) (r_assign rfl) ?_
  refine l_nil ?_
  refine (x_then ?_)
  refine c_seq ?_
  refine c_region ?_
  refine l_v (v := (.pointer (some ⟨b, 0, none⟩))) (r_move rfl) ?_
  refine l_v (v := (.pointer (some ⟨b, 0, none⟩))) (r_nil_ptr rfl) ?_
  refine l_v (v := (.pointer (some ⟨b, 1, none⟩))) (r_field_l F.fo185_1 rfl rfl) ?_
  refine l_v (v := (.bool f)) (r_load1 F.one4 rfl (At.cell h1 rfl)) ?_
  refine l_v (v := (.bool (!f))) (r_not rfl) ?_
  refine l_v (v := (.bool (!f))) (r_assign rfl) ?_
  refine l_nil ?_
  refine (x_then ?_)
  refine c_ret ?_
  refine p_ret (v := (.bool (!f))) (res1 rfl rfl) ?_
  exact ⟨rfl, t0⟩

set_option maxHeartbeats 400000 in
set_option maxRecDepth 100000 in
theorem rrDone_c {w : World} {b c : Nat} {a : Option Addr} {f : Bool} {l : List UInt8} (h1 : At w b (.cells #[(.slice a l.length c), (.bool f)] 185 (0, 0))) :
    Calls Proofs.Try.prog 76 #[(.pointer (some ⟨b, 0, none⟩))] w (Ret fun v w' => v = (.bool (decide (rdR f l = some []))) ∧ Fr [] w w') := by
  have lt_h1 := h1.lt
  have t0 : Fr [] w w := Fr.refl _ _
  refine enter Proofs.Try.func76 rfl Proofs.Try.ntmps76 (Nat.le_of_ble_eq_true rfl) ?_
  refine c_seq ?_
  refine c_region ?_
  refine l_v (v := (.bool false)) (r_assign rfl) ?_
  refine l_nil ?_
  refine (x_then ?_)
  refine c_seq ?_
  refine c_region ?_
  refine l_v (v := (.pointer (some ⟨b, 0, none⟩))) (r_move rfl) ?_
  refine l_v (v := (.pointer (some ⟨b, 0, none⟩))) (r_nil_ptr rfl) ?_
  refine l_v (v := (.pointer (some ⟨b, 1, none⟩))) (r_field_l F.fo185_1 rfl rfl) ?_
  refine l_v (v := (.bool f)) (r_load1 F.one4 rfl (At.cell h1 rfl)) ?_
  refine l_v (v := (.bool (!f))) (r_not rfl) ?_
  refine l_v (v := (.bool (!f))) (r_move rfl) ?_
  refine l_bool (b := (!f)) ?_ ?_
  · intro c1
    refine l_gv (v := (.pointer (some ⟨b, 0, none⟩))) (wanted_run rfl rfl (bt rfl c1)) (r_move rfl) ?_
    refine l_gv (v := (.pointer (some ⟨b, 0, none⟩))) (wanted_run rfl rfl (bt rfl c1)) (r_nil_ptr rfl) ?_
    refine l_gv (v := (.pointer (some ⟨b, 0, none⟩))) (wanted_run rfl rfl (bt rfl c1)) (r_field_l F.fo185_0 rfl rfl) ?_
    refine l_gv (v := (.slice a l.length c)) (wanted_run rfl rfl (bt rfl c1)) (r_load1 F.one22 rfl (At.cell h1 rfl)) ?_
    refine l_gv (v := (.int .i64 ((l.length : Nat) : Int))) (wanted_run rfl rfl (bt rfl c1)) (r_lenSl F.sl22 rfl) ?_
    refine l_gv (v := (.bool (decide (((l.length : Nat) : Int) = 0)))) (wanted_run rfl rfl (bt rfl c1)) (r_eql rfl rfl) ?_
    refine l_v (v := (.bool (decide (((l.length : Nat) : Int) = 0)))) (r_pick_t (bt rfl c1) rfl) ?_
    refine l_v (v := (.bool (decide (((l.length : Nat) : Int) = 0)))) (r_assign rfl) ?_
    refine l_nil ?_
    refine (x_then ?_)
    refine c_ret ?_
    refine p_ret (v := (.bool (decide (((l.length : Nat) : Int) = 0)))) (res1 rfl rfl) ?_
    exact ⟨(congrArg Value.bool (done_ff c1)), t0⟩
  · intro c1
    refine l_skip (wanted_not rfl rfl (bt rfl c1) (by decide)) ?_
    refine l_skip (wanted_not rfl rfl (bt rfl c1) (by decide)) ?_
    refine l_skip (wanted_not rfl rfl (bt rfl c1) (by decide)) ?_
    refine l_skip (wanted_not rfl rfl (bt rfl c1) (by decide)) ?_
    refine l_skip (wanted_not rfl rfl (bt rfl c1) (by decide)) ?_
    refine l_skip (wanted_not rfl rfl (bt rfl c1) (by decide)) ?_
    refine l_v (v := (.bool false)) (r_pick_f (bt rfl c1) rfl) ?_
    refine l_v (v := (.bool false)) (r_assign rfl) ?_
    refine l_nil ?_
    refine (x_then ?_)
    refine c_ret ?_
    refine p_ret (v := (.bool false)) (res1 rfl rfl) ?_
    exact ⟨(congrArg Value.bool (done_tt c1)), t0⟩

set_option maxHeartbeats 400000 in
set_option maxRecDepth 100000 in
theorem rlCount_c {w : World} {a : Option Addr} {c : Nat} {n : Int} {bs l : List UInt8} (h1 : Sl w a (bv bs)) (h2 : bs.length ≤ 1000000000) (hl : l = cntL bs n) :
    Calls Proofs.Try.prog 98 #[(.slice a bs.length c), (.int .i64 n)] w (Ret fun v w' => ∃ a' : Option Addr, ∃ c' : Nat, v = (.slice a' l.length c') ∧ Fr [] w w' ∧ Own w' 5 1 a' l.length c' (bv l) ∧ (∀ x ∈ ob a', w.heap.size ≤ x)) := by
  have t0 : Fr [] w w := Fr.refl _ _
  refine enter Proofs.Try.func98 rfl Proofs.Try.ntmps98 (Nat.le_of_ble_eq_true rfl) ?_
  refine c_seq ?_
  refine c_region ?_
  refine l_v (v := (.slice none 0 0)) (r_assign rfl) ?_
  refine l_nil ?_
  refine (x_then ?_)
  refine c_seq ?_
  refine c_seq ?_
  refine c_region ?_
  refine l_v (v := (.int .i64 n)) (r_move rfl) ?_
  refine l_v (v := (.bool (decide (n < 0)))) (r_lss rfl rfl) ?_
  refine l_v (v := (.bool (decide (n < 0)))) (r_move rfl) ?_
  refine l_em (p := n < 0) ?_ ?_
  · intro c1
    refine l_skip (wanted_not rfl rfl (bd rfl c1) (by decide)) ?_
    refine l_skip (wanted_not rfl rfl (bd rfl c1) (by decide)) ?_
    refine l_v (v := (.bool true)) (r_pick_t (bd rfl c1) rfl) ?_
    refine l_nil ?_
    refine (x_then ?_)
    refine c_true rfl ?_
    refine c_seq ?_
    refine c_region ?_
    refine l_v (v := (.slice a bs.length c)) (r_move rfl) ?_
    refine l_do rfl ?_
    refine d_call (fl := []) (cl := []) (A := [(.slice a bs.length c), (.string ⟨#[]⟩)]) (B := [(.slice a bs.length c), (.string ⟨#[]⟩)]) F.ok143 rfl (ac rfl (ac rfl an)) rfl (rbehind_c (a := a) (bs := bs) (c := c) (s := ⟨#[]⟩) (l := l) h1 (by omega) (by decide) (by subst hl; unfold cntL; rw [if_pos (by omega)]; simp)) ?_
    rintro _ w2 ⟨a_4, c_5, rfl, f3, h6, p7⟩
    have z8 := f3.size
    have t9 := t0.trans0 f3
    have l11 := h6.lt
    refine l_v (v := (.slice a_4 l.length c_5)) (r_assign rfl) ?_
    refine l_nil ?_
    refine (x_then ?_)
    refine c_ret ?_
    refine (x_then_r ?_)
    refine p_ret (v := (.slice a_4 l.length c_5)) (res1 rfl rfl) ?_
    exact ⟨a_4, c_5, rfl, t9, h6, (ob_ge p7 (by omega))⟩
  · intro c1
    refine l_gv (v := (.int .i64 n)) (wanted_run rfl rfl (bn rfl c1)) (r_move rfl) ?_
    refine l_gv (v := (.bool (decide (2147483647 < n)))) (wanted_run rfl rfl (bn rfl c1)) (r_gtr rfl rfl) ?_
    refine l_v (v := (.bool (decide (2147483647 < n)))) (r_pick_f (bn rfl c1) rfl) ?_
    refine l_nil ?_
    refine (x_then ?_)
    refine c_if (p := 2147483647 < n) rfl (fun c12 => ?_) (fun c12 => ?_)
    ·
      refine c_seq ?_
      refine c_region ?_
      refine l_v (v := (.slice a bs.length c)) (r_move rfl) ?_
      refine l_do rfl ?_
      refine d_call (fl := []) (cl := []) (A := [(.slice a bs.length c), (.string ⟨#[]⟩)]) (B := [(.slice a bs.length c), (.string ⟨#[]⟩)]) F.ok143 rfl (ac rfl (ac rfl an)) rfl (rbehind_c (a := a) (bs := bs) (c := c) (s := ⟨#[]⟩) (l := l) h1 (by omega) (by decide) (by subst hl; unfold cntL; rw [if_pos (by omega)]; simp)) ?_
      rintro _ w13 ⟨a_15, c_16, rfl, f14, h17, p18⟩
      have z19 := f14.size
      have t20 := t0.trans0 f14
      have l22 := h17.lt
      refine l_v (v := (.slice a_15 l.length c_16)) (r_assign rfl) ?_
      refine l_nil ?_
      refine (x_then ?_)
      refine c_ret ?_
      refine (x_then_r ?_)
      refine p_ret (v := (.slice a_15 l.length c_16)) (res1 rfl rfl) ?_
      exact ⟨a_15, c_16, rfl, t20, h17, (ob_ge p18 (by omega))⟩
    ·
      refine c_skip ?_
      refine (x_then ?_)
      refine c_seq ?_
      refine c_region ?_
      refine l_v (v := (.slice a bs.length c)) (r_move rfl) ?_
      refine l_v (v := (.int .i64 n)) (r_move rfl) ?_
      refine l_v (v := (.int .u64 ((n.toNat : Nat) : Int))) (r_convI F.und3 Proofs.Try.underlying189 rfl (by rw [wu64 (by omega) (by omega) rfl]; omega)) ?_
      refine l_do rfl ?_
      refine d_call (fl := []) (cl := []) (A := [(.int .u64 ((n.toNat : Nat) : Int))]) (B := [(.int .u64 ((n.toNat : Nat) : Int))]) F.ok153 rfl (ac rfl an) rfl (rgroups_c (u := n.toNat) (by omega)) ?_
      rintro _ w23 ⟨rfl, f24⟩
      have z25 := f24.size
      have t26 := t0.trans0 f24
      refine l_do rfl ?_
      have k27 := h1.keep0 f24
      refine d_call (fl := []) (cl := []) (A := [(.slice a bs.length c), (.string (mkS (grp n.toNat)))]) (B := [(.slice a bs.length c), (.string (mkS (grp n.toNat)))]) F.ok143 rfl (ac rfl (ac rfl an)) rfl (rbehind_c (a := a) (bs := bs) (c := c) (s := mkS (grp n.toNat)) (l := l) k27 (by omega) (by rw [mkS_size, grp_len]; have := ngr_le (u := n.toNat) (by omega); omega) (by subst hl; unfold cntL; rw [if_neg (by omega)]; rfl)) ?_
      rintro _ w28 ⟨a_30, c_31, rfl, f29, h32, p33⟩
      have z34 := f29.size
      have t35 := t26.trans0 f29
      have l37 := h32.lt
      refine l_v (v := (.slice a_30 l.length c_31)) (r_assign rfl) ?_
      refine l_nil ?_
      refine (x_then ?_)
      refine c_ret ?_
      refine p_ret (v := (.slice a_30 l.length c_31)) (res1 rfl rfl) ?_
      exact ⟨a_30, c_31, rfl, t35, h32, (ob_ge p33 (by omega))⟩

set_option maxHeartbeats 400000 in
set_option maxRecDepth 100000 in
theorem rlStr_c {w : World} {a : Option Addr} {c : Nat} {s : ByteArray} {bs l : List UInt8} (h1 : Sl w a (bv bs)) (h2 : bs.length ≤ 1000000000) (h3 : s.size ≤ 2147483647) (h4 : bs.length ≤ 900000000) (hl : l = strL bs s.data.toList) :
    Calls Proofs.Try.prog 99 #[(.slice a bs.length c), (.string s)] w (Ret fun v w' => ∃ a' : Option Addr, ∃ c' : Nat, v = (.slice a' l.length c') ∧ Fr [] w w' ∧ Own w' 5 1 a' l.length c' (bv l) ∧ (∀ x ∈ ob a', w.heap.size ≤ x)) := by
  have t0 : Fr [] w w := Fr.refl _ _
  refine enter Proofs.Try.func99 rfl Proofs.Try.ntmps99 (Nat.le_of_ble_eq_true rfl) ?_
  refine c_seq ?_
  refine c_region ?_
  refine l_v (v := (.slice none 0 0)) (r_assign rfl) ?_
  refine l_nil ?_
  refine (x_then ?_)
  refine c_seq ?_
  refine c_region ?_
  refine l_v (v := (.slice a bs.length c)) (r_move rfl) ?_
  refine l_v (v := (.string s)) (r_move rfl) ?_
  refine l_v (v := (.int .i64 ((s.size : Nat) : Int))) (r_lenSn Proofs.Try.underlying9 rfl rfl) ?_
  refine l_do rfl ?_
  refine d_call (fl := []) (cl := []) (A := [(.slice a bs.length c), (.int .i64 ((s.size : Nat) : Int))]) (B := [(.slice a bs.length c), (.int .i64 ((s.size : Nat) : Int))]) F.ok98 rfl (ac rfl (ac rfl an)) rfl (rlCount_c (a := a) (bs := bs) (c := c) (n := ((s.size : Nat) : Int)) (l := cntL bs ((s.size : Nat) : Int)) h1 (by omega) rfl) ?_
  rintro _ w1 ⟨a_3, c_4, rfl, f2, h5, p6⟩
  have z7 := f2.size
  have t8 := t0.trans0 f2
  have l10 := h5.lt
  refine l_v (v := (.string s)) (r_move rfl) ?_
  refine l_do rfl ?_
  have s11 := h5.sl
  refine d_call (fl := []) (cl := []) (A := [(.slice a_3 ((cntL bs ((s.size : Nat) : Int)).length) c_4), (.string s)]) (B := [(.slice a_3 ((cntL bs ((s.size : Nat) : Int)).length) c_4), (.string s)]) F.ok143 rfl (ac rfl (ac rfl an)) rfl (rbehind_c (a := a_3) (bs := (cntL bs ((s.size : Nat) : Int))) (c := c_4) (s := s) (l := l) s11 (by have := cntL_len bs ((s.size : Nat) : Int); omega) (by omega) (by subst hl; unfold strL cntL; rw [if_neg (by rw [← size_eq]; omega), if_neg (by omega), size_eq]; simp)) ?_
  rintro _ w12 ⟨a_14, c_15, rfl, f13, h16, p17⟩
  have z18 := f13.size
  have t19 := t8.trans0 f13
  have l21 := h16.lt
  refine l_v (v := (.slice a_14 l.length c_15)) (r_assign rfl) ?_
  refine l_nil ?_
  refine (x_then ?_)
  refine c_ret ?_
  refine p_ret (v := (.slice a_14 l.length c_15)) (res1 rfl rfl) ?_
  exact ⟨a_14, c_15, rfl, t19, h16, (ob_ge p17 (by omega))⟩

set_option maxHeartbeats 400000 in
set_option maxRecDepth 100000 in
theorem rlFlag_c {w : World} {a : Option Addr} {c : Nat} {v : Bool} {bs l : List UInt8} (h1 : Sl w a (bv bs)) (h2 : bs.length ≤ 1000000000) (hl : l = cntL bs (if v then 1 else 0)) :
    Calls Proofs.Try.prog 157 #[(.slice a bs.length c), (.bool v)] w (Ret fun v w' => ∃ a' : Option Addr, ∃ c' : Nat, v = (.slice a' l.length c') ∧ Fr [] w w' ∧ Own w' 5 1 a' l.length c' (bv l) ∧ (∀ x ∈ ob a', w.heap.size ≤ x)) := by
  have t0 : Fr [] w w := Fr.refl _ _
  refine enter Proofs.Try.func157 rfl Proofs.Try.ntmps157 (Nat.le_of_ble_eq_true rfl) ?_
  refine c_seq ?_
  refine c_region ?_
  refine l_v (v := (.slice none 0 0)) (r_assign rfl) ?_
  refine l_nil ?_
  refine (x_then ?_)
  refine c_seq ?_
  refine c_seq ?_
  refine c_region ?_
  refine l_v (v := (.bool v)) (r_move rfl) ?_
  refine l_nil ?_
  refine (x_then ?_)
  refine c_split (t := v) rfl (fun c1 => ?_) (fun c1 => ?_)
  ·
    refine c_seq ?_
    refine c_region ?_
    refine l_v (v := (.slice a bs.length c)) (r_move rfl) ?_
    refine l_do rfl ?_
    refine d_call (fl := []) (cl := []) (A := [(.slice a bs.length c), (.string ⟨#[1]⟩)]) (B := [(.slice a bs.length c), (.string ⟨#[1]⟩)]) F.ok143 rfl (ac rfl (ac rfl an)) rfl (rbehind_c (a := a) (bs := bs) (c := c) (s := ⟨#[1]⟩) (l := l) h1 (by omega) (by decide) (by subst hl; simp [cntL, grp_small, *])) ?_
    rintro _ w2 ⟨a_4, c_5, rfl, f3, h6, p7⟩
    have z8 := f3.size
    have t9 := t0.trans0 f3
    have l11 := h6.lt
    refine l_v (v := (.slice a_4 l.length c_5)) (r_assign rfl) ?_
    refine l_nil ?_
    refine (x_then ?_)
    refine c_ret ?_
    refine (x_then_r ?_)
    refine p_ret (v := (.slice a_4 l.length c_5)) (res1 rfl rfl) ?_
    exact ⟨a_4, c_5, rfl, t9, h6, (ob_ge p7 (by omega))⟩
  ·
    refine c_skip ?_
    refine (x_then ?_)
    refine c_seq ?_
    refine c_region ?_
    refine l_v (v := (.slice a bs.length c)) (r_move rfl) ?_
    refine l_do rfl ?_
    refine d_call (fl := []) (cl := []) (A := [(.slice a bs.length c), (.string ⟨#[0]⟩)]) (B := [(.slice a bs.length c), (.string ⟨#[0]⟩)]) F.ok143 rfl (ac rfl (ac rfl an)) rfl (rbehind_c (a := a) (bs := bs) (c := c) (s := ⟨#[0]⟩) (l := l) h1 (by omega) (by decide) (by subst hl; simp [cntL, grp_small, *])) ?_
    rintro _ w12 ⟨a_14, c_15, rfl, f13, h16, p17⟩
    have z18 := f13.size
    have t19 := t0.trans0 f13
    have l21 := h16.lt
    refine l_v (v := (.slice a_14 l.length c_15)) (r_assign rfl) ?_
    refine l_nil ?_
    refine (x_then ?_)
    refine c_ret ?_
    refine p_ret (v := (.slice a_14 l.length c_15)) (res1 rfl rfl) ?_
    exact ⟨a_14, c_15, rfl, t19, h16, (ob_ge p17 (by omega))⟩

set_option maxHeartbeats 400000 in
set_option maxRecDepth 100000 in
theorem rrNew_c {w : World} {a : Option Addr} {c : Nat} {bs : List UInt8} (h1 : Sl w a (bv bs)) (h2 : bs.length ≤ 1000000000) :
    Calls Proofs.Try.prog 73 #[(.slice a bs.length c)] w (Ret fun v w' => ∃ b : Nat, ∃ a' : Option Addr, ∃ c' : Nat, v = (.pointer (some ⟨b, 0, none⟩)) ∧ Fr [] w w' ∧ At w' b (.cells #[(.slice a' bs.length c'), (.bool false)] 185 (0, 0)) ∧ Ro w' a' bs.length c' (bv bs) ∧ (w.heap.size ≤ b) ∧ (∀ x ∈ ob a', w.heap.size ≤ x) ∧ (b ∉ ob a')) := by
  have t0 : Fr [] w w := Fr.refl _ _
  refine enter Proofs.Try.func73 rfl Proofs.Try.ntmps73 (Nat.le_of_ble_eq_true rfl) ?_
  refine c_seq ?_
  refine c_region ?_
  refine l_v (v := (.pointer none)) (r_assign rfl) ?_
  refine l_nil ?_
  refine (x_then ?_)
  refine c_seq ?_
  refine c_region ?_
  refine l_v (v := (.slice a bs.length c)) (r_move rfl) ?_
  refine l_do rfl ?_
  refine d_call (fl := []) (cl := []) (A := [(.slice a bs.length c), (.string ⟨#[]⟩)]) (B := [(.slice a bs.length c), (.string ⟨#[]⟩)]) F.ok143 rfl (ac rfl (ac rfl an)) rfl (rbehind_c (a := a) (bs := bs) (c := c) (s := ⟨#[]⟩) (l := bs) h1 (by omega) (by decide) (by simp)) ?_
  rintro _ w1 ⟨a_3, c_4, rfl, f2, h5, p6⟩
  have z7 := f2.size
  have t8 := t0.trans0 f2
  have l10 := h5.lt
  refine l_v (v := (.agg #[(.slice a_3 bs.length c_4), (.bool false)])) (r_build (pc rfl pn) rfl) ?_
  refine l_do rfl ?_
  refine d_box (v := (.agg #[(.slice a_3 bs.length c_4), (.bool false)])) (cs := #[(.slice a_3 bs.length c_4), (.bool false)]) rfl rfl ?_
  intro w11 b12 f13 a14 h15
  have z16 := f13.size
  have t17 := t8.trans0 f13
  have l18 := h15.lt
  refine l_v (v := (.pointer (some ⟨b12, 0, none⟩))) (r_assign rfl) ?_
  refine l_nil ?_
  refine (x_then ?_)
  refine c_ret ?_
  refine p_ret (v := (.pointer (some ⟨b12, 0, none⟩))) (res1 rfl rfl) ?_
  have k19 := h5.keep0 f13
  have s20 := k19.ro
  exact ⟨b12, a_3, c_4, rfl, t17, h15, s20, (by omega), (ob_ge p6 (by omega)), (not_ob_old l10 (by omega))⟩

end Go.Sy
