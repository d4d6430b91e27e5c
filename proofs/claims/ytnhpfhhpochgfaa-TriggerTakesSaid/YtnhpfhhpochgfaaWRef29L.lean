/- The document's trigger: loading. -/
import Derived.Test.YtnhpfhhpochgfaaWRef29
namespace Go.Sy
set_option linter.unusedVariables false
set_option linter.unusedSimpArgs false

set_option maxHeartbeats 400000 in
set_option maxRecDepth 100000 in
theorem rload_none_c {w : World} {a0 : Option Addr} {c0 : Nat} {bs : List UInt8} (h1 : Ro w a0 bs.length c0 (bv bs)) (h3 : bs.length ≤ 100000) (hn : loadE bs = none) :
    Calls Proofs.Try.prog 17 #[(.slice a0 bs.length c0)] w (Ret fun v w' => v = (.tuple #[(.pointer none), (.int .i64 4)]) ∧ Fr [] w w') := by
  have lt_h1 := h1.lt
  have hcu := mCount_le (rdR false bs) 8
  have t0 : Fr [] w w := Fr.refl _ _
  refine enter Proofs.Try.func17 rfl Proofs.Try.ntmps17 (Nat.le_of_ble_eq_true rfl) ?_
  refine c_seq ?_
  refine c_region ?_
  refine l_v (v := (.pointer none)) (r_assign rfl) ?_
  refine l_v (v := (.int .i64 0)) (r_assign rfl) ?_
  refine l_nil ?_
  refine (x_then ?_)
  refine c_seq ?_
  refine c_region ?_
  refine l_v (v := (.agg #[(.slice none 0 0)])) (r_build pn rfl) ?_
  refine l_do rfl ?_
  refine d_box (v := (.agg #[(.slice none 0 0)])) (cs := #[(.slice none 0 0)]) rfl rfl ?_
  intro w1 b2 f3 a4 h5
  have z6 := f3.size
  have t7 := t0.trans0 f3
  have l8 := h5.lt
  refine l_v (v := (.pointer (some ⟨b2, 0, none⟩))) (r_assign rfl) ?_
  refine l_nil ?_
  refine (x_then ?_)
  refine c_seq ?_
  refine c_region ?_
  refine l_v (v := (.slice a0 bs.length c0)) (r_move rfl) ?_
  refine l_do rfl ?_
  have k9 := h1.keep0 f3
  have s10 := k9.sl
  refine d_call (fl := []) (cl := []) (A := [(.slice a0 bs.length c0)]) (B := [(.slice a0 bs.length c0)]) F.ok73 rfl (ac rfl an) rfl (rrNew_c (a := a0) (bs := bs) (c := c0) s10 (by omega)) ?_
  rintro _ w11 ⟨b_13, a_14, c_15, rfl, f12, h16, h17, p18, p19, p20⟩
  have z21 := f12.size
  have t22 := t7.trans0 f12
  have l23 := h16.lt
  have l24 := h17.lt
  refine l_v (v := (.pointer (some ⟨b_13, 0, none⟩))) (r_assign rfl) ?_
  refine l_nil ?_
  refine (x_then ?_)
  refine c_seq ?_
  refine c_region ?_
  refine l_v (v := (.pointer (some ⟨b_13, 0, none⟩))) (r_move rfl) ?_
  refine l_do rfl ?_
  refine d_call (fl := []) (cl := []) (A := [(.pointer (some ⟨b_13, 0, none⟩)), (.int .i64 8)]) (B := [(.pointer (some ⟨b_13, 0, none⟩)), (.int .i64 8)]) F.ok74 rfl (ac rfl (ac rfl an)) rfl (rrCount_c (b := b_13) (most := 8) (a := a_14) (l := bs) (c := c_15) (f := false) h16 h17 (by omega) (fun h => by cases h) p20) ?_
  rintro _ w25 ⟨a_27, c_28, f_29, l_30, rfl, f26, h31, h32, p33, p34, p35, p36, p37⟩
  have z38 := f26.size
  have t39 := t22.step f26 (one_new (by omega))
  have l40 := h32.lt
  have g41 := ob_age p19 p36 (by omega)
  refine l_v (v := (.int .i64 (((mCount (rdR false bs) 8).1 : Nat) : Int))) (r_assign rfl) ?_
  refine l_nil ?_
  refine (x_then ?_)
  refine c_seq ?_
  refine c_seq ?_
  refine c_region ?_
  refine l_v (v := (.int .i64 0)) (r_assign rfl) ?_
  refine l_nil ?_
  refine (x_then ?_)
  refine c_block ?_
  have k42 := h5.keep0 f12
  have k43 := k42.keep f26 (not_in1 (by omega))
  refine c_loop (fun (m : Nat) (e' : Nat → Value) (w' : World) => ∃ k : Nat, ∃ a : Option Addr, ∃ c : Nat, ∃ f : Bool, ∃ l : List UInt8, ∃ d : Option Addr, ∃ e : Nat, ∃ xs : List Ev, m = (mCount (rdR false bs) 8).1 - k ∧ e' 0 = (.slice a0 bs.length c0) ∧ e' 4 = (.pointer (some ⟨b2, 0, none⟩)) ∧ e' 5 = (.pointer (some ⟨b_13, 0, none⟩)) ∧ e' 6 = (.int .i64 (((mCount (rdR false bs) 8).1 : Nat) : Int)) ∧ e' 7 = (.int .i64 ((k : Nat) : Int)) ∧ e' 10 = (.agg #[(.slice none 0 0)]) ∧ e' 11 = (.pointer (some ⟨b2, 0, none⟩)) ∧ e' 12 = (.slice a0 bs.length c0) ∧ e' 13 = (.pointer (some ⟨b_13, 0, none⟩)) ∧ e' 14 = (.pointer (some ⟨b_13, 0, none⟩)) ∧ e' 15 = (.int .i64 (((mCount (rdR false bs) 8).1 : Nat) : Int)) ∧ Fr [b2, b_13] w25 w' ∧ At w' b_13 (.cells #[(.slice a l.length c), (.bool f)] 185 (0, 0)) ∧ Ro w' a l.length c (bv l) ∧ At w' b2 (.cells #[(.slice d xs.length e)] 36 (0, 0)) ∧ Ro w' d xs.length e (evs xs) ∧ (k ≤ (mCount (rdR false bs) 8).1) ∧ (f = true → l = []) ∧ (l.length ≤ bs.length) ∧ (Good xs) ∧ (ldP ((mCount (rdR false bs) 8).1 - k) (rdR f l) xs = ldP (mCount (rdR false bs) 8).1 (mCount (rdR false bs) 8).2 []) ∧ (∀ x ∈ ob a, x ∈ ob a_27 ∨ w25.heap.size ≤ x) ∧ (b_13 ∉ ob a) ∧ (∀ x ∈ ob d, w25.heap.size ≤ x)) ((mCount (rdR false bs) 8).1 - 0) ⟨0, a_27, c_28, f_29, l_30, none, 0, [], rfl, rfl, rfl, rfl, rfl, rfl, rfl, rfl, rfl, rfl, rfl, rfl, Fr.refl _ _, h31, h32, (by simpa using k43), Ro.nil _, (by omega), p33, (by omega), good_nil, (by rw [p34]; rfl), grow_refl, p37, (fun x hx => by cases hx)⟩ ?_
  rintro m_f46 e44 w45 ⟨k, a, c, f, l, d, e, xs, hm_f46, s47, s48, s49, s50, s51, s52, s53, s54, s55, s56, s57, f46, h58, h59, h60, h61, p62, hf, hll, hg, inv, hga, hna, hgd⟩
  have z63 := f46.size
  have t64 := t39.step f46 (app_new (one_new (by omega)) (one_new (by omega)))
  have l65 := h59.lt
  have g66 := ob_age g41 hga (by omega)
  have g67 := grow_trans p36 hga (by omega)
  have l68 := h61.lt
  have t_f46 : Fr [b2, b_13] w25 w45 := f46
  refine c_seq ?_
  refine c_seq ?_
  refine c_region ?_
  refine l_v (v := (.int .i64 ((k : Nat) : Int))) (r_move s51) ?_
  refine l_v (v := (.int .i64 (((mCount (rdR false bs) 8).1 : Nat) : Int))) (r_move s50) ?_
  refine l_v (v := (.bool (decide (((k : Nat) : Int) < (((mCount (rdR false bs) 8).1 : Nat) : Int))))) (r_lss rfl rfl) ?_
  refine l_nil ?_
  refine (x_then ?_)
  refine c_if (p := ((k : Nat) : Int) < (((mCount (rdR false bs) 8).1 : Nat) : Int)) rfl (fun c69 => ?_) (fun c69 => ?_)
  ·
    refine c_skip ?_
    refine (x_then ?_)
    refine c_seq ?_
    refine c_block ?_
    refine c_seq ?_
    refine c_region ?_
    refine l_v (v := (.pointer (some ⟨b_13, 0, none⟩))) (r_move s49) ?_
    refine l_do rfl ?_
    refine d_call (fl := []) (cl := []) (A := [(.pointer (some ⟨b_13, 0, none⟩)), (.int .i64 64)]) (B := [(.pointer (some ⟨b_13, 0, none⟩)), (.int .i64 64)]) F.ok75 rfl (ac rfl (ac rfl an)) rfl (rrStr_c (b := b_13) (most := 64) (a := a) (l := l) (c := c) (f := f) h58 h59 (by omega) hf hna) ?_
    rintro _ w70 ⟨a_72, c_73, f_74, l_75, rfl, f71, h76, h77, p78, p79, p80, p81, p82⟩
    have z83 := f71.size
    have t84 := t64.step f71 (one_new (by omega))
    have t85 := t_f46.step f71 (one_in (by simp))
    have l86 := h77.lt
    have g87 := ob_age g66 p81 (by omega)
    have g88 := grow_trans g67 p81 (by omega)
    have hf1 := p78
    have he1 := p79
    refine l_v (v := (.string (mkS (mStr (rdR f l) 64).1))) (r_assign rfl) ?_
    refine l_nil ?_
    refine (x_then ?_)
    refine c_seq ?_
    refine c_region ?_
    refine l_v (v := (.pointer (some ⟨b_13, 0, none⟩))) (r_move s49) ?_
    refine l_do rfl ?_
    refine d_call (fl := []) (cl := []) (A := [(.pointer (some ⟨b_13, 0, none⟩)), (.int .i64 2147483647)]) (B := [(.pointer (some ⟨b_13, 0, none⟩)), (.int .i64 2147483647)]) F.ok74 rfl (ac rfl (ac rfl an)) rfl (rrCount_c (b := b_13) (most := 2147483647) (a := a_72) (l := l_75) (c := c_73) (f := f_74) h76 h77 (by omega) hf1 p82) ?_
    rintro _ w89 ⟨a_91, c_92, f_93, l_94, rfl, f90, h95, h96, p97, p98, p99, p100, p101⟩
    have z102 := f90.size
    have t103 := t84.step f90 (one_new (by omega))
    have t104 := t85.step f90 (one_in (by simp))
    have l105 := h96.lt
    have g106 := ob_age g87 p100 (by omega)
    have g107 := grow_trans g88 p100 (by omega)
    have hf2 := p97
    have he2 := p98
    refine l_v (v := (.int .i64 (((mCount (rdR f_74 l_75) 2147483647).1 : Nat) : Int))) (r_assign rfl) ?_
    refine l_nil ?_
    refine (x_then ?_)
    refine c_seq ?_
    refine c_region ?_
    refine l_v (v := (.pointer (some ⟨b2, 0, none⟩))) (r_move s48) ?_
    refine l_v (v := (.string (mkS (mStr (rdR f l) 64).1))) (r_move rfl) ?_
    refine l_v (v := (.int .i64 (((mCount (rdR f_74 l_75) 2147483647).1 : Nat) : Int))) (r_move rfl) ?_
    refine l_do rfl ?_
    have k108 := h60.keep f71 (not_in1 (by omega))
    have k109 := k108.keep f90 (not_in1 (by omega))
    have k110 := h61.keep f71 (ob_not1 (not_ob_new hgd (by omega)))
    have k111 := k110.keep f90 (ob_not1 (not_ob_new hgd (by omega)))
    refine d_call (fl := []) (cl := []) (A := [(.pointer (some ⟨b2, 0, none⟩)), (.string (mkS (mStr (rdR f l) 64).1)), (.int .i64 (((mCount (rdR f_74 l_75) 2147483647).1 : Nat) : Int))]) (B := [(.pointer (some ⟨b2, 0, none⟩)), (.string (mkS (mStr (rdR f l) 64).1)), (.int .i64 (((mCount (rdR f_74 l_75) 2147483647).1 : Nat) : Int))]) F.ok35 rfl (ac rfl (ac rfl (ac rfl an))) rfl (rTake_c (b := b2) (id := mkS (mStr (rdR f l) 64).1) (p := (((mCount (rdR f_74 l_75) 2147483647).1 : Nat) : Int)) (a := d) (xs := xs) (c := e) k109 k111 hg.1 (by rw [mkS_size]; have := rs_len f l 64; omega) (not_ob_new hgd (by omega))) ?_
    rintro _ w112 ⟨a_114, c_115, rfl, f113, h116, h117, p118, p119⟩
    have z120 := f113.size
    have t121 := t103.step f113 (one_new (by omega))
    have t122 := t104.step f113 (one_in (by simp))
    have l123 := h117.lt
    have g124 := ob_age hgd p118 (by omega)
    refine l_v (v := (.bool (decide ((takeC xs (mkS (mStr (rdR f l) 64).1) (((mCount (rdR f_74 l_75) 2147483647).1 : Nat) : Int)) ≠ 0)))) (r_neq rfl rfl) ?_
    refine l_nil ?_
    refine (x_then ?_)
    refine c_if (p := (takeC xs (mkS (mStr (rdR f l) 64).1) (((mCount (rdR f_74 l_75) 2147483647).1 : Nat) : Int)) ≠ 0) rfl (fun c125 => ?_) (fun c125 => ?_)
    ·
      refine c_seq ?_
      refine c_region ?_
      refine l_v (v := (.pointer none)) (r_assign rfl) ?_
      refine l_v (v := (.int .i64 4)) (r_assign rfl) ?_
      refine l_nil ?_
      refine (x_then ?_)
      refine c_ret ?_
      refine (x_blk_r (x_then_r (x_then_r (x_blk_r (x_then_r ?_)))))
      refine p_ret (v := (.tuple #[(.pointer none), (.int .i64 4)])) (res2 rfl rfl rfl) ?_
      exact ⟨rfl, t121⟩
    ·
      refine c_skip ?_
      refine (x_blk (x_then ?_))
      refine c_region ?_
      refine l_v (v := (.int .i64 ((k : Nat) : Int))) (r_move s51) ?_
      refine l_v (v := (.int .i64 ((k + 1 : Nat) : Int))) (r_add rfl rfl (w64 (by omega) (by omega) (by omega))) ?_
      refine l_v (v := (.int .i64 ((k + 1 : Nat) : Int))) (r_assign rfl) ?_
      refine l_nil ?_
      refine (x_then ?_)
      have k126 := h95.keep f113 (not_in1 (by omega))
      have k127 := h96.keep f113 (ob_not1 (not_ob_new g106 (by omega)))
      exact ⟨_, _, (by omega), rfl, k + 1, a_91, c_92, f_93, l_94, a_114, c_115, (takeL xs (mkS (mStr (rdR f l) 64).1) (((mCount (rdR f_74 l_75) 2147483647).1 : Nat) : Int)), rfl, s47, s48, s49, s50, rfl, s52, s53, s54, s55, s56, s57, t122, k126, k127, h116, h117, (by omega), hf2, (by omega), (good_take hg), (by have h0 := Classical.not_not.1 c125; rw [he1] at h0; rw [he2, he1, ← inv]; exact (ld_step (N := (mCount (rdR false bs) 8).1) (k := k) (by omega) h0).symm), (grow_trans (grow_trans (grow_trans grow_refl hga (by omega)) p81 (by omega)) p100 (by omega)), p101, (ob_ge g124 (by omega))⟩
  ·
    refine c_exit ?_
    refine (x_then_x (x_then_x (x_blk_hit (x_then ?_))))
    refine c_seq ?_
    refine c_seq ?_
    refine f_start (masks := [0, 1, 3, 7, 15, 31, 63, 15, 143, 511, 1023]) (F := Fs []) #[false, false, false, false, false, false, false, false, false, false, false] F.mixed rfl rfl (by kernel_rfl) ?_
    intro w128 f129 r130
    have z131 := f129.size
    have t132 := t64.trans0 f129
    have t133 := t_f46.trans0 f129
    refine f_take (i := 0) (v := (.pointer (some ⟨b_13, 0, none⟩))) #[true, false, false, false, false, false, false, false, false, false, false] r130 rfl (by kernel_rfl) (fun _ _ _ h => h) rfl (fs_none rfl) (fun w hF => r_move s49) ?_
    refine f_one (i := 1) #[true, true, false, false, false, false, false, false, false, false, false] rfl (by kernel_rfl) rfl ?_
    have k134 := h58.keep0 f129
    refine d_call (fl := []) (cl := []) (A := [(.pointer (some ⟨b_13, 0, none⟩))]) (B := [(.pointer (some ⟨b_13, 0, none⟩))]) F.ok76 rfl (ac rfl an) rfl (rrDone_c (b := b_13) (a := a) (l := l) (c := c) (f := f) k134) ?_
    rintro _ w135 ⟨rfl, f136⟩
    have z137 := f136.size
    have t138 := t132.trans0 f136
    have t139 := t133.trans0 f136
    refine ⟨(pres_all (by kernel_rfl)), ?_⟩
    refine f_take (i := 2) (v := (.bool (decide (¬ (rdR f l = some []))))) #[true, true, true, false, false, false, false, false, false, false, false] r130 rfl (by kernel_rfl) (fun _ _ _ h => h) rfl (fs_none rfl) (fun w hF => r_notP rfl) ?_
    refine f_take (i := 3) (v := (.bool (decide (¬ (rdR f l = some []))))) #[true, true, true, true, false, false, false, false, false, false, false] r130 rfl (by kernel_rfl) (fun _ _ _ h => h) rfl (fs_none rfl) (fun w hF => r_move rfl) ?_
    refine f_em (p := ¬ (rdR f l = some [])) ?_ ?_
    · intro c140
      refine f_skip (i := 4) #[true, true, true, true, true, false, false, false, false, false, false] r130 rfl (by kernel_rfl) (fun _ _ _ h => h) (wanted_not rfl rfl (bd rfl c140) (by decide)) (fs_none rfl) ?_
      refine f_skip (i := 5) #[true, true, true, true, true, true, false, false, false, false, false] r130 rfl (by kernel_rfl) (fun _ _ _ h => h) (wanted_not rfl rfl (bd rfl c140) (by decide)) (fs_none rfl) ?_
      refine f_skip (i := 6) #[true, true, true, true, true, true, true, false, false, false, false] r130 rfl (by kernel_rfl) (fun _ _ _ h => h) (wanted_not rfl rfl (bd rfl c140) (by decide)) (fs_none rfl) ?_
      refine f_skip (i := 7) #[true, true, true, true, true, true, true, true, false, false, false] r130 rfl (by kernel_rfl) (fun _ _ _ h => h) (wanted_not rfl rfl (bd rfl c140) (by decide)) (fs_none rfl) ?_
      refine f_skip (i := 8) #[true, true, true, true, true, true, true, true, true, false, false] r130 rfl (by kernel_rfl) (fun _ _ _ h => h) (wanted_not rfl rfl (bd rfl c140) (by decide)) (fs_none rfl) ?_
      refine f_skip (i := 9) #[true, true, true, true, true, true, true, true, true, true, false] r130 rfl (by kernel_rfl) (fun _ _ _ h => h) (wanted_not rfl rfl (bd rfl c140) (by decide)) (fs_none rfl) ?_
      refine f_take (i := 10) (v := (.bool true)) #[true, true, true, true, true, true, true, true, true, true, true] r130 rfl (by kernel_rfl) (fun _ _ _ h => h) rfl (fs_none rfl) (fun w hF => r_pick_t (bd rfl c140) rfl) ?_
      refine f_done (by kernel_rfl) ?_
      refine (x_then ?_)
      refine c_true rfl ?_
      refine c_seq ?_
      refine c_region ?_
      refine l_v (v := (.pointer none)) (r_assign rfl) ?_
      refine l_v (v := (.int .i64 4)) (r_assign rfl) ?_
      refine l_nil ?_
      refine (x_then ?_)
      refine c_ret ?_
      refine (x_then_r ?_)
      refine p_ret (v := (.tuple #[(.pointer none), (.int .i64 4)])) (res2 rfl rfl rfl) ?_
      exact ⟨rfl, t138⟩
    · intro c140
      refine f_take (i := 4) (v := (.pointer (some ⟨b2, 0, none⟩))) #[true, true, true, true, true, false, false, false, false, false, false] r130 rfl (by kernel_rfl) (fun _ _ _ h => h) (wanted_run rfl rfl (bn rfl c140)) (fs_none rfl) (fun w hF => r_move s48) ?_
      refine f_take (i := 7) (v := (.slice a0 bs.length c0)) #[true, true, true, true, true, false, false, true, false, false, false] r130 rfl (by kernel_rfl) (fun _ _ _ h => h) (wanted_run rfl rfl (bn rfl c140)) (fs_none rfl) (fun w hF => r_move s47) ?_
      have k141 := s10.keep0 f12
      have k142 := k141.keep f26 (ob_not1 (not_ob_old lt_h1 (by omega)))
      have k143 := k142.keep f46 (ob_app (ob_not1 (not_ob_old lt_h1 (by omega))) (ob_not1 (not_ob_old lt_h1 (by omega))))
      have k144 := k143.keep0 f129
      have k145 := k144.keep0 f136
      refine f_many [5, 8] (by kernel_rfl) ?_
      refine each_cons #[true, true, true, true, true, true, false, true, false, false, false] rfl rfl (wanted_run rfl rfl (bn rfl c140)) ?_ ?_
      ·
        have k146 := h60.keep0 f129
        have k147 := k146.keep0 f136
        have k148 := h61.keep0 f129
        have k149 := k148.keep0 f136
        refine d_call (fl := []) (cl := []) (A := [(.pointer (some ⟨b2, 0, none⟩))]) (B := [(.pointer (some ⟨b2, 0, none⟩))]) F.ok39 rfl (ac rfl an) rfl (rBytes_c (b := b2) (a := d) (xs := xs) (c := e) k147 k149 hg) ?_
        rintro _ w150 ⟨a_152, c_153, rfl, f151, h154, p155⟩
        have z156 := f151.size
        have t157 := t138.trans0 f151
        have t158 := t139.trans0 f151
        have l159 := h154.lt
        refine ⟨(pres_all (by kernel_rfl)), ?_⟩
        have s160 := h154.sl
        have k161 := k145.keep0 f151
        refine f_many [6, 8] (by kernel_rfl) ?_
        refine each_cons #[true, true, true, true, true, true, true, true, false, false, false] rfl rfl (wanted_run rfl rfl (bn rfl c140)) ?_ ?_
        ·
          refine d_quiet (v := (.string (mkS (evBytes xs)))) rfl (r_bytes (bs := evBytes xs) Proofs.Try.underlying22 Proofs.Try.underlying5 Proofs.Try.underlying9 rfl s160 (by first | rfl | omega | (simp; done) | (simp; omega))) ?_
          refine ⟨(pres_all (by kernel_rfl)), ?_⟩
          refine f_one (i := 8) #[true, true, true, true, true, true, true, true, true, false, false] rfl (by kernel_rfl) (wanted_run rfl rfl (bn rfl c140)) ?_
          refine d_quiet (v := (.string (mkS bs))) rfl (r_bytes (bs := bs) Proofs.Try.underlying22 Proofs.Try.underlying5 Proofs.Try.underlying9 rfl k161 (by first | rfl | omega | (simp; done) | (simp; omega))) ?_
          refine ⟨(pres_all (by kernel_rfl)), ?_⟩
          refine f_take (i := 9) (v := (.bool (!((mkS (evBytes xs)).toList == (mkS bs).toList)))) #[true, true, true, true, true, true, true, true, true, true, false] r130 rfl (by kernel_rfl) (fun _ _ _ h => h) (wanted_run rfl rfl (bn rfl c140)) (fs_none rfl) (fun w hF => r_neqS rfl rfl) ?_
          refine f_take (i := 10) (v := (.bool (!((mkS (evBytes xs)).toList == (mkS bs).toList)))) #[true, true, true, true, true, true, true, true, true, true, true] r130 rfl (by kernel_rfl) (fun _ _ _ h => h) rfl (fs_none rfl) (fun w hF => r_pick_f (bn rfl c140) rfl) ?_
          refine f_done (by kernel_rfl) ?_
          refine (x_then ?_)
          refine c_split (t := (!((mkS (evBytes xs)).toList == (mkS bs).toList))) rfl (fun c162 => ?_) (fun c162 => ?_)
          ·
            refine c_seq ?_
            refine c_region ?_
            refine l_v (v := (.pointer none)) (r_assign rfl) ?_
            refine l_v (v := (.int .i64 4)) (r_assign rfl) ?_
            refine l_nil ?_
            refine (x_then ?_)
            refine c_ret ?_
            refine (x_then_r ?_)
            refine p_ret (v := (.tuple #[(.pointer none), (.int .i64 4)])) (res2 rfl rfl rfl) ?_
            exact ⟨rfl, t157⟩
          ·
            refine c_skip ?_
            refine (x_then ?_)
            refine c_seq ?_
            refine c_region ?_
            refine l_v (v := (.pointer (some ⟨b2, 0, none⟩))) (r_move s48) ?_
            refine l_v (v := (.pointer (some ⟨b2, 0, none⟩))) (r_assign rfl) ?_
            refine l_v (v := (.int .i64 0)) (r_assign rfl) ?_
            refine l_nil ?_
            refine (x_then ?_)
            refine c_ret ?_
            refine p_ret (v := (.tuple #[(.pointer (some ⟨b2, 0, none⟩)), (.int .i64 0)])) (res2 rfl rfl rfl) ?_
            exfalso; have e := ldr_end (bs := bs) (by omega) inv; rw [if_pos (by first | assumption | (have h := c140; exact Classical.not_not.1 h)), hn] at e; cases e
        refine each_cons #[true, true, true, true, true, true, false, true, true, false, false] rfl rfl (wanted_run rfl rfl (bn rfl c140)) ?_ ?_
        ·
          refine d_quiet (v := (.string (mkS bs))) rfl (r_bytes (bs := bs) Proofs.Try.underlying22 Proofs.Try.underlying5 Proofs.Try.underlying9 rfl k161 (by first | rfl | omega | (simp; done) | (simp; omega))) ?_
          refine ⟨(pres_all (by kernel_rfl)), ?_⟩
          refine f_one (i := 6) #[true, true, true, true, true, true, true, true, true, false, false] rfl (by kernel_rfl) (wanted_run rfl rfl (bn rfl c140)) ?_
          refine d_quiet (v := (.string (mkS (evBytes xs)))) rfl (r_bytes (bs := evBytes xs) Proofs.Try.underlying22 Proofs.Try.underlying5 Proofs.Try.underlying9 rfl s160 (by first | rfl | omega | (simp; done) | (simp; omega))) ?_
          refine ⟨(pres_all (by kernel_rfl)), ?_⟩
          refine f_take (i := 9) (v := (.bool (!((mkS (evBytes xs)).toList == (mkS bs).toList)))) #[true, true, true, true, true, true, true, true, true, true, false] r130 rfl (by kernel_rfl) (fun _ _ _ h => h) (wanted_run rfl rfl (bn rfl c140)) (fs_none rfl) (fun w hF => r_neqS rfl rfl) ?_
          refine f_take (i := 10) (v := (.bool (!((mkS (evBytes xs)).toList == (mkS bs).toList)))) #[true, true, true, true, true, true, true, true, true, true, true] r130 rfl (by kernel_rfl) (fun _ _ _ h => h) rfl (fs_none rfl) (fun w hF => r_pick_f (bn rfl c140) rfl) ?_
          refine f_done (by kernel_rfl) ?_
          refine (x_then ?_)
          refine c_split (t := (!((mkS (evBytes xs)).toList == (mkS bs).toList))) rfl (fun c163 => ?_) (fun c163 => ?_)
          ·
            refine c_seq ?_
            refine c_region ?_
            refine l_v (v := (.pointer none)) (r_assign rfl) ?_
            refine l_v (v := (.int .i64 4)) (r_assign rfl) ?_
            refine l_nil ?_
            refine (x_then ?_)
            refine c_ret ?_
            refine (x_then_r ?_)
            refine p_ret (v := (.tuple #[(.pointer none), (.int .i64 4)])) (res2 rfl rfl rfl) ?_
            exact ⟨rfl, t157⟩
          ·
            refine c_skip ?_
            refine (x_then ?_)
            refine c_seq ?_
            refine c_region ?_
            refine l_v (v := (.pointer (some ⟨b2, 0, none⟩))) (r_move s48) ?_
            refine l_v (v := (.pointer (some ⟨b2, 0, none⟩))) (r_assign rfl) ?_
            refine l_v (v := (.int .i64 0)) (r_assign rfl) ?_
            refine l_nil ?_
            refine (x_then ?_)
            refine c_ret ?_
            refine p_ret (v := (.tuple #[(.pointer (some ⟨b2, 0, none⟩)), (.int .i64 0)])) (res2 rfl rfl rfl) ?_
            exfalso; have e := ldr_end (bs := bs) (by omega) inv; rw [if_pos (by first | assumption | (have h := c140; exact Classical.not_not.1 h)), hn] at e; cases e
        exact each_nil
      refine each_cons #[true, true, true, true, true, false, false, true, true, false, false] rfl rfl (wanted_run rfl rfl (bn rfl c140)) ?_ ?_
      ·
        refine d_quiet (v := (.string (mkS bs))) rfl (r_bytes (bs := bs) Proofs.Try.underlying22 Proofs.Try.underlying5 Proofs.Try.underlying9 rfl k145 (by first | rfl | omega | (simp; done) | (simp; omega))) ?_
        refine ⟨(pres_all (by kernel_rfl)), ?_⟩
        refine f_one (i := 5) #[true, true, true, true, true, true, false, true, true, false, false] rfl (by kernel_rfl) (wanted_run rfl rfl (bn rfl c140)) ?_
        have k164 := h60.keep0 f129
        have k165 := k164.keep0 f136
        have k166 := h61.keep0 f129
        have k167 := k166.keep0 f136
        refine d_call (fl := []) (cl := []) (A := [(.pointer (some ⟨b2, 0, none⟩))]) (B := [(.pointer (some ⟨b2, 0, none⟩))]) F.ok39 rfl (ac rfl an) rfl (rBytes_c (b := b2) (a := d) (xs := xs) (c := e) k165 k167 hg) ?_
        rintro _ w168 ⟨a_170, c_171, rfl, f169, h172, p173⟩
        have z174 := f169.size
        have t175 := t138.trans0 f169
        have t176 := t139.trans0 f169
        have l177 := h172.lt
        refine ⟨(pres_all (by kernel_rfl)), ?_⟩
        have s178 := h172.sl
        refine f_one (i := 6) #[true, true, true, true, true, true, true, true, true, false, false] rfl (by kernel_rfl) (wanted_run rfl rfl (bn rfl c140)) ?_
        refine d_quiet (v := (.string (mkS (evBytes xs)))) rfl (r_bytes (bs := evBytes xs) Proofs.Try.underlying22 Proofs.Try.underlying5 Proofs.Try.underlying9 rfl s178 (by first | rfl | omega | (simp; done) | (simp; omega))) ?_
        refine ⟨(pres_all (by kernel_rfl)), ?_⟩
        refine f_take (i := 9) (v := (.bool (!((mkS (evBytes xs)).toList == (mkS bs).toList)))) #[true, true, true, true, true, true, true, true, true, true, false] r130 rfl (by kernel_rfl) (fun _ _ _ h => h) (wanted_run rfl rfl (bn rfl c140)) (fs_none rfl) (fun w hF => r_neqS rfl rfl) ?_
        refine f_take (i := 10) (v := (.bool (!((mkS (evBytes xs)).toList == (mkS bs).toList)))) #[true, true, true, true, true, true, true, true, true, true, true] r130 rfl (by kernel_rfl) (fun _ _ _ h => h) rfl (fs_none rfl) (fun w hF => r_pick_f (bn rfl c140) rfl) ?_
        refine f_done (by kernel_rfl) ?_
        refine (x_then ?_)
        refine c_split (t := (!((mkS (evBytes xs)).toList == (mkS bs).toList))) rfl (fun c179 => ?_) (fun c179 => ?_)
        ·
          refine c_seq ?_
          refine c_region ?_
          refine l_v (v := (.pointer none)) (r_assign rfl) ?_
          refine l_v (v := (.int .i64 4)) (r_assign rfl) ?_
          refine l_nil ?_
          refine (x_then ?_)
          refine c_ret ?_
          refine (x_then_r ?_)
          refine p_ret (v := (.tuple #[(.pointer none), (.int .i64 4)])) (res2 rfl rfl rfl) ?_
          exact ⟨rfl, t175⟩
        ·
          refine c_skip ?_
          refine (x_then ?_)
          refine c_seq ?_
          refine c_region ?_
          refine l_v (v := (.pointer (some ⟨b2, 0, none⟩))) (r_move s48) ?_
          refine l_v (v := (.pointer (some ⟨b2, 0, none⟩))) (r_assign rfl) ?_
          refine l_v (v := (.int .i64 0)) (r_assign rfl) ?_
          refine l_nil ?_
          refine (x_then ?_)
          refine c_ret ?_
          refine p_ret (v := (.tuple #[(.pointer (some ⟨b2, 0, none⟩)), (.int .i64 0)])) (res2 rfl rfl rfl) ?_
          exfalso; have e := ldr_end (bs := bs) (by omega) inv; rw [if_pos (by first | assumption | (have h := c140; exact Classical.not_not.1 h)), hn] at e; cases e
      exact each_nil

set_option maxHeartbeats 400000 in
set_option maxRecDepth 100000 in
theorem rload_some_c {w : World} {a0 : Option Addr} {c0 : Nat} {bs : List UInt8} {ys : List Ev} (h1 : Ro w a0 bs.length c0 (bv bs)) (h3 : bs.length ≤ 100000) (hn : loadE bs = some ys) :
    Calls Proofs.Try.prog 17 #[(.slice a0 bs.length c0)] w (Ret fun v w' => ∃ b : Nat, ∃ a : Option Addr, ∃ c : Nat, v = (.tuple #[(.pointer (some ⟨b, 0, none⟩)), (.int .i64 0)]) ∧ Fr [] w w' ∧ At w' b (.cells #[(.slice a ys.length c)] 36 (0, 0)) ∧ Ro w' a ys.length c (evs ys) ∧ (w.heap.size ≤ b) ∧ (∀ x ∈ ob a, w.heap.size ≤ x) ∧ (Good ys)) := by
  have lt_h1 := h1.lt
  have hcu := mCount_le (rdR false bs) 8
  have t0 : Fr [] w w := Fr.refl _ _
  refine enter Proofs.Try.func17 rfl Proofs.Try.ntmps17 (Nat.le_of_ble_eq_true rfl) ?_
  refine c_seq ?_
  refine c_region ?_
  refine l_v (v := (.pointer none)) (r_assign rfl) ?_
  refine l_v (v := (.int .i64 0)) (r_assign rfl) ?_
  refine l_nil ?_
  refine (x_then ?_)
  refine c_seq ?_
  refine c_region ?_
  refine l_v (v := (.agg #[(.slice none 0 0)])) (r_build pn rfl) ?_
  refine l_do rfl ?_
  refine d_box (v := (.agg #[(.slice none 0 0)])) (cs := #[(.slice none 0 0)]) rfl rfl ?_
  intro w1 b2 f3 a4 h5
  have z6 := f3.size
  have t7 := t0.trans0 f3
  have l8 := h5.lt
  refine l_v (v := (.pointer (some ⟨b2, 0, none⟩))) (r_assign rfl) ?_
  refine l_nil ?_
  refine (x_then ?_)
  refine c_seq ?_
  refine c_region ?_
  refine l_v (v := (.slice a0 bs.length c0)) (r_move rfl) ?_
  refine l_do rfl ?_
  have k9 := h1.keep0 f3
  have s10 := k9.sl
  refine d_call (fl := []) (cl := []) (A := [(.slice a0 bs.length c0)]) (B := [(.slice a0 bs.length c0)]) F.ok73 rfl (ac rfl an) rfl (rrNew_c (a := a0) (bs := bs) (c := c0) s10 (by omega)) ?_
  rintro _ w11 ⟨b_13, a_14, c_15, rfl, f12, h16, h17, p18, p19, p20⟩
  have z21 := f12.size
  have t22 := t7.trans0 f12
  have l23 := h16.lt
  have l24 := h17.lt
  refine l_v (v := (.pointer (some ⟨b_13, 0, none⟩))) (r_assign rfl) ?_
  refine l_nil ?_
  refine (x_then ?_)
  refine c_seq ?_
  refine c_region ?_
  refine l_v (v := (.pointer (some ⟨b_13, 0, none⟩))) (r_move rfl) ?_
  refine l_do rfl ?_
  refine d_call (fl := []) (cl := []) (A := [(.pointer (some ⟨b_13, 0, none⟩)), (.int .i64 8)]) (B := [(.pointer (some ⟨b_13, 0, none⟩)), (.int .i64 8)]) F.ok74 rfl (ac rfl (ac rfl an)) rfl (rrCount_c (b := b_13) (most := 8) (a := a_14) (l := bs) (c := c_15) (f := false) h16 h17 (by omega) (fun h => by cases h) p20) ?_
  rintro _ w25 ⟨a_27, c_28, f_29, l_30, rfl, f26, h31, h32, p33, p34, p35, p36, p37⟩
  have z38 := f26.size
  have t39 := t22.step f26 (one_new (by omega))
  have l40 := h32.lt
  have g41 := ob_age p19 p36 (by omega)
  refine l_v (v := (.int .i64 (((mCount (rdR false bs) 8).1 : Nat) : Int))) (r_assign rfl) ?_
  refine l_nil ?_
  refine (x_then ?_)
  refine c_seq ?_
  refine c_seq ?_
  refine c_region ?_
  refine l_v (v := (.int .i64 0)) (r_assign rfl) ?_
  refine l_nil ?_
  refine (x_then ?_)
  refine c_block ?_
  have k42 := h5.keep0 f12
  have k43 := k42.keep f26 (not_in1 (by omega))
  refine c_loop (fun (m : Nat) (e' : Nat → Value) (w' : World) => ∃ k : Nat, ∃ a : Option Addr, ∃ c : Nat, ∃ f : Bool, ∃ l : List UInt8, ∃ d : Option Addr, ∃ e : Nat, ∃ xs : List Ev, m = (mCount (rdR false bs) 8).1 - k ∧ e' 0 = (.slice a0 bs.length c0) ∧ e' 4 = (.pointer (some ⟨b2, 0, none⟩)) ∧ e' 5 = (.pointer (some ⟨b_13, 0, none⟩)) ∧ e' 6 = (.int .i64 (((mCount (rdR false bs) 8).1 : Nat) : Int)) ∧ e' 7 = (.int .i64 ((k : Nat) : Int)) ∧ e' 10 = (.agg #[(.slice none 0 0)]) ∧ e' 11 = (.pointer (some ⟨b2, 0, none⟩)) ∧ e' 12 = (.slice a0 bs.length c0) ∧ e' 13 = (.pointer (some ⟨b_13, 0, none⟩)) ∧ e' 14 = (.pointer (some ⟨b_13, 0, none⟩)) ∧ e' 15 = (.int .i64 (((mCount (rdR false bs) 8).1 : Nat) : Int)) ∧ Fr [b2, b_13] w25 w' ∧ At w' b_13 (.cells #[(.slice a l.length c), (.bool f)] 185 (0, 0)) ∧ Ro w' a l.length c (bv l) ∧ At w' b2 (.cells #[(.slice d xs.length e)] 36 (0, 0)) ∧ Ro w' d xs.length e (evs xs) ∧ (k ≤ (mCount (rdR false bs) 8).1) ∧ (f = true → l = []) ∧ (l.length ≤ bs.length) ∧ (Good xs) ∧ (ldP ((mCount (rdR false bs) 8).1 - k) (rdR f l) xs = ldP (mCount (rdR false bs) 8).1 (mCount (rdR false bs) 8).2 []) ∧ (∀ x ∈ ob a, x ∈ ob a_27 ∨ w25.heap.size ≤ x) ∧ (b_13 ∉ ob a) ∧ (∀ x ∈ ob d, w25.heap.size ≤ x)) ((mCount (rdR false bs) 8).1 - 0) ⟨0, a_27, c_28, f_29, l_30, none, 0, [], rfl, rfl, rfl, rfl, rfl, rfl, rfl, rfl, rfl, rfl, rfl, rfl, Fr.refl _ _, h31, h32, (by simpa using k43), Ro.nil _, (by omega), p33, (by omega), good_nil, (by rw [p34]; rfl), grow_refl, p37, (fun x hx => by cases hx)⟩ ?_
  rintro m_f46 e44 w45 ⟨k, a, c, f, l, d, e, xs, hm_f46, s47, s48, s49, s50, s51, s52, s53, s54, s55, s56, s57, f46, h58, h59, h60, h61, p62, hf, hll, hg, inv, hga, hna, hgd⟩
  have z63 := f46.size
  have t64 := t39.step f46 (app_new (one_new (by omega)) (one_new (by omega)))
  have l65 := h59.lt
  have g66 := ob_age g41 hga (by omega)
  have g67 := grow_trans p36 hga (by omega)
  have l68 := h61.lt
  have t_f46 : Fr [b2, b_13] w25 w45 := f46
  refine c_seq ?_
  refine c_seq ?_
  refine c_region ?_
  refine l_v (v := (.int .i64 ((k : Nat) : Int))) (r_move s51) ?_
  refine l_v (v := (.int .i64 (((mCount (rdR false bs) 8).1 : Nat) : Int))) (r_move s50) ?_
  refine l_v (v := (.bool (decide (((k : Nat) : Int) < (((mCount (rdR false bs) 8).1 : Nat) : Int))))) (r_lss rfl rfl) ?_
  refine l_nil ?_
  refine (x_then ?_)
  refine c_if (p := ((k : Nat) : Int) < (((mCount (rdR false bs) 8).1 : Nat) : Int)) rfl (fun c69 => ?_) (fun c69 => ?_)
  ·
    refine c_skip ?_
    refine (x_then ?_)
    refine c_seq ?_
    refine c_block ?_
    refine c_seq ?_
    refine c_region ?_
    refine l_v (v := (.pointer (some ⟨b_13, 0, none⟩))) (r_move s49) ?_
    refine l_do rfl ?_
    refine d_call (fl := []) (cl := []) (A := [(.pointer (some ⟨b_13, 0, none⟩)), (.int .i64 64)]) (B := [(.pointer (some ⟨b_13, 0, none⟩)), (.int .i64 64)]) F.ok75 rfl (ac rfl (ac rfl an)) rfl (rrStr_c (b := b_13) (most := 64) (a := a) (l := l) (c := c) (f := f) h58 h59 (by omega) hf hna) ?_
    rintro _ w70 ⟨a_72, c_73, f_74, l_75, rfl, f71, h76, h77, p78, p79, p80, p81, p82⟩
    have z83 := f71.size
    have t84 := t64.step f71 (one_new (by omega))
    have t85 := t_f46.step f71 (one_in (by simp))
    have l86 := h77.lt
    have g87 := ob_age g66 p81 (by omega)
    have g88 := grow_trans g67 p81 (by omega)
    have hf1 := p78
    have he1 := p79
    refine l_v (v := (.string (mkS (mStr (rdR f l) 64).1))) (r_assign rfl) ?_
    refine l_nil ?_
    refine (x_then ?_)
    refine c_seq ?_
    refine c_region ?_
    refine l_v (v := (.pointer (some ⟨b_13, 0, none⟩))) (r_move s49) ?_
    refine l_do rfl ?_
    refine d_call (fl := []) (cl := []) (A := [(.pointer (some ⟨b_13, 0, none⟩)), (.int .i64 2147483647)]) (B := [(.pointer (some ⟨b_13, 0, none⟩)), (.int .i64 2147483647)]) F.ok74 rfl (ac rfl (ac rfl an)) rfl (rrCount_c (b := b_13) (most := 2147483647) (a := a_72) (l := l_75) (c := c_73) (f := f_74) h76 h77 (by omega) hf1 p82) ?_
    rintro _ w89 ⟨a_91, c_92, f_93, l_94, rfl, f90, h95, h96, p97, p98, p99, p100, p101⟩
    have z102 := f90.size
    have t103 := t84.step f90 (one_new (by omega))
    have t104 := t85.step f90 (one_in (by simp))
    have l105 := h96.lt
    have g106 := ob_age g87 p100 (by omega)
    have g107 := grow_trans g88 p100 (by omega)
    have hf2 := p97
    have he2 := p98
    refine l_v (v := (.int .i64 (((mCount (rdR f_74 l_75) 2147483647).1 : Nat) : Int))) (r_assign rfl) ?_
    refine l_nil ?_
    refine (x_then ?_)
    refine c_seq ?_
    refine c_region ?_
    refine l_v (v := (.pointer (some ⟨b2, 0, none⟩))) (r_move s48) ?_
    refine l_v (v := (.string (mkS (mStr (rdR f l) 64).1))) (r_move rfl) ?_
    refine l_v (v := (.int .i64 (((mCount (rdR f_74 l_75) 2147483647).1 : Nat) : Int))) (r_move rfl) ?_
    refine l_do rfl ?_
    have k108 := h60.keep f71 (not_in1 (by omega))
    have k109 := k108.keep f90 (not_in1 (by omega))
    have k110 := h61.keep f71 (ob_not1 (not_ob_new hgd (by omega)))
    have k111 := k110.keep f90 (ob_not1 (not_ob_new hgd (by omega)))
    refine d_call (fl := []) (cl := []) (A := [(.pointer (some ⟨b2, 0, none⟩)), (.string (mkS (mStr (rdR f l) 64).1)), (.int .i64 (((mCount (rdR f_74 l_75) 2147483647).1 : Nat) : Int))]) (B := [(.pointer (some ⟨b2, 0, none⟩)), (.string (mkS (mStr (rdR f l) 64).1)), (.int .i64 (((mCount (rdR f_74 l_75) 2147483647).1 : Nat) : Int))]) F.ok35 rfl (ac rfl (ac rfl (ac rfl an))) rfl (rTake_c (b := b2) (id := mkS (mStr (rdR f l) 64).1) (p := (((mCount (rdR f_74 l_75) 2147483647).1 : Nat) : Int)) (a := d) (xs := xs) (c := e) k109 k111 hg.1 (by rw [mkS_size]; have := rs_len f l 64; omega) (not_ob_new hgd (by omega))) ?_
    rintro _ w112 ⟨a_114, c_115, rfl, f113, h116, h117, p118, p119⟩
    have z120 := f113.size
    have t121 := t103.step f113 (one_new (by omega))
    have t122 := t104.step f113 (one_in (by simp))
    have l123 := h117.lt
    have g124 := ob_age hgd p118 (by omega)
    refine l_v (v := (.bool (decide ((takeC xs (mkS (mStr (rdR f l) 64).1) (((mCount (rdR f_74 l_75) 2147483647).1 : Nat) : Int)) ≠ 0)))) (r_neq rfl rfl) ?_
    refine l_nil ?_
    refine (x_then ?_)
    refine c_if (p := (takeC xs (mkS (mStr (rdR f l) 64).1) (((mCount (rdR f_74 l_75) 2147483647).1 : Nat) : Int)) ≠ 0) rfl (fun c125 => ?_) (fun c125 => ?_)
    ·
      refine c_seq ?_
      refine c_region ?_
      refine l_v (v := (.pointer none)) (r_assign rfl) ?_
      refine l_v (v := (.int .i64 4)) (r_assign rfl) ?_
      refine l_nil ?_
      refine (x_then ?_)
      refine c_ret ?_
      refine (x_blk_r (x_then_r (x_then_r (x_blk_r (x_then_r ?_)))))
      refine p_ret (v := (.tuple #[(.pointer none), (.int .i64 4)])) (res2 rfl rfl rfl) ?_
      exfalso; have h0 := c125; rw [he1] at h0; have e := ld_stop (N := (mCount (rdR false bs) 8).1) (k := k) (r := rdR f l) (xs := xs) (by omega) h0; rw [inv] at e; rw [ldr_stop e] at hn; cases hn
    ·
      refine c_skip ?_
      refine (x_blk (x_then ?_))
      refine c_region ?_
      refine l_v (v := (.int .i64 ((k : Nat) : Int))) (r_move s51) ?_
      refine l_v (v := (.int .i64 ((k + 1 : Nat) : Int))) (r_add rfl rfl (w64 (by omega) (by omega) (by omega))) ?_
      refine l_v (v := (.int .i64 ((k + 1 : Nat) : Int))) (r_assign rfl) ?_
      refine l_nil ?_
      refine (x_then ?_)
      have k126 := h95.keep f113 (not_in1 (by omega))
      have k127 := h96.keep f113 (ob_not1 (not_ob_new g106 (by omega)))
      exact ⟨_, _, (by omega), rfl, k + 1, a_91, c_92, f_93, l_94, a_114, c_115, (takeL xs (mkS (mStr (rdR f l) 64).1) (((mCount (rdR f_74 l_75) 2147483647).1 : Nat) : Int)), rfl, s47, s48, s49, s50, rfl, s52, s53, s54, s55, s56, s57, t122, k126, k127, h116, h117, (by omega), hf2, (by omega), (good_take hg), (by have h0 := Classical.not_not.1 c125; rw [he1] at h0; rw [he2, he1, ← inv]; exact (ld_step (N := (mCount (rdR false bs) 8).1) (k := k) (by omega) h0).symm), (grow_trans (grow_trans (grow_trans grow_refl hga (by omega)) p81 (by omega)) p100 (by omega)), p101, (ob_ge g124 (by omega))⟩
  ·
    refine c_exit ?_
    refine (x_then_x (x_then_x (x_blk_hit (x_then ?_))))
    refine c_seq ?_
    refine c_seq ?_
    refine f_start (masks := [0, 1, 3, 7, 15, 31, 63, 15, 143, 511, 1023]) (F := Fs []) #[false, false, false, false, false, false, false, false, false, false, false] F.mixed rfl rfl (by kernel_rfl) ?_
    intro w128 f129 r130
    have z131 := f129.size
    have t132 := t64.trans0 f129
    have t133 := t_f46.trans0 f129
    refine f_take (i := 0) (v := (.pointer (some ⟨b_13, 0, none⟩))) #[true, false, false, false, false, false, false, false, false, false, false] r130 rfl (by kernel_rfl) (fun _ _ _ h => h) rfl (fs_none rfl) (fun w hF => r_move s49) ?_
    refine f_one (i := 1) #[true, true, false, false, false, false, false, false, false, false, false] rfl (by kernel_rfl) rfl ?_
    have k134 := h58.keep0 f129
    refine d_call (fl := []) (cl := []) (A := [(.pointer (some ⟨b_13, 0, none⟩))]) (B := [(.pointer (some ⟨b_13, 0, none⟩))]) F.ok76 rfl (ac rfl an) rfl (rrDone_c (b := b_13) (a := a) (l := l) (c := c) (f := f) k134) ?_
    rintro _ w135 ⟨rfl, f136⟩
    have z137 := f136.size
    have t138 := t132.trans0 f136
    have t139 := t133.trans0 f136
    refine ⟨(pres_all (by kernel_rfl)), ?_⟩
    refine f_take (i := 2) (v := (.bool (decide (¬ (rdR f l = some []))))) #[true, true, true, false, false, false, false, false, false, false, false] r130 rfl (by kernel_rfl) (fun _ _ _ h => h) rfl (fs_none rfl) (fun w hF => r_notP rfl) ?_
    refine f_take (i := 3) (v := (.bool (decide (¬ (rdR f l = some []))))) #[true, true, true, true, false, false, false, false, false, false, false] r130 rfl (by kernel_rfl) (fun _ _ _ h => h) rfl (fs_none rfl) (fun w hF => r_move rfl) ?_
    refine f_em (p := ¬ (rdR f l = some [])) ?_ ?_
    · intro c140
      refine f_skip (i := 4) #[true, true, true, true, true, false, false, false, false, false, false] r130 rfl (by kernel_rfl) (fun _ _ _ h => h) (wanted_not rfl rfl (bd rfl c140) (by decide)) (fs_none rfl) ?_
      refine f_skip (i := 5) #[true, true, true, true, true, true, false, false, false, false, false] r130 rfl (by kernel_rfl) (fun _ _ _ h => h) (wanted_not rfl rfl (bd rfl c140) (by decide)) (fs_none rfl) ?_
      refine f_skip (i := 6) #[true, true, true, true, true, true, true, false, false, false, false] r130 rfl (by kernel_rfl) (fun _ _ _ h => h) (wanted_not rfl rfl (bd rfl c140) (by decide)) (fs_none rfl) ?_
      refine f_skip (i := 7) #[true, true, true, true, true, true, true, true, false, false, false] r130 rfl (by kernel_rfl) (fun _ _ _ h => h) (wanted_not rfl rfl (bd rfl c140) (by decide)) (fs_none rfl) ?_
      refine f_skip (i := 8) #[true, true, true, true, true, true, true, true, true, false, false] r130 rfl (by kernel_rfl) (fun _ _ _ h => h) (wanted_not rfl rfl (bd rfl c140) (by decide)) (fs_none rfl) ?_
      refine f_skip (i := 9) #[true, true, true, true, true, true, true, true, true, true, false] r130 rfl (by kernel_rfl) (fun _ _ _ h => h) (wanted_not rfl rfl (bd rfl c140) (by decide)) (fs_none rfl) ?_
      refine f_take (i := 10) (v := (.bool true)) #[true, true, true, true, true, true, true, true, true, true, true] r130 rfl (by kernel_rfl) (fun _ _ _ h => h) rfl (fs_none rfl) (fun w hF => r_pick_t (bd rfl c140) rfl) ?_
      refine f_done (by kernel_rfl) ?_
      refine (x_then ?_)
      refine c_true rfl ?_
      refine c_seq ?_
      refine c_region ?_
      refine l_v (v := (.pointer none)) (r_assign rfl) ?_
      refine l_v (v := (.int .i64 4)) (r_assign rfl) ?_
      refine l_nil ?_
      refine (x_then ?_)
      refine c_ret ?_
      refine (x_then_r ?_)
      refine p_ret (v := (.tuple #[(.pointer none), (.int .i64 4)])) (res2 rfl rfl rfl) ?_
      exfalso; have e := ldr_end (bs := bs) (by omega) inv; rw [if_neg (by assumption), hn] at e; cases e
    · intro c140
      refine f_take (i := 4) (v := (.pointer (some ⟨b2, 0, none⟩))) #[true, true, true, true, true, false, false, false, false, false, false] r130 rfl (by kernel_rfl) (fun _ _ _ h => h) (wanted_run rfl rfl (bn rfl c140)) (fs_none rfl) (fun w hF => r_move s48) ?_
      refine f_take (i := 7) (v := (.slice a0 bs.length c0)) #[true, true, true, true, true, false, false, true, false, false, false] r130 rfl (by kernel_rfl) (fun _ _ _ h => h) (wanted_run rfl rfl (bn rfl c140)) (fs_none rfl) (fun w hF => r_move s47) ?_
      have k141 := s10.keep0 f12
      have k142 := k141.keep f26 (ob_not1 (not_ob_old lt_h1 (by omega)))
      have k143 := k142.keep f46 (ob_app (ob_not1 (not_ob_old lt_h1 (by omega))) (ob_not1 (not_ob_old lt_h1 (by omega))))
      have k144 := k143.keep0 f129
      have k145 := k144.keep0 f136
      refine f_many [5, 8] (by kernel_rfl) ?_
      refine each_cons #[true, true, true, true, true, true, false, true, false, false, false] rfl rfl (wanted_run rfl rfl (bn rfl c140)) ?_ ?_
      ·
        have k146 := h60.keep0 f129
        have k147 := k146.keep0 f136
        have k148 := h61.keep0 f129
        have k149 := k148.keep0 f136
        refine d_call (fl := []) (cl := []) (A := [(.pointer (some ⟨b2, 0, none⟩))]) (B := [(.pointer (some ⟨b2, 0, none⟩))]) F.ok39 rfl (ac rfl an) rfl (rBytes_c (b := b2) (a := d) (xs := xs) (c := e) k147 k149 hg) ?_
        rintro _ w150 ⟨a_152, c_153, rfl, f151, h154, p155⟩
        have z156 := f151.size
        have t157 := t138.trans0 f151
        have t158 := t139.trans0 f151
        have l159 := h154.lt
        refine ⟨(pres_all (by kernel_rfl)), ?_⟩
        have s160 := h154.sl
        have k161 := k145.keep0 f151
        refine f_many [6, 8] (by kernel_rfl) ?_
        refine each_cons #[true, true, true, true, true, true, true, true, false, false, false] rfl rfl (wanted_run rfl rfl (bn rfl c140)) ?_ ?_
        ·
          refine d_quiet (v := (.string (mkS (evBytes xs)))) rfl (r_bytes (bs := evBytes xs) Proofs.Try.underlying22 Proofs.Try.underlying5 Proofs.Try.underlying9 rfl s160 (by first | rfl | omega | (simp; done) | (simp; omega))) ?_
          refine ⟨(pres_all (by kernel_rfl)), ?_⟩
          refine f_one (i := 8) #[true, true, true, true, true, true, true, true, true, false, false] rfl (by kernel_rfl) (wanted_run rfl rfl (bn rfl c140)) ?_
          refine d_quiet (v := (.string (mkS bs))) rfl (r_bytes (bs := bs) Proofs.Try.underlying22 Proofs.Try.underlying5 Proofs.Try.underlying9 rfl k161 (by first | rfl | omega | (simp; done) | (simp; omega))) ?_
          refine ⟨(pres_all (by kernel_rfl)), ?_⟩
          refine f_take (i := 9) (v := (.bool (!((mkS (evBytes xs)).toList == (mkS bs).toList)))) #[true, true, true, true, true, true, true, true, true, true, false] r130 rfl (by kernel_rfl) (fun _ _ _ h => h) (wanted_run rfl rfl (bn rfl c140)) (fs_none rfl) (fun w hF => r_neqS rfl rfl) ?_
          refine f_take (i := 10) (v := (.bool (!((mkS (evBytes xs)).toList == (mkS bs).toList)))) #[true, true, true, true, true, true, true, true, true, true, true] r130 rfl (by kernel_rfl) (fun _ _ _ h => h) rfl (fs_none rfl) (fun w hF => r_pick_f (bn rfl c140) rfl) ?_
          refine f_done (by kernel_rfl) ?_
          refine (x_then ?_)
          refine c_split (t := (!((mkS (evBytes xs)).toList == (mkS bs).toList))) rfl (fun c162 => ?_) (fun c162 => ?_)
          ·
            refine c_seq ?_
            refine c_region ?_
            refine l_v (v := (.pointer none)) (r_assign rfl) ?_
            refine l_v (v := (.int .i64 4)) (r_assign rfl) ?_
            refine l_nil ?_
            refine (x_then ?_)
            refine c_ret ?_
            refine (x_then_r ?_)
            refine p_ret (v := (.tuple #[(.pointer none), (.int .i64 4)])) (res2 rfl rfl rfl) ?_
            exfalso; have e := ldr_end (bs := bs) (by omega) inv; rw [if_pos (by simpa using c140)] at e; have e2 := load_bytes e; rw [e2] at c162; rw [mkS_beq] at c162; simp at c162
          ·
            refine c_skip ?_
            refine (x_then ?_)
            refine c_seq ?_
            refine c_region ?_
            refine l_v (v := (.pointer (some ⟨b2, 0, none⟩))) (r_move s48) ?_
            refine l_v (v := (.pointer (some ⟨b2, 0, none⟩))) (r_assign rfl) ?_
            refine l_v (v := (.int .i64 0)) (r_assign rfl) ?_
            refine l_nil ?_
            refine (x_then ?_)
            refine c_ret ?_
            refine p_ret (v := (.tuple #[(.pointer (some ⟨b2, 0, none⟩)), (.int .i64 0)])) (res2 rfl rfl rfl) ?_
            have e_ := ldr_end (bs := bs) (by omega) inv
            rw [if_pos (by simpa using c140), hn] at e_
            have e2 := Option.some.inj e_
            subst e2
            have k163 := k147.keep0 f151
            have k164 := k149.keep0 f151
            exact ⟨b2, d, e, rfl, t157, k163, k164, (by omega), (ob_ge hgd (by omega)), hg⟩
        refine each_cons #[true, true, true, true, true, true, false, true, true, false, false] rfl rfl (wanted_run rfl rfl (bn rfl c140)) ?_ ?_
        ·
          refine d_quiet (v := (.string (mkS bs))) rfl (r_bytes (bs := bs) Proofs.Try.underlying22 Proofs.Try.underlying5 Proofs.Try.underlying9 rfl k161 (by first | rfl | omega | (simp; done) | (simp; omega))) ?_
          refine ⟨(pres_all (by kernel_rfl)), ?_⟩
          refine f_one (i := 6) #[true, true, true, true, true, true, true, true, true, false, false] rfl (by kernel_rfl) (wanted_run rfl rfl (bn rfl c140)) ?_
          refine d_quiet (v := (.string (mkS (evBytes xs)))) rfl (r_bytes (bs := evBytes xs) Proofs.Try.underlying22 Proofs.Try.underlying5 Proofs.Try.underlying9 rfl s160 (by first | rfl | omega | (simp; done) | (simp; omega))) ?_
          refine ⟨(pres_all (by kernel_rfl)), ?_⟩
          refine f_take (i := 9) (v := (.bool (!((mkS (evBytes xs)).toList == (mkS bs).toList)))) #[true, true, true, true, true, true, true, true, true, true, false] r130 rfl (by kernel_rfl) (fun _ _ _ h => h) (wanted_run rfl rfl (bn rfl c140)) (fs_none rfl) (fun w hF => r_neqS rfl rfl) ?_
          refine f_take (i := 10) (v := (.bool (!((mkS (evBytes xs)).toList == (mkS bs).toList)))) #[true, true, true, true, true, true, true, true, true, true, true] r130 rfl (by kernel_rfl) (fun _ _ _ h => h) rfl (fs_none rfl) (fun w hF => r_pick_f (bn rfl c140) rfl) ?_
          refine f_done (by kernel_rfl) ?_
          refine (x_then ?_)
          refine c_split (t := (!((mkS (evBytes xs)).toList == (mkS bs).toList))) rfl (fun c165 => ?_) (fun c165 => ?_)
          ·
            refine c_seq ?_
            refine c_region ?_
            refine l_v (v := (.pointer none)) (r_assign rfl) ?_
            refine l_v (v := (.int .i64 4)) (r_assign rfl) ?_
            refine l_nil ?_
            refine (x_then ?_)
            refine c_ret ?_
            refine (x_then_r ?_)
            refine p_ret (v := (.tuple #[(.pointer none), (.int .i64 4)])) (res2 rfl rfl rfl) ?_
            exfalso; have e := ldr_end (bs := bs) (by omega) inv; rw [if_pos (by simpa using c140)] at e; have e2 := load_bytes e; rw [e2] at c165; rw [mkS_beq] at c165; simp at c165
          ·
            refine c_skip ?_
            refine (x_then ?_)
            refine c_seq ?_
            refine c_region ?_
            refine l_v (v := (.pointer (some ⟨b2, 0, none⟩))) (r_move s48) ?_
            refine l_v (v := (.pointer (some ⟨b2, 0, none⟩))) (r_assign rfl) ?_
            refine l_v (v := (.int .i64 0)) (r_assign rfl) ?_
            refine l_nil ?_
            refine (x_then ?_)
            refine c_ret ?_
            refine p_ret (v := (.tuple #[(.pointer (some ⟨b2, 0, none⟩)), (.int .i64 0)])) (res2 rfl rfl rfl) ?_
            have e_ := ldr_end (bs := bs) (by omega) inv
            rw [if_pos (by simpa using c140), hn] at e_
            have e2 := Option.some.inj e_
            subst e2
            have k166 := k147.keep0 f151
            have k167 := k149.keep0 f151
            exact ⟨b2, d, e, rfl, t157, k166, k167, (by omega), (ob_ge hgd (by omega)), hg⟩
        exact each_nil
      refine each_cons #[true, true, true, true, true, false, false, true, true, false, false] rfl rfl (wanted_run rfl rfl (bn rfl c140)) ?_ ?_
      ·
        refine d_quiet (v := (.string (mkS bs))) rfl (r_bytes (bs := bs) Proofs.Try.underlying22 Proofs.Try.underlying5 Proofs.Try.underlying9 rfl k145 (by first | rfl | omega | (simp; done) | (simp; omega))) ?_
        refine ⟨(pres_all (by kernel_rfl)), ?_⟩
        refine f_one (i := 5) #[true, true, true, true, true, true, false, true, true, false, false] rfl (by kernel_rfl) (wanted_run rfl rfl (bn rfl c140)) ?_
        have k168 := h60.keep0 f129
        have k169 := k168.keep0 f136
        have k170 := h61.keep0 f129
        have k171 := k170.keep0 f136
        refine d_call (fl := []) (cl := []) (A := [(.pointer (some ⟨b2, 0, none⟩))]) (B := [(.pointer (some ⟨b2, 0, none⟩))]) F.ok39 rfl (ac rfl an) rfl (rBytes_c (b := b2) (a := d) (xs := xs) (c := e) k169 k171 hg) ?_
        rintro _ w172 ⟨a_174, c_175, rfl, f173, h176, p177⟩
        have z178 := f173.size
        have t179 := t138.trans0 f173
        have t180 := t139.trans0 f173
        have l181 := h176.lt
        refine ⟨(pres_all (by kernel_rfl)), ?_⟩
        have s182 := h176.sl
        refine f_one (i := 6) #[true, true, true, true, true, true, true, true, true, false, false] rfl (by kernel_rfl) (wanted_run rfl rfl (bn rfl c140)) ?_
        refine d_quiet (v := (.string (mkS (evBytes xs)))) rfl (r_bytes (bs := evBytes xs) Proofs.Try.underlying22 Proofs.Try.underlying5 Proofs.Try.underlying9 rfl s182 (by first | rfl | omega | (simp; done) | (simp; omega))) ?_
        refine ⟨(pres_all (by kernel_rfl)), ?_⟩
        refine f_take (i := 9) (v := (.bool (!((mkS (evBytes xs)).toList == (mkS bs).toList)))) #[true, true, true, true, true, true, true, true, true, true, false] r130 rfl (by kernel_rfl) (fun _ _ _ h => h) (wanted_run rfl rfl (bn rfl c140)) (fs_none rfl) (fun w hF => r_neqS rfl rfl) ?_
        refine f_take (i := 10) (v := (.bool (!((mkS (evBytes xs)).toList == (mkS bs).toList)))) #[true, true, true, true, true, true, true, true, true, true, true] r130 rfl (by kernel_rfl) (fun _ _ _ h => h) rfl (fs_none rfl) (fun w hF => r_pick_f (bn rfl c140) rfl) ?_
        refine f_done (by kernel_rfl) ?_
        refine (x_then ?_)
        refine c_split (t := (!((mkS (evBytes xs)).toList == (mkS bs).toList))) rfl (fun c183 => ?_) (fun c183 => ?_)
        ·
          refine c_seq ?_
          refine c_region ?_
          refine l_v (v := (.pointer none)) (r_assign rfl) ?_
          refine l_v (v := (.int .i64 4)) (r_assign rfl) ?_
          refine l_nil ?_
          refine (x_then ?_)
          refine c_ret ?_
          refine (x_then_r ?_)
          refine p_ret (v := (.tuple #[(.pointer none), (.int .i64 4)])) (res2 rfl rfl rfl) ?_
          exfalso; have e := ldr_end (bs := bs) (by omega) inv; rw [if_pos (by simpa using c140)] at e; have e2 := load_bytes e; rw [e2] at c183; rw [mkS_beq] at c183; simp at c183
        ·
          refine c_skip ?_
          refine (x_then ?_)
          refine c_seq ?_
          refine c_region ?_
          refine l_v (v := (.pointer (some ⟨b2, 0, none⟩))) (r_move s48) ?_
          refine l_v (v := (.pointer (some ⟨b2, 0, none⟩))) (r_assign rfl) ?_
          refine l_v (v := (.int .i64 0)) (r_assign rfl) ?_
          refine l_nil ?_
          refine (x_then ?_)
          refine c_ret ?_
          refine p_ret (v := (.tuple #[(.pointer (some ⟨b2, 0, none⟩)), (.int .i64 0)])) (res2 rfl rfl rfl) ?_
          have e_ := ldr_end (bs := bs) (by omega) inv
          rw [if_pos (by simpa using c140), hn] at e_
          have e2 := Option.some.inj e_
          subst e2
          have k184 := k169.keep0 f173
          have k185 := k171.keep0 f173
          exact ⟨b2, d, e, rfl, t179, k184, k185, (by omega), (ob_ge hgd (by omega)), hg⟩
      exact each_nil

end Go.Sy
