/- The law JobsEnds, walked. -/
import Derived.Test.YtnhpfhhpochgfaaWWorks25
import Derived.Test.YtnhpfhhpochgfaaPEnds
namespace Go.Sy
set_option linter.unusedVariables false
set_option linter.unusedSimpArgs false

set_option maxHeartbeats 400000 in
set_option maxRecDepth 100000 in
theorem ends_no {w : World} {ap : Option Addr} {cp : Nat} {ps : List PJob} {LP : List Nat} {a : Option Addr} {c : Nat} {l : List JStep} {ak : Option Addr} {ck : Nat} {codes : List UInt8} (q1 : Ro w ap ps.length cp (pjs ps)) (q2 : PNds w LP ps) (hN : ∀ x ∈ ps, x.m.needs.length ≤ 1000000000000000000) (r1 : Ro w a l.length c (jsts l)) (c1 : Ro w ak codes.length ck (bv codes)) (hmay : mayB (ps.map PJob.m) = false) :
    Calls Proofs.Try.prog 5 #[(.agg #[(.slice ap ps.length cp)]), (.slice a l.length c), (.slice ak codes.length ck)] w (Ret fun v w' => v = (.bool true) ∧ Fr [] w w') := by
  have lt_q1 := q1.lt
  have lt_q2 := q2.lt
  have lt_r1 := r1.lt
  have lt_c1 := c1.lt
  have t0 : Fr [] w w := Fr.refl _ _
  refine enter Proofs.Try.func5 rfl Proofs.Try.ntmps5 (Nat.le_of_ble_eq_true rfl) ?_
  refine c_seq ?_
  refine c_region ?_
  refine l_do rfl ?_
  refine d_box (v := (.agg #[(.slice ap ps.length cp)])) (cs := #[(.slice ap ps.length cp)]) rfl rfl ?_
  intro w1 b2 f3 a4 h5
  have z6 := f3.size
  have t7 := t0.trans0 f3
  have l8 := h5.lt
  refine l_v (v := (.bool false)) (r_assign rfl) ?_
  refine l_nil ?_
  refine (x_then ?_)
  refine c_seq ?_
  refine c_seq ?_
  refine c_region ?_
  refine l_do rfl ?_
  refine d_call (fl := []) (cl := []) (A := []) (B := []) F.ok22 rfl an rfl (works_c  ) ?_
  rintro _ w9 ⟨rfl, f10⟩
  have z11 := f10.size
  have t12 := t7.trans0 f10
  refine l_v (v := (.bool false)) (r_not (b := true) rfl) ?_
  refine l_v (v := (.bool false)) (r_move rfl) ?_
  have k13 := h5.keep0 f10
  refine l_gv (v := (.agg #[(.slice ap ps.length cp)])) (wanted_run rfl rfl rfl) (r_loadA (l := [(.slice ap ps.length cp)]) F.agg41 rfl k13 rfl) ?_
  refine l_gdo (wanted_run rfl rfl rfl) ?_
  have k14 := q1.keep0 f3
  have k15 := k14.keep0 f10
  refine d_call (fl := []) (cl := []) (A := [(.agg #[(.slice ap ps.length cp)])]) (B := [(.agg #[(.slice ap ps.length cp)])]) F.ok23 rfl (ac rfl an) rfl (large_c (ap := ap) (ps := ps) (cp := cp) k15 hN) ?_
  rintro _ w16 ⟨r_18, rfl, f17, p19⟩
  have z20 := f17.size
  have t21 := t12.trans0 f17
  refine l_v (v := (.bool r_18)) (r_pick_f rfl rfl) ?_
  refine l_v (v := (.bool r_18)) (r_move rfl) ?_
  refine l_bool (b := r_18) ?_ ?_
  · intro c22
    refine l_skip (wanted_not rfl rfl (bt rfl c22) (by decide)) ?_
    refine l_skip (wanted_not rfl rfl (bt rfl c22) (by decide)) ?_
    refine l_skip (wanted_not rfl rfl (bt rfl c22) (by decide)) ?_
    refine l_v (v := (.bool true)) (r_pick_t (bt rfl c22) rfl) ?_
    refine l_nil ?_
    refine (x_then ?_)
    refine c_true rfl ?_
    refine c_seq ?_
    refine c_region ?_
    refine l_do rfl ?_
    refine d_call (fl := []) (cl := []) (A := []) (B := []) F.ok22 rfl an rfl (works_c  ) ?_
    rintro _ w23 ⟨rfl, f24⟩
    have z25 := f24.size
    have t26 := t21.trans0 f24
    refine l_v (v := (.bool true)) (r_assign rfl) ?_
    refine l_nil ?_
    refine (x_then ?_)
    refine c_ret ?_
    refine (x_then_r ?_)
    refine p_ret (v := (.bool true)) (res1 rfl rfl) ?_
    exact ⟨rfl, t26⟩
  · intro c22
    refine l_gv (v := (.slice a l.length c)) (wanted_run rfl rfl (bt rfl c22)) (r_move rfl) ?_
    refine l_gv (v := (.int .i64 ((l.length : Nat) : Int))) (wanted_run rfl rfl (bt rfl c22)) (r_lenSl F.sl42 rfl) ?_
    refine l_gv (v := (.bool (decide (100 < ((l.length : Nat) : Int))))) (wanted_run rfl rfl (bt rfl c22)) (r_gtr rfl rfl) ?_
    refine l_v (v := (.bool (decide (100 < ((l.length : Nat) : Int))))) (r_pick_f (bt rfl c22) rfl) ?_
    refine l_nil ?_
    refine (x_then ?_)
    refine c_if (p := 100 < ((l.length : Nat) : Int)) rfl (fun c27 => ?_) (fun c27 => ?_)
    ·
      refine c_seq ?_
      refine c_region ?_
      refine l_do rfl ?_
      refine d_call (fl := []) (cl := []) (A := []) (B := []) F.ok22 rfl an rfl (works_c  ) ?_
      rintro _ w28 ⟨rfl, f29⟩
      have z30 := f29.size
      have t31 := t21.trans0 f29
      refine l_v (v := (.bool true)) (r_assign rfl) ?_
      refine l_nil ?_
      refine (x_then ?_)
      refine c_ret ?_
      refine (x_then_r ?_)
      refine p_ret (v := (.bool true)) (res1 rfl rfl) ?_
      exact ⟨rfl, t31⟩
    ·
      refine c_skip ?_
      refine (x_then ?_)
      refine c_seq ?_
      refine c_region ?_
      have k32 := k13.keep0 f17
      refine l_v (v := (.agg #[(.slice ap ps.length cp)])) (r_loadA (l := [(.slice ap ps.length cp)]) F.agg41 rfl k32 rfl) ?_
      refine l_do rfl ?_
      have k33 := k15.keep0 f17
      have k34 := q2.keep0 f3
      have k35 := k34.keep0 f10
      have k36 := k35.keep0 f17
      refine d_call (fl := []) (cl := []) (A := [(.agg #[(.slice ap ps.length cp)])]) (B := [(.agg #[(.slice ap ps.length cp)])]) F.ok24 rfl (ac rfl an) rfl (new_no (ap := ap) (ps := ps) (cp := cp) (LP := LP) k33 k36 ((p19 c22).2) ((p19 c22).1) hmay) ?_
      rintro _ w37 ⟨rfl, f38⟩
      have z39 := f38.size
      have t40 := t21.trans0 f38
      refine l_v (v := (.tuple #[(.pointer none), (.int .i64 1)])) (r_move rfl) ?_
      refine l_v (v := (.pointer none)) (r_extract rfl rfl) ?_
      refine l_v (v := (.int .i64 1)) (r_extract rfl rfl) ?_
      refine l_v (v := (.pointer none)) (r_assign rfl) ?_
      refine l_v (v := (.int .i64 1)) (r_assign rfl) ?_
      refine l_nil ?_
      refine (x_then ?_)
      refine c_seq ?_
      refine c_seq ?_
      refine c_region ?_
      refine l_v (v := (.int .i64 1)) (r_move rfl) ?_
      refine l_v (v := (.bool true)) (r_neq_lit rfl rfl rfl) ?_
      refine l_nil ?_
      refine (x_then ?_)
      refine c_true rfl ?_
      refine c_seq ?_
      refine c_region ?_
      refine l_v (v := (.pointer none)) (r_move rfl) ?_
      refine l_v (v := (.bool true)) (r_eqlPn (a := none) F.ptr45 rfl) ?_
      refine l_v (v := (.bool true)) (r_assign rfl) ?_
      refine l_nil ?_
      refine (x_then ?_)
      refine c_ret ?_
      refine (x_then_r ?_)
      refine p_ret (v := (.bool true)) (res1 rfl rfl) ?_
      exact ⟨rfl, t40⟩

set_option maxHeartbeats 4000000 in
set_option maxRecDepth 100000 in
theorem ends_yes {w : World} {ap : Option Addr} {cp : Nat} {ps : List PJob} {LP : List Nat} {a : Option Addr} {c : Nat} {l : List JStep} {ak : Option Addr} {ck : Nat} {codes : List UInt8} (q1 : Ro w ap ps.length cp (pjs ps)) (q2 : PNds w LP ps) (hN : ∀ x ∈ ps, x.m.needs.length ≤ 1000000000000000000) (r1 : Ro w a l.length c (jsts l)) (c1 : Ro w ak codes.length ck (bv codes)) (hmay : mayB (ps.map PJob.m) = true) :
    Calls Proofs.Try.prog 5 #[(.agg #[(.slice ap ps.length cp)]), (.slice a l.length c), (.slice ak codes.length ck)] w (Ret fun v w' => v = (.bool true) ∧ Fr [] w w') := by
  have lt_q1 := q1.lt
  have lt_q2 := q2.lt
  have lt_r1 := r1.lt
  have lt_c1 := c1.lt
  have t0 : Fr [] w w := Fr.refl _ _
  refine enter Proofs.Try.func5 rfl Proofs.Try.ntmps5 (Nat.le_of_ble_eq_true rfl) ?_
  refine c_seq ?_
  refine c_region ?_
  refine l_do rfl ?_
  refine d_box (v := (.agg #[(.slice ap ps.length cp)])) (cs := #[(.slice ap ps.length cp)]) rfl rfl ?_
  intro w1 b2 f3 a4 h5
  have z6 := f3.size
  have t7 := t0.trans0 f3
  have l8 := h5.lt
  refine l_v (v := (.bool false)) (r_assign rfl) ?_
  refine l_nil ?_
  refine (x_then ?_)
  refine c_seq ?_
  refine c_seq ?_
  refine c_region ?_
  refine l_do rfl ?_
  refine d_call (fl := []) (cl := []) (A := []) (B := []) F.ok22 rfl an rfl (works_c  ) ?_
  rintro _ w9 ⟨rfl, f10⟩
  have z11 := f10.size
  have t12 := t7.trans0 f10
  refine l_v (v := (.bool false)) (r_not (b := true) rfl) ?_
  refine l_v (v := (.bool false)) (r_move rfl) ?_
  have k13 := h5.keep0 f10
  refine l_gv (v := (.agg #[(.slice ap ps.length cp)])) (wanted_run rfl rfl rfl) (r_loadA (l := [(.slice ap ps.length cp)]) F.agg41 rfl k13 rfl) ?_
  refine l_gdo (wanted_run rfl rfl rfl) ?_
  have k14 := q1.keep0 f3
  have k15 := k14.keep0 f10
  refine d_call (fl := []) (cl := []) (A := [(.agg #[(.slice ap ps.length cp)])]) (B := [(.agg #[(.slice ap ps.length cp)])]) F.ok23 rfl (ac rfl an) rfl (large_c (ap := ap) (ps := ps) (cp := cp) k15 hN) ?_
  rintro _ w16 ⟨r_18, rfl, f17, p19⟩
  have z20 := f17.size
  have t21 := t12.trans0 f17
  refine l_v (v := (.bool r_18)) (r_pick_f rfl rfl) ?_
  refine l_v (v := (.bool r_18)) (r_move rfl) ?_
  refine l_bool (b := r_18) ?_ ?_
  · intro c22
    refine l_skip (wanted_not rfl rfl (bt rfl c22) (by decide)) ?_
    refine l_skip (wanted_not rfl rfl (bt rfl c22) (by decide)) ?_
    refine l_skip (wanted_not rfl rfl (bt rfl c22) (by decide)) ?_
    refine l_v (v := (.bool true)) (r_pick_t (bt rfl c22) rfl) ?_
    refine l_nil ?_
    refine (x_then ?_)
    refine c_true rfl ?_
    refine c_seq ?_
    refine c_region ?_
    refine l_do rfl ?_
    refine d_call (fl := []) (cl := []) (A := []) (B := []) F.ok22 rfl an rfl (works_c  ) ?_
    rintro _ w23 ⟨rfl, f24⟩
    have z25 := f24.size
    have t26 := t21.trans0 f24
    refine l_v (v := (.bool true)) (r_assign rfl) ?_
    refine l_nil ?_
    refine (x_then ?_)
    refine c_ret ?_
    refine (x_then_r ?_)
    refine p_ret (v := (.bool true)) (res1 rfl rfl) ?_
    exact ⟨rfl, t26⟩
  · intro c22
    refine l_gv (v := (.slice a l.length c)) (wanted_run rfl rfl (bt rfl c22)) (r_move rfl) ?_
    refine l_gv (v := (.int .i64 ((l.length : Nat) : Int))) (wanted_run rfl rfl (bt rfl c22)) (r_lenSl F.sl42 rfl) ?_
    refine l_gv (v := (.bool (decide (100 < ((l.length : Nat) : Int))))) (wanted_run rfl rfl (bt rfl c22)) (r_gtr rfl rfl) ?_
    refine l_v (v := (.bool (decide (100 < ((l.length : Nat) : Int))))) (r_pick_f (bt rfl c22) rfl) ?_
    refine l_nil ?_
    refine (x_then ?_)
    refine c_if (p := 100 < ((l.length : Nat) : Int)) rfl (fun c27 => ?_) (fun c27 => ?_)
    ·
      refine c_seq ?_
      refine c_region ?_
      refine l_do rfl ?_
      refine d_call (fl := []) (cl := []) (A := []) (B := []) F.ok22 rfl an rfl (works_c  ) ?_
      rintro _ w28 ⟨rfl, f29⟩
      have z30 := f29.size
      have t31 := t21.trans0 f29
      refine l_v (v := (.bool true)) (r_assign rfl) ?_
      refine l_nil ?_
      refine (x_then ?_)
      refine c_ret ?_
      refine (x_then_r ?_)
      refine p_ret (v := (.bool true)) (res1 rfl rfl) ?_
      exact ⟨rfl, t31⟩
    ·
      refine c_skip ?_
      refine (x_then ?_)
      refine c_seq ?_
      refine c_region ?_
      have k32 := k13.keep0 f17
      refine l_v (v := (.agg #[(.slice ap ps.length cp)])) (r_loadA (l := [(.slice ap ps.length cp)]) F.agg41 rfl k32 rfl) ?_
      refine l_do rfl ?_
      have k33 := k15.keep0 f17
      have k34 := q2.keep0 f3
      have k35 := k34.keep0 f10
      have k36 := k35.keep0 f17
      refine d_call (fl := []) (cl := []) (A := [(.agg #[(.slice ap ps.length cp)])]) (B := [(.agg #[(.slice ap ps.length cp)])]) F.ok24 rfl (ac rfl an) rfl (new_yes (ap := ap) (ps := ps) (cp := cp) (LP := LP) k33 k36 ((p19 c22).2) ((p19 c22).1) hmay) ?_
      rintro _ w37 ⟨b_39, aj_40, cj_41, al_42, cl_43, js_44, L_45, rfl, f38, h46, h47, h48, h49, p50, p51, p52, p53, p54, p55, p56, p57, p58, p59, p60⟩
      have z61 := f38.size
      have t62 := t21.trans0 f38
      have l63 := h46.lt
      have l64 := h47.lt
      have l65 := h49.lt
      have l66 := h48.lt
      have hjm : js_44.map JobP.m = (ps.map PJob.m) := p51
      have hjl : js_44.length = ps.length := p50
      have hM : mayB (js_44.map JobP.m) = true := by rw [hjm]; exact hmay
      have h24 : ps.length ≤ 24 := by have := (may_spec hmay).1; simpa using this
      refine l_v (v := (.tuple #[(.pointer (some ⟨b_39, 0, none⟩)), (.int .i64 0)])) (r_move rfl) ?_
      refine l_v (v := (.pointer (some ⟨b_39, 0, none⟩))) (r_extract rfl rfl) ?_
      refine l_v (v := (.int .i64 0)) (r_extract rfl rfl) ?_
      refine l_v (v := (.pointer (some ⟨b_39, 0, none⟩))) (r_assign rfl) ?_
      refine l_v (v := (.int .i64 0)) (r_assign rfl) ?_
      refine l_nil ?_
      refine (x_then ?_)
      refine c_seq ?_
      refine c_seq ?_
      refine c_region ?_
      refine l_v (v := (.int .i64 0)) (r_move rfl) ?_
      refine l_v (v := (.bool false)) (r_neq_lit rfl rfl rfl) ?_
      refine l_nil ?_
      refine (x_then ?_)
      refine c_false rfl ?_
      refine c_skip ?_
      refine (x_then ?_)
      refine c_seq ?_
      refine c_region ?_
      refine l_v (v := (.int .i64 0)) (r_assign rfl) ?_
      refine l_nil ?_
      refine (x_then ?_)
      refine c_seq ?_
      refine c_seq ?_
      refine c_region ?_
      refine l_v (v := (.int .i64 0)) (r_assign rfl) ?_
      refine l_nil ?_
      refine (x_then ?_)
      refine c_block ?_
      refine c_loop (fun (m : Nat) (e' : Nat → Value) (w' : World) => ∃ k0 : Nat, ∃ sm : Int, m = ps.length - k0 ∧ e' 0 = (.agg #[(.slice ap ps.length cp)]) ∧ e' 1 = (.slice a l.length c) ∧ e' 2 = (.slice ak codes.length ck) ∧ e' 3 = (.pointer (some ⟨b2, 0, none⟩)) ∧ e' 6 = (.bool false) ∧ e' 7 = (.pointer (some ⟨b_39, 0, none⟩)) ∧ e' 8 = (.int .i64 0) ∧ e' 9 = (.int .i64 sm) ∧ e' 10 = (.int .i64 ((k0 : Nat) : Int)) ∧ e' 17 = (.bool true) ∧ e' 18 = (.bool false) ∧ e' 19 = (.bool false) ∧ e' 20 = (.agg #[(.slice ap ps.length cp)]) ∧ e' 21 = (.bool r_18) ∧ e' 22 = (.bool r_18) ∧ e' 23 = (.bool r_18) ∧ e' 24 = (.slice a l.length c) ∧ e' 25 = (.int .i64 ((l.length : Nat) : Int)) ∧ e' 26 = (.bool (decide (100 < ((l.length : Nat) : Int)))) ∧ e' 27 = (.bool (decide (100 < ((l.length : Nat) : Int)))) ∧ e' 29 = (.tuple #[(.pointer (some ⟨b_39, 0, none⟩)), (.int .i64 0)]) ∧ e' 30 = (.agg #[(.slice ap ps.length cp)]) ∧ e' 31 = (.tuple #[(.pointer (some ⟨b_39, 0, none⟩)), (.int .i64 0)]) ∧ e' 32 = (.pointer (some ⟨b_39, 0, none⟩)) ∧ e' 33 = (.int .i64 0) ∧ e' 34 = (.int .i64 0) ∧ e' 35 = (.bool false) ∧ Fr [] w37 w' ∧ (k0 ≤ ps.length) ∧ (sm = tsum ((ps.map PJob.m).take k0))) (ps.length - 0) ⟨0, 0, rfl, rfl, rfl, rfl, rfl, rfl, rfl, rfl, rfl, rfl, rfl, rfl, rfl, rfl, rfl, rfl, rfl, rfl, rfl, rfl, rfl, rfl, rfl, rfl, rfl, rfl, rfl, rfl, Fr.refl _ _, (by omega), (by simp [tsum])⟩ ?_
      rintro m_f69 e67 w68 ⟨k0, sm, hm_f69, s70, s71, s72, s73, s74, s75, s76, s77, s78, s79, s80, s81, s82, s83, s84, s85, s86, s87, s88, s89, s90, s91, s92, s93, s94, s95, s96, f69, p97, hsm⟩
      have z98 := f69.size
      have t99 := t62.trans0 f69
      have t_f69 : Fr [] w37 w68 := f69
      have hts := tsum_le hmay k0
      refine c_seq ?_
      refine c_seq ?_
      refine c_region ?_
      refine l_v (v := (.int .i64 ((k0 : Nat) : Int))) (r_move s78) ?_
      refine l_v (v := (.pointer (some ⟨b2, 0, none⟩))) (r_field_l F.fo41_0 s73 rfl) ?_
      have k100 := k32.keep0 f38
      have k101 := k100.keep0 f69
      refine l_v (v := (.slice ap ps.length cp)) (r_load1 F.one39 rfl (At.cell k101 rfl)) ?_
      refine l_v (v := (.int .i64 ((ps.length : Nat) : Int))) (r_lenSl F.sl39 rfl) ?_
      refine l_v (v := (.bool (decide (((k0 : Nat) : Int) < ((ps.length : Nat) : Int))))) (r_lss rfl rfl) ?_
      refine l_nil ?_
      refine (x_then ?_)
      refine c_if (p := ((k0 : Nat) : Int) < ((ps.length : Nat) : Int)) rfl (fun c102 => ?_) (fun c102 => ?_)
      ·
        refine c_skip ?_
        refine (x_then ?_)
        refine c_seq ?_
        refine c_block ?_
        refine c_region ?_
        refine l_v (v := (.int .i64 sm)) (r_move s77) ?_
        refine l_v (v := (.pointer (some ⟨b2, 0, none⟩))) (r_field_l F.fo41_0 s73 rfl) ?_
        refine l_v (v := (.slice ap ps.length cp)) (r_load1 F.one39 rfl (At.cell k101 rfl)) ?_
        refine l_v (v := (.int .i64 ((k0 : Nat) : Int))) (r_move s78) ?_
        have k103 := k33.keep0 f38
        have k104 := k103.keep0 f69
        have ha105 : ∃ ad, (ap : Option Addr) = some ad := k104.sl.some (by rw [pjs_len]; have := ((by first | omega | (simp only [settleTo_len, settle_len, startL_len, endsL_len, endL_len, cancelL_len, playL_len, newL_len, List.length_map, List.length_set, List.length_replicate, doL_len]; omega)) : k0 < (ps).length); omega)
        obtain ⟨y, hy⟩ := get_some (l := ps) (k := k0) (by first | omega | (simp only [settleTo_len, settle_len, startL_len, endsL_len, endL_len, cancelL_len, playL_len, newL_len, List.length_map, List.length_set, List.length_replicate, doL_len]; omega))
        refine l_v (v := (.pointer (some ((adr ap).add (k0 * 9))))) (r_indexAddr F.sle39 rfl rfl ha105 (by omega) (by have := get_lt hy; (try simp only [settleTo_len, settle_len, startL_len, endsL_len, endL_len, cancelL_len, playL_len, newL_len, List.length_map, List.length_set, List.length_replicate, doL_len] at this); omega) (by first | rfl | (simp; done) | omega | (simp only [Int.toNat_natCast, Nat.mul_one]; done))) ?_
        have hyt := jobB_spec ((may_spec hmay).2 k0 y.m (pm_get hy))
        refine l_v (v := (.pointer (some ((adr ap).add (k0 * 9 + 6))))) (r_field_e F.fo60_6 rfl) ?_
        have s106 := k104.sl
        refine l_v (v := (.int .i64 y.m.tries)) (r_loadE1 F.one3 s106 rfl (pjs_vs hy 6 _ rfl)) ?_
        refine l_v (v := (.int .i64 (sm + y.m.tries))) (r_add rfl rfl (w64 (by omega) (by omega) rfl)) ?_
        refine l_v (v := (.int .i64 (sm + y.m.tries))) (r_assign rfl) ?_
        refine l_nil ?_
        refine (x_blk (x_then ?_))
        refine c_region ?_
        refine l_v (v := (.int .i64 ((k0 : Nat) : Int))) (r_move s78) ?_
        refine l_v (v := (.int .i64 ((k0 + 1 : Nat) : Int))) (r_add rfl rfl (w64 (by omega) (by omega) (by omega))) ?_
        refine l_v (v := (.int .i64 ((k0 + 1 : Nat) : Int))) (r_assign rfl) ?_
        refine l_nil ?_
        refine (x_then ?_)
        exact ⟨_, _, (by omega), rfl, k0 + 1, (sm + y.m.tries), rfl, s70, s71, s72, s73, s74, s75, s76, rfl, rfl, s79, s80, s81, s82, s83, s84, s85, s86, s87, s88, s89, s90, s91, s92, s93, s94, s95, s96, t_f69, (by omega), (by rw [hsm, tsum_succ (pm_get hy)])⟩
      ·
        refine c_exit ?_
        refine (x_then_x (x_then_x (x_blk_hit (x_then ?_))))
        refine c_seq ?_
        refine c_seq ?_
        refine c_region ?_
        refine l_v (v := (.int .i64 0)) (r_assign rfl) ?_
        refine l_nil ?_
        refine (x_then ?_)
        refine c_block ?_
        have ek0 : k0 = ps.length := by omega
        have hsmT : sm = tsum (js_44.map JobP.m) := by rw [hjm, hsm]; congr 1; exact List.take_of_length_le (by simp; omega)
        have hsm0 : 0 ≤ sm ∧ sm ≤ 120 := by omega
        have k107 := h46.keep0 f69
        have k108 := h49.keep0 f69
        refine c_loop (fun (m : Nat) (e' : Nat → Value) (w' : World) => ∃ k : Nat, ∃ ss : List St, ∃ cs : List Int, m = l.length - k ∧ e' 0 = (.agg #[(.slice ap ps.length cp)]) ∧ e' 1 = (.slice a l.length c) ∧ e' 2 = (.slice ak codes.length ck) ∧ e' 3 = (.pointer (some ⟨b2, 0, none⟩)) ∧ e' 6 = (.bool false) ∧ e' 7 = (.pointer (some ⟨b_39, 0, none⟩)) ∧ e' 8 = (.int .i64 0) ∧ e' 9 = (.int .i64 sm) ∧ e' 10 = (.int .i64 ((k0 : Nat) : Int)) ∧ e' 11 = (.int .i64 ((k : Nat) : Int)) ∧ e' 17 = (.bool true) ∧ e' 18 = (.bool false) ∧ e' 19 = (.bool false) ∧ e' 20 = (.agg #[(.slice ap ps.length cp)]) ∧ e' 21 = (.bool r_18) ∧ e' 22 = (.bool r_18) ∧ e' 23 = (.bool r_18) ∧ e' 24 = (.slice a l.length c) ∧ e' 25 = (.int .i64 ((l.length : Nat) : Int)) ∧ e' 26 = (.bool (decide (100 < ((l.length : Nat) : Int)))) ∧ e' 27 = (.bool (decide (100 < ((l.length : Nat) : Int)))) ∧ e' 29 = (.tuple #[(.pointer (some ⟨b_39, 0, none⟩)), (.int .i64 0)]) ∧ e' 30 = (.agg #[(.slice ap ps.length cp)]) ∧ e' 31 = (.tuple #[(.pointer (some ⟨b_39, 0, none⟩)), (.int .i64 0)]) ∧ e' 32 = (.pointer (some ⟨b_39, 0, none⟩)) ∧ e' 33 = (.int .i64 0) ∧ e' 34 = (.int .i64 0) ∧ e' 35 = (.bool false) ∧ e' 38 = (.int .i64 ((k0 : Nat) : Int)) ∧ e' 39 = (.pointer (some ⟨b2, 0, none⟩)) ∧ e' 40 = (.slice ap ps.length cp) ∧ e' 41 = (.int .i64 ((ps.length : Nat) : Int)) ∧ e' 42 = (.bool (decide (((k0 : Nat) : Int) < ((ps.length : Nat) : Int)))) ∧ Fr (ob al_42) w68 w' ∧ At w' b_39 (.cells #[(.slice aj_40 js_44.length cj_41), (.slice al_42 ss.length cl_43)] 142 (0, 0)) ∧ Own w' 56 6 al_42 ss.length cl_43 (sts ss) ∧ (k ≤ l.length) ∧ (Inv (js_44.map JobP.m) ss cs) ∧ (Settled (js_44.map JobP.m) ss)) (l.length - 0) ⟨0, (newL (ps.map PJob.m)), (List.replicate (js_44.map JobP.m).length 0), rfl, s70, s71, s72, s73, s74, s75, s76, s77, s78, rfl, s79, s80, s81, s82, s83, s84, s85, s86, s87, s88, s89, s90, s91, s92, s93, s94, s95, s96, rfl, rfl, rfl, rfl, rfl, Fr.refl _ _, k107, k108, (by omega), (by rw [hjm]; exact inv_new hmay), (by rw [hjm]; exact settled_new hmay)⟩ ?_
        rintro m_f111 e109 w110 ⟨k, ss, cs, hm_f111, s112, s113, s114, s115, s116, s117, s118, s119, s120, s121, s122, s123, s124, s125, s126, s127, s128, s129, s130, s131, s132, s133, s134, s135, s136, s137, s138, s139, s140, s141, s142, s143, s144, f111, h145, h146, p147, hI, hS⟩
        have z148 := f111.size
        have t149 := t99.step f111 (ob_new p54 (by omega))
        have n150 := ob_ne' h146.tag h145 rfl
        have t_f111 : Fr (ob al_42) w68 w110 := f111
        have hsl : ss.length = ps.length := by have h := hI.len; rw [List.length_map] at h; omega
        have hjs : js_44.length = ss.length := by omega
        refine c_seq ?_
        refine c_seq ?_
        refine c_region ?_
        refine l_v (v := (.int .i64 ((k : Nat) : Int))) (r_move s121) ?_
        refine l_v (v := (.slice a l.length c)) (r_move s113) ?_
        refine l_v (v := (.int .i64 ((l.length : Nat) : Int))) (r_lenSl F.sl42 rfl) ?_
        refine l_v (v := (.bool (decide (((k : Nat) : Int) < ((l.length : Nat) : Int))))) (r_lss rfl rfl) ?_
        refine l_nil ?_
        refine (x_then ?_)
        refine c_if (p := ((k : Nat) : Int) < ((l.length : Nat) : Int)) rfl (fun c151 => ?_) (fun c151 => ?_)
        ·
          refine c_skip ?_
          refine (x_then ?_)
          refine c_seq ?_
          refine c_block ?_
          refine c_region ?_
          refine l_v (v := (.pointer (some ⟨b_39, 0, none⟩))) (r_move s117) ?_
          refine l_v (v := (.slice a l.length c)) (r_move s113) ?_
          refine l_v (v := (.int .i64 ((k : Nat) : Int))) (r_move s121) ?_
          have k152 := r1.keep0 f3
          have k153 := k152.keep0 f10
          have k154 := k153.keep0 f17
          have k155 := k154.keep0 f38
          have k156 := k155.keep0 f69
          have k157 := k156.keep f111 (ob_ob_new lt_r1 p54 (by omega))
          have ha158 : ∃ ad, (a : Option Addr) = some ad := k157.sl.some (by rw [jsts_len]; have := ((by first | omega | (simp only [settleTo_len, settle_len, startL_len, endsL_len, endL_len, cancelL_len, playL_len, newL_len, List.length_map, List.length_set, List.length_replicate, doL_len]; omega)) : k < (l).length); omega)
          obtain ⟨x, hx⟩ := get_some (l := l) (k := k) (by first | omega | (simp only [settleTo_len, settle_len, startL_len, endsL_len, endL_len, cancelL_len, playL_len, newL_len, List.length_map, List.length_set, List.length_replicate, doL_len]; omega))
          refine l_v (v := (.pointer (some ((adr a).add (k * 4))))) (r_indexAddr F.sle42 rfl rfl ha158 (by omega) (by have := get_lt hx; (try simp only [settleTo_len, settle_len, startL_len, endsL_len, endL_len, cancelL_len, playL_len, newL_len, List.length_map, List.length_set, List.length_replicate, doL_len] at this); omega) (by first | rfl | (simp; done) | omega | (simp only [Int.toNat_natCast, Nat.mul_one]; done))) ?_
          have s159 := k157.sl
          refine l_v (v := (.agg #[(.int .u8 x.kind), (.int .i64 x.i), (.int .i64 x.badge), (.int .i64 x.n)])) (r_loadES [(.int .u8 x.kind), (.int .i64 x.i), (.int .i64 x.badge), (.int .i64 x.n)] F.agg53 s159 rfl rfl (jsts_vs hx)) ?_
          refine l_do rfl ?_
          have k160 := h47.keep0 f69
          have k161 := k160.keep f111 p57
          have k162 := h48.keep0 f69
          have k163 := k162.keep f111 p58
          refine d_call (fl := []) (cl := []) (A := [(.pointer (some ⟨b_39, 0, none⟩)), (.agg #[(.int .u8 x.kind), (.int .i64 x.i), (.int .i64 x.badge), (.int .i64 x.n)])]) (B := [(.pointer (some ⟨b_39, 0, none⟩)), (.agg #[(.int .u8 x.kind), (.int .i64 x.i), (.int .i64 x.badge), (.int .i64 x.n)])]) F.ok26 rfl (ac rfl (ac rfl an)) rfl (jdo_c (b := b_39) (x := x) (aj := aj_40) (js := js_44) (cj := cj_41) (al := al_42) (ss := ss) (cl := cl_43) (L := L_45) h145 k161 k163 h146 hjs hM n150 p57 p58 (inv_tr hM hI)) ?_
          rintro _ w164 ⟨rfl, f165, h166, h167⟩
          have z168 := f165.size
          have t169 := t149.step f165 (ob_new p54 (by omega))
          have t170 := t_f111.step f165 (ob_in (by intro x hx; simp [hx]))
          refine l_nil ?_
          refine (x_blk (x_then ?_))
          refine c_region ?_
          refine l_v (v := (.int .i64 ((k : Nat) : Int))) (r_move s121) ?_
          refine l_v (v := (.int .i64 ((k + 1 : Nat) : Int))) (r_add rfl rfl (w64 (by omega) (by omega) (by omega))) ?_
          refine l_v (v := (.int .i64 ((k + 1 : Nat) : Int))) (r_assign rfl) ?_
          refine l_nil ?_
          refine (x_then ?_)
          exact ⟨_, _, (by omega), rfl, k + 1, (doL (js_44.map JobP.m) ss x), (bump cs x (doC ss x)), rfl, s112, s113, s114, s115, s116, s117, s118, s119, s120, rfl, s122, s123, s124, s125, s126, s127, s128, s129, s130, s131, s132, s133, s134, s135, s136, s137, s138, s139, s140, s141, s142, s143, s144, t170, h166, h167, (by omega), (inv_do hM hI), (settled_do hM hS)⟩
        ·
          refine c_exit ?_
          refine (x_then_x (x_then_x (x_blk_hit (x_then ?_))))
          refine c_seq ?_
          refine c_region ?_
          refine l_v (v := (.int .i64 0)) (r_assign rfl) ?_
          refine l_nil ?_
          refine (x_then ?_)
          refine c_seq ?_
          refine c_seq ?_
          refine c_region ?_
          refine l_v (v := (.int .i64 0)) (r_assign rfl) ?_
          refine l_nil ?_
          refine (x_then ?_)
          refine c_block ?_
          refine c_loop (fun (m : Nat) (e' : Nat → Value) (w' : World) => ∃ rd : Nat, ∃ st : Nat, ∃ ss : List St, ∃ cs : List Int, m = (2 * sm + 2 * ((ps.length : Nat) : Int) + 1 - ((rd : Nat) : Int)).toNat ∧ e' 0 = (.agg #[(.slice ap ps.length cp)]) ∧ e' 1 = (.slice a l.length c) ∧ e' 2 = (.slice ak codes.length ck) ∧ e' 3 = (.pointer (some ⟨b2, 0, none⟩)) ∧ e' 7 = (.pointer (some ⟨b_39, 0, none⟩)) ∧ e' 8 = (.int .i64 0) ∧ e' 9 = (.int .i64 sm) ∧ e' 10 = (.int .i64 ((k0 : Nat) : Int)) ∧ e' 11 = (.int .i64 ((k : Nat) : Int)) ∧ e' 12 = (.int .i64 ((st : Nat) : Int)) ∧ e' 13 = (.int .i64 ((rd : Nat) : Int)) ∧ e' 17 = (.bool true) ∧ e' 18 = (.bool false) ∧ e' 19 = (.bool false) ∧ e' 20 = (.agg #[(.slice ap ps.length cp)]) ∧ e' 21 = (.bool r_18) ∧ e' 22 = (.bool r_18) ∧ e' 23 = (.bool r_18) ∧ e' 24 = (.slice a l.length c) ∧ e' 25 = (.int .i64 ((l.length : Nat) : Int)) ∧ e' 26 = (.bool (decide (100 < ((l.length : Nat) : Int)))) ∧ e' 27 = (.bool (decide (100 < ((l.length : Nat) : Int)))) ∧ e' 29 = (.tuple #[(.pointer (some ⟨b_39, 0, none⟩)), (.int .i64 0)]) ∧ e' 30 = (.agg #[(.slice ap ps.length cp)]) ∧ e' 31 = (.tuple #[(.pointer (some ⟨b_39, 0, none⟩)), (.int .i64 0)]) ∧ e' 32 = (.pointer (some ⟨b_39, 0, none⟩)) ∧ e' 33 = (.int .i64 0) ∧ e' 34 = (.int .i64 0) ∧ e' 35 = (.bool false) ∧ e' 38 = (.int .i64 ((k0 : Nat) : Int)) ∧ e' 39 = (.pointer (some ⟨b2, 0, none⟩)) ∧ e' 40 = (.slice ap ps.length cp) ∧ e' 41 = (.int .i64 ((ps.length : Nat) : Int)) ∧ e' 42 = (.bool (decide (((k0 : Nat) : Int) < ((ps.length : Nat) : Int)))) ∧ e' 53 = (.int .i64 ((k : Nat) : Int)) ∧ e' 54 = (.slice a l.length c) ∧ e' 55 = (.int .i64 ((l.length : Nat) : Int)) ∧ e' 56 = (.bool (decide (((k : Nat) : Int) < ((l.length : Nat) : Int)))) ∧ Fr (ob al_42) w110 w' ∧ At w' b_39 (.cells #[(.slice aj_40 js_44.length cj_41), (.slice al_42 ss.length cl_43)] 142 (0, 0)) ∧ Own w' 56 6 al_42 ss.length cl_43 (sts ss) ∧ (Inv (js_44.map JobP.m) ss cs) ∧ (Settled (js_44.map JobP.m) ss) ∧ (((st : Nat) : Int) ≤ cs.sum) ∧ (Phi (js_44.map JobP.m) ss + ((rd : Nat) : Int) ≤ 2 * sm + 2 * ((ps.length : Nat) : Int))) ((2 * sm + 2 * ((ps.length : Nat) : Int) + 1 - ((0 : Nat) : Int)).toNat) ⟨0, 0, ss, cs, rfl, s112, s113, s114, s115, s117, s118, s119, s120, s121, rfl, rfl, s122, s123, s124, s125, s126, s127, s128, s129, s130, s131, s132, s133, s134, s135, s136, s137, s138, s139, s140, s141, s142, s143, s144, rfl, rfl, rfl, rfl, Fr.refl _ _, h145, h146, hI, hS, (sum_nonneg hI), (by have h := Phi_top hI; rw [List.length_map] at h; omega)⟩ ?_
          rintro m_f173 e171 w172 ⟨rd, st, ss, cs, hm_f173, s174, s175, s176, s177, s178, s179, s180, s181, s182, s183, s184, s185, s186, s187, s188, s189, s190, s191, s192, s193, s194, s195, s196, s197, s198, s199, s200, s201, s202, s203, s204, s205, s206, s207, s208, s209, s210, s211, f173, h212, h213, hI, hS, hst, hph⟩
          have z214 := f173.size
          have t215 := t149.step f173 (ob_new p54 (by omega))
          have n216 := ob_ne' h213.tag h212 rfl
          have t_f173 : Fr (ob al_42) w110 w172 := f173
          have hsl : ss.length = ps.length := by have h := hI.len; rw [List.length_map] at h; omega
          have hjs : js_44.length = ss.length := by omega
          have hcsm := cs_sum hI
          refine c_seq ?_
          refine c_seq ?_
          refine c_region ?_
          refine l_v (v := (.int .i64 ((rd : Nat) : Int))) (r_move s184) ?_
          refine l_v (v := (.int .i64 sm)) (r_move s180) ?_
          refine l_v (v := (.int .i64 (2 * sm))) (r_mul rfl rfl (w64 (by omega) (by omega) rfl)) ?_
          refine l_v (v := (.pointer (some ⟨b2, 0, none⟩))) (r_field_l F.fo41_0 s177 rfl) ?_
          have k217 := k101.keep f111 (not_ob_new p54 (by omega))
          have k218 := k217.keep f173 (not_ob_new p54 (by omega))
          refine l_v (v := (.slice ap ps.length cp)) (r_load1 F.one39 rfl (At.cell k218 rfl)) ?_
          refine l_v (v := (.int .i64 ((ps.length : Nat) : Int))) (r_lenSl F.sl39 rfl) ?_
          refine l_v (v := (.int .i64 ((2 * ps.length : Nat) : Int))) (r_mul rfl rfl (w64 (by omega) (by omega) (by omega))) ?_
          refine l_v (v := (.int .i64 ((2 * sm) + ((2 * ps.length : Nat) : Int)))) (r_add rfl rfl (w64 (by omega) (by omega) rfl)) ?_
          refine l_v (v := (.bool (decide (((rd : Nat) : Int) ≤ ((2 * sm) + ((2 * ps.length : Nat) : Int)))))) (r_leq rfl rfl) ?_
          refine l_v (v := (.bool (decide (((rd : Nat) : Int) ≤ ((2 * sm) + ((2 * ps.length : Nat) : Int)))))) (r_move rfl) ?_
          refine l_em (p := ((rd : Nat) : Int) ≤ ((2 * sm) + ((2 * ps.length : Nat) : Int))) ?_ ?_
          · intro c219
            refine l_gv (v := (.pointer (some ⟨b_39, 0, none⟩))) (wanted_run rfl rfl (bd rfl c219)) (r_move s178) ?_
            refine l_gdo (wanted_run rfl rfl (bd rfl c219)) ?_
            refine d_call (fl := []) (cl := []) (A := [(.pointer (some ⟨b_39, 0, none⟩))]) (B := [(.pointer (some ⟨b_39, 0, none⟩))]) F.ok28 rfl (ac rfl an) rfl (over_c (b := b_39) (aj := aj_40) (js := js_44) (cj := cj_41) (al := al_42) (ss := ss) (cl := cl_43) h212 h213 (by omega)) ?_
            rintro _ w220 ⟨rfl, f221⟩
            have z222 := f221.size
            have t223 := t215.trans0 f221
            have t224 := t_f173.trans0 f221
            refine l_gv (v := (.bool (decide (¬ ((((picks (fun _ s => !(endd s.state)) ss).length : Nat) : Int) = 0))))) (wanted_run rfl rfl (bd rfl c219)) (r_notP rfl) ?_
            refine l_v (v := (.bool (decide (¬ ((((picks (fun _ s => !(endd s.state)) ss).length : Nat) : Int) = 0))))) (r_pick_t (bd rfl c219) rfl) ?_
            refine l_nil ?_
            refine (x_then ?_)
            refine c_if (p := ¬ ((((picks (fun _ s => !(endd s.state)) ss).length : Nat) : Int) = 0)) rfl (fun c225 => ?_) (fun c225 => ?_)
            ·
              refine c_skip ?_
              refine (x_then ?_)
              refine c_seq ?_
              refine c_block ?_
              refine c_seq ?_
              refine c_region ?_
              refine l_v (v := (.pointer (some ⟨b_39, 0, none⟩))) (r_move s178) ?_
              refine l_do rfl ?_
              have k226 := h212.keep0 f221
              have k227 := h213.keep0 f221
              refine d_call (fl := []) (cl := []) (A := [(.pointer (some ⟨b_39, 0, none⟩))]) (B := [(.pointer (some ⟨b_39, 0, none⟩))]) F.ok25 rfl (ac rfl an) rfl (jlist_c (b := b_39) (aj := aj_40) (js := js_44) (cj := cj_41) (al := al_42) (ss := ss) (cl := cl_43) k226 k227 (by omega)) ?_
              rintro _ w228 ⟨a_230, c_231, rfl, f229, h232, p233⟩
              have z234 := f229.size
              have t235 := t223.trans0 f229
              have t236 := t224.trans0 f229
              have l237 := h232.lt
              refine l_v (v := (.slice a_230 ss.length c_231)) (r_assign rfl) ?_
              refine l_nil ?_
              refine (x_then ?_)
              refine c_seq ?_
              refine c_region ?_
              refine l_v (v := (.int .i64 0)) (r_assign rfl) ?_
              refine l_nil ?_
              refine (x_then ?_)
              refine c_block ?_
              have k238 := k226.keep0 f229
              have k239 := k227.keep0 f229
              refine c_loop (fun (m : Nat) (e' : Nat → Value) (w' : World) => ∃ q : Nat, ∃ st2 : Nat, ∃ cur : List St, ∃ cs2 : List Int, m = ss.length - q ∧ e' 0 = (.agg #[(.slice ap ps.length cp)]) ∧ e' 1 = (.slice a l.length c) ∧ e' 2 = (.slice ak codes.length ck) ∧ e' 3 = (.pointer (some ⟨b2, 0, none⟩)) ∧ e' 7 = (.pointer (some ⟨b_39, 0, none⟩)) ∧ e' 8 = (.int .i64 0) ∧ e' 9 = (.int .i64 sm) ∧ e' 10 = (.int .i64 ((k0 : Nat) : Int)) ∧ e' 11 = (.int .i64 ((k : Nat) : Int)) ∧ e' 12 = (.int .i64 ((st2 : Nat) : Int)) ∧ e' 13 = (.int .i64 ((rd : Nat) : Int)) ∧ e' 14 = (.slice a_230 ss.length c_231) ∧ e' 15 = (.int .i64 ((q : Nat) : Int)) ∧ e' 17 = (.bool true) ∧ e' 18 = (.bool false) ∧ e' 19 = (.bool false) ∧ e' 20 = (.agg #[(.slice ap ps.length cp)]) ∧ e' 21 = (.bool r_18) ∧ e' 22 = (.bool r_18) ∧ e' 23 = (.bool r_18) ∧ e' 24 = (.slice a l.length c) ∧ e' 25 = (.int .i64 ((l.length : Nat) : Int)) ∧ e' 26 = (.bool (decide (100 < ((l.length : Nat) : Int)))) ∧ e' 27 = (.bool (decide (100 < ((l.length : Nat) : Int)))) ∧ e' 29 = (.tuple #[(.pointer (some ⟨b_39, 0, none⟩)), (.int .i64 0)]) ∧ e' 30 = (.agg #[(.slice ap ps.length cp)]) ∧ e' 31 = (.tuple #[(.pointer (some ⟨b_39, 0, none⟩)), (.int .i64 0)]) ∧ e' 32 = (.pointer (some ⟨b_39, 0, none⟩)) ∧ e' 33 = (.int .i64 0) ∧ e' 34 = (.int .i64 0) ∧ e' 35 = (.bool false) ∧ e' 38 = (.int .i64 ((k0 : Nat) : Int)) ∧ e' 39 = (.pointer (some ⟨b2, 0, none⟩)) ∧ e' 40 = (.slice ap ps.length cp) ∧ e' 41 = (.int .i64 ((ps.length : Nat) : Int)) ∧ e' 42 = (.bool (decide (((k0 : Nat) : Int) < ((ps.length : Nat) : Int)))) ∧ e' 53 = (.int .i64 ((k : Nat) : Int)) ∧ e' 54 = (.slice a l.length c) ∧ e' 55 = (.int .i64 ((l.length : Nat) : Int)) ∧ e' 56 = (.bool (decide (((k : Nat) : Int) < ((l.length : Nat) : Int)))) ∧ e' 65 = (.int .i64 ((rd : Nat) : Int)) ∧ e' 66 = (.int .i64 sm) ∧ e' 67 = (.int .i64 (2 * sm)) ∧ e' 68 = (.pointer (some ⟨b2, 0, none⟩)) ∧ e' 69 = (.slice ap ps.length cp) ∧ e' 70 = (.int .i64 ((ps.length : Nat) : Int)) ∧ e' 71 = (.int .i64 ((2 * ps.length : Nat) : Int)) ∧ e' 72 = (.int .i64 ((2 * sm) + ((2 * ps.length : Nat) : Int))) ∧ e' 73 = (.bool (decide (((rd : Nat) : Int) ≤ ((2 * sm) + ((2 * ps.length : Nat) : Int))))) ∧ e' 74 = (.bool (decide (((rd : Nat) : Int) ≤ ((2 * sm) + ((2 * ps.length : Nat) : Int))))) ∧ e' 75 = (.pointer (some ⟨b_39, 0, none⟩)) ∧ e' 76 = (.bool (decide ((((picks (fun _ s => !(endd s.state)) ss).length : Nat) : Int) = 0))) ∧ e' 77 = (.bool (decide (¬ ((((picks (fun _ s => !(endd s.state)) ss).length : Nat) : Int) = 0)))) ∧ e' 78 = (.bool (decide (¬ ((((picks (fun _ s => !(endd s.state)) ss).length : Nat) : Int) = 0)))) ∧ e' 81 = (.pointer (some ⟨b_39, 0, none⟩)) ∧ e' 82 = (.slice a_230 ss.length c_231) ∧ Fr (ob al_42) w228 w' ∧ At w' b_39 (.cells #[(.slice aj_40 js_44.length cj_41), (.slice al_42 cur.length cl_43)] 142 (0, 0)) ∧ Own w' 56 6 al_42 cur.length cl_43 (sts cur) ∧ (q ≤ ss.length) ∧ (Round (js_44.map JobP.m) ss cur cs2 q st2)) (ss.length - 0) ⟨0, st, ss, cs, rfl, s174, s175, s176, s177, s178, s179, s180, s181, s182, s183, s184, rfl, rfl, s185, s186, s187, s188, s189, s190, s191, s192, s193, s194, s195, s196, s197, s198, s199, s200, s201, s202, s203, s204, s205, s206, s207, s208, s209, s210, s211, rfl, rfl, rfl, rfl, rfl, rfl, rfl, rfl, rfl, rfl, rfl, rfl, rfl, rfl, rfl, rfl, Fr.refl _ _, k238, k239, (by omega), (round_start hI hS hst)⟩ ?_
              rintro m_f242 e240 w241 ⟨q, st2, cur, cs2, hm_f242, s243, s244, s245, s246, s247, s248, s249, s250, s251, s252, s253, s254, s255, s256, s257, s258, s259, s260, s261, s262, s263, s264, s265, s266, s267, s268, s269, s270, s271, s272, s273, s274, s275, s276, s277, s278, s279, s280, s281, s282, s283, s284, s285, s286, s287, s288, s289, s290, s291, s292, s293, s294, s295, s296, s297, s298, f242, h299, h300, p301, hR⟩
              have z302 := f242.size
              have t303 := t235.step f242 (ob_new p54 (by omega))
              have t304 := t236.step f242 (ob_in (by intro x hx; simp [hx]))
              have n305 := ob_ne' h300.tag h299 rfl
              have t_f242 : Fr (ob al_42) w228 w241 := f242
              have hcl : cur.length = ps.length := by have h := hR.inv.len; rw [List.length_map] at h; omega
              have hjc : js_44.length = cur.length := by omega
              have hcs2 := cs_sum hR.inv
              have hsm2 := hR.sum
              refine c_seq ?_
              refine c_seq ?_
              refine c_region ?_
              refine l_v (v := (.int .i64 ((q : Nat) : Int))) (r_move s255) ?_
              refine l_v (v := (.slice a_230 ss.length c_231)) (r_move s254) ?_
              refine l_v (v := (.int .i64 ((ss.length : Nat) : Int))) (r_lenSl F.sl49 rfl) ?_
              refine l_v (v := (.bool (decide (((q : Nat) : Int) < ((ss.length : Nat) : Int))))) (r_lss rfl rfl) ?_
              refine l_nil ?_
              refine (x_then ?_)
              refine c_if (p := ((q : Nat) : Int) < ((ss.length : Nat) : Int)) rfl (fun c306 => ?_) (fun c306 => ?_)
              ·
                refine c_skip ?_
                refine (x_then ?_)
                refine c_seq ?_
                refine c_block ?_
                refine c_seq ?_
                refine c_region ?_
                refine l_v (v := (.int .i64 0)) (r_assign rfl) ?_
                refine l_nil ?_
                refine (x_then ?_)
                refine c_cut (fun (e' : Nat → Value) (w' : World) => ∃ cd : Nat, e' 0 = (.agg #[(.slice ap ps.length cp)]) ∧ e' 1 = (.slice a l.length c) ∧ e' 2 = (.slice ak codes.length ck) ∧ e' 3 = (.pointer (some ⟨b2, 0, none⟩)) ∧ e' 7 = (.pointer (some ⟨b_39, 0, none⟩)) ∧ e' 8 = (.int .i64 0) ∧ e' 9 = (.int .i64 sm) ∧ e' 10 = (.int .i64 ((k0 : Nat) : Int)) ∧ e' 11 = (.int .i64 ((k : Nat) : Int)) ∧ e' 12 = (.int .i64 ((st2 : Nat) : Int)) ∧ e' 13 = (.int .i64 ((rd : Nat) : Int)) ∧ e' 14 = (.slice a_230 ss.length c_231) ∧ e' 15 = (.int .i64 ((q : Nat) : Int)) ∧ e' 16 = (.int .i64 ((cd : Nat) : Int)) ∧ e' 17 = (.bool true) ∧ e' 18 = (.bool false) ∧ e' 19 = (.bool false) ∧ e' 20 = (.agg #[(.slice ap ps.length cp)]) ∧ e' 21 = (.bool r_18) ∧ e' 22 = (.bool r_18) ∧ e' 23 = (.bool r_18) ∧ e' 24 = (.slice a l.length c) ∧ e' 25 = (.int .i64 ((l.length : Nat) : Int)) ∧ e' 26 = (.bool (decide (100 < ((l.length : Nat) : Int)))) ∧ e' 27 = (.bool (decide (100 < ((l.length : Nat) : Int)))) ∧ e' 29 = (.tuple #[(.pointer (some ⟨b_39, 0, none⟩)), (.int .i64 0)]) ∧ e' 30 = (.agg #[(.slice ap ps.length cp)]) ∧ e' 31 = (.tuple #[(.pointer (some ⟨b_39, 0, none⟩)), (.int .i64 0)]) ∧ e' 32 = (.pointer (some ⟨b_39, 0, none⟩)) ∧ e' 33 = (.int .i64 0) ∧ e' 34 = (.int .i64 0) ∧ e' 35 = (.bool false) ∧ e' 38 = (.int .i64 ((k0 : Nat) : Int)) ∧ e' 39 = (.pointer (some ⟨b2, 0, none⟩)) ∧ e' 40 = (.slice ap ps.length cp) ∧ e' 41 = (.int .i64 ((ps.length : Nat) : Int)) ∧ e' 42 = (.bool (decide (((k0 : Nat) : Int) < ((ps.length : Nat) : Int)))) ∧ e' 53 = (.int .i64 ((k : Nat) : Int)) ∧ e' 54 = (.slice a l.length c) ∧ e' 55 = (.int .i64 ((l.length : Nat) : Int)) ∧ e' 56 = (.bool (decide (((k : Nat) : Int) < ((l.length : Nat) : Int)))) ∧ e' 65 = (.int .i64 ((rd : Nat) : Int)) ∧ e' 66 = (.int .i64 sm) ∧ e' 67 = (.int .i64 (2 * sm)) ∧ e' 68 = (.pointer (some ⟨b2, 0, none⟩)) ∧ e' 69 = (.slice ap ps.length cp) ∧ e' 70 = (.int .i64 ((ps.length : Nat) : Int)) ∧ e' 71 = (.int .i64 ((2 * ps.length : Nat) : Int)) ∧ e' 72 = (.int .i64 ((2 * sm) + ((2 * ps.length : Nat) : Int))) ∧ e' 73 = (.bool (decide (((rd : Nat) : Int) ≤ ((2 * sm) + ((2 * ps.length : Nat) : Int))))) ∧ e' 74 = (.bool (decide (((rd : Nat) : Int) ≤ ((2 * sm) + ((2 * ps.length : Nat) : Int))))) ∧ e' 75 = (.pointer (some ⟨b_39, 0, none⟩)) ∧ e' 76 = (.bool (decide ((((picks (fun _ s => !(endd s.state)) ss).length : Nat) : Int) = 0))) ∧ e' 77 = (.bool (decide (¬ ((((picks (fun _ s => !(endd s.state)) ss).length : Nat) : Int) = 0)))) ∧ e' 78 = (.bool (decide (¬ ((((picks (fun _ s => !(endd s.state)) ss).length : Nat) : Int) = 0)))) ∧ e' 81 = (.pointer (some ⟨b_39, 0, none⟩)) ∧ e' 82 = (.slice a_230 ss.length c_231) ∧ e' 83 = (.int .i64 ((q : Nat) : Int)) ∧ e' 84 = (.slice a_230 ss.length c_231) ∧ e' 85 = (.int .i64 ((ss.length : Nat) : Int)) ∧ e' 86 = (.bool (decide (((q : Nat) : Int) < ((ss.length : Nat) : Int)))) ∧ Fr [] w241 w' ∧ (cd ≤ 255)) ?_ ?_
                ·
                  have t308 : Fr [] w241 w241 := Fr.refl _ _
                  refine c_seq ?_
                  refine c_region ?_
                  refine l_v (v := (.slice ak codes.length ck)) (r_move s245) ?_
                  refine l_v (v := (.int .i64 ((codes.length : Nat) : Int))) (r_lenSl F.sl22 rfl) ?_
                  refine l_v (v := (.bool (decide (0 < ((codes.length : Nat) : Int))))) (r_gtr rfl rfl) ?_
                  refine l_nil ?_
                  refine (x_then ?_)
                  refine c_if (p := 0 < ((codes.length : Nat) : Int)) rfl (fun c309 => ?_) (fun c309 => ?_)
                  ·
                    refine c_region ?_
                    refine l_v (v := (.slice ak codes.length ck)) (r_move s245) ?_
                    refine l_v (v := (.int .i64 ((q : Nat) : Int))) (r_move s255) ?_
                    refine l_v (v := (.int .i64 ((rd : Nat) : Int))) (r_move s253) ?_
                    refine l_v (v := (.int .i64 ((q + rd : Nat) : Int))) (r_add rfl rfl (w64 (by omega) (by omega) (by omega))) ?_
                    refine l_v (v := (.slice ak codes.length ck)) (r_move s245) ?_
                    refine l_v (v := (.int .i64 ((codes.length : Nat) : Int))) (r_lenSl F.sl22 rfl) ?_
                    have hmlt : (q + rd) % codes.length < codes.length := Nat.mod_lt _ (by omega)
                    refine l_v (v := (.int .i64 (((q + rd) % codes.length : Nat) : Int))) (r_rem rfl rfl (by omega) (rem_nat (q + rd) codes.length)) ?_
                    have k310 := c1.keep0 f3
                    have k311 := k310.keep0 f10
                    have k312 := k311.keep0 f17
                    have k313 := k312.keep0 f38
                    have k314 := k313.keep0 f69
                    have k315 := k314.keep f111 (ob_ob_new lt_c1 p54 (by omega))
                    have k316 := k315.keep f173 (ob_ob_new lt_c1 p54 (by omega))
                    have k317 := k316.keep0 f221
                    have k318 := k317.keep0 f229
                    have k319 := k318.keep f242 (ob_ob_new lt_c1 p54 (by omega))
                    have ha320 : ∃ ad, (ak : Option Addr) = some ad := k319.sl.some (by rw [bv_len]; have := ((Nat.mod_lt _ (by omega)) : (q + rd) % codes.length < (codes).length); omega)
                    obtain ⟨z, hz9⟩ := get_some (l := codes) (k := (q + rd) % codes.length) (Nat.mod_lt _ (by omega))
                    refine l_v (v := (.pointer (some ((adr ak).add ((q + rd) % codes.length))))) (r_indexAddr F.sle22 rfl rfl ha320 (by omega) (by have := get_lt hz9; (try simp only [settleTo_len, settle_len, startL_len, endsL_len, endL_len, cancelL_len, playL_len, newL_len, List.length_map, List.length_set, List.length_replicate, doL_len] at this); omega) (by first | rfl | (simp; done) | omega | (simp only [Int.toNat_natCast, Nat.mul_one]; done))) ?_
                    have hz9b := z.toNat_lt
                    have s321 := k319.sl
                    refine l_v (v := (.int .u8 ((z.toNat : Nat) : Int))) (r_loadE1 F.one5 s321 rfl (bv_vs hz9)) ?_
                    refine l_v (v := (.int .i64 ((z.toNat : Nat) : Int))) (r_convI F.und5 Proofs.Try.underlying3 rfl (w64 (by omega) (by omega) rfl)) ?_
                    refine l_v (v := (.int .i64 ((z.toNat : Nat) : Int))) (r_assign rfl) ?_
                    refine l_nil ?_
                    refine (x_then ?_)
                    exact ⟨_, rfl, z.toNat, s243, s244, s245, s246, s247, s248, s249, s250, s251, s252, s253, s254, s255, rfl, s256, s257, s258, s259, s260, s261, s262, s263, s264, s265, s266, s267, s268, s269, s270, s271, s272, s273, s274, s275, s276, s277, s278, s279, s280, s281, s282, s283, s284, s285, s286, s287, s288, s289, s290, s291, s292, s293, s294, s295, s296, s297, s298, rfl, rfl, rfl, rfl, t308, (by omega)⟩
                  ·
                    refine c_skip ?_
                    refine (x_then ?_)
                    exact ⟨_, rfl, 0, s243, s244, s245, s246, s247, s248, s249, s250, s251, s252, s253, s254, s255, rfl, s256, s257, s258, s259, s260, s261, s262, s263, s264, s265, s266, s267, s268, s269, s270, s271, s272, s273, s274, s275, s276, s277, s278, s279, s280, s281, s282, s283, s284, s285, s286, s287, s288, s289, s290, s291, s292, s293, s294, s295, s296, s297, s298, rfl, rfl, rfl, rfl, t308, (by omega)⟩
                ·
                  rintro e322 w323 ⟨cd, s325, s326, s327, s328, s329, s330, s331, s332, s333, s334, s335, s336, s337, s338, s339, s340, s341, s342, s343, s344, s345, s346, s347, s348, s349, s350, s351, s352, s353, s354, s355, s356, s357, s358, s359, s360, s361, s362, s363, s364, s365, s366, s367, s368, s369, s370, s371, s372, s373, s374, s375, s376, s377, s378, s379, s380, s381, s382, s383, s384, s385, f324, p386⟩
                  have z387 := f324.size
                  have t388 := t303.trans0 f324
                  have t389 := t304.trans0 f324
                  have t390 := t_f242.trans0 f324
                  refine c_seq ?_
                  refine c_region ?_
                  refine l_v (v := (.slice a_230 ss.length c_231)) (r_move s336) ?_
                  refine l_v (v := (.int .i64 ((q : Nat) : Int))) (r_move s337) ?_
                  have k391 := h232.keep f242 (ob_ob_old p233 l65 (by omega))
                  have k392 := k391.keep0 f324
                  have ha393 : ∃ ad, (a_230 : Option Addr) = some ad := k392.sl.some (by rw [sts_len]; have := ((by first | omega | (simp only [settleTo_len, settle_len, startL_len, endsL_len, endL_len, cancelL_len, playL_len, newL_len, List.length_map, List.length_set, List.length_replicate, doL_len]; omega)) : q < (ss).length); omega)
                  obtain ⟨s, hs⟩ := get_some (l := ss) (k := q) (by first | omega | (simp only [settleTo_len, settle_len, startL_len, endsL_len, endL_len, cancelL_len, playL_len, newL_len, List.length_map, List.length_set, List.length_replicate, doL_len]; omega))
                  refine l_v (v := (.pointer (some ((adr a_230).add (q * 6))))) (r_indexAddr F.sle49 rfl rfl ha393 (by omega) (by have := get_lt hs; (try simp only [settleTo_len, settle_len, startL_len, endsL_len, endL_len, cancelL_len, playL_len, newL_len, List.length_map, List.length_set, List.length_replicate, doL_len] at this); omega) (by first | rfl | (simp; done) | omega | (simp only [Int.toNat_natCast, Nat.mul_one]; done))) ?_
                  refine l_v (v := (.pointer (some ((adr a_230).add (q * 6))))) (r_field_e0 F.fo56_0 rfl) ?_
                  have s394 := k392.sl
                  refine l_v (v := (.int .u8 s.state)) (r_loadE1 F.one5 s394 rfl (sts_vs hs 0 _ rfl)) ?_
                  refine l_nil ?_
                  refine (x_then ?_)
                  refine c_block ?_
                  refine c_seq ?_
                  refine c_region ?_
                  refine l_v (v := (.bool (decide (s.state = 2)))) (r_eql rfl rfl) ?_
                  refine l_v (v := (.bool (decide (s.state = 2)))) (r_assign rfl) ?_
                  refine l_nil ?_
                  refine (x_then ?_)
                  refine c_if (p := s.state = 2) rfl (fun c395 => ?_) (fun c395 => ?_)
                  ·
                    refine c_seq ?_
                    refine c_region ?_
                    refine l_v (v := (.pointer (some ⟨b_39, 0, none⟩))) (r_move s329) ?_
                    refine l_v (v := (.int .i64 ((q : Nat) : Int))) (r_move s337) ?_
                    have hz := play_zero (hR.keep q s (Nat.le_refl _) hs (by omega)) (by omega)
                    refine l_do rfl ?_
                    have k396 := h299.keep0 f324
                    have k397 := h47.keep0 f69
                    have k398 := k397.keep f111 p57
                    have k399 := k398.keep f173 p57
                    have k400 := k399.keep0 f221
                    have k401 := k400.keep0 f229
                    have k402 := k401.keep f242 p57
                    have k403 := k402.keep0 f324
                    have k404 := h48.keep0 f69
                    have k405 := k404.keep f111 p58
                    have k406 := k405.keep f173 p58
                    have k407 := k406.keep0 f221
                    have k408 := k407.keep0 f229
                    have k409 := k408.keep f242 p58
                    have k410 := k409.keep0 f324
                    have k411 := h300.keep0 f324
                    refine d_call (fl := []) (cl := []) (A := [(.pointer (some ⟨b_39, 0, none⟩)), (.int .i64 ((q : Nat) : Int))]) (B := [(.pointer (some ⟨b_39, 0, none⟩)), (.int .i64 ((q : Nat) : Int))]) F.ok29 rfl (ac rfl (ac rfl an)) rfl (play_c (b := b_39) (i := ((q : Nat) : Int)) (aj := aj_40) (js := js_44) (cj := cj_41) (al := al_42) (ss := cur) (cl := cl_43) (L := L_45) k396 k403 k410 k411 hjc hM n305 p57 p58) ?_
                    rintro _ w412 ⟨rfl, f413, h414, h415⟩
                    have z416 := f413.size
                    have t417 := t388.step f413 (ob_new p54 (by omega))
                    have t418 := t389.step f413 (ob_in (by intro x hx; simp [hx]))
                    have t419 := t390.step f413 (ob_in (by intro x hx; simp [hx]))
                    refine l_v (v := (.bool (decide ((playC cur ((q : Nat) : Int)) ≠ 0)))) (r_neq rfl rfl) ?_
                    refine l_nil ?_
                    refine (x_then ?_)
                    refine c_if (p := (playC cur ((q : Nat) : Int)) ≠ 0) rfl (fun c420 => ?_) (fun c420 => ?_)
                    ·
                      exfalso; omega
                    ·
                      refine c_skip ?_
                      refine (x_blk (x_blk (x_then ?_)))
                      refine c_region ?_
                      refine l_v (v := (.int .i64 ((q : Nat) : Int))) (r_move s337) ?_
                      refine l_v (v := (.int .i64 ((q + 1 : Nat) : Int))) (r_add rfl rfl (w64 (by omega) (by omega) (by omega))) ?_
                      refine l_v (v := (.int .i64 ((q + 1 : Nat) : Int))) (r_assign rfl) ?_
                      refine l_nil ?_
                      refine (x_then ?_)
                      exact ⟨_, _, (by omega), rfl, q + 1, st2, (playL (js_44.map JobP.m) cur ((q : Nat) : Int)), cs2, rfl, s325, s326, s327, s328, s329, s330, s331, s332, s333, s334, s335, s336, rfl, s339, s340, s341, s342, s343, s344, s345, s346, s347, s348, s349, s350, s351, s352, s353, s354, s355, s356, s357, s358, s359, s360, s361, s362, s363, s364, s365, s366, s367, s368, s369, s370, s371, s372, s373, s374, s375, s376, s377, s378, s379, s380, s381, t419, h414, h415, (by omega), (round_play hM hR hs (by omega))⟩
                  ·
                    refine c_seq ?_
                    refine c_region ?_
                    refine l_v (v := (.bool (decide (s.state = 4)))) (r_eql rfl rfl) ?_
                    refine l_v (v := (.bool (decide (s.state = 4)))) (r_assign rfl) ?_
                    refine l_nil ?_
                    refine (x_then ?_)
                    refine c_if (p := s.state = 4) rfl (fun c421 => ?_) (fun c421 => ?_)
                    ·
                      refine c_seq ?_
                      refine c_region ?_
                      refine l_v (v := (.pointer (some ⟨b_39, 0, none⟩))) (r_move s329) ?_
                      refine l_v (v := (.int .i64 ((q : Nat) : Int))) (r_move s337) ?_
                      refine l_v (v := (.slice a_230 ss.length c_231)) (r_move s336) ?_
                      refine l_v (v := (.int .i64 ((q : Nat) : Int))) (r_move s337) ?_
                      have ha422 : ∃ ad, (a_230 : Option Addr) = some ad := k392.sl.some (by rw [sts_len]; have := ((by first | omega | (simp only [settleTo_len, settle_len, startL_len, endsL_len, endL_len, cancelL_len, playL_len, newL_len, List.length_map, List.length_set, List.length_replicate, doL_len]; omega)) : q < (ss).length); omega)
                      refine l_v (v := (.pointer (some ((adr a_230).add (q * 6))))) (r_indexAddr F.sle49 rfl rfl ha422 (by omega) (by have := get_lt hs; (try simp only [settleTo_len, settle_len, startL_len, endsL_len, endL_len, cancelL_len, playL_len, newL_len, List.length_map, List.length_set, List.length_replicate, doL_len] at this); omega) (by first | rfl | (simp; done) | omega | (simp only [Int.toNat_natCast, Nat.mul_one]; done))) ?_
                      refine l_v (v := (.pointer (some ((adr a_230).add (q * 6 + 2))))) (r_field_e F.fo56_2 rfl) ?_
                      refine l_v (v := (.int .i64 s.badge)) (r_loadE1 F.one3 s394 rfl (sts_vs hs 2 _ rfl)) ?_
                      refine l_v (v := (.int .i64 ((cd : Nat) : Int))) (r_move s338) ?_
                      have hz := end_zero (code := ((cd : Nat) : Int)) (hR.keep q s (Nat.le_refl _) hs (by omega)) (by omega) (by omega) (by omega)
                      refine l_do rfl ?_
                      have k423 := h299.keep0 f324
                      have k424 := h47.keep0 f69
                      have k425 := k424.keep f111 p57
                      have k426 := k425.keep f173 p57
                      have k427 := k426.keep0 f221
                      have k428 := k427.keep0 f229
                      have k429 := k428.keep f242 p57
                      have k430 := k429.keep0 f324
                      have k431 := h48.keep0 f69
                      have k432 := k431.keep f111 p58
                      have k433 := k432.keep f173 p58
                      have k434 := k433.keep0 f221
                      have k435 := k434.keep0 f229
                      have k436 := k435.keep f242 p58
                      have k437 := k436.keep0 f324
                      have k438 := h300.keep0 f324
                      refine d_call (fl := []) (cl := []) (A := [(.pointer (some ⟨b_39, 0, none⟩)), (.int .i64 ((q : Nat) : Int)), (.int .i64 s.badge), (.int .i64 ((cd : Nat) : Int))]) (B := [(.pointer (some ⟨b_39, 0, none⟩)), (.int .i64 ((q : Nat) : Int)), (.int .i64 s.badge), (.int .i64 ((cd : Nat) : Int))]) F.ok30 rfl (ac rfl (ac rfl (ac rfl (ac rfl an)))) rfl (end_c (b := b_39) (i := ((q : Nat) : Int)) (badge := s.badge) (number := ((cd : Nat) : Int)) (aj := aj_40) (js := js_44) (cj := cj_41) (al := al_42) (ss := cur) (cl := cl_43) (L := L_45) k423 k430 k437 k438 hjc hM n305 p57 p58) ?_
                      rintro _ w439 ⟨rfl, f440, h441, h442⟩
                      have z443 := f440.size
                      have t444 := t388.step f440 (ob_new p54 (by omega))
                      have t445 := t389.step f440 (ob_in (by intro x hx; simp [hx]))
                      have t446 := t390.step f440 (ob_in (by intro x hx; simp [hx]))
                      refine l_v (v := (.bool (decide ((endC cur ((q : Nat) : Int) s.badge ((cd : Nat) : Int)) ≠ 0)))) (r_neq rfl rfl) ?_
                      refine l_nil ?_
                      refine (x_then ?_)
                      refine c_if (p := (endC cur ((q : Nat) : Int) s.badge ((cd : Nat) : Int)) ≠ 0) rfl (fun c447 => ?_) (fun c447 => ?_)
                      ·
                        exfalso; omega
                      ·
                        refine c_skip ?_
                        refine (x_blk (x_blk (x_then ?_)))
                        refine c_region ?_
                        refine l_v (v := (.int .i64 ((q : Nat) : Int))) (r_move s337) ?_
                        refine l_v (v := (.int .i64 ((q + 1 : Nat) : Int))) (r_add rfl rfl (w64 (by omega) (by omega) (by omega))) ?_
                        refine l_v (v := (.int .i64 ((q + 1 : Nat) : Int))) (r_assign rfl) ?_
                        refine l_nil ?_
                        refine (x_then ?_)
                        exact ⟨_, _, (by omega), rfl, q + 1, st2, (endL (js_44.map JobP.m) cur ((q : Nat) : Int) s.badge ((cd : Nat) : Int)), cs2, rfl, s325, s326, s327, s328, s329, s330, s331, s332, s333, s334, s335, s336, rfl, s339, s340, s341, s342, s343, s344, s345, s346, s347, s348, s349, s350, s351, s352, s353, s354, s355, s356, s357, s358, s359, s360, s361, s362, s363, s364, s365, s366, s367, s368, s369, s370, s371, s372, s373, s374, s375, s376, s377, s378, s379, s380, s381, t446, h441, h442, (by omega), (round_end hM hR hs (by omega) (by omega) (by omega))⟩
                    ·
                      refine c_seq ?_
                      refine c_region ?_
                      refine l_v (v := (.bool (decide (s.state = 3)))) (r_eql rfl rfl) ?_
                      refine l_v (v := (.bool (decide (s.state = 3)))) (r_assign rfl) ?_
                      refine l_nil ?_
                      refine (x_then ?_)
                      refine c_if (p := s.state = 3) rfl (fun c448 => ?_) (fun c448 => ?_)
                      ·
                        refine c_seq ?_
                        refine c_region ?_
                        refine l_v (v := (.int .i64 ((st2 : Nat) : Int))) (r_move s334) ?_
                        refine l_v (v := (.int .i64 ((st2 + 1 : Nat) : Int))) (r_add rfl rfl (w64 (by omega) (by omega) (by omega))) ?_
                        refine l_v (v := (.int .i64 ((st2 + 1 : Nat) : Int))) (r_assign rfl) ?_
                        refine l_nil ?_
                        refine (x_then ?_)
                        refine c_seq ?_
                        refine c_region ?_
                        refine l_v (v := (.pointer (some ⟨b_39, 0, none⟩))) (r_move s329) ?_
                        refine l_v (v := (.int .i64 ((q : Nat) : Int))) (r_move s337) ?_
                        refine l_v (v := (.int .i64 ((st2 + 1 : Nat) : Int))) (r_move rfl) ?_
                        refine l_v (v := (.int .i64 ((1000 + (st2 + 1) : Nat) : Int))) (r_add rfl rfl (w64 (by omega) (by omega) (by omega))) ?_
                        refine l_v (v := (.int .i64 ((rd : Nat) : Int))) (r_move s335) ?_
                        obtain ⟨hz1, hz2, htr, cs3, hR3⟩ := round_run (badge := ((1000 + (st2 + 1) : Nat) : Int)) (now := ((rd : Nat) : Int)) (code := ((cd : Nat) : Int)) hM hR hs (by omega) (by omega) (by omega) (by omega) (by omega) (by omega) (by omega)
                        refine l_do rfl ?_
                        have k449 := h299.keep0 f324
                        have k450 := h47.keep0 f69
                        have k451 := k450.keep f111 p57
                        have k452 := k451.keep f173 p57
                        have k453 := k452.keep0 f221
                        have k454 := k453.keep0 f229
                        have k455 := k454.keep f242 p57
                        have k456 := k455.keep0 f324
                        have k457 := h48.keep0 f69
                        have k458 := k457.keep f111 p58
                        have k459 := k458.keep f173 p58
                        have k460 := k459.keep0 f221
                        have k461 := k460.keep0 f229
                        have k462 := k461.keep f242 p58
                        have k463 := k462.keep0 f324
                        have k464 := h300.keep0 f324
                        refine d_call (fl := []) (cl := []) (A := [(.pointer (some ⟨b_39, 0, none⟩)), (.int .i64 ((q : Nat) : Int)), (.int .i64 ((1000 + (st2 + 1) : Nat) : Int)), (.int .i64 ((rd : Nat) : Int))]) (B := [(.pointer (some ⟨b_39, 0, none⟩)), (.int .i64 ((q : Nat) : Int)), (.int .i64 ((1000 + (st2 + 1) : Nat) : Int)), (.int .i64 ((rd : Nat) : Int))]) F.ok31 rfl (ac rfl (ac rfl (ac rfl (ac rfl an)))) rfl (start_c (b := b_39) (i := ((q : Nat) : Int)) (badge := ((1000 + (st2 + 1) : Nat) : Int)) (now := ((rd : Nat) : Int)) (aj := aj_40) (js := js_44) (cj := cj_41) (al := al_42) (ss := cur) (cl := cl_43) (L := L_45) k449 k456 k463 k464 hjc hM n305 p57 p58 htr) ?_
                        rintro _ w465 ⟨rfl, f466, h467, h468⟩
                        have z469 := f466.size
                        have t470 := t388.step f466 (ob_new p54 (by omega))
                        have t471 := t389.step f466 (ob_in (by intro x hx; simp [hx]))
                        have t472 := t390.step f466 (ob_in (by intro x hx; simp [hx]))
                        refine l_v (v := (.bool (decide ((startC cur ((q : Nat) : Int) ((1000 + (st2 + 1) : Nat) : Int) ((rd : Nat) : Int)) ≠ 0)))) (r_neq rfl rfl) ?_
                        refine l_v (v := (.bool (decide ((startC cur ((q : Nat) : Int) ((1000 + (st2 + 1) : Nat) : Int) ((rd : Nat) : Int)) ≠ 0)))) (r_move rfl) ?_
                        refine l_em (p := (startC cur ((q : Nat) : Int) ((1000 + (st2 + 1) : Nat) : Int) ((rd : Nat) : Int)) ≠ 0) ?_ ?_
                        · intro c473
                          exfalso; omega
                        · intro c473
                          refine l_gv (v := (.pointer (some ⟨b_39, 0, none⟩))) (wanted_run rfl rfl (bn rfl c473)) (r_move s329) ?_
                          refine l_gv (v := (.int .i64 ((q : Nat) : Int))) (wanted_run rfl rfl (bn rfl c473)) (r_move s337) ?_
                          refine l_gv (v := (.int .i64 ((st2 + 1 : Nat) : Int))) (wanted_run rfl rfl (bn rfl c473)) (r_move rfl) ?_
                          refine l_gv (v := (.int .i64 ((1000 + (st2 + 1) : Nat) : Int))) (wanted_run rfl rfl (bn rfl c473)) (r_add rfl rfl (w64 (by omega) (by omega) (by omega))) ?_
                          refine l_gv (v := (.int .i64 ((cd : Nat) : Int))) (wanted_run rfl rfl (bn rfl c473)) (r_move s338) ?_
                          refine l_gdo (wanted_run rfl rfl (bn rfl c473)) ?_
                          have k474 := k456.keep f466 p57
                          have k475 := k463.keep f466 p58
                          refine d_call (fl := []) (cl := []) (A := [(.pointer (some ⟨b_39, 0, none⟩)), (.int .i64 ((q : Nat) : Int)), (.int .i64 ((1000 + (st2 + 1) : Nat) : Int)), (.int .i64 ((cd : Nat) : Int))]) (B := [(.pointer (some ⟨b_39, 0, none⟩)), (.int .i64 ((q : Nat) : Int)), (.int .i64 ((1000 + (st2 + 1) : Nat) : Int)), (.int .i64 ((cd : Nat) : Int))]) F.ok30 rfl (ac rfl (ac rfl (ac rfl (ac rfl an)))) rfl (end_c (b := b_39) (i := ((q : Nat) : Int)) (badge := ((1000 + (st2 + 1) : Nat) : Int)) (number := ((cd : Nat) : Int)) (aj := aj_40) (js := js_44) (cj := cj_41) (al := al_42) (ss := (startL cur ((q : Nat) : Int) ((1000 + (st2 + 1) : Nat) : Int) ((rd : Nat) : Int))) (cl := cl_43) (L := L_45) h467 k474 k475 h468 (by rw [startL_len]; exact hjc) hM n305 p57 p58) ?_
                          rintro _ w476 ⟨rfl, f477, h478, h479⟩
                          have z480 := f477.size
                          have t481 := t470.step f477 (ob_new p54 (by omega))
                          have t482 := t471.step f477 (ob_in (by intro x hx; simp [hx]))
                          have t483 := t472.step f477 (ob_in (by intro x hx; simp [hx]))
                          refine l_gv (v := (.bool (decide ((endC (startL cur ((q : Nat) : Int) ((1000 + (st2 + 1) : Nat) : Int) ((rd : Nat) : Int)) ((q : Nat) : Int) ((1000 + (st2 + 1) : Nat) : Int) ((cd : Nat) : Int)) ≠ 0)))) (wanted_run rfl rfl (bn rfl c473)) (r_neq rfl rfl) ?_
                          refine l_v (v := (.bool (decide ((endC (startL cur ((q : Nat) : Int) ((1000 + (st2 + 1) : Nat) : Int) ((rd : Nat) : Int)) ((q : Nat) : Int) ((1000 + (st2 + 1) : Nat) : Int) ((cd : Nat) : Int)) ≠ 0)))) (r_pick_f (bn rfl c473) rfl) ?_
                          refine l_nil ?_
                          refine (x_then ?_)
                          refine c_if (p := (endC (startL cur ((q : Nat) : Int) ((1000 + (st2 + 1) : Nat) : Int) ((rd : Nat) : Int)) ((q : Nat) : Int) ((1000 + (st2 + 1) : Nat) : Int) ((cd : Nat) : Int)) ≠ 0) rfl (fun c484 => ?_) (fun c484 => ?_)
                          ·
                            exfalso; omega
                          ·
                            refine c_skip ?_
                            refine (x_blk (x_blk (x_then ?_)))
                            refine c_region ?_
                            refine l_v (v := (.int .i64 ((q : Nat) : Int))) (r_move s337) ?_
                            refine l_v (v := (.int .i64 ((q + 1 : Nat) : Int))) (r_add rfl rfl (w64 (by omega) (by omega) (by omega))) ?_
                            refine l_v (v := (.int .i64 ((q + 1 : Nat) : Int))) (r_assign rfl) ?_
                            refine l_nil ?_
                            refine (x_then ?_)
                            exact ⟨_, _, (by omega), rfl, q + 1, st2 + 1, (endL (js_44.map JobP.m) (startL cur ((q : Nat) : Int) ((1000 + (st2 + 1) : Nat) : Int) ((rd : Nat) : Int)) ((q : Nat) : Int) ((1000 + (st2 + 1) : Nat) : Int) ((cd : Nat) : Int)), cs3, rfl, s325, s326, s327, s328, s329, s330, s331, s332, s333, rfl, s335, s336, rfl, s339, s340, s341, s342, s343, s344, s345, s346, s347, s348, s349, s350, s351, s352, s353, s354, s355, s356, s357, s358, s359, s360, s361, s362, s363, s364, s365, s366, s367, s368, s369, s370, s371, s372, s373, s374, s375, s376, s377, s378, s379, s380, s381, t483, h478, h479, (by omega), hR3⟩
                      ·
                        refine c_skip ?_
                        refine (x_blk (x_blk (x_then ?_)))
                        refine c_region ?_
                        refine l_v (v := (.int .i64 ((q : Nat) : Int))) (r_move s337) ?_
                        refine l_v (v := (.int .i64 ((q + 1 : Nat) : Int))) (r_add rfl rfl (w64 (by omega) (by omega) (by omega))) ?_
                        refine l_v (v := (.int .i64 ((q + 1 : Nat) : Int))) (r_assign rfl) ?_
                        refine l_nil ?_
                        refine (x_then ?_)
                        have k485 := h299.keep0 f324
                        have k486 := h300.keep0 f324
                        exact ⟨_, _, (by omega), rfl, q + 1, st2, cur, cs2, rfl, s325, s326, s327, s328, s329, s330, s331, s332, s333, s334, s335, s336, rfl, s339, s340, s341, s342, s343, s344, s345, s346, s347, s348, s349, s350, s351, s352, s353, s354, s355, s356, s357, s358, s359, s360, s361, s362, s363, s364, s365, s366, s367, s368, s369, s370, s371, s372, s373, s374, s375, s376, s377, s378, s379, s380, s381, t390, k485, k486, (by omega), (round_skip hR hs (by omega))⟩
              ·
                refine c_exit ?_
                refine (x_then_x (x_then_x (x_blk_hit (x_blk (x_then ?_)))))
                refine c_region ?_
                refine l_v (v := (.int .i64 ((rd : Nat) : Int))) (r_move s253) ?_
                refine l_v (v := (.int .i64 ((rd + 1 : Nat) : Int))) (r_add rfl rfl (w64 (by omega) (by omega) (by omega))) ?_
                refine l_v (v := (.int .i64 ((rd + 1 : Nat) : Int))) (r_assign rfl) ?_
                refine l_nil ?_
                refine (x_then ?_)
                exact ⟨_, _, (by omega), rfl, rd + 1, st2, cur, cs2, rfl, s243, s244, s245, s246, s247, s248, s249, s250, s251, s252, rfl, s256, s257, s258, s259, s260, s261, s262, s263, s264, s265, s266, s267, s268, s269, s270, s271, s272, s273, s274, s275, s276, s277, s278, s279, s280, s281, s282, t304, h299, h300, hR.inv, hR.set, hR.sum, (by have h := round_done hM hI hS c225 hR (by omega); omega)⟩
            ·
              refine c_exit ?_
              refine (x_then_x (x_then_x (x_blk_hit (x_then ?_))))
              refine c_seq ?_
              refine c_region ?_
              refine l_v (v := (.pointer (some ⟨b_39, 0, none⟩))) (r_move s178) ?_
              refine l_do rfl ?_
              have k487 := h212.keep0 f221
              have k488 := h213.keep0 f221
              refine d_call (fl := []) (cl := []) (A := [(.pointer (some ⟨b_39, 0, none⟩))]) (B := [(.pointer (some ⟨b_39, 0, none⟩))]) F.ok28 rfl (ac rfl an) rfl (over_c (b := b_39) (aj := aj_40) (js := js_44) (cj := cj_41) (al := al_42) (ss := ss) (cl := cl_43) k487 k488 (by omega)) ?_
              rintro _ w489 ⟨rfl, f490⟩
              have z491 := f490.size
              have t492 := t223.trans0 f490
              refine l_v (v := (.bool (decide ((((picks (fun _ s => !(endd s.state)) ss).length : Nat) : Int) = 0)))) (r_move rfl) ?_
              refine l_gv (v := (.int .i64 ((st : Nat) : Int))) (wanted_run rfl rfl (bd rfl (Classical.not_not.1 c225))) (r_move s183) ?_
              refine l_gv (v := (.int .i64 sm)) (wanted_run rfl rfl (bd rfl (Classical.not_not.1 c225))) (r_move s180) ?_
              refine l_gv (v := (.bool (decide (((st : Nat) : Int) ≤ sm)))) (wanted_run rfl rfl (bd rfl (Classical.not_not.1 c225))) (r_leq rfl rfl) ?_
              refine l_v (v := (.bool (decide (((st : Nat) : Int) ≤ sm)))) (r_pick_t (bd rfl (Classical.not_not.1 c225)) rfl) ?_
              refine l_v (v := (.bool (decide (((st : Nat) : Int) ≤ sm)))) (r_move rfl) ?_
              refine l_em (p := ((st : Nat) : Int) ≤ sm) ?_ ?_
              · intro c493
                refine l_gv (v := (.pointer (some ⟨b_39, 0, none⟩))) (wanted_run rfl rfl (bd rfl c493)) (r_move s178) ?_
                refine l_gdo (wanted_run rfl rfl (bd rfl c493)) ?_
                have k494 := k487.keep0 f490
                have k495 := k488.keep0 f490
                refine d_call (fl := []) (cl := []) (A := [(.pointer (some ⟨b_39, 0, none⟩))]) (B := [(.pointer (some ⟨b_39, 0, none⟩))]) F.ok32 rfl (ac rfl an) rfl (ready_c (b := b_39) (aj := aj_40) (js := js_44) (cj := cj_41) (al := al_42) (ss := ss) (cl := cl_43) k494 k495 (by omega)) ?_
                rintro _ w496 ⟨a_498, c_499, rfl, f497, h500, p501⟩
                have z502 := f497.size
                have t503 := t492.trans0 f497
                have l504 := h500.lt
                refine l_gv (v := (.int .i64 (((picks (fun _ s => decide (s.state = 3)) ss).length : Nat) : Int))) (wanted_run rfl rfl (bd rfl c493)) (r_lenSl F.sl48 rfl) ?_
                refine l_gv (v := (.bool (decide ((((picks (fun _ s => decide (s.state = 3)) ss).length : Nat) : Int) = 0)))) (wanted_run rfl rfl (bd rfl c493)) (r_eql rfl rfl) ?_
                refine l_v (v := (.bool (decide ((((picks (fun _ s => decide (s.state = 3)) ss).length : Nat) : Int) = 0)))) (r_pick_t (bd rfl c493) rfl) ?_
                refine l_v (v := (.bool (decide ((((picks (fun _ s => decide (s.state = 3)) ss).length : Nat) : Int) = 0)))) (r_assign rfl) ?_
                refine l_nil ?_
                refine (x_then ?_)
                refine c_ret ?_
                refine p_ret (v := (.bool (decide ((((picks (fun _ s => decide (s.state = 3)) ss).length : Nat) : Int) = 0)))) (res1 rfl rfl) ?_
                exact ⟨(by rw [decide_eq_true (over_ready (Classical.not_not.1 c225))]), t503⟩
              · intro c493
                exfalso; omega
          · intro c219
            exfalso; have h0 := Phi_nonneg hI; omega

end Go.Sy
