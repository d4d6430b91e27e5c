/- Walks of package jobs. -/
import Derived.Test.YtnhpfhhpochgfaaFacts
import Derived.Test.YtnhpfhhpochgfaaPJobs
namespace Go.Sy
set_option linter.unusedVariables false
set_option linter.unusedSimpArgs false

set_option maxHeartbeats 400000 in
set_option maxRecDepth 100000 in
theorem ended_c {w : World} {s : Int}  :
    Calls Proofs.Try.prog 27 #[(.int .u8 s)] w (Ret fun v w' => v = (.bool (endd s)) ∧ Fr [] w w') := by
  have t0 : Fr [] w w := Fr.refl _ _
  refine enter Proofs.Try.func27 rfl Proofs.Try.ntmps27 (Nat.le_of_ble_eq_true rfl) ?_
  refine c_seq ?_
  refine c_region ?_
  refine l_v (v := (.bool false)) (r_assign rfl) ?_
  refine l_nil ?_
  refine (x_then ?_)
  refine c_seq ?_
  refine c_region ?_
  refine l_v (v := (.int .u8 s)) (r_move rfl) ?_
  refine l_v (v := (.bool (decide (5 ≤ s)))) (r_geq rfl rfl) ?_
  refine l_v (v := (.bool (decide (5 ≤ s)))) (r_move rfl) ?_
  refine l_em (p := 5 ≤ s) ?_ ?_
  · intro c1
    refine l_gv (v := (.int .u8 s)) (wanted_run rfl rfl (bd rfl c1)) (r_move rfl) ?_
    refine l_gv (v := (.bool (decide (s ≤ 11)))) (wanted_run rfl rfl (bd rfl c1)) (r_leq rfl rfl) ?_
    refine l_v (v := (.bool (decide (s ≤ 11)))) (r_pick_t (bd rfl c1) rfl) ?_
    refine l_v (v := (.bool (decide (s ≤ 11)))) (r_assign rfl) ?_
    refine l_nil ?_
    refine (x_then ?_)
    refine c_ret ?_
    refine p_ret (v := (.bool (decide (s ≤ 11)))) (res1 rfl rfl) ?_
    exact ⟨(by unfold endd; simp [*]), t0⟩
  · intro c1
    refine l_skip (wanted_not rfl rfl (bn rfl c1) (by decide)) ?_
    refine l_skip (wanted_not rfl rfl (bn rfl c1) (by decide)) ?_
    refine l_v (v := (.bool false)) (r_pick_f (bn rfl c1) rfl) ?_
    refine l_v (v := (.bool false)) (r_assign rfl) ?_
    refine l_nil ?_
    refine (x_then ?_)
    refine c_ret ?_
    refine p_ret (v := (.bool false)) (res1 rfl rfl) ?_
    exact ⟨(by unfold endd; simp [*]), t0⟩

set_option maxHeartbeats 400000 in
set_option maxRecDepth 100000 in
theorem jcount_c {w : World} {n least : Int}  :
    Calls Proofs.Try.prog 93 #[(.int .i64 n), (.int .i64 least)] w (Ret fun v w' => v = (.bool (decide (least ≤ n ∧ n ≤ 2147483647))) ∧ Fr [] w w') := by
  have t0 : Fr [] w w := Fr.refl _ _
  refine enter Proofs.Try.func93 rfl Proofs.Try.ntmps93 (Nat.le_of_ble_eq_true rfl) ?_
  refine c_seq ?_
  refine c_region ?_
  refine l_v (v := (.bool false)) (r_assign rfl) ?_
  refine l_nil ?_
  refine (x_then ?_)
  refine c_seq ?_
  refine c_region ?_
  refine l_v (v := (.int .i64 n)) (r_move rfl) ?_
  refine l_v (v := (.int .i64 least)) (r_move rfl) ?_
  refine l_v (v := (.bool (decide (least ≤ n)))) (r_geq rfl rfl) ?_
  refine l_v (v := (.bool (decide (least ≤ n)))) (r_move rfl) ?_
  refine l_em (p := least ≤ n) ?_ ?_
  · intro c1
    refine l_gv (v := (.int .i64 n)) (wanted_run rfl rfl (bd rfl c1)) (r_move rfl) ?_
    refine l_gv (v := (.bool (decide (n ≤ 2147483647)))) (wanted_run rfl rfl (bd rfl c1)) (r_leq rfl rfl) ?_
    refine l_v (v := (.bool (decide (n ≤ 2147483647)))) (r_pick_t (bd rfl c1) rfl) ?_
    refine l_v (v := (.bool (decide (n ≤ 2147483647)))) (r_assign rfl) ?_
    refine l_nil ?_
    refine (x_then ?_)
    refine c_ret ?_
    refine p_ret (v := (.bool (decide (n ≤ 2147483647)))) (res1 rfl rfl) ?_
    exact ⟨(congrArg Value.bool (by rw [Bool.eq_iff_iff]; simp; omega)), t0⟩
  · intro c1
    refine l_skip (wanted_not rfl rfl (bn rfl c1) (by decide)) ?_
    refine l_skip (wanted_not rfl rfl (bn rfl c1) (by decide)) ?_
    refine l_v (v := (.bool false)) (r_pick_f (bn rfl c1) rfl) ?_
    refine l_v (v := (.bool false)) (r_assign rfl) ?_
    refine l_nil ?_
    refine (x_then ?_)
    refine c_ret ?_
    refine p_ret (v := (.bool false)) (res1 rfl rfl) ?_
    exact ⟨(congrArg Value.bool (by rw [Bool.eq_iff_iff]; simp; omega)), t0⟩

set_option maxHeartbeats 400000 in
set_option maxRecDepth 100000 in
theorem needed_c {w : World} {b cj cl : Nat} {aj al : Option Addr} {js : List JobP} {L : List Nat} {ss : List St} {i : Int} (h1 : At w b (.cells #[(.slice aj js.length cj), (.slice al ss.length cl)] 142 (0, 0))) (h2 : Ro w aj js.length cj (jbs js)) (h3 : JNds w L js) (h4 : Own w 56 6 al ss.length cl (sts ss)) (hl : js.length = ss.length) (hm : mayB (js.map JobP.m) = true) (hi : 0 ≤ i ∧ i < ((js.length : Nat) : Int)) :
    Calls Proofs.Try.prog 154 #[(.pointer (some ⟨b, 0, none⟩)), (.int .i64 i)] w (Ret fun v w' => v = (.tuple #[(.bool (passedB (js.map JobP.m) ss i.toNat)), (.bool (brokenB (js.map JobP.m) ss i.toNat))]) ∧ Fr [] w w') := by
  have lt_h1 := h1.lt
  have lt_h2 := h2.lt
  have lt_h3 := h3.lt
  have lt_h4 := h4.lt
  have n1 := ob_ne' h4.tag h1 rfl
  obtain ⟨hi0, hi1⟩ := hi
  obtain ⟨hm1, hm2⟩ := may_spec hm
  rw [List.length_map] at hm1
  have t0 : Fr [] w w := Fr.refl _ _
  refine enter Proofs.Try.func154 rfl Proofs.Try.ntmps154 (Nat.le_of_ble_eq_true rfl) ?_
  refine c_seq ?_
  refine c_region ?_
  refine l_v (v := (.bool false)) (r_assign rfl) ?_
  refine l_v (v := (.bool false)) (r_assign rfl) ?_
  refine l_nil ?_
  refine (x_then ?_)
  refine c_seq ?_
  refine c_region ?_
  refine l_v (v := (.bool true)) (r_assign rfl) ?_
  refine l_nil ?_
  refine (x_then ?_)
  refine c_seq ?_
  refine c_seq ?_
  refine c_region ?_
  refine l_v (v := (.pointer (some ⟨b, 0, none⟩))) (r_move rfl) ?_
  refine l_v (v := (.pointer (some ⟨b, 0, none⟩))) (r_nil_ptr rfl) ?_
  refine l_v (v := (.pointer (some ⟨b, 0, none⟩))) (r_field_l F.fo142_0 rfl rfl) ?_
  refine l_v (v := (.slice aj js.length cj)) (r_load1 F.one140 rfl (At.cell h1 rfl)) ?_
  refine l_v (v := (.int .i64 i)) (r_move rfl) ?_
  have ha2 : ∃ ad, aj = some ad := h2.sl.some (by rw [jbs_len]; have := ((by first | omega | (simp only [settleTo_len, settle_len, startL_len, endsL_len, endL_len, cancelL_len, playL_len, newL_len, List.length_map, List.length_set, List.length_replicate, doL_len]; omega)) : (i).toNat < (js).length); omega)
  obtain ⟨x, hx⟩ := get_some (l := js) (k := (i).toNat) (by first | omega | (simp only [settleTo_len, settle_len, startL_len, endsL_len, endL_len, cancelL_len, playL_len, newL_len, List.length_map, List.length_set, List.length_replicate, doL_len]; omega))
  refine l_v (v := (.pointer (some ((adr aj).add ((i).toNat * 4))))) (r_indexAddr F.sle140 rfl rfl ha2 (by omega) (by have := get_lt hx; (try simp only [settleTo_len, settle_len, startL_len, endsL_len, endL_len, cancelL_len, playL_len, newL_len, List.length_map, List.length_set, List.length_replicate, doL_len] at this); omega) (by first | rfl | simp | omega)) ?_
  have hnx := h3.get hx
  obtain ⟨_, _, _, _, hrn⟩ := jobB_spec (hm2 _ _ (jm_get hx))
  have hln := jobB_len (hm2 _ _ (jm_get hx))
  refine l_v (v := (.pointer (some ((adr aj).add ((i).toNat * 4))))) (r_field_e0 F.fo160_0 rfl) ?_
  have s3 := h2.sl
  refine l_v (v := (.slice x.na x.m.needs.length x.nc)) (r_loadE1 F.one48 s3 rfl (jbs_vs hx 0 _ rfl)) ?_
  refine l_v (v := (.int .i64 ((x.m.needs.length : Nat) : Int))) (r_lenSl F.sl48 rfl) ?_
  refine l_v (v := (.int .i64 0)) (r_move rfl) ?_
  refine l_nil ?_
  refine (x_then ?_)
  refine c_block ?_
  refine c_loop (fun (m : Nat) (e' : Nat → Value) (w' : World) => ∃ q : Nat, m = x.m.needs.length - q ∧ e' 0 = (.pointer (some ⟨b, 0, none⟩)) ∧ e' 1 = (.int .i64 i) ∧ e' 4 = (.bool ((x.m.needs.take q).all (psd ss))) ∧ e' 5 = (.bool ((x.m.needs.take q).any (brk ss))) ∧ e' 9 = (.pointer (some ⟨b, 0, none⟩)) ∧ e' 10 = (.pointer (some ⟨b, 0, none⟩)) ∧ e' 11 = (.pointer (some ⟨b, 0, none⟩)) ∧ e' 12 = (.slice aj js.length cj) ∧ e' 13 = (.int .i64 i) ∧ e' 14 = (.pointer (some ((adr aj).add ((i).toNat * 4)))) ∧ e' 15 = (.pointer (some ((adr aj).add ((i).toNat * 4)))) ∧ e' 16 = (.slice x.na x.m.needs.length x.nc) ∧ e' 17 = (.int .i64 ((x.m.needs.length : Nat) : Int)) ∧ e' 18 = (.int .i64 ((q : Nat) : Int)) ∧ Fr [] w w' ∧ (q ≤ x.m.needs.length)) (x.m.needs.length - 0) ⟨0, rfl, rfl, rfl, (Eq.trans (b := (.bool true)) rfl (by first | rfl | (congr 1; first | rfl | omega | simp | (simp; omega)))), (Eq.trans (b := (.bool false)) rfl (by first | rfl | (congr 1; first | rfl | omega | simp | (simp; omega)))), rfl, rfl, rfl, rfl, rfl, rfl, rfl, rfl, rfl, rfl, Fr.refl _ _, (by omega)⟩ ?_
  rintro m_f6 e4 w5 ⟨q, hm_f6, s7, s8, s9, s10, s11, s12, s13, s14, s15, s16, s17, s18, s19, s20, f6, p21⟩
  have z22 := f6.size
  have t23 := t0.trans0 f6
  have t_f6 : Fr [] w w5 := f6
  refine c_seq ?_
  refine c_region ?_
  refine l_v (v := (.bool (decide (((q : Nat) : Int) < ((x.m.needs.length : Nat) : Int))))) (r_lss s20 s19) ?_
  refine l_nil ?_
  refine (x_then ?_)
  refine c_seq ?_
  refine c_if (p := ((q : Nat) : Int) < ((x.m.needs.length : Nat) : Int)) rfl (fun c24 => ?_) (fun c24 => ?_)
  ·
    refine c_skip ?_
    refine (x_then ?_)
    refine c_seq ?_
    refine c_block ?_
    refine c_seq ?_
    refine c_region ?_
    have k25 := hnx.keep0 f6
    have ha26 : ∃ ad, x.na = some ad := k25.some (by rw [iv_len]; have := ((by first | omega | (simp only [settleTo_len, settle_len, startL_len, endsL_len, endL_len, cancelL_len, playL_len, newL_len, List.length_map, List.length_set, List.length_replicate, doL_len]; omega)) : q < (x.m.needs).length); omega)
    obtain ⟨n, hn⟩ := get_some (l := x.m.needs) (k := q) (by first | omega | (simp only [settleTo_len, settle_len, startL_len, endsL_len, endL_len, cancelL_len, playL_len, newL_len, List.length_map, List.length_set, List.length_replicate, doL_len]; omega))
    refine l_v (v := (.pointer (some ((adr x.na).add q)))) (r_indexAddr F.sle48 s18 s20 ha26 (by omega) (by have := get_lt hn; (try simp only [settleTo_len, settle_len, startL_len, endsL_len, endL_len, cancelL_len, playL_len, newL_len, List.length_map, List.length_set, List.length_replicate, doL_len] at this); omega) (by first | rfl | simp | omega)) ?_
    have hnn := hrn n (mem_of_get hn)
    refine l_v (v := (.int .i64 n)) (r_loadE1 F.one3 k25 rfl (iv_vs hn)) ?_
    refine l_v (v := (.int .i64 n)) (r_assign rfl) ?_
    refine l_nil ?_
    refine (x_then ?_)
    refine c_seq ?_
    refine c_region ?_
    refine l_v (v := (.pointer (some ⟨b, 0, none⟩))) (r_move s7) ?_
    refine l_v (v := (.pointer (some ⟨b, 0, none⟩))) (r_nil_ptr rfl) ?_
    refine l_v (v := (.pointer (some ⟨b, 1, none⟩))) (r_field_l F.fo142_1 rfl rfl) ?_
    have k27 := h1.keep0 f6
    refine l_v (v := (.slice al ss.length cl)) (r_load1 F.one49 rfl (At.cell k27 rfl)) ?_
    refine l_v (v := (.int .i64 n)) (r_move rfl) ?_
    have k28 := h4.keep0 f6
    have ha29 : ∃ ad, al = some ad := k28.sl.some (by rw [sts_len]; have := ((by first | omega | (simp only [settleTo_len, settle_len, startL_len, endsL_len, endL_len, cancelL_len, playL_len, newL_len, List.length_map, List.length_set, List.length_replicate, doL_len]; omega)) : (n).toNat < (ss).length); omega)
    obtain ⟨s, hs⟩ := get_some (l := ss) (k := (n).toNat) (by first | omega | (simp only [settleTo_len, settle_len, startL_len, endsL_len, endL_len, cancelL_len, playL_len, newL_len, List.length_map, List.length_set, List.length_replicate, doL_len]; omega))
    refine l_v (v := (.pointer (some ((adr al).add ((n).toNat * 6))))) (r_indexAddr F.sle49 rfl rfl ha29 (by omega) (by have := get_lt hs; (try simp only [settleTo_len, settle_len, startL_len, endsL_len, endL_len, cancelL_len, playL_len, newL_len, List.length_map, List.length_set, List.length_replicate, doL_len] at this); omega) (by first | rfl | simp | omega)) ?_
    have hst := stAt_get hs
    have e1 := all_next (p := psd ss) hn
    have e2 := any_next (p := brk ss) hn
    have e3 : psd ss n = decide (s.state = 5) := by unfold psd; rw [hst]
    have e4 : brk ss n = (decide (s.state ≠ 5) && endd s.state) := by unfold brk; rw [hst]
    refine l_v (v := (.pointer (some ((adr al).add ((n).toNat * 6))))) (r_field_e0 F.fo56_0 rfl) ?_
    have s30 := k28.sl
    refine l_v (v := (.int .u8 s.state)) (r_loadE1 F.one5 s30 rfl (sts_vs hs 0 _ rfl)) ?_
    refine l_v (v := (.int .u8 s.state)) (r_assign rfl) ?_
    refine l_nil ?_
    refine (x_then ?_)
    refine c_seq ?_
    refine c_region ?_
    refine l_v (v := (.bool ((x.m.needs.take q).all (psd ss)))) (r_move s9) ?_
    refine l_v (v := (.bool ((x.m.needs.take q).all (psd ss)))) (r_move rfl) ?_
    refine l_bool (b := ((x.m.needs.take q).all (psd ss))) ?_ ?_
    · intro c31
      refine l_gv (v := (.int .u8 s.state)) (wanted_run rfl rfl (bt rfl c31)) (r_move rfl) ?_
      refine l_gv (v := (.bool (decide (s.state = 5)))) (wanted_run rfl rfl (bt rfl c31)) (r_eql rfl rfl) ?_
      refine l_v (v := (.bool (decide (s.state = 5)))) (r_pick_t (bt rfl c31) rfl) ?_
      refine l_v (v := (.bool (decide (s.state = 5)))) (r_assign rfl) ?_
      refine l_nil ?_
      refine (x_then ?_)
      refine c_region ?_
      refine l_v (v := (.bool ((x.m.needs.take q).any (brk ss)))) (r_move s10) ?_
      refine l_v (v := (.bool ((x.m.needs.take q).any (brk ss)))) (r_move rfl) ?_
      refine l_bool (b := ((x.m.needs.take q).any (brk ss))) ?_ ?_
      · intro c32
        refine l_skip (wanted_not rfl rfl (bt rfl c32) (by decide)) ?_
        refine l_skip (wanted_not rfl rfl (bt rfl c32) (by decide)) ?_
        refine l_skip (wanted_not rfl rfl (bt rfl c32) (by decide)) ?_
        refine l_skip (wanted_undef rfl rfl rfl) ?_
        refine l_skip (wanted_undef rfl rfl rfl) ?_
        refine l_skip (wanted_not rfl rfl (bt rfl c32) (by decide)) ?_
        refine l_v (v := (.bool true)) (r_pick_t (bt rfl c32) rfl) ?_
        refine l_v (v := (.bool true)) (r_assign rfl) ?_
        refine l_nil ?_
        refine (x_blk (x_then ?_))
        refine c_region ?_
        refine l_v (v := (.int .i64 ((q + 1 : Nat) : Int))) (r_add s20 rfl (w64 (by omega) (by omega) (by omega))) ?_
        refine l_v (v := (.int .i64 ((q + 1 : Nat) : Int))) (r_move rfl) ?_
        refine l_nil ?_
        refine (x_then ?_)
        exact ⟨_, _, (by omega), rfl, q + 1, rfl, s7, s8, (Eq.trans (b := (.bool (decide (s.state = 5)))) rfl (congrArg Value.bool (by rw [e1, e3]; simp [*]))), (Eq.trans (b := (.bool true)) rfl (congrArg Value.bool (by rw [e2, e4]; simp [*]))), s11, s12, s13, s14, s15, s16, s17, s18, s19, rfl, t_f6, (by omega)⟩
      · intro c32
        refine l_gv (v := (.int .u8 s.state)) (wanted_run rfl rfl (bt rfl c32)) (r_move rfl) ?_
        refine l_gv (v := (.bool (decide (s.state ≠ 5)))) (wanted_run rfl rfl (bt rfl c32)) (r_neq rfl rfl) ?_
        refine l_gv (v := (.bool (decide (s.state ≠ 5)))) (wanted_run rfl rfl (bt rfl c32)) (r_move rfl) ?_
        refine l_em (p := s.state ≠ 5) ?_ ?_
        · intro c33
          refine l_gv (v := (.int .u8 s.state)) (wanted_run rfl rfl (bd rfl c33)) (r_move rfl) ?_
          refine l_gdo (wanted_run rfl rfl (bd rfl c33)) ?_
          refine d_call (fl := []) (cl := []) (A := [(.int .u8 s.state)]) (B := [(.int .u8 s.state)]) F.ok27 rfl (ac rfl an) rfl (ended_c (s := s.state) ) ?_
          rintro _ w34 ⟨rfl, f35⟩
          have z36 := f35.size
          have t37 := t23.trans0 f35
          have t38 := t_f6.trans0 f35
          refine l_gv (v := (.bool (endd s.state))) (wanted_run rfl rfl (bt rfl c32)) (r_pick_t (bd rfl c33) rfl) ?_
          refine l_v (v := (.bool (endd s.state))) (r_pick_f (bt rfl c32) rfl) ?_
          refine l_v (v := (.bool (endd s.state))) (r_assign rfl) ?_
          refine l_nil ?_
          refine (x_blk (x_then ?_))
          refine c_region ?_
          refine l_v (v := (.int .i64 ((q + 1 : Nat) : Int))) (r_add s20 rfl (w64 (by omega) (by omega) (by omega))) ?_
          refine l_v (v := (.int .i64 ((q + 1 : Nat) : Int))) (r_move rfl) ?_
          refine l_nil ?_
          refine (x_then ?_)
          exact ⟨_, _, (by omega), rfl, q + 1, rfl, s7, s8, (Eq.trans (b := (.bool (decide (s.state = 5)))) rfl (congrArg Value.bool (by rw [e1, e3]; simp [*]))), (Eq.trans (b := (.bool (endd s.state))) rfl (congrArg Value.bool (by rw [e2, e4]; simp [*]))), s11, s12, s13, s14, s15, s16, s17, s18, s19, rfl, t38, (by omega)⟩
        · intro c33
          refine l_skip (wanted_not rfl rfl (bn rfl c33) (by decide)) ?_
          refine l_skip (wanted_not rfl rfl (bn rfl c33) (by decide)) ?_
          refine l_gv (v := (.bool false)) (wanted_run rfl rfl (bt rfl c32)) (r_pick_f (bn rfl c33) rfl) ?_
          refine l_v (v := (.bool false)) (r_pick_f (bt rfl c32) rfl) ?_
          refine l_v (v := (.bool false)) (r_assign rfl) ?_
          refine l_nil ?_
          refine (x_blk (x_then ?_))
          refine c_region ?_
          refine l_v (v := (.int .i64 ((q + 1 : Nat) : Int))) (r_add s20 rfl (w64 (by omega) (by omega) (by omega))) ?_
          refine l_v (v := (.int .i64 ((q + 1 : Nat) : Int))) (r_move rfl) ?_
          refine l_nil ?_
          refine (x_then ?_)
          exact ⟨_, _, (by omega), rfl, q + 1, rfl, s7, s8, (Eq.trans (b := (.bool (decide (s.state = 5)))) rfl (congrArg Value.bool (by rw [e1, e3]; simp [*]))), (Eq.trans (b := (.bool false)) rfl (congrArg Value.bool (by rw [e2, e4]; simp [*]))), s11, s12, s13, s14, s15, s16, s17, s18, s19, rfl, t_f6, (by omega)⟩
    · intro c31
      refine l_skip (wanted_not rfl rfl (bt rfl c31) (by decide)) ?_
      refine l_skip (wanted_not rfl rfl (bt rfl c31) (by decide)) ?_
      refine l_v (v := (.bool false)) (r_pick_f (bt rfl c31) rfl) ?_
      refine l_v (v := (.bool false)) (r_assign rfl) ?_
      refine l_nil ?_
      refine (x_then ?_)
      refine c_region ?_
      refine l_v (v := (.bool ((x.m.needs.take q).any (brk ss)))) (r_move s10) ?_
      refine l_v (v := (.bool ((x.m.needs.take q).any (brk ss)))) (r_move rfl) ?_
      refine l_bool (b := ((x.m.needs.take q).any (brk ss))) ?_ ?_
      · intro c39
        refine l_skip (wanted_not rfl rfl (bt rfl c39) (by decide)) ?_
        refine l_skip (wanted_not rfl rfl (bt rfl c39) (by decide)) ?_
        refine l_skip (wanted_not rfl rfl (bt rfl c39) (by decide)) ?_
        refine l_skip (wanted_undef rfl rfl rfl) ?_
        refine l_skip (wanted_undef rfl rfl rfl) ?_
        refine l_skip (wanted_not rfl rfl (bt rfl c39) (by decide)) ?_
        refine l_v (v := (.bool true)) (r_pick_t (bt rfl c39) rfl) ?_
        refine l_v (v := (.bool true)) (r_assign rfl) ?_
        refine l_nil ?_
        refine (x_blk (x_then ?_))
        refine c_region ?_
        refine l_v (v := (.int .i64 ((q + 1 : Nat) : Int))) (r_add s20 rfl (w64 (by omega) (by omega) (by omega))) ?_
        refine l_v (v := (.int .i64 ((q + 1 : Nat) : Int))) (r_move rfl) ?_
        refine l_nil ?_
        refine (x_then ?_)
        exact ⟨_, _, (by omega), rfl, q + 1, rfl, s7, s8, (Eq.trans (b := (.bool false)) rfl (congrArg Value.bool (by rw [e1, e3]; simp [*]))), (Eq.trans (b := (.bool true)) rfl (congrArg Value.bool (by rw [e2, e4]; simp [*]))), s11, s12, s13, s14, s15, s16, s17, s18, s19, rfl, t_f6, (by omega)⟩
      · intro c39
        refine l_gv (v := (.int .u8 s.state)) (wanted_run rfl rfl (bt rfl c39)) (r_move rfl) ?_
        refine l_gv (v := (.bool (decide (s.state ≠ 5)))) (wanted_run rfl rfl (bt rfl c39)) (r_neq rfl rfl) ?_
        refine l_gv (v := (.bool (decide (s.state ≠ 5)))) (wanted_run rfl rfl (bt rfl c39)) (r_move rfl) ?_
        refine l_em (p := s.state ≠ 5) ?_ ?_
        · intro c40
          refine l_gv (v := (.int .u8 s.state)) (wanted_run rfl rfl (bd rfl c40)) (r_move rfl) ?_
          refine l_gdo (wanted_run rfl rfl (bd rfl c40)) ?_
          refine d_call (fl := []) (cl := []) (A := [(.int .u8 s.state)]) (B := [(.int .u8 s.state)]) F.ok27 rfl (ac rfl an) rfl (ended_c (s := s.state) ) ?_
          rintro _ w41 ⟨rfl, f42⟩
          have z43 := f42.size
          have t44 := t23.trans0 f42
          have t45 := t_f6.trans0 f42
          refine l_gv (v := (.bool (endd s.state))) (wanted_run rfl rfl (bt rfl c39)) (r_pick_t (bd rfl c40) rfl) ?_
          refine l_v (v := (.bool (endd s.state))) (r_pick_f (bt rfl c39) rfl) ?_
          refine l_v (v := (.bool (endd s.state))) (r_assign rfl) ?_
          refine l_nil ?_
          refine (x_blk (x_then ?_))
          refine c_region ?_
          refine l_v (v := (.int .i64 ((q + 1 : Nat) : Int))) (r_add s20 rfl (w64 (by omega) (by omega) (by omega))) ?_
          refine l_v (v := (.int .i64 ((q + 1 : Nat) : Int))) (r_move rfl) ?_
          refine l_nil ?_
          refine (x_then ?_)
          exact ⟨_, _, (by omega), rfl, q + 1, rfl, s7, s8, (Eq.trans (b := (.bool false)) rfl (congrArg Value.bool (by rw [e1, e3]; simp [*]))), (Eq.trans (b := (.bool (endd s.state))) rfl (congrArg Value.bool (by rw [e2, e4]; simp [*]))), s11, s12, s13, s14, s15, s16, s17, s18, s19, rfl, t45, (by omega)⟩
        · intro c40
          refine l_skip (wanted_not rfl rfl (bn rfl c40) (by decide)) ?_
          refine l_skip (wanted_not rfl rfl (bn rfl c40) (by decide)) ?_
          refine l_gv (v := (.bool false)) (wanted_run rfl rfl (bt rfl c39)) (r_pick_f (bn rfl c40) rfl) ?_
          refine l_v (v := (.bool false)) (r_pick_f (bt rfl c39) rfl) ?_
          refine l_v (v := (.bool false)) (r_assign rfl) ?_
          refine l_nil ?_
          refine (x_blk (x_then ?_))
          refine c_region ?_
          refine l_v (v := (.int .i64 ((q + 1 : Nat) : Int))) (r_add s20 rfl (w64 (by omega) (by omega) (by omega))) ?_
          refine l_v (v := (.int .i64 ((q + 1 : Nat) : Int))) (r_move rfl) ?_
          refine l_nil ?_
          refine (x_then ?_)
          exact ⟨_, _, (by omega), rfl, q + 1, rfl, s7, s8, (Eq.trans (b := (.bool false)) rfl (congrArg Value.bool (by rw [e1, e3]; simp [*]))), (Eq.trans (b := (.bool false)) rfl (congrArg Value.bool (by rw [e2, e4]; simp [*]))), s11, s12, s13, s14, s15, s16, s17, s18, s19, rfl, t_f6, (by omega)⟩
  ·
    refine c_exit ?_
    refine (x_then_x (x_then_x (x_blk_hit (x_then ?_))))
    refine c_seq ?_
    refine c_region ?_
    refine l_v (v := (.bool ((x.m.needs.take q).all (psd ss)))) (r_move s9) ?_
    refine l_v (v := (.bool ((x.m.needs.take q).any (brk ss)))) (r_move s10) ?_
    refine l_v (v := (.bool ((x.m.needs.take q).all (psd ss)))) (r_assign rfl) ?_
    refine l_v (v := (.bool ((x.m.needs.take q).any (brk ss)))) (r_assign rfl) ?_
    refine l_nil ?_
    refine (x_then ?_)
    refine c_ret ?_
    refine p_ret (v := (.tuple #[(.bool ((x.m.needs.take q).all (psd ss))), (.bool ((x.m.needs.take q).any (brk ss)))])) (res2 rfl rfl rfl) ?_
    have eq_ : x.m.needs.take q = x.m.needs := List.take_of_length_le (by omega)
    have en : needsOf (js.map JobP.m) i.toNat = x.m.needs := needsOf_get (jm_get hx)
    exact ⟨(by unfold passedB brokenB; rw [en, eq_]), t23⟩

set_option maxHeartbeats 400000 in
set_option maxRecDepth 100000 in
theorem next_c {w : World} {b cj cl : Nat} {aj al : Option Addr} {js : List JobP} {L : List Nat} {ss : List St} {i : Int} (h1 : At w b (.cells #[(.slice aj js.length cj), (.slice al ss.length cl)] 142 (0, 0))) (h2 : Ro w aj js.length cj (jbs js)) (h3 : JNds w L js) (h4 : Own w 56 6 al ss.length cl (sts ss)) (hl : js.length = ss.length) (hm : mayB (js.map JobP.m) = true) (hi : 0 ≤ i ∧ i < ((js.length : Nat) : Int)) :
    Calls Proofs.Try.prog 149 #[(.pointer (some ⟨b, 0, none⟩)), (.int .i64 i)] w (Ret fun v w' => v = (.int .u8 (nxtS (js.map JobP.m) ss i.toNat)) ∧ Fr [] w w') := by
  have lt_h1 := h1.lt
  have lt_h2 := h2.lt
  have lt_h3 := h3.lt
  have lt_h4 := h4.lt
  have n1 := ob_ne' h4.tag h1 rfl
  have hi2 := hi
  obtain ⟨hi0, hi1⟩ := hi2
  have t0 : Fr [] w w := Fr.refl _ _
  refine enter Proofs.Try.func149 rfl Proofs.Try.ntmps149 (Nat.le_of_ble_eq_true rfl) ?_
  refine c_seq ?_
  refine c_region ?_
  refine l_v (v := (.int .u8 0)) (r_assign rfl) ?_
  refine l_nil ?_
  refine (x_then ?_)
  refine c_seq ?_
  refine c_region ?_
  refine l_v (v := (.pointer (some ⟨b, 0, none⟩))) (r_move rfl) ?_
  refine l_v (v := (.int .i64 i)) (r_move rfl) ?_
  refine l_do rfl ?_
  refine d_call (fl := []) (cl := []) (A := [(.pointer (some ⟨b, 0, none⟩)), (.int .i64 i)]) (B := [(.pointer (some ⟨b, 0, none⟩)), (.int .i64 i)]) F.ok154 rfl (ac rfl (ac rfl an)) rfl (needed_c (b := b) (i := i) (aj := aj) (js := js) (cj := cj) (al := al) (ss := ss) (cl := cl) (L := L) h1 h2 h3 h4 (by omega) (by omega) hi) ?_
  rintro _ w2 ⟨rfl, f3⟩
  have z4 := f3.size
  have t5 := t0.trans0 f3
  refine l_v (v := (.tuple #[(.bool (passedB (js.map JobP.m) ss i.toNat)), (.bool (brokenB (js.map JobP.m) ss i.toNat))])) (r_move rfl) ?_
  refine l_v (v := (.bool (passedB (js.map JobP.m) ss i.toNat))) (r_extract rfl rfl) ?_
  refine l_v (v := (.bool (brokenB (js.map JobP.m) ss i.toNat))) (r_extract rfl rfl) ?_
  refine l_v (v := (.bool (passedB (js.map JobP.m) ss i.toNat))) (r_assign rfl) ?_
  refine l_v (v := (.bool (brokenB (js.map JobP.m) ss i.toNat))) (r_assign rfl) ?_
  refine l_nil ?_
  refine (x_then ?_)
  refine c_seq ?_
  refine c_block ?_
  refine c_seq ?_
  refine c_region ?_
  refine l_v (v := (.bool (brokenB (js.map JobP.m) ss i.toNat))) (r_move rfl) ?_
  refine l_v (v := (.bool (brokenB (js.map JobP.m) ss i.toNat))) (r_assign rfl) ?_
  refine l_nil ?_
  refine (x_then ?_)
  refine c_split (t := (brokenB (js.map JobP.m) ss i.toNat)) rfl (fun c6 => ?_) (fun c6 => ?_)
  ·
    refine c_seq ?_
    refine c_region ?_
    refine l_v (v := (.int .u8 10)) (r_assign rfl) ?_
    refine l_nil ?_
    refine (x_then ?_)
    refine c_ret ?_
    refine (x_blk_r (x_then_r ?_))
    refine p_ret (v := (.int .u8 10)) (res1 rfl rfl) ?_
    exact ⟨(by unfold nxtS settledS; simp [*]), t5⟩
  ·
    refine c_seq ?_
    refine c_region ?_
    refine l_v (v := (.bool (passedB (js.map JobP.m) ss i.toNat))) (r_move rfl) ?_
    refine l_v (v := (.bool (!(passedB (js.map JobP.m) ss i.toNat)))) (r_not rfl) ?_
    refine l_v (v := (.bool (!(passedB (js.map JobP.m) ss i.toNat)))) (r_assign rfl) ?_
    refine l_nil ?_
    refine (x_then ?_)
    refine c_split (t := (!(passedB (js.map JobP.m) ss i.toNat))) rfl (fun c7 => ?_) (fun c7 => ?_)
    ·
      refine c_seq ?_
      refine c_region ?_
      refine l_v (v := (.int .u8 1)) (r_assign rfl) ?_
      refine l_nil ?_
      refine (x_then ?_)
      refine c_ret ?_
      refine (x_blk_r (x_then_r ?_))
      refine p_ret (v := (.int .u8 1)) (res1 rfl rfl) ?_
      have hpp : passedB (js.map JobP.m) ss i.toNat = false := by simpa using c7
      exact ⟨(by unfold nxtS settledS; simp [*]), t5⟩
    ·
      refine c_seq ?_
      refine c_region ?_
      refine l_v (v := (.pointer (some ⟨b, 0, none⟩))) (r_move rfl) ?_
      refine l_v (v := (.pointer (some ⟨b, 0, none⟩))) (r_nil_ptr rfl) ?_
      refine l_v (v := (.pointer (some ⟨b, 0, none⟩))) (r_field_l F.fo142_0 rfl rfl) ?_
      have k8 := h1.keep0 f3
      refine l_v (v := (.slice aj js.length cj)) (r_load1 F.one140 rfl (At.cell k8 rfl)) ?_
      refine l_v (v := (.int .i64 i)) (r_move rfl) ?_
      have k9 := h2.keep0 f3
      have ha10 : ∃ ad, aj = some ad := k9.sl.some (by rw [jbs_len]; have := ((by first | omega | (simp only [settleTo_len, settle_len, startL_len, endsL_len, endL_len, cancelL_len, playL_len, newL_len, List.length_map, List.length_set, List.length_replicate, doL_len]; omega)) : (i).toNat < (js).length); omega)
      obtain ⟨x, hx⟩ := get_some (l := js) (k := (i).toNat) (by first | omega | (simp only [settleTo_len, settle_len, startL_len, endsL_len, endL_len, cancelL_len, playL_len, newL_len, List.length_map, List.length_set, List.length_replicate, doL_len]; omega))
      refine l_v (v := (.pointer (some ((adr aj).add ((i).toNat * 4))))) (r_indexAddr F.sle140 rfl rfl ha10 (by omega) (by have := get_lt hx; (try simp only [settleTo_len, settle_len, startL_len, endsL_len, endL_len, cancelL_len, playL_len, newL_len, List.length_map, List.length_set, List.length_replicate, doL_len] at this); omega) (by first | rfl | simp | omega)) ?_
      have em : manualOf (js.map JobP.m) i.toNat = x.m.manual := manualOf_get (jm_get hx)
      refine l_v (v := (.pointer (some ((adr aj).add ((i).toNat * 4 + 3))))) (r_field_e F.fo160_3 rfl) ?_
      have s11 := k9.sl
      refine l_v (v := (.bool x.m.manual)) (r_loadE1 F.one4 s11 rfl (jbs_vs hx 3 _ rfl)) ?_
      refine l_v (v := (.bool x.m.manual)) (r_move rfl) ?_
      refine l_bool (b := x.m.manual) ?_ ?_
      · intro c12
        refine l_gv (v := (.pointer (some ⟨b, 0, none⟩))) (wanted_run rfl rfl (bt rfl c12)) (r_move rfl) ?_
        refine l_gv (v := (.pointer (some ⟨b, 0, none⟩))) (wanted_run rfl rfl (bt rfl c12)) (r_nil_ptr rfl) ?_
        refine l_gv (v := (.pointer (some ⟨b, 1, none⟩))) (wanted_run rfl rfl (bt rfl c12)) (r_field_l F.fo142_1 rfl rfl) ?_
        refine l_gv (v := (.slice al ss.length cl)) (wanted_run rfl rfl (bt rfl c12)) (r_load1 F.one49 rfl (At.cell k8 rfl)) ?_
        refine l_gv (v := (.int .i64 i)) (wanted_run rfl rfl (bt rfl c12)) (r_move rfl) ?_
        have k13 := h4.keep0 f3
        have ha14 : ∃ ad, al = some ad := k13.sl.some (by rw [sts_len]; have := ((by first | omega | (simp only [settleTo_len, settle_len, startL_len, endsL_len, endL_len, cancelL_len, playL_len, newL_len, List.length_map, List.length_set, List.length_replicate, doL_len]; omega)) : (i).toNat < (ss).length); omega)
        obtain ⟨s, hs⟩ := get_some (l := ss) (k := (i).toNat) (by first | omega | (simp only [settleTo_len, settle_len, startL_len, endsL_len, endL_len, cancelL_len, playL_len, newL_len, List.length_map, List.length_set, List.length_replicate, doL_len]; omega))
        refine l_gv (v := (.pointer (some ((adr al).add ((i).toNat * 6))))) (wanted_run rfl rfl (bt rfl c12)) (r_indexAddr F.sle49 rfl rfl ha14 (by omega) (by have := get_lt hs; (try simp only [settleTo_len, settle_len, startL_len, endsL_len, endL_len, cancelL_len, playL_len, newL_len, List.length_map, List.length_set, List.length_replicate, doL_len] at this); omega) (by first | rfl | simp | omega)) ?_
        have ep : playedOf ss i.toNat = s.played := playedOf_get hs
        refine l_gv (v := (.pointer (some ((adr al).add ((i).toNat * 6 + 5))))) (wanted_run rfl rfl (bt rfl c12)) (r_field_e F.fo56_5 rfl) ?_
        have s15 := k13.sl
        refine l_gv (v := (.bool s.played)) (wanted_run rfl rfl (bt rfl c12)) (r_loadE1 F.one4 s15 rfl (sts_vs hs 5 _ rfl)) ?_
        refine l_gv (v := (.bool (!s.played))) (wanted_run rfl rfl (bt rfl c12)) (r_not rfl) ?_
        refine l_v (v := (.bool (!s.played))) (r_pick_t (bt rfl c12) rfl) ?_
        refine l_v (v := (.bool (!s.played))) (r_assign rfl) ?_
        refine l_nil ?_
        refine (x_then ?_)
        refine c_split (t := (!s.played)) rfl (fun c16 => ?_) (fun c16 => ?_)
        ·
          refine c_seq ?_
          refine c_region ?_
          refine l_v (v := (.int .u8 2)) (r_assign rfl) ?_
          refine l_nil ?_
          refine (x_then ?_)
          refine c_ret ?_
          refine (x_blk_r (x_then_r ?_))
          refine p_ret (v := (.int .u8 2)) (res1 rfl rfl) ?_
          have hpp : passedB (js.map JobP.m) ss i.toNat = true := by simpa using c7
          have hpl : s.played = false := by simpa using c16
          exact ⟨(by unfold nxtS settledS; simp [*]), t5⟩
        ·
          refine c_skip ?_
          refine (x_blk (x_then ?_))
          refine c_seq ?_
          refine c_region ?_
          refine l_v (v := (.int .u8 3)) (r_assign rfl) ?_
          refine l_nil ?_
          refine (x_then ?_)
          refine c_ret ?_
          refine p_ret (v := (.int .u8 3)) (res1 rfl rfl) ?_
          have hpp : passedB (js.map JobP.m) ss i.toNat = true := by simpa using c7
          have hpl : s.played = true := by simpa using c16
          exact ⟨(by unfold nxtS settledS; simp [*]), t5⟩
      · intro c12
        refine l_skip (wanted_not rfl rfl (bt rfl c12) (by decide)) ?_
        refine l_skip (wanted_not rfl rfl (bt rfl c12) (by decide)) ?_
        refine l_skip (wanted_not rfl rfl (bt rfl c12) (by decide)) ?_
        refine l_skip (wanted_not rfl rfl (bt rfl c12) (by decide)) ?_
        refine l_skip (wanted_not rfl rfl (bt rfl c12) (by decide)) ?_
        refine l_skip (wanted_not rfl rfl (bt rfl c12) (by decide)) ?_
        refine l_skip (wanted_not rfl rfl (bt rfl c12) (by decide)) ?_
        refine l_skip (wanted_not rfl rfl (bt rfl c12) (by decide)) ?_
        refine l_skip (wanted_not rfl rfl (bt rfl c12) (by decide)) ?_
        refine l_v (v := (.bool false)) (r_pick_f (bt rfl c12) rfl) ?_
        refine l_v (v := (.bool false)) (r_assign rfl) ?_
        refine l_nil ?_
        refine (x_then ?_)
        refine c_false rfl ?_
        refine c_skip ?_
        refine (x_blk (x_then ?_))
        refine c_seq ?_
        refine c_region ?_
        refine l_v (v := (.int .u8 3)) (r_assign rfl) ?_
        refine l_nil ?_
        refine (x_then ?_)
        refine c_ret ?_
        refine p_ret (v := (.int .u8 3)) (res1 rfl rfl) ?_
        have hpp : passedB (js.map JobP.m) ss i.toNat = true := by simpa using c7
        exact ⟨(by unfold nxtS settledS; simp [*]), t5⟩

set_option maxHeartbeats 400000 in
set_option maxRecDepth 100000 in
theorem settle_c {w : World} {b cj cl : Nat} {aj al : Option Addr} {js : List JobP} {L : List Nat} {ss : List St} (h1 : At w b (.cells #[(.slice aj js.length cj), (.slice al ss.length cl)] 142 (0, 0))) (h2 : Ro w aj js.length cj (jbs js)) (h3 : JNds w L js) (h4 : Own w 56 6 al ss.length cl (sts ss)) (hl : js.length = ss.length) (hm : mayB (js.map JobP.m) = true) (n1 : b ∉ ob al) (n2 : ∀ x ∈ ob aj, x ∉ ob al) (n3 : ∀ x ∈ L, x ∉ ob al) :
    Calls Proofs.Try.prog 85 #[(.pointer (some ⟨b, 0, none⟩))] w (Ret fun v w' => v = (.tuple #[]) ∧ Fr (ob al) w w' ∧ At w' b (.cells #[(.slice aj js.length cj), (.slice al ((settle (js.map JobP.m) ss).length) cl)] 142 (0, 0)) ∧ Own w' 56 6 al ((settle (js.map JobP.m) ss).length) cl (sts (settle (js.map JobP.m) ss))) := by
  have lt_h1 := h1.lt
  have lt_h2 := h2.lt
  have lt_h3 := h3.lt
  have lt_h4 := h4.lt
  have n1 := ob_ne' h4.tag h1 rfl
  obtain ⟨hm1, hm2⟩ := may_spec hm
  rw [List.length_map] at hm1
  have t0 : Fr (ob al) w w := Fr.refl _ _
  refine enter Proofs.Try.func85 rfl Proofs.Try.ntmps85 (Nat.le_of_ble_eq_true rfl) ?_
  refine c_seq ?_
  refine c_region ?_
  refine l_v (v := (.pointer (some ⟨b, 0, none⟩))) (r_move rfl) ?_
  refine l_v (v := (.pointer (some ⟨b, 0, none⟩))) (r_nil_ptr rfl) ?_
  refine l_v (v := (.pointer (some ⟨b, 1, none⟩))) (r_field_l F.fo142_1 rfl rfl) ?_
  refine l_v (v := (.slice al ss.length cl)) (r_load1 F.one49 rfl (At.cell h1 rfl)) ?_
  refine l_v (v := (.int .i64 ((ss.length : Nat) : Int))) (r_lenSl F.sl49 rfl) ?_
  refine l_v (v := (.int .i64 0)) (r_move rfl) ?_
  refine l_nil ?_
  refine (x_then ?_)
  refine c_block ?_
  refine c_loop (fun (m : Nat) (e' : Nat → Value) (w' : World) => ∃ k : Nat, m = ss.length - k ∧ e' 0 = (.pointer (some ⟨b, 0, none⟩)) ∧ e' 4 = (.pointer (some ⟨b, 0, none⟩)) ∧ e' 5 = (.pointer (some ⟨b, 0, none⟩)) ∧ e' 6 = (.pointer (some ⟨b, 1, none⟩)) ∧ e' 7 = (.slice al ss.length cl) ∧ e' 8 = (.int .i64 ((ss.length : Nat) : Int)) ∧ e' 9 = (.int .i64 ((k : Nat) : Int)) ∧ Fr (ob al) w w' ∧ Own w' 56 6 al ss.length cl (sts (settleTo (js.map JobP.m) ss k)) ∧ (k ≤ ss.length)) (ss.length - 0) ⟨0, rfl, rfl, rfl, rfl, rfl, rfl, rfl, rfl, Fr.refl _ _, h4, (by omega)⟩ ?_
  rintro m_f4 e2 w3 ⟨k, hm_f4, s5, s6, s7, s8, s9, s10, s11, f4, h12, p13⟩
  have z14 := f4.size
  have t15 := t0.step f4 (ob_in (by intro x hx; simp [hx]))
  have t_f4 : Fr (ob al) w w3 := f4
  refine c_seq ?_
  refine c_region ?_
  refine l_v (v := (.bool (decide (((k : Nat) : Int) < ((ss.length : Nat) : Int))))) (r_lss s11 s10) ?_
  refine l_nil ?_
  refine (x_then ?_)
  refine c_seq ?_
  refine c_if (p := ((k : Nat) : Int) < ((ss.length : Nat) : Int)) rfl (fun c16 => ?_) (fun c16 => ?_)
  ·
    refine c_skip ?_
    refine (x_then ?_)
    refine c_seq ?_
    refine c_block ?_
    refine c_seq ?_
    refine c_region ?_
    refine l_v (v := (.int .i64 ((k : Nat) : Int))) (r_move s11) ?_
    have ha17 : ∃ ad, al = some ad := h12.sl.some (by rw [sts_len]; have := ((by first | omega | (simp only [settleTo_len, settle_len, startL_len, endsL_len, endL_len, cancelL_len, playL_len, newL_len, List.length_map, List.length_set, List.length_replicate, doL_len]; omega)) : k < (settleTo (js.map JobP.m) ss k).length); omega)
    obtain ⟨s, hs⟩ := get_some (l := settleTo (js.map JobP.m) ss k) (k := k) (by first | omega | (simp only [settleTo_len, settle_len, startL_len, endsL_len, endL_len, cancelL_len, playL_len, newL_len, List.length_map, List.length_set, List.length_replicate, doL_len]; omega))
    refine l_v (v := (.pointer (some ((adr al).add (k * 6))))) (r_indexAddr F.sle49 s9 s11 ha17 (by omega) (by have := get_lt hs; (try simp only [settleTo_len, settle_len, startL_len, endsL_len, endL_len, cancelL_len, playL_len, newL_len, List.length_map, List.length_set, List.length_replicate, doL_len] at this); omega) (by first | rfl | simp | omega)) ?_
    have s18 := h12.sl
    refine l_v (v := (.agg #[(.int .u8 s.state), (.int .i64 s.tried), (.int .i64 s.badge), (.int .i64 s.since), (.int .i64 s.code), (.bool s.played)])) (r_loadES [(.int .u8 s.state), (.int .i64 s.tried), (.int .i64 s.badge), (.int .i64 s.since), (.int .i64 s.code), (.bool s.played)] F.agg56 s18 rfl rfl (sts_vs hs)) ?_
    refine l_do rfl ?_
    refine d_alloc (cs := #[(.int .u8 0), (.int .i64 0), (.int .i64 0), (.int .i64 0), (.int .i64 0), (.bool false)]) F.zero56 rfl ?_
    intro w19 b20 f21 a22 h23
    have z24 := f21.size
    have t25 := t15.trans0 f21
    have t26 := t_f4.trans0 f21
    have l27 := h23.lt
    refine l_v (v := (.int .i64 ((k : Nat) : Int))) (r_assign rfl) ?_
    refine l_do rfl ?_
    refine d_storeA (l := [(.int .u8 s.state), (.int .i64 s.tried), (.int .i64 s.badge), (.int .i64 s.since), (.int .i64 s.code), (.bool s.played)]) F.sz56 rfl rfl (by simp [Value.oneCell']) h23 rfl ?_
    intro w28 f29 h30
    have z31 := f29.size
    have t32 := t25.step f29 (one_new (by omega))
    have t33 := t26.step f29 (one_new (by omega))
    refine l_nil ?_
    refine (x_then ?_)
    refine c_seq ?_
    refine c_region ?_
    refine l_v (v := (.pointer (some ⟨b20, 0, none⟩))) (r_field_l F.fo56_0 rfl rfl) ?_
    refine l_v (v := (.int .u8 s.state)) (r_load1 F.one5 rfl (At.cell h30 rfl)) ?_
    refine l_v (v := (.bool (decide (s.state = 1)))) (r_eql rfl rfl) ?_
    refine l_nil ?_
    refine (x_then ?_)
    refine c_if (p := s.state = 1) rfl (fun c34 => ?_) (fun c34 => ?_)
    ·
      refine f_start (masks := [0, 1, 3, 7, 0, 0, 0, 96, 255, 511, 1023]) (F := Fs [(3, fun w => At w b (.cells #[(.slice aj js.length cj), (.slice al ss.length cl)] 142 (0, 0)))]) #[false, false, false, false, false, false, false, false, false, false, false] F.mixed rfl rfl (by kernel_rfl) ?_
      intro w38 f39 r40
      have z41 := f39.size
      have t42 := t32.trans0 f39
      have t43 := t33.trans0 f39
      refine f_take (i := 0) (v := (.pointer (some ⟨b, 0, none⟩))) #[true, false, false, false, false, false, false, false, false, false, false] r40 rfl (by kernel_rfl) (fun _ _ _ h => h) rfl (fs_none rfl) (fun w hF => r_move s5) ?_
      refine f_take (i := 1) (v := (.pointer (some ⟨b, 0, none⟩))) #[true, true, false, false, false, false, false, false, false, false, false] r40 rfl (by kernel_rfl) (fun _ _ _ h => h) rfl (fs_none rfl) (fun w hF => r_nil_ptr rfl) ?_
      refine f_take (i := 2) (v := (.pointer (some ⟨b, 1, none⟩))) #[true, true, true, false, false, false, false, false, false, false, false] r40 rfl (by kernel_rfl) (fun _ _ _ h => h) rfl (fs_none rfl) (fun w hF => r_field_l F.fo142_1 rfl rfl) ?_
      have k44 := h1.keep f4 n1
      have k45 := k44.keep0 f21
      have k46 := k45.keep f29 (not_in1 (by omega))
      have k47 := k46.keep0 f39
      refine f_take (i := 3) (v := (.slice al ss.length cl)) #[true, true, true, true, false, false, false, false, false, false, false] r40 rfl (by kernel_rfl) (fun _ _ _ h => h) rfl (fs_one k47 rfl) (fun w hF => r_load1 F.one49 rfl (At.cell (fs_get List.mem_cons_self hF) rfl)) ?_
      refine f_take (i := 4) (v := (.int .i64 ((k : Nat) : Int))) #[true, true, true, true, true, false, false, false, false, false, false] r40 rfl (by kernel_rfl) (fun _ _ _ h => h) rfl (fs_none rfl) (fun w hF => r_move rfl) ?_
      refine f_take (i := 5) (v := (.pointer (some ⟨b, 0, none⟩))) #[true, true, true, true, true, true, false, false, false, false, false] r40 rfl (by kernel_rfl) (fun _ _ _ h => h) rfl (fs_none rfl) (fun w hF => r_move s5) ?_
      refine f_take (i := 6) (v := (.int .i64 ((k : Nat) : Int))) #[true, true, true, true, true, true, true, false, false, false, false] r40 rfl (by kernel_rfl) (fun _ _ _ h => h) rfl (fs_none rfl) (fun w hF => r_move rfl) ?_
      refine f_one (i := 7) #[true, true, true, true, true, true, true, true, false, false, false] rfl (by kernel_rfl) rfl ?_
      have k48 := h2.keep f4 n2
      have k49 := k48.keep0 f21
      have k50 := k49.keep f29 (ob_not1 (not_ob_old lt_h2 (by omega)))
      have k51 := k50.keep0 f39
      have k52 := h3.keep f4 n3
      have k53 := k52.keep0 f21
      have k54 := k53.keep f29 (ob_not1 (not_ob_old lt_h3 (by omega)))
      have k55 := k54.keep0 f39
      have k56 := h12.keep0 f21
      have k57 := k56.keep f29 (ob_not1 (not_ob_old lt_h4 (by omega)))
      have k58 := k57.keep0 f39
      refine d_call (fl := []) (cl := []) (A := [(.pointer (some ⟨b, 0, none⟩)), (.int .i64 ((k : Nat) : Int))]) (B := [(.pointer (some ⟨b, 0, none⟩)), (.int .i64 ((k : Nat) : Int))]) F.ok149 rfl (ac rfl (ac rfl an)) rfl (next_c (b := b) (i := ((k : Nat) : Int)) (ss := settleTo (js.map JobP.m) ss k) (aj := aj) (js := js) (cj := cj) (L := L) (by rw [settleTo_len]; exact k47) k51 k55 (by rw [settleTo_len]; exact k58) (by rw [settleTo_len]; exact hl) hm (by omega)) ?_
      rintro _ w59 ⟨rfl, f60⟩
      have z61 := f60.size
      have t62 := t42.trans0 f60
      have t63 := t43.trans0 f60
      refine ⟨(pres_of (pcn_cons (fun _ h => h.keep0 f60) pcn_nil)), ?_⟩
      have k64 := k58.keep0 f60
      have ha65 : ∃ ad, al = some ad := k64.sl.some (by rw [sts_len]; have := ((by first | omega | (simp only [settleTo_len, settle_len, startL_len, endsL_len, endL_len, cancelL_len, playL_len, newL_len, List.length_map, List.length_set, List.length_replicate, doL_len]; omega)) : k < (settleTo (js.map JobP.m) ss k).length); omega)
      refine f_take (i := 8) (v := (.pointer (some ((adr al).add (k * 6))))) #[true, true, true, true, true, true, true, true, true, false, false] r40 rfl (by kernel_rfl) (fun _ _ _ h => h) rfl (fs_none rfl) (fun w hF => r_indexAddr F.sle49 rfl rfl ha65 (by omega) (by have := get_lt hs; (try simp only [settleTo_len, settle_len, startL_len, endsL_len, endL_len, cancelL_len, playL_len, newL_len, List.length_map, List.length_set, List.length_replicate, doL_len] at this); omega) (by first | rfl | simp | omega)) ?_
      refine f_take (i := 9) (v := (.pointer (some ((adr al).add (k * 6))))) #[true, true, true, true, true, true, true, true, true, true, false] r40 rfl (by kernel_rfl) (fun _ _ _ h => h) rfl (fs_none rfl) (fun w hF => r_field_e0 F.fo56_0 rfl) ?_
      refine f_one (i := 10) #[true, true, true, true, true, true, true, true, true, true, true] rfl (by kernel_rfl) rfl ?_
      refine d_storeE (v := (.int .u8 (nxtS (js.map JobP.m) (settleTo (js.map JobP.m) ss k) ((k : Nat) : Int).toNat))) F.sz5 rfl rfl rfl k64 (by omega) ?_
      intro w66 f67 h68
      have z69 := f67.size
      have t70 := t62.step f67 (ob_in (by intro x hx; simp [hx]))
      have t71 := t63.step f67 (ob_in (by intro x hx; simp [hx]))
      have e72 : spl (sts (settleTo (js.map JobP.m) ss k)) (k * 6) [(.int .u8 (nxtS (js.map JobP.m) (settleTo (js.map JobP.m) ss k) ((k : Nat) : Int).toNat))] = sts ((settleTo (js.map JobP.m) ss k).set k ({ s with state := (nxtS (js.map JobP.m) (settleTo (js.map JobP.m) ss k) ((k : Nat) : Int).toNat) } : St)) := sts_part0  (y := ({ s with state := (nxtS (js.map JobP.m) (settleTo (js.map JobP.m) ss k) ((k : Nat) : Int).toNat) } : St)) hs rfl (Nat.le_of_ble_eq_true rfl)
      have h73 : Own w66 56 6 al ss.length cl (sts ((settleTo (js.map JobP.m) ss k).set k ({ s with state := (nxtS (js.map JobP.m) (settleTo (js.map JobP.m) ss k) ((k : Nat) : Int).toNat) } : St))) := by rw [← e72]; exact h68
      have hx74 : ((settleTo (js.map JobP.m) ss k).set k ({ s with state := (nxtS (js.map JobP.m) (settleTo (js.map JobP.m) ss k) ((k : Nat) : Int).toNat) } : St))[k]? = some ({ s with state := (nxtS (js.map JobP.m) (settleTo (js.map JobP.m) ss k) ((k : Nat) : Int).toNat) } : St) := set_get hs
      refine ⟨(pres_all (by kernel_rfl)), ?_⟩
      refine f_done (by kernel_rfl) ?_
      refine (x_blk (x_then ?_))
      refine c_region ?_
      refine l_v (v := (.int .i64 ((k + 1 : Nat) : Int))) (r_add s11 rfl (w64 (by omega) (by omega) (by omega))) ?_
      refine l_v (v := (.int .i64 ((k + 1 : Nat) : Int))) (r_move rfl) ?_
      refine l_nil ?_
      refine (x_then ?_)
      exact ⟨_, _, (by omega), rfl, k + 1, rfl, s5, s6, s7, s8, s9, s10, rfl, t71, (by rw [settleTo_one hs c34]; exact h73), (by omega)⟩
    ·
      refine c_skip ?_
      refine (x_blk (x_then ?_))
      refine c_region ?_
      refine l_v (v := (.int .i64 ((k + 1 : Nat) : Int))) (r_add s11 rfl (w64 (by omega) (by omega) (by omega))) ?_
      refine l_v (v := (.int .i64 ((k + 1 : Nat) : Int))) (r_move rfl) ?_
      refine l_nil ?_
      refine (x_then ?_)
      have k75 := h12.keep0 f21
      have k76 := k75.keep f29 (ob_not1 (not_ob_old lt_h4 (by omega)))
      exact ⟨_, _, (by omega), rfl, k + 1, rfl, s5, s6, s7, s8, s9, s10, rfl, t33, (by rw [settleTo_not hs c34]; exact k76), (by omega)⟩
  ·
    refine c_exit ?_
    refine (x_then_x (x_then_x (x_blk_hit ?_)))
    refine p_end (v := .tuple #[]) (res0 rfl) ?_
    have k77 := h1.keep f4 n1
    exact ⟨rfl, t15, (by rw [settle_len]; exact k77), (by have ek : k = ss.length := (by omega); subst ek; rw [settle_len]; exact h12)⟩

set_option maxHeartbeats 400000 in
set_option maxRecDepth 100000 in
theorem there_c {w : World} {b cj cl : Nat} {aj al : Option Addr} {js : List JobP} {ss : List St} {i : Int} (h1 : At w b (.cells #[(.slice aj js.length cj), (.slice al ss.length cl)] 142 (0, 0))) :
    Calls Proofs.Try.prog 91 #[(.pointer (some ⟨b, 0, none⟩)), (.int .i64 i)] w (Ret fun v w' => v = (.int .i64 (thereC ss i)) ∧ Fr [] w w') := by
  have lt_h1 := h1.lt
  have t0 : Fr [] w w := Fr.refl _ _
  refine enter Proofs.Try.func91 rfl Proofs.Try.ntmps91 (Nat.le_of_ble_eq_true rfl) ?_
  refine c_seq ?_
  refine c_region ?_
  refine l_v (v := (.int .i64 0)) (r_assign rfl) ?_
  refine l_nil ?_
  refine (x_then ?_)
  refine c_seq ?_
  refine c_block ?_
  refine c_seq ?_
  refine c_region ?_
  refine l_v (v := (.pointer (some ⟨b, 0, none⟩))) (r_move rfl) ?_
  refine l_v (v := (.bool false)) (r_eqlPn (a := (some ⟨b, 0, none⟩)) F.ptr45 rfl) ?_
  refine l_v (v := (.bool false)) (r_assign rfl) ?_
  refine l_nil ?_
  refine (x_then ?_)
  refine c_false rfl ?_
  refine c_seq ?_
  refine c_region ?_
  refine l_v (v := (.int .i64 i)) (r_move rfl) ?_
  refine l_v (v := (.bool (decide (i < 0)))) (r_lss rfl rfl) ?_
  refine l_v (v := (.bool (decide (i < 0)))) (r_move rfl) ?_
  refine l_em (p := i < 0) ?_ ?_
  · intro c1
    refine l_skip (wanted_not rfl rfl (bd rfl c1) (by decide)) ?_
    refine l_skip (wanted_not rfl rfl (bd rfl c1) (by decide)) ?_
    refine l_skip (wanted_not rfl rfl (bd rfl c1) (by decide)) ?_
    refine l_skip (wanted_not rfl rfl (bd rfl c1) (by decide)) ?_
    refine l_skip (wanted_not rfl rfl (bd rfl c1) (by decide)) ?_
    refine l_skip (wanted_not rfl rfl (bd rfl c1) (by decide)) ?_
    refine l_skip (wanted_not rfl rfl (bd rfl c1) (by decide)) ?_
    refine l_v (v := (.bool true)) (r_pick_t (bd rfl c1) rfl) ?_
    refine l_v (v := (.bool true)) (r_assign rfl) ?_
    refine l_nil ?_
    refine (x_then ?_)
    refine c_true rfl ?_
    refine c_seq ?_
    refine c_region ?_
    refine l_v (v := (.int .i64 1)) (r_assign rfl) ?_
    refine l_nil ?_
    refine (x_then ?_)
    refine c_ret ?_
    refine (x_blk_r (x_then_r ?_))
    refine p_ret (v := (.int .i64 1)) (res1 rfl rfl) ?_
    exact ⟨(by unfold thereC; rw [if_pos (by omega)]), t0⟩
  · intro c1
    refine l_gv (v := (.int .i64 i)) (wanted_run rfl rfl (bn rfl c1)) (r_move rfl) ?_
    refine l_gv (v := (.pointer (some ⟨b, 0, none⟩))) (wanted_run rfl rfl (bn rfl c1)) (r_move rfl) ?_
    refine l_gv (v := (.pointer (some ⟨b, 0, none⟩))) (wanted_run rfl rfl (bn rfl c1)) (r_nil_ptr rfl) ?_
    refine l_gv (v := (.pointer (some ⟨b, 1, none⟩))) (wanted_run rfl rfl (bn rfl c1)) (r_field_l F.fo142_1 rfl rfl) ?_
    refine l_gv (v := (.slice al ss.length cl)) (wanted_run rfl rfl (bn rfl c1)) (r_load1 F.one49 rfl (At.cell h1 rfl)) ?_
    refine l_gv (v := (.int .i64 ((ss.length : Nat) : Int))) (wanted_run rfl rfl (bn rfl c1)) (r_lenSl F.sl49 rfl) ?_
    refine l_gv (v := (.bool (decide (((ss.length : Nat) : Int) ≤ i)))) (wanted_run rfl rfl (bn rfl c1)) (r_geq rfl rfl) ?_
    refine l_v (v := (.bool (decide (((ss.length : Nat) : Int) ≤ i)))) (r_pick_f (bn rfl c1) rfl) ?_
    refine l_v (v := (.bool (decide (((ss.length : Nat) : Int) ≤ i)))) (r_assign rfl) ?_
    refine l_nil ?_
    refine (x_then ?_)
    refine c_if (p := ((ss.length : Nat) : Int) ≤ i) rfl (fun c2 => ?_) (fun c2 => ?_)
    ·
      refine c_seq ?_
      refine c_region ?_
      refine l_v (v := (.int .i64 1)) (r_assign rfl) ?_
      refine l_nil ?_
      refine (x_then ?_)
      refine c_ret ?_
      refine (x_blk_r (x_then_r ?_))
      refine p_ret (v := (.int .i64 1)) (res1 rfl rfl) ?_
      exact ⟨(by unfold thereC; rw [if_pos (by omega)]), t0⟩
    ·
      refine c_skip ?_
      refine (x_blk (x_then ?_))
      refine c_seq ?_
      refine c_region ?_
      refine l_v (v := (.int .i64 0)) (r_assign rfl) ?_
      refine l_nil ?_
      refine (x_then ?_)
      refine c_ret ?_
      refine p_ret (v := (.int .i64 0)) (res1 rfl rfl) ?_
      exact ⟨(by unfold thereC; rw [if_neg (by omega)]), t0⟩

set_option maxHeartbeats 400000 in
set_option maxRecDepth 100000 in
theorem may_c {w : World} {ap : Option Addr} {cp : Nat} {ps : List PJob} {LP : List Nat} (q1 : Ro w ap ps.length cp (pjs ps)) (q2 : PNds w LP ps) (hB : ∀ x ∈ ps, x.m.needs.length ≤ 2000) :
    Calls Proofs.Try.prog 83 #[(.agg #[(.slice ap ps.length cp)])] w (Ret fun v w' => v = (.bool (mayB (ps.map PJob.m))) ∧ Fr [] w w') := by
  have lt_q1 := q1.lt
  have lt_q2 := q2.lt
  have t0 : Fr [] w w := Fr.refl _ _
  refine enter Proofs.Try.func83 rfl Proofs.Try.ntmps83 (Nat.le_of_ble_eq_true rfl) ?_
  refine c_seq ?_
  refine c_region ?_
  refine l_do rfl ?_
  refine d_box (v := (.agg #[(.slice ap ps.length cp)])) (cs := #[(.slice ap ps.length cp)]) rfl rfl ?_
  intro w1 b2 f3 a4 h5
  have z6 := f3.size
  have t7 := t0.trans0 f3
  have l8 := h5.lt
  refine l_v (v := (.bool false)) (r_assign rfl) ?_
  refine l_nil ?_
  refine (x_then ?_)
  refine c_seq ?_
  refine c_seq ?_
  refine c_region ?_
  refine l_v (v := (.pointer (some ⟨b2, 0, none⟩))) (r_field_l F.fo41_0 rfl rfl) ?_
  refine l_v (v := (.slice ap ps.length cp)) (r_load1 F.one39 rfl (At.cell h5 rfl)) ?_
  refine l_v (v := (.int .i64 ((ps.length : Nat) : Int))) (r_lenSl F.sl39 rfl) ?_
  refine l_v (v := (.bool (decide (24 < ((ps.length : Nat) : Int))))) (r_gtr rfl rfl) ?_
  refine l_nil ?_
  refine (x_then ?_)
  refine c_if (p := 24 < ((ps.length : Nat) : Int)) rfl (fun c9 => ?_) (fun c9 => ?_)
  ·
    refine c_seq ?_
    refine c_region ?_
    refine l_v (v := (.bool false)) (r_assign rfl) ?_
    refine l_nil ?_
    refine (x_then ?_)
    refine c_ret ?_
    refine (x_then_r ?_)
    refine p_ret (v := (.bool false)) (res1 rfl rfl) ?_
    exact ⟨(by rw [may_big (by simp; omega)]), t7⟩
  ·
    refine c_skip ?_
    refine (x_then ?_)
    refine c_seq ?_
    refine c_seq ?_
    refine c_region ?_
    refine l_v (v := (.pointer (some ⟨b2, 0, none⟩))) (r_field_l F.fo41_0 rfl rfl) ?_
    refine l_v (v := (.slice ap ps.length cp)) (r_load1 F.one39 rfl (At.cell h5 rfl)) ?_
    refine l_v (v := (.int .i64 ((ps.length : Nat) : Int))) (r_lenSl F.sl39 rfl) ?_
    refine l_v (v := (.int .i64 0)) (r_move rfl) ?_
    refine l_nil ?_
    refine (x_then ?_)
    refine c_block ?_
    refine c_loop (fun (m : Nat) (e' : Nat → Value) (w' : World) => ∃ i : Nat, m = ps.length - i ∧ e' 0 = (.agg #[(.slice ap ps.length cp)]) ∧ e' 1 = (.pointer (some ⟨b2, 0, none⟩)) ∧ e' 8 = (.pointer (some ⟨b2, 0, none⟩)) ∧ e' 9 = (.slice ap ps.length cp) ∧ e' 10 = (.int .i64 ((ps.length : Nat) : Int)) ∧ e' 11 = (.bool (decide (24 < ((ps.length : Nat) : Int)))) ∧ e' 12 = (.pointer (some ⟨b2, 0, none⟩)) ∧ e' 13 = (.slice ap ps.length cp) ∧ e' 14 = (.int .i64 ((ps.length : Nat) : Int)) ∧ e' 15 = (.int .i64 ((i : Nat) : Int)) ∧ Fr [] w1 w' ∧ (i ≤ ps.length) ∧ (∀ j, j < i → ∀ m, (ps.map PJob.m)[j]? = some m → jobB j m = true)) (ps.length - 0) ⟨0, rfl, rfl, rfl, rfl, rfl, rfl, rfl, rfl, rfl, rfl, rfl, Fr.refl _ _, (by omega), (fun j hj => by omega)⟩ ?_
    rintro m_f12 e10 w11 ⟨i, hm_f12, s13, s14, s15, s16, s17, s18, s19, s20, s21, s22, f12, p23, hall⟩
    have z24 := f12.size
    have t25 := t7.trans0 f12
    have t_f12 : Fr [] w1 w11 := f12
    refine c_seq ?_
    refine c_region ?_
    refine l_v (v := (.bool (decide (((i : Nat) : Int) < ((ps.length : Nat) : Int))))) (r_lss s22 s21) ?_
    refine l_nil ?_
    refine (x_then ?_)
    refine c_seq ?_
    refine c_if (p := ((i : Nat) : Int) < ((ps.length : Nat) : Int)) rfl (fun c26 => ?_) (fun c26 => ?_)
    ·
      refine c_skip ?_
      refine (x_then ?_)
      refine c_seq ?_
      refine c_block ?_
      refine c_seq ?_
      refine c_region ?_
      refine l_v (v := (.int .i64 ((i : Nat) : Int))) (r_move s22) ?_
      have k27 := q1.keep0 f3
      have k28 := k27.keep0 f12
      have ha29 : ∃ ad, ap = some ad := k28.sl.some (by rw [pjs_len]; have := ((by first | omega | (simp only [settleTo_len, settle_len, startL_len, endsL_len, endL_len, cancelL_len, playL_len, newL_len, List.length_map, List.length_set, List.length_replicate, doL_len]; omega)) : i < (ps).length); omega)
      obtain ⟨x, hx⟩ := get_some (l := ps) (k := i) (by first | omega | (simp only [settleTo_len, settle_len, startL_len, endsL_len, endL_len, cancelL_len, playL_len, newL_len, List.length_map, List.length_set, List.length_replicate, doL_len]; omega))
      refine l_v (v := (.pointer (some ((adr ap).add (i * 9))))) (r_indexAddr F.sle39 s20 s22 ha29 (by omega) (by have := get_lt hx; (try simp only [settleTo_len, settle_len, startL_len, endsL_len, endL_len, cancelL_len, playL_len, newL_len, List.length_map, List.length_set, List.length_replicate, doL_len] at this); omega) (by first | rfl | simp | omega)) ?_
      have hbx := hB x (mem_of_get hx)
      have s30 := k28.sl
      refine l_v (v := (.agg #[(.string x.name), (.slice x.na x.m.needs.length x.nc), (.slice x.a2 x.n2 x.c2), (.slice x.a3 x.n3 x.c3), (.slice x.a4 x.n4 x.c4), (.slice x.a5 x.n5 x.c5), (.int .i64 x.m.tries), (.int .i64 x.m.limit), (.bool x.m.manual)])) (r_loadES [(.string x.name), (.slice x.na x.m.needs.length x.nc), (.slice x.a2 x.n2 x.c2), (.slice x.a3 x.n3 x.c3), (.slice x.a4 x.n4 x.c4), (.slice x.a5 x.n5 x.c5), (.int .i64 x.m.tries), (.int .i64 x.m.limit), (.bool x.m.manual)] F.agg60 s30 rfl rfl (pjs_vs hx)) ?_
      refine l_do rfl ?_
      refine d_alloc (cs := #[(.string ⟨#[]⟩), (.slice none 0 0), (.slice none 0 0), (.slice none 0 0), (.slice none 0 0), (.slice none 0 0), (.int .i64 0), (.int .i64 0), (.bool false)]) F.zero60 rfl ?_
      intro w31 b32 f33 a34 h35
      have z36 := f33.size
      have t37 := t25.trans0 f33
      have t38 := t_f12.trans0 f33
      have l39 := h35.lt
      refine l_v (v := (.int .i64 ((i : Nat) : Int))) (r_assign rfl) ?_
      refine l_do rfl ?_
      refine d_storeA (l := [(.string x.name), (.slice x.na x.m.needs.length x.nc), (.slice x.a2 x.n2 x.c2), (.slice x.a3 x.n3 x.c3), (.slice x.a4 x.n4 x.c4), (.slice x.a5 x.n5 x.c5), (.int .i64 x.m.tries), (.int .i64 x.m.limit), (.bool x.m.manual)]) F.sz60 rfl rfl (by simp [Value.oneCell']) h35 rfl ?_
      intro w40 f41 h42
      have z43 := f41.size
      have t44 := t37.step f41 (one_new (by omega))
      have t45 := t38.step f41 (one_new (by omega))
      refine l_nil ?_
      refine (x_then ?_)
      refine c_seq ?_
      refine c_seq ?_
      refine c_region ?_
      refine l_v (v := (.pointer (some ⟨b32, 6, none⟩))) (r_field_l F.fo60_6 rfl rfl) ?_
      refine l_v (v := (.int .i64 x.m.tries)) (r_load1 F.one3 rfl (At.cell h42 rfl)) ?_
      refine l_v (v := (.bool (decide (x.m.tries < 1)))) (r_lss rfl rfl) ?_
      refine l_v (v := (.bool (decide (x.m.tries < 1)))) (r_move rfl) ?_
      refine l_em (p := x.m.tries < 1) ?_ ?_
      · intro c46
        refine l_skip (wanted_not rfl rfl (bd rfl c46) (by decide)) ?_
        refine l_skip (wanted_not rfl rfl (bd rfl c46) (by decide)) ?_
        refine l_skip (wanted_not rfl rfl (bd rfl c46) (by decide)) ?_
        refine l_v (v := (.bool true)) (r_pick_t (bd rfl c46) rfl) ?_
        refine l_v (v := (.bool true)) (r_move rfl) ?_
        refine l_skip (wanted_not rfl rfl rfl (by decide)) ?_
        refine l_skip (wanted_not rfl rfl rfl (by decide)) ?_
        refine l_skip (wanted_not rfl rfl rfl (by decide)) ?_
        refine l_v (v := (.bool true)) (r_pick_t rfl rfl) ?_
        refine l_v (v := (.bool true)) (r_move rfl) ?_
        refine l_skip (wanted_not rfl rfl rfl (by decide)) ?_
        refine l_skip (wanted_not rfl rfl rfl (by decide)) ?_
        refine l_skip (wanted_not rfl rfl rfl (by decide)) ?_
        refine l_v (v := (.bool true)) (r_pick_t rfl rfl) ?_
        refine l_nil ?_
        refine (x_then ?_)
        refine c_true rfl ?_
        refine c_seq ?_
        refine c_region ?_
        refine l_v (v := (.bool false)) (r_assign rfl) ?_
        refine l_nil ?_
        refine (x_then ?_)
        refine c_ret ?_
        refine (x_then_r (x_blk_r (x_then_r (x_then_r (x_blk_r (x_then_r ?_))))))
        refine p_ret (v := (.bool false)) (res1 rfl rfl) ?_
        exact ⟨(by rw [may_bad (pm_get hx) (jobB_bad (.inl (by omega)))]), t44⟩
      · intro c46
        refine l_gv (v := (.pointer (some ⟨b32, 6, none⟩))) (wanted_run rfl rfl (bn rfl c46)) (r_field_l F.fo60_6 rfl rfl) ?_
        refine l_gv (v := (.int .i64 x.m.tries)) (wanted_run rfl rfl (bn rfl c46)) (r_load1 F.one3 rfl (At.cell h42 rfl)) ?_
        refine l_gv (v := (.bool (decide (5 < x.m.tries)))) (wanted_run rfl rfl (bn rfl c46)) (r_gtr rfl rfl) ?_
        refine l_v (v := (.bool (decide (5 < x.m.tries)))) (r_pick_f (bn rfl c46) rfl) ?_
        refine l_v (v := (.bool (decide (5 < x.m.tries)))) (r_move rfl) ?_
        refine l_em (p := 5 < x.m.tries) ?_ ?_
        · intro c47
          refine l_skip (wanted_not rfl rfl (bd rfl c47) (by decide)) ?_
          refine l_skip (wanted_not rfl rfl (bd rfl c47) (by decide)) ?_
          refine l_skip (wanted_not rfl rfl (bd rfl c47) (by decide)) ?_
          refine l_v (v := (.bool true)) (r_pick_t (bd rfl c47) rfl) ?_
          refine l_v (v := (.bool true)) (r_move rfl) ?_
          refine l_skip (wanted_not rfl rfl rfl (by decide)) ?_
          refine l_skip (wanted_not rfl rfl rfl (by decide)) ?_
          refine l_skip (wanted_not rfl rfl rfl (by decide)) ?_
          refine l_v (v := (.bool true)) (r_pick_t rfl rfl) ?_
          refine l_nil ?_
          refine (x_then ?_)
          refine c_true rfl ?_
          refine c_seq ?_
          refine c_region ?_
          refine l_v (v := (.bool false)) (r_assign rfl) ?_
          refine l_nil ?_
          refine (x_then ?_)
          refine c_ret ?_
          refine (x_then_r (x_blk_r (x_then_r (x_then_r (x_blk_r (x_then_r ?_))))))
          refine p_ret (v := (.bool false)) (res1 rfl rfl) ?_
          exact ⟨(by rw [may_bad (pm_get hx) (jobB_bad (.inr (.inl (by omega))))]), t44⟩
        · intro c47
          refine l_gv (v := (.pointer (some ⟨b32, 7, none⟩))) (wanted_run rfl rfl (bn rfl c47)) (r_field_l F.fo60_7 rfl rfl) ?_
          refine l_gv (v := (.int .i64 x.m.limit)) (wanted_run rfl rfl (bn rfl c47)) (r_load1 F.one3 rfl (At.cell h42 rfl)) ?_
          refine l_gv (v := (.bool (decide (x.m.limit < 0)))) (wanted_run rfl rfl (bn rfl c47)) (r_lss rfl rfl) ?_
          refine l_v (v := (.bool (decide (x.m.limit < 0)))) (r_pick_f (bn rfl c47) rfl) ?_
          refine l_v (v := (.bool (decide (x.m.limit < 0)))) (r_move rfl) ?_
          refine l_em (p := x.m.limit < 0) ?_ ?_
          · intro c48
            refine l_skip (wanted_not rfl rfl (bd rfl c48) (by decide)) ?_
            refine l_skip (wanted_not rfl rfl (bd rfl c48) (by decide)) ?_
            refine l_skip (wanted_not rfl rfl (bd rfl c48) (by decide)) ?_
            refine l_v (v := (.bool true)) (r_pick_t (bd rfl c48) rfl) ?_
            refine l_nil ?_
            refine (x_then ?_)
            refine c_true rfl ?_
            refine c_seq ?_
            refine c_region ?_
            refine l_v (v := (.bool false)) (r_assign rfl) ?_
            refine l_nil ?_
            refine (x_then ?_)
            refine c_ret ?_
            refine (x_then_r (x_blk_r (x_then_r (x_then_r (x_blk_r (x_then_r ?_))))))
            refine p_ret (v := (.bool false)) (res1 rfl rfl) ?_
            exact ⟨(by rw [may_bad (pm_get hx) (jobB_bad (.inr (.inr (.inl (by omega)))))]), t44⟩
          · intro c48
            refine l_gv (v := (.pointer (some ⟨b32, 7, none⟩))) (wanted_run rfl rfl (bn rfl c48)) (r_field_l F.fo60_7 rfl rfl) ?_
            refine l_gv (v := (.int .i64 x.m.limit)) (wanted_run rfl rfl (bn rfl c48)) (r_load1 F.one3 rfl (At.cell h42 rfl)) ?_
            refine l_gv (v := (.bool (decide (1000 < x.m.limit)))) (wanted_run rfl rfl (bn rfl c48)) (r_gtr rfl rfl) ?_
            refine l_v (v := (.bool (decide (1000 < x.m.limit)))) (r_pick_f (bn rfl c48) rfl) ?_
            refine l_nil ?_
            refine (x_then ?_)
            refine c_if (p := 1000 < x.m.limit) rfl (fun c49 => ?_) (fun c49 => ?_)
            ·
              refine c_seq ?_
              refine c_region ?_
              refine l_v (v := (.bool false)) (r_assign rfl) ?_
              refine l_nil ?_
              refine (x_then ?_)
              refine c_ret ?_
              refine (x_then_r (x_blk_r (x_then_r (x_then_r (x_blk_r (x_then_r ?_))))))
              refine p_ret (v := (.bool false)) (res1 rfl rfl) ?_
              exact ⟨(by rw [may_bad (pm_get hx) (jobB_bad (.inr (.inr (.inr (.inl (by omega))))))]), t44⟩
            ·
              refine c_skip ?_
              refine (x_then ?_)
              refine c_seq ?_
              refine c_region ?_
              refine l_v (v := (.int .i64 (-1))) (r_assign rfl) ?_
              refine l_nil ?_
              refine (x_then ?_)
              refine c_seq ?_
              refine c_region ?_
              refine l_v (v := (.pointer (some ⟨b32, 1, none⟩))) (r_field_l F.fo60_1 rfl rfl) ?_
              refine l_v (v := (.slice x.na x.m.needs.length x.nc)) (r_load1 F.one48 rfl (At.cell h42 rfl)) ?_
              refine l_v (v := (.int .i64 ((x.m.needs.length : Nat) : Int))) (r_lenSl F.sl48 rfl) ?_
              refine l_v (v := (.int .i64 0)) (r_move rfl) ?_
              refine l_nil ?_
              refine (x_then ?_)
              refine c_block ?_
              refine c_loop (fun (m : Nat) (e' : Nat → Value) (w' : World) => ∃ q : Nat, ∃ last : Int, m = x.m.needs.length - q ∧ e' 0 = (.agg #[(.slice ap ps.length cp)]) ∧ e' 1 = (.pointer (some ⟨b2, 0, none⟩)) ∧ e' 3 = (.int .i64 ((i : Nat) : Int)) ∧ e' 4 = (.pointer (some ⟨b32, 0, none⟩)) ∧ e' 5 = (.int .i64 last) ∧ e' 8 = (.pointer (some ⟨b2, 0, none⟩)) ∧ e' 9 = (.slice ap ps.length cp) ∧ e' 10 = (.int .i64 ((ps.length : Nat) : Int)) ∧ e' 11 = (.bool (decide (24 < ((ps.length : Nat) : Int)))) ∧ e' 12 = (.pointer (some ⟨b2, 0, none⟩)) ∧ e' 13 = (.slice ap ps.length cp) ∧ e' 14 = (.int .i64 ((ps.length : Nat) : Int)) ∧ e' 15 = (.int .i64 ((i : Nat) : Int)) ∧ e' 16 = (.bool (decide (((i : Nat) : Int) < ((ps.length : Nat) : Int)))) ∧ e' 17 = (.int .i64 ((i : Nat) : Int)) ∧ e' 18 = (.pointer (some ((adr ap).add (i * 9)))) ∧ e' 19 = (.agg #[(.string x.name), (.slice x.na x.m.needs.length x.nc), (.slice x.a2 x.n2 x.c2), (.slice x.a3 x.n3 x.c3), (.slice x.a4 x.n4 x.c4), (.slice x.a5 x.n5 x.c5), (.int .i64 x.m.tries), (.int .i64 x.m.limit), (.bool x.m.manual)]) ∧ e' 20 = (.pointer (some ⟨b32, 6, none⟩)) ∧ e' 21 = (.int .i64 x.m.tries) ∧ e' 22 = (.bool (decide (x.m.tries < 1))) ∧ e' 23 = (.bool (decide (x.m.tries < 1))) ∧ e' 24 = (.pointer (some ⟨b32, 6, none⟩)) ∧ e' 25 = (.int .i64 x.m.tries) ∧ e' 26 = (.bool (decide (5 < x.m.tries))) ∧ e' 27 = (.bool (decide (5 < x.m.tries))) ∧ e' 28 = (.bool (decide (5 < x.m.tries))) ∧ e' 29 = (.pointer (some ⟨b32, 7, none⟩)) ∧ e' 30 = (.int .i64 x.m.limit) ∧ e' 31 = (.bool (decide (x.m.limit < 0))) ∧ e' 32 = (.bool (decide (x.m.limit < 0))) ∧ e' 33 = (.bool (decide (x.m.limit < 0))) ∧ e' 34 = (.pointer (some ⟨b32, 7, none⟩)) ∧ e' 35 = (.int .i64 x.m.limit) ∧ e' 36 = (.bool (decide (1000 < x.m.limit))) ∧ e' 37 = (.bool (decide (1000 < x.m.limit))) ∧ e' 38 = (.pointer (some ⟨b32, 1, none⟩)) ∧ e' 39 = (.slice x.na x.m.needs.length x.nc) ∧ e' 40 = (.int .i64 ((x.m.needs.length : Nat) : Int)) ∧ e' 41 = (.int .i64 ((q : Nat) : Int)) ∧ Fr [] w40 w' ∧ (q ≤ x.m.needs.length) ∧ (riseB (i : Int) (-1) x.m.needs = riseB (i : Int) last (x.m.needs.drop q))) (x.m.needs.length - 0) ⟨0, (-1), rfl, s13, s14, rfl, rfl, rfl, s15, s16, s17, s18, s19, s20, s21, s22, rfl, rfl, rfl, rfl, rfl, rfl, rfl, rfl, rfl, rfl, rfl, rfl, rfl, rfl, rfl, rfl, rfl, rfl, rfl, rfl, rfl, rfl, rfl, rfl, rfl, rfl, Fr.refl _ _, (by omega), rfl⟩ ?_
              rintro m_f52 e50 w51 ⟨q, last, hm_f52, s53, s54, s55, s56, s57, s58, s59, s60, s61, s62, s63, s64, s65, s66, s67, s68, s69, s70, s71, s72, s73, s74, s75, s76, s77, s78, s79, s80, s81, s82, s83, s84, s85, s86, s87, s88, s89, s90, s91, f52, p92, hinv⟩
              have z93 := f52.size
              have t94 := t44.trans0 f52
              have t95 := t45.trans0 f52
              have t_f52 : Fr [] w40 w51 := f52
              refine c_seq ?_
              refine c_region ?_
              refine l_v (v := (.bool (decide (((q : Nat) : Int) < ((x.m.needs.length : Nat) : Int))))) (r_lss s91 s90) ?_
              refine l_nil ?_
              refine (x_then ?_)
              refine c_seq ?_
              refine c_if (p := ((q : Nat) : Int) < ((x.m.needs.length : Nat) : Int)) rfl (fun c96 => ?_) (fun c96 => ?_)
              ·
                refine c_skip ?_
                refine (x_then ?_)
                refine c_seq ?_
                refine c_block ?_
                refine c_seq ?_
                refine c_region ?_
                have k97 := q2.keep0 f3
                have k98 := k97.keep0 f12
                have k99 := k98.keep0 f33
                have k100 := k99.keep f41 (ob_not1 (not_ob_old lt_q2 (by omega)))
                have k101 := k100.keep0 f52
                have hnx := k101.get hx
                have hbx := hB x (mem_of_get hx)
                have ha102 : ∃ ad, x.na = some ad := hnx.some (by rw [iv_len]; have := ((by first | omega | (simp only [settleTo_len, settle_len, startL_len, endsL_len, endL_len, cancelL_len, playL_len, newL_len, List.length_map, List.length_set, List.length_replicate, doL_len]; omega)) : q < (x.m.needs).length); omega)
                obtain ⟨n, hn⟩ := get_some (l := x.m.needs) (k := q) (by first | omega | (simp only [settleTo_len, settle_len, startL_len, endsL_len, endL_len, cancelL_len, playL_len, newL_len, List.length_map, List.length_set, List.length_replicate, doL_len]; omega))
                refine l_v (v := (.pointer (some ((adr x.na).add q)))) (r_indexAddr F.sle48 s89 s91 ha102 (by omega) (by have := get_lt hn; (try simp only [settleTo_len, settle_len, startL_len, endsL_len, endL_len, cancelL_len, playL_len, newL_len, List.length_map, List.length_set, List.length_replicate, doL_len] at this); omega) (by first | rfl | simp | omega)) ?_
                refine l_v (v := (.int .i64 n)) (r_loadE1 F.one3 hnx rfl (iv_vs hn)) ?_
                refine l_v (v := (.int .i64 n)) (r_assign rfl) ?_
                refine l_nil ?_
                refine (x_then ?_)
                refine c_seq ?_
                refine c_seq ?_
                refine c_region ?_
                refine l_v (v := (.int .i64 n)) (r_move rfl) ?_
                refine l_v (v := (.int .i64 last)) (r_move s57) ?_
                refine l_v (v := (.bool (decide (n ≤ last)))) (r_leq rfl rfl) ?_
                refine l_v (v := (.bool (decide (n ≤ last)))) (r_move rfl) ?_
                refine l_em (p := n ≤ last) ?_ ?_
                · intro c103
                  refine l_skip (wanted_not rfl rfl (bd rfl c103) (by decide)) ?_
                  refine l_skip (wanted_not rfl rfl (bd rfl c103) (by decide)) ?_
                  refine l_skip (wanted_not rfl rfl (bd rfl c103) (by decide)) ?_
                  refine l_v (v := (.bool true)) (r_pick_t (bd rfl c103) rfl) ?_
                  refine l_nil ?_
                  refine (x_then ?_)
                  refine c_true rfl ?_
                  refine c_seq ?_
                  refine c_region ?_
                  refine l_v (v := (.bool false)) (r_assign rfl) ?_
                  refine l_nil ?_
                  refine (x_then ?_)
                  refine c_ret ?_
                  refine (x_then_r (x_blk_r (x_then_r (x_then_r (x_blk_r (x_blk_r (x_then_r (x_then_r (x_blk_r (x_then_r ?_))))))))))
                  refine p_ret (v := (.bool false)) (res1 rfl rfl) ?_
                  exact ⟨(by rw [may_bad (pm_get hx) (jobB_bad (.inr (.inr (.inr (.inr (by rw [hinv, rise_step hn, if_pos (by omega)]))))))]), t94⟩
                · intro c103
                  refine l_gv (v := (.int .i64 n)) (wanted_run rfl rfl (bn rfl c103)) (r_move rfl) ?_
                  refine l_gv (v := (.int .i64 ((i : Nat) : Int))) (wanted_run rfl rfl (bn rfl c103)) (r_move s55) ?_
                  refine l_gv (v := (.bool (decide (((i : Nat) : Int) ≤ n)))) (wanted_run rfl rfl (bn rfl c103)) (r_geq rfl rfl) ?_
                  refine l_v (v := (.bool (decide (((i : Nat) : Int) ≤ n)))) (r_pick_f (bn rfl c103) rfl) ?_
                  refine l_nil ?_
                  refine (x_then ?_)
                  refine c_if (p := ((i : Nat) : Int) ≤ n) rfl (fun c104 => ?_) (fun c104 => ?_)
                  ·
                    refine c_seq ?_
                    refine c_region ?_
                    refine l_v (v := (.bool false)) (r_assign rfl) ?_
                    refine l_nil ?_
                    refine (x_then ?_)
                    refine c_ret ?_
                    refine (x_then_r (x_blk_r (x_then_r (x_then_r (x_blk_r (x_blk_r (x_then_r (x_then_r (x_blk_r (x_then_r ?_))))))))))
                    refine p_ret (v := (.bool false)) (res1 rfl rfl) ?_
                    exact ⟨(by rw [may_bad (pm_get hx) (jobB_bad (.inr (.inr (.inr (.inr (by rw [hinv, rise_step hn, if_pos (by omega)]))))))]), t94⟩
                  ·
                    refine c_skip ?_
                    refine (x_then ?_)
                    refine c_region ?_
                    refine l_v (v := (.int .i64 n)) (r_move rfl) ?_
                    refine l_v (v := (.int .i64 n)) (r_assign rfl) ?_
                    refine l_nil ?_
                    refine (x_blk (x_then ?_))
                    refine c_region ?_
                    refine l_v (v := (.int .i64 ((q + 1 : Nat) : Int))) (r_add s91 rfl (w64 (by omega) (by omega) (by omega))) ?_
                    refine l_v (v := (.int .i64 ((q + 1 : Nat) : Int))) (r_move rfl) ?_
                    refine l_nil ?_
                    refine (x_then ?_)
                    exact ⟨_, _, (by omega), rfl, q + 1, n, rfl, s53, s54, s55, s56, rfl, s58, s59, s60, s61, s62, s63, s64, s65, s66, s67, s68, s69, s70, s71, s72, s73, s74, s75, s76, s77, s78, s79, s80, s81, s82, s83, s84, s85, s86, s87, s88, s89, s90, rfl, t_f52, (by omega), (by rw [hinv, rise_step hn, if_neg (by omega)])⟩
              ·
                refine c_exit ?_
                refine (x_then_x (x_then_x (x_blk_hit (x_blk (x_then ?_)))))
                refine c_region ?_
                refine l_v (v := (.int .i64 ((i + 1 : Nat) : Int))) (r_add s65 rfl (w64 (by omega) (by omega) (by omega))) ?_
                refine l_v (v := (.int .i64 ((i + 1 : Nat) : Int))) (r_move rfl) ?_
                refine l_nil ?_
                refine (x_then ?_)
                exact ⟨_, _, (by omega), rfl, i + 1, rfl, s53, s54, s58, s59, s60, s61, s62, s63, s64, rfl, t95, (by omega), (job_succ hall (pm_get hx) (jobB_ok (by omega) (by omega) (by omega) (by omega) (by rw [hinv]; exact rise_end (by omega))))⟩
    ·
      refine c_exit ?_
      refine (x_then_x (x_then_x (x_blk_hit (x_then ?_))))
      refine c_seq ?_
      refine c_region ?_
      refine l_v (v := (.bool true)) (r_assign rfl) ?_
      refine l_nil ?_
      refine (x_then ?_)
      refine c_ret ?_
      refine p_ret (v := (.bool true)) (res1 rfl rfl) ?_
      exact ⟨(by rw [may_all (by simp; omega) (by simp; omega) hall]), t25⟩

set_option maxHeartbeats 400000 in
set_option maxRecDepth 100000 in
theorem cloneI_c {w : World} {a : Option Addr} {c : Nat} {ns : List Int} (h2 : Sl w a (iv ns)) (h3 : ns.length ≤ 1000000) :
    Calls Proofs.Try.prog 148 #[(.slice a ns.length c)] w (Ret fun v w' => ∃ a' : Option Addr, ∃ c' : Nat, v = (.slice a' ns.length c') ∧ Fr [] w w' ∧ Own w' 3 1 a' ns.length c' (iv ns) ∧ (∀ x ∈ ob a', w.heap.size ≤ x)) := by
  have t0 : Fr [] w w := Fr.refl _ _
  refine enter Proofs.Try.func148 rfl Proofs.Try.ntmps148 (Nat.le_of_ble_eq_true rfl) ?_
  refine c_seq ?_
  refine c_region ?_
  refine l_v (v := (.slice none 0 0)) (r_assign rfl) ?_
  refine l_nil ?_
  refine (x_then ?_)
  refine c_seq ?_
  refine c_seq ?_
  refine c_region ?_
  refine l_v (v := (.slice a ns.length c)) (r_move rfl) ?_
  refine l_v (v := (.bool a.isNone)) (r_eqlSn (a := a) F.sl48 rfl) ?_
  refine l_nil ?_
  refine (x_then ?_)
  refine c_split (t := a.isNone) rfl (fun c1 => ?_) (fun c1 => ?_)
  ·
    refine c_seq ?_
    refine c_region ?_
    refine l_v (v := (.slice none 0 0)) (r_assign rfl) ?_
    refine l_nil ?_
    refine (x_then ?_)
    refine c_ret ?_
    refine (x_then_r ?_)
    refine p_ret (v := (.slice none 0 0)) (res1 rfl rfl) ?_
    have ha0 : a = none := by cases ha : a with | none => rfl | some _ => (rw [ha] at c1; simp at c1)
    subst ha0
    have e0 : ns = [] := by have := sl_none h2; have h9 := iv_len ns; rw [this] at h9; exact List.eq_nil_of_length_eq_zero (by simp at h9; omega)
    subst e0
    exact ⟨none, 0, rfl, t0, Own.nil _ _ _, (fun x hx => by cases hx)⟩
  ·
    refine c_skip ?_
    refine (x_then ?_)
    refine c_seq ?_
    refine c_region ?_
    refine l_do rfl ?_
    refine d_lit (el := 3) (k' := 1) (ps := []) (cells := #[]) pn (by kernel_rfl) rfl (Nat.le_of_ble_eq_true rfl) ?_
    intro w2 b3 f4 a5 h6
    have z7 := f4.size
    have t8 := t0.trans0 f4
    have g9 := ob_one_ge (o := 0) (s := none) a5
    have l10 := h6.lt
    have := ob_one_lt l10
    refine l_v (v := (.slice a ns.length c)) (r_move rfl) ?_
    refine l_do rfl ?_
    have k18 := h2.keep0 f4
    refine d_appendN (news := iv ns) (nn := ns.length) (cs' := iv ns) Proofs.Try.underlying48 F.inf3 rfl (Nat.le_of_ble_eq_true rfl) rfl h6 rfl k18 (by rw [iv_len]; omega) (iv_one ns) (by omega) (by simp only [maxLen]; omega) (by omega) (by simp) ?_
    intro w11 a_14 c_15 f12 h13 g16 n17
    have z19 := f12.size
    have t20 := t8.step f12 (ob_new g9 (by omega))
    have l21 := h13.lt
    have g22 := ob_age g9 g16 (by omega)
    refine l_v (v := (.slice a_14 ns.length c_15)) (r_assign rfl) ?_
    refine l_nil ?_
    refine (x_then ?_)
    refine c_ret ?_
    refine p_ret (v := (.slice a_14 ns.length c_15)) (res1 rfl rfl) ?_
    exact ⟨a_14, c_15, rfl, t20, h13, (ob_ge g22 (by omega))⟩

set_option maxHeartbeats 400000 in
set_option maxRecDepth 100000 in
theorem cloneS_c {w : World} {a : Option Addr} {c : Nat} {ss : List St} (h2 : Sl w a (sts ss)) (h3 : ss.length ≤ 1000000) :
    Calls Proofs.Try.prog 86 #[(.slice a ss.length c)] w (Ret fun v w' => ∃ a' : Option Addr, ∃ c' : Nat, v = (.slice a' ss.length c') ∧ Fr [] w w' ∧ Own w' 56 6 a' ss.length c' (sts ss) ∧ (∀ x ∈ ob a', w.heap.size ≤ x)) := by
  have t0 : Fr [] w w := Fr.refl _ _
  refine enter Proofs.Try.func86 rfl Proofs.Try.ntmps86 (Nat.le_of_ble_eq_true rfl) ?_
  refine c_seq ?_
  refine c_region ?_
  refine l_v (v := (.slice none 0 0)) (r_assign rfl) ?_
  refine l_nil ?_
  refine (x_then ?_)
  refine c_seq ?_
  refine c_seq ?_
  refine c_region ?_
  refine l_v (v := (.slice a ss.length c)) (r_move rfl) ?_
  refine l_v (v := (.bool a.isNone)) (r_eqlSn (a := a) F.sl49 rfl) ?_
  refine l_nil ?_
  refine (x_then ?_)
  refine c_split (t := a.isNone) rfl (fun c1 => ?_) (fun c1 => ?_)
  ·
    refine c_seq ?_
    refine c_region ?_
    refine l_v (v := (.slice none 0 0)) (r_assign rfl) ?_
    refine l_nil ?_
    refine (x_then ?_)
    refine c_ret ?_
    refine (x_then_r ?_)
    refine p_ret (v := (.slice none 0 0)) (res1 rfl rfl) ?_
    have ha0 : a = none := by cases ha : a with | none => rfl | some _ => (rw [ha] at c1; simp at c1)
    subst ha0
    have e0 : ss = [] := by have := sl_none h2; have h9 := sts_len ss; rw [this] at h9; exact List.eq_nil_of_length_eq_zero (by simp at h9; omega)
    subst e0
    exact ⟨none, 0, rfl, t0, Own.nil _ _ _, (fun x hx => by cases hx)⟩
  ·
    refine c_skip ?_
    refine (x_then ?_)
    refine c_seq ?_
    refine c_region ?_
    refine l_do rfl ?_
    refine d_lit (el := 56) (k' := 6) (ps := []) (cells := #[]) pn (by kernel_rfl) rfl (Nat.le_of_ble_eq_true rfl) ?_
    intro w2 b3 f4 a5 h6
    have z7 := f4.size
    have t8 := t0.trans0 f4
    have g9 := ob_one_ge (o := 0) (s := none) a5
    have l10 := h6.lt
    have := ob_one_lt l10
    refine l_v (v := (.slice a ss.length c)) (r_move rfl) ?_
    refine l_do rfl ?_
    have k18 := h2.keep0 f4
    refine d_appendN (news := sts ss) (nn := ss.length) (cs' := sts ss) Proofs.Try.underlying49 F.inf56 rfl (Nat.le_of_ble_eq_true rfl) rfl h6 rfl k18 (by rw [sts_len]) (sts_one ss) (by omega) (by simp only [maxLen]; omega) (by omega) (by simp) ?_
    intro w11 a_14 c_15 f12 h13 g16 n17
    have z19 := f12.size
    have t20 := t8.step f12 (ob_new g9 (by omega))
    have l21 := h13.lt
    have g22 := ob_age g9 g16 (by omega)
    refine l_v (v := (.slice a_14 ss.length c_15)) (r_assign rfl) ?_
    refine l_nil ?_
    refine (x_then ?_)
    refine c_ret ?_
    refine p_ret (v := (.slice a_14 ss.length c_15)) (res1 rfl rfl) ?_
    exact ⟨a_14, c_15, rfl, t20, h13, (ob_ge g22 (by omega))⟩

set_option maxHeartbeats 400000 in
set_option maxRecDepth 100000 in
theorem blank_c {w : World} {ap : Option Addr} {cp : Nat} {ps : List PJob} {LP : List Nat} (q1 : Ro w ap ps.length cp (pjs ps)) (q2 : PNds w LP ps) (hB : ∀ x ∈ ps, x.m.needs.length ≤ 2000) (hp : ps.length ≤ 2000) :
    Calls Proofs.Try.prog 84 #[(.agg #[(.slice ap ps.length cp)])] w (Ret fun v w' => ∃ b : Nat, ∃ aj : Option Addr, ∃ cj : Nat, ∃ al : Option Addr, ∃ cl : Nat, ∃ js : List JobP, ∃ L : List Nat, v = (.pointer (some ⟨b, 0, none⟩)) ∧ Fr [] w w' ∧ At w' b (.cells #[(.slice aj js.length cj), (.slice al ((List.replicate ps.length newS).length) cl)] 142 (0, 0)) ∧ Ro w' aj js.length cj (jbs js) ∧ JNds w' L js ∧ Own w' 56 6 al ((List.replicate ps.length newS).length) cl (sts (List.replicate ps.length newS)) ∧ (js.length = ps.length) ∧ (js.map JobP.m = (ps.map PJob.m)) ∧ (w.heap.size ≤ b) ∧ (∀ x ∈ ob aj, w.heap.size ≤ x) ∧ (∀ x ∈ ob al, w.heap.size ≤ x) ∧ (∀ x ∈ L, w.heap.size ≤ x) ∧ (b ∉ ob al) ∧ (∀ x ∈ ob aj, x ∉ ob al) ∧ (∀ x ∈ L, x ∉ ob al) ∧ (b ∉ ob aj) ∧ (b ∉ L)) := by
  have lt_q1 := q1.lt
  have lt_q2 := q2.lt
  have t0 : Fr [] w w := Fr.refl _ _
  refine enter Proofs.Try.func84 rfl Proofs.Try.ntmps84 (Nat.le_of_ble_eq_true rfl) ?_
  refine c_seq ?_
  refine c_region ?_
  refine l_do rfl ?_
  refine d_box (v := (.agg #[(.slice ap ps.length cp)])) (cs := #[(.slice ap ps.length cp)]) rfl rfl ?_
  intro w1 b2 f3 a4 h5
  have z6 := f3.size
  have t7 := t0.trans0 f3
  have l8 := h5.lt
  refine l_v (v := (.pointer none)) (r_assign rfl) ?_
  refine l_nil ?_
  refine (x_then ?_)
  refine c_seq ?_
  refine c_region ?_
  refine l_v (v := (.agg #[(.slice none 0 0), (.slice none 0 0)])) (r_build pn rfl) ?_
  refine l_do rfl ?_
  refine d_box (v := (.agg #[(.slice none 0 0), (.slice none 0 0)])) (cs := #[(.slice none 0 0), (.slice none 0 0)]) rfl rfl ?_
  intro w9 b10 f11 a12 h13
  have z14 := f11.size
  have t15 := t7.trans0 f11
  have l16 := h13.lt
  refine l_v (v := (.pointer (some ⟨b10, 0, none⟩))) (r_assign rfl) ?_
  refine l_nil ?_
  refine (x_then ?_)
  refine c_seq ?_
  refine c_seq ?_
  refine c_region ?_
  refine l_v (v := (.pointer (some ⟨b2, 0, none⟩))) (r_field_l F.fo41_0 rfl rfl) ?_
  have k17 := h5.keep0 f11
  refine l_v (v := (.slice ap ps.length cp)) (r_load1 F.one39 rfl (At.cell k17 rfl)) ?_
  refine l_v (v := (.int .i64 ((ps.length : Nat) : Int))) (r_lenSl F.sl39 rfl) ?_
  refine l_v (v := (.int .i64 0)) (r_move rfl) ?_
  refine l_nil ?_
  refine (x_then ?_)
  refine c_block ?_
  refine c_loop (fun (m : Nat) (e' : Nat → Value) (w' : World) => ∃ k : Nat, ∃ bJ : Nat, ∃ aj : Option Addr, ∃ cj : Nat, ∃ al : Option Addr, ∃ cl : Nat, ∃ js : List JobP, ∃ L : List Nat, m = ps.length - k ∧ e' 0 = (.agg #[(.slice ap ps.length cp)]) ∧ e' 1 = (.pointer (some ⟨b2, 0, none⟩)) ∧ e' 2 = (.pointer none) ∧ e' 3 = (.pointer (some ⟨bJ, 0, none⟩)) ∧ e' 6 = (.agg #[(.slice none 0 0), (.slice none 0 0)]) ∧ e' 7 = (.pointer (some ⟨b10, 0, none⟩)) ∧ e' 8 = (.pointer (some ⟨b2, 0, none⟩)) ∧ e' 9 = (.slice ap ps.length cp) ∧ e' 10 = (.int .i64 ((ps.length : Nat) : Int)) ∧ e' 11 = (.int .i64 ((k : Nat) : Int)) ∧ Fr [] w w' ∧ At w' bJ (.cells #[(.slice aj k cj), (.slice al k cl)] 142 (0, 0)) ∧ Own w' 160 4 aj k cj (jbs js) ∧ JNds w' L js ∧ Own w' 56 6 al k cl (sts (List.replicate k newS)) ∧ (k ≤ ps.length) ∧ (w.heap.size ≤ bJ) ∧ (js.length = k) ∧ (js.map JobP.m = (ps.map PJob.m).take k) ∧ (∀ x ∈ ob aj, w.heap.size ≤ x) ∧ (∀ x ∈ ob al, w.heap.size ≤ x) ∧ (∀ x ∈ L, w.heap.size ≤ x) ∧ (bJ ∉ ob aj) ∧ (bJ ∉ ob al) ∧ (bJ ∉ L) ∧ (∀ x ∈ ob aj, x ∉ ob al) ∧ (∀ x ∈ L, x ∉ ob al) ∧ (∀ x ∈ L, x ∉ ob aj)) (ps.length - 0) ⟨0, b10, none, 0, none, 0, [], [], rfl, rfl, rfl, rfl, rfl, rfl, rfl, rfl, rfl, rfl, rfl, t15, h13, Own.nil _ _ _, JNds.nil _, Own.nil _ _ _, (by omega), (by omega), rfl, (by simp), (fun x hx => by cases hx), (fun x hx => by cases hx), (fun x hx => (List.not_mem_nil hx).elim), (by simp [ob]), (by simp [ob]), (by simp), (fun x hx => by cases hx), (fun x hx => (List.not_mem_nil hx).elim), (fun x hx => (List.not_mem_nil hx).elim)⟩ ?_
  rintro m_f20 e18 w19 ⟨k, bJ, aj, cj, al, cl, js, L, hm_f20, s21, s22, s23, s24, s25, s26, s27, s28, s29, s30, f20, h31, h32, h33, h34, p35, p36, hjl, hjm, p37, p38, p39, p40, p41, p42, p43, p44, p45⟩
  have z46 := f20.size
  have t47 := t0.trans0 f20
  have lt_h31 := h31.lt
  have l48 := h31.lt
  have l49 := h32.lt
  have l50 := h34.lt
  have l51 := h33.lt
  have n52 := ob_ne' h32.tag h31 rfl
  have n53 := ob_ne' h34.tag h31 rfl
  have t_f20 : Fr [] w w19 := f20
  refine c_seq ?_
  refine c_region ?_
  refine l_v (v := (.bool (decide (((k : Nat) : Int) < ((ps.length : Nat) : Int))))) (r_lss s30 s29) ?_
  refine l_nil ?_
  refine (x_then ?_)
  refine c_seq ?_
  refine c_if (p := ((k : Nat) : Int) < ((ps.length : Nat) : Int)) rfl (fun c54 => ?_) (fun c54 => ?_)
  ·
    refine c_skip ?_
    refine (x_then ?_)
    refine c_seq ?_
    refine c_block ?_
    refine c_seq ?_
    refine c_region ?_
    have k55 := q1.keep0 f20
    have ha56 : ∃ ad, ap = some ad := k55.sl.some (by rw [pjs_len]; have := ((by first | omega | (simp only [settleTo_len, settle_len, startL_len, endsL_len, endL_len, cancelL_len, playL_len, newL_len, List.length_map, List.length_set, List.length_replicate, doL_len]; omega)) : k < (ps).length); omega)
    obtain ⟨x, hx⟩ := get_some (l := ps) (k := k) (by first | omega | (simp only [settleTo_len, settle_len, startL_len, endsL_len, endL_len, cancelL_len, playL_len, newL_len, List.length_map, List.length_set, List.length_replicate, doL_len]; omega))
    refine l_v (v := (.pointer (some ((adr ap).add (k * 9))))) (r_indexAddr F.sle39 s28 s30 ha56 (by omega) (by have := get_lt hx; (try simp only [settleTo_len, settle_len, startL_len, endsL_len, endL_len, cancelL_len, playL_len, newL_len, List.length_map, List.length_set, List.length_replicate, doL_len] at this); omega) (by first | rfl | simp | omega)) ?_
    have s57 := k55.sl
    refine l_v (v := (.agg #[(.string x.name), (.slice x.na x.m.needs.length x.nc), (.slice x.a2 x.n2 x.c2), (.slice x.a3 x.n3 x.c3), (.slice x.a4 x.n4 x.c4), (.slice x.a5 x.n5 x.c5), (.int .i64 x.m.tries), (.int .i64 x.m.limit), (.bool x.m.manual)])) (r_loadES [(.string x.name), (.slice x.na x.m.needs.length x.nc), (.slice x.a2 x.n2 x.c2), (.slice x.a3 x.n3 x.c3), (.slice x.a4 x.n4 x.c4), (.slice x.a5 x.n5 x.c5), (.int .i64 x.m.tries), (.int .i64 x.m.limit), (.bool x.m.manual)] F.agg60 s57 rfl rfl (pjs_vs hx)) ?_
    refine l_do rfl ?_
    refine d_alloc (cs := #[(.string ⟨#[]⟩), (.slice none 0 0), (.slice none 0 0), (.slice none 0 0), (.slice none 0 0), (.slice none 0 0), (.int .i64 0), (.int .i64 0), (.bool false)]) F.zero60 rfl ?_
    intro w58 b59 f60 a61 h62
    have z63 := f60.size
    have t64 := f20.trans0 f60
    have t65 := t_f20.trans0 f60
    have l66 := h62.lt
    refine l_do rfl ?_
    refine d_storeA (l := [(.string x.name), (.slice x.na x.m.needs.length x.nc), (.slice x.a2 x.n2 x.c2), (.slice x.a3 x.n3 x.c3), (.slice x.a4 x.n4 x.c4), (.slice x.a5 x.n5 x.c5), (.int .i64 x.m.tries), (.int .i64 x.m.limit), (.bool x.m.manual)]) F.sz60 rfl rfl (by simp [Value.oneCell']) h62 rfl ?_
    intro w67 f68 h69
    have z70 := f68.size
    have t71 := t64.step f68 (one_new (by omega))
    have t72 := t65.step f68 (one_new (by omega))
    refine l_nil ?_
    refine (x_then ?_)
    refine c_seq ?_
    refine f_start (masks := [0, 0, 2, 6, 14, 0, 32, 96, 0, 256, 0, 1024, 0, 4096, 16352, 32736, 65534, 131071, 262143, 524287]) (F := Fs [(4, fun w => At w bJ (.cells #[(.slice aj k cj), (.slice al k cl)] 142 (0, 0))), (6, fun w => At w b59 (.cells #[(.string x.name), (.slice x.na x.m.needs.length x.nc), (.slice x.a2 x.n2 x.c2), (.slice x.a3 x.n3 x.c3), (.slice x.a4 x.n4 x.c4), (.slice x.a5 x.n5 x.c5), (.int .i64 x.m.tries), (.int .i64 x.m.limit), (.bool x.m.manual)] 60 (0, 0))), (9, fun w => At w b59 (.cells #[(.string x.name), (.slice x.na x.m.needs.length x.nc), (.slice x.a2 x.n2 x.c2), (.slice x.a3 x.n3 x.c3), (.slice x.a4 x.n4 x.c4), (.slice x.a5 x.n5 x.c5), (.int .i64 x.m.tries), (.int .i64 x.m.limit), (.bool x.m.manual)] 60 (0, 0))), (11, fun w => At w b59 (.cells #[(.string x.name), (.slice x.na x.m.needs.length x.nc), (.slice x.a2 x.n2 x.c2), (.slice x.a3 x.n3 x.c3), (.slice x.a4 x.n4 x.c4), (.slice x.a5 x.n5 x.c5), (.int .i64 x.m.tries), (.int .i64 x.m.limit), (.bool x.m.manual)] 60 (0, 0))), (13, fun w => At w b59 (.cells #[(.string x.name), (.slice x.na x.m.needs.length x.nc), (.slice x.a2 x.n2 x.c2), (.slice x.a3 x.n3 x.c3), (.slice x.a4 x.n4 x.c4), (.slice x.a5 x.n5 x.c5), (.int .i64 x.m.tries), (.int .i64 x.m.limit), (.bool x.m.manual)] 60 (0, 0)))]) #[false, false, false, false, false, false, false, false, false, false, false, false, false, false, false, false, false, false, false, false] F.mixed rfl rfl (by kernel_rfl) ?_
    intro w75 f76 r77
    have z78 := f76.size
    have t79 := t71.trans0 f76
    have t80 := t72.trans0 f76
    refine f_take (i := 0) (v := (.pointer (some ⟨bJ, 0, none⟩))) #[true, false, false, false, false, false, false, false, false, false, false, false, false, false, false, false, false, false, false, false] r77 rfl (by kernel_rfl) (fun _ _ _ h => h) rfl (fs_none rfl) (fun w hF => r_move s24) ?_
    refine f_take (i := 1) (v := (.pointer (some ⟨bJ, 0, none⟩))) #[true, true, false, false, false, false, false, false, false, false, false, false, false, false, false, false, false, false, false, false] r77 rfl (by kernel_rfl) (fun _ _ _ h => h) rfl (fs_none rfl) (fun w hF => r_move s24) ?_
    refine f_take (i := 2) (v := (.pointer (some ⟨bJ, 0, none⟩))) #[true, true, true, false, false, false, false, false, false, false, false, false, false, false, false, false, false, false, false, false] r77 rfl (by kernel_rfl) (fun _ _ _ h => h) rfl (fs_none rfl) (fun w hF => r_nil_ptr rfl) ?_
    refine f_take (i := 3) (v := (.pointer (some ⟨bJ, 0, none⟩))) #[true, true, true, true, false, false, false, false, false, false, false, false, false, false, false, false, false, false, false, false] r77 rfl (by kernel_rfl) (fun _ _ _ h => h) rfl (fs_none rfl) (fun w hF => r_field_l F.fo142_0 rfl rfl) ?_
    have k81 := h31.keep0 f60
    have k82 := k81.keep f68 (not_in1 (by omega))
    have k83 := k82.keep0 f76
    refine f_take (i := 4) (v := (.slice aj k cj)) #[true, true, true, true, true, false, false, false, false, false, false, false, false, false, false, false, false, false, false, false] r77 rfl (by kernel_rfl) (fun _ _ _ h => h) rfl (fs_one k83 rfl) (fun w hF => r_load1 F.one140 rfl (At.cell (fs_get List.mem_cons_self hF) rfl)) ?_
    refine f_take (i := 5) (v := (.pointer (some ⟨b59, 1, none⟩))) #[true, true, true, true, true, true, false, false, false, false, false, false, false, false, false, false, false, false, false, false] r77 rfl (by kernel_rfl) (fun _ _ _ h => h) rfl (fs_none rfl) (fun w hF => r_field_l F.fo60_1 rfl rfl) ?_
    have k84 := h69.keep0 f76
    refine f_take (i := 6) (v := (.slice x.na x.m.needs.length x.nc)) #[true, true, true, true, true, true, true, false, false, false, false, false, false, false, false, false, false, false, false, false] r77 rfl (by kernel_rfl) (fun _ _ _ h => h) rfl (fs_next rfl (fs_one k84 rfl)) (fun w hF => r_load1 F.one48 rfl (At.cell (fs_get (List.mem_cons_of_mem _ List.mem_cons_self) hF) rfl)) ?_
    refine f_take (i := 8) (v := (.pointer (some ⟨b59, 6, none⟩))) #[true, true, true, true, true, true, true, false, true, false, false, false, false, false, false, false, false, false, false, false] r77 rfl (by kernel_rfl) (fun _ _ _ h => h) rfl (fs_none rfl) (fun w hF => r_field_l F.fo60_6 rfl rfl) ?_
    refine f_take (i := 9) (v := (.int .i64 x.m.tries)) #[true, true, true, true, true, true, true, false, true, true, false, false, false, false, false, false, false, false, false, false] r77 rfl (by kernel_rfl) (fun _ _ _ h => h) rfl (fs_next rfl (fs_next rfl (fs_one k84 rfl))) (fun w hF => r_load1 F.one3 rfl (At.cell (fs_get (List.mem_cons_of_mem _ (List.mem_cons_of_mem _ List.mem_cons_self)) hF) rfl)) ?_
    refine f_take (i := 10) (v := (.pointer (some ⟨b59, 7, none⟩))) #[true, true, true, true, true, true, true, false, true, true, true, false, false, false, false, false, false, false, false, false] r77 rfl (by kernel_rfl) (fun _ _ _ h => h) rfl (fs_none rfl) (fun w hF => r_field_l F.fo60_7 rfl rfl) ?_
    refine f_take (i := 11) (v := (.int .i64 x.m.limit)) #[true, true, true, true, true, true, true, false, true, true, true, true, false, false, false, false, false, false, false, false] r77 rfl (by kernel_rfl) (fun _ _ _ h => h) rfl (fs_next rfl (fs_next rfl (fs_next rfl (fs_one k84 rfl)))) (fun w hF => r_load1 F.one3 rfl (At.cell (fs_get (List.mem_cons_of_mem _ (List.mem_cons_of_mem _ (List.mem_cons_of_mem _ List.mem_cons_self))) hF) rfl)) ?_
    refine f_take (i := 12) (v := (.pointer (some ⟨b59, 8, none⟩))) #[true, true, true, true, true, true, true, false, true, true, true, true, true, false, false, false, false, false, false, false] r77 rfl (by kernel_rfl) (fun _ _ _ h => h) rfl (fs_none rfl) (fun w hF => r_field_l F.fo60_8 rfl rfl) ?_
    refine f_take (i := 13) (v := (.bool x.m.manual)) #[true, true, true, true, true, true, true, false, true, true, true, true, true, true, false, false, false, false, false, false] r77 rfl (by kernel_rfl) (fun _ _ _ h => h) rfl (fs_next rfl (fs_next rfl (fs_next rfl (fs_next rfl (fs_one k84 rfl))))) (fun w hF => r_load1 F.one4 rfl (At.cell (fs_get (List.mem_cons_of_mem _ (List.mem_cons_of_mem _ (List.mem_cons_of_mem _ (List.mem_cons_of_mem _ List.mem_cons_self)))) hF) rfl)) ?_
    have k85 := q2.keep0 f20
    have k86 := k85.keep0 f60
    have k87 := k86.keep f68 (ob_not1 (not_ob_old lt_q2 (by omega)))
    have k88 := k87.keep0 f76
    have hnx := k88.get hx
    have hbx := hB x (mem_of_get hx)
    refine f_one (i := 7) #[true, true, true, true, true, true, true, true, true, true, true, true, true, true, false, false, false, false, false, false] rfl (by kernel_rfl) rfl ?_
    refine d_call (fl := []) (cl := []) (A := [(.slice x.na x.m.needs.length x.nc)]) (B := [(.slice x.na x.m.needs.length x.nc)]) F.ok148 rfl (ac rfl an) rfl (cloneI_c (a := x.na) (ns := x.m.needs) (c := x.nc) hnx (by omega)) ?_
    rintro _ w89 ⟨a_91, c_92, rfl, f90, h93, p94⟩
    have z95 := f90.size
    have t96 := t79.trans0 f90
    have t97 := t80.trans0 f90
    have l98 := h93.lt
    have k99 := h33.keep0 f60
    have k100 := k99.keep f68 (ob_not1 (not_ob_old l51 (by omega)))
    have k101 := k100.keep0 f76
    have k102 := k101.keep0 f90
    have s103 := h93.ro
    obtain ⟨L2, hL2⟩ : ∃ L2, L2 = L ++ ob a_91 := ⟨_, rfl⟩
    have hJ2 : JNds w89 L2 (js ++ [(⟨a_91, c_92, x.m⟩ : JobP)]) := by rw [hL2]; exact JNds.snoc (x := x.m) k102 s103
    have hLal : ∀ x ∈ L2, x ∉ ob al := by rw [hL2]; exact app_notin p44 (ob_ob_old p94 l50 (by omega))
    have hLaj : ∀ x ∈ L2, x ∉ ob aj := by rw [hL2]; exact app_notin p45 (ob_ob_old p94 l49 (by omega))
    have hLb : bJ ∉ L2 := by rw [hL2]; exact not_app p42 (not_ob_new p94 (by omega))
    have hLge : ∀ x ∈ L2, w.heap.size ≤ x := by rw [hL2]; exact app_ge (ob_ge p39 (by omega)) (ob_ge p94 (by omega))
    have hLlt := hJ2.lt
    refine ⟨(pres_of (pcn_cons (fun _ h => h.keep0 f90) (pcn_cons (fun h _ => absurd h (by decide)) (pcn_cons (fun _ h => h.keep0 f90) (pcn_cons (fun _ h => h.keep0 f90) (pcn_cons (fun _ h => h.keep0 f90) pcn_nil)))))), ?_⟩
    refine f_take (i := 14) (v := (.agg #[(.slice a_91 x.m.needs.length c_92), (.int .i64 x.m.tries), (.int .i64 x.m.limit), (.bool x.m.manual)])) #[true, true, true, true, true, true, true, true, true, true, true, true, true, true, true, false, false, false, false, false] r77 rfl (by kernel_rfl) (fun _ _ _ h => h) rfl (fs_none rfl) (fun w hF => r_build (pc rfl (pc rfl (pc rfl (pc rfl pn)))) rfl) ?_
    refine f_one (i := 15) #[true, true, true, true, true, true, true, true, true, true, true, true, true, true, true, true, false, false, false, false] rfl (by kernel_rfl) rfl ?_
    refine d_lit (el := 160) (k' := 4) (ps := [(0, (.agg #[(.slice a_91 x.m.needs.length c_92), (.int .i64 x.m.tries), (.int .i64 x.m.limit), (.bool x.m.manual)]))]) (cells := #[(.slice a_91 x.m.needs.length c_92), (.int .i64 x.m.tries), (.int .i64 x.m.limit), (.bool x.m.manual)]) (pc rfl pn) (by kernel_rfl) rfl (Nat.le_of_ble_eq_true rfl) ?_
    intro w104 b105 f106 a107 h108
    have z109 := f106.size
    have t110 := t96.trans0 f106
    have t111 := t97.trans0 f106
    have g112 := ob_one_ge (o := 0) (s := none) a107
    have l113 := h108.lt
    have := ob_one_lt l113
    refine ⟨(pres_of (pcn_cons (fun _ h => h.keep0 f106) (pcn_cons (fun h _ => absurd h (by decide)) (pcn_cons (fun h _ => absurd h (by decide)) (pcn_cons (fun h _ => absurd h (by decide)) (pcn_cons (fun h _ => absurd h (by decide)) pcn_nil)))))), ?_⟩
    refine f_one (i := 16) #[true, true, true, true, true, true, true, true, true, true, true, true, true, true, true, true, true, false, false, false] rfl (by kernel_rfl) rfl ?_
    have k121 := h32.keep0 f60
    have k122 := k121.keep f68 (ob_not1 (not_ob_old l49 (by omega)))
    have k123 := k122.keep0 f76
    have k124 := k123.keep0 f90
    have k125 := k124.keep0 f106
    have s126 := h108.sl
    refine d_appendN (news := [(.slice a_91 x.m.needs.length c_92), (.int .i64 x.m.tries), (.int .i64 x.m.limit), (.bool x.m.manual)]) (nn := k + 1) (cs' := jbs (js ++ [(⟨a_91, c_92, x.m⟩ : JobP)])) Proofs.Try.underlying140 F.inf160 rfl (Nat.le_of_ble_eq_true rfl) rfl k125 rfl s126 (by first | rfl | simp | omega) (by simp [Value.oneCell']) (by omega) (by simp only [maxLen]; omega) rfl (by rw [jbs_app]; rfl) ?_
    intro w114 a_117 c_118 f115 h116 g119 n120
    have z127 := f115.size
    have t128 := t110.step f115 (ob_new p37 (by omega))
    have t129 := t111.step f115 (ob_new p37 (by omega))
    have l130 := h116.lt
    have g131 := ob_age p37 g119 (by omega)
    refine ⟨(pres_all (by kernel_rfl)), ?_⟩
    refine f_take (i := 17) (v := (.pointer (some ⟨bJ, 0, none⟩))) #[true, true, true, true, true, true, true, true, true, true, true, true, true, true, true, true, true, true, false, false] r77 rfl (by kernel_rfl) (fun _ _ _ h => h) rfl (fs_none rfl) (fun w hF => r_nil_ptr rfl) ?_
    refine f_take (i := 18) (v := (.pointer (some ⟨bJ, 0, none⟩))) #[true, true, true, true, true, true, true, true, true, true, true, true, true, true, true, true, true, true, true, false] r77 rfl (by kernel_rfl) (fun _ _ _ h => h) rfl (fs_none rfl) (fun w hF => r_field_l F.fo142_0 rfl rfl) ?_
    refine f_one (i := 19) #[true, true, true, true, true, true, true, true, true, true, true, true, true, true, true, true, true, true, true, true] rfl (by kernel_rfl) rfl ?_
    have k135 := k83.keep0 f90
    have k136 := k135.keep0 f106
    have k137 := k136.keep f115 n52
    refine d_store1 (v := (.slice a_117 (k + 1) c_118)) (c' := #[(.slice a_117 (k + 1) c_118), (.slice al k cl)]) F.sz140 rfl rfl rfl k137 (by simp) rfl ?_
    intro w132 f133 h134
    have z138 := f133.size
    have t139 := t128.step f133 (one_new (by omega))
    have t140 := t129.step f133 (one_new (by omega))
    refine ⟨(pres_all (by kernel_rfl)), ?_⟩
    refine f_done (by kernel_rfl) ?_
    refine (x_then ?_)
    refine c_region ?_
    refine l_v (v := (.pointer (some ⟨bJ, 0, none⟩))) (r_move s24) ?_
    refine l_v (v := (.pointer (some ⟨bJ, 0, none⟩))) (r_move s24) ?_
    refine l_v (v := (.pointer (some ⟨bJ, 0, none⟩))) (r_nil_ptr rfl) ?_
    refine l_v (v := (.pointer (some ⟨bJ, 1, none⟩))) (r_field_l F.fo142_1 rfl rfl) ?_
    refine l_v (v := (.slice al k cl)) (r_load1 F.one49 rfl (At.cell h134 rfl)) ?_
    refine l_v (v := (.agg #[(.int .u8 1), (.int .i64 0), (.int .i64 0), (.int .i64 0), (.int .i64 0), (.bool false)])) (r_build (pc rfl pn) rfl) ?_
    refine l_do rfl ?_
    refine d_lit (el := 56) (k' := 6) (ps := [(0, (.agg #[(.int .u8 1), (.int .i64 0), (.int .i64 0), (.int .i64 0), (.int .i64 0), (.bool false)]))]) (cells := #[(.int .u8 1), (.int .i64 0), (.int .i64 0), (.int .i64 0), (.int .i64 0), (.bool false)]) (pc rfl pn) (by kernel_rfl) rfl (Nat.le_of_ble_eq_true rfl) ?_
    intro w141 b142 f143 a144 h145
    have z146 := f143.size
    have t147 := t139.trans0 f143
    have t148 := t140.trans0 f143
    have g149 := ob_one_ge (o := 0) (s := none) a144
    have l150 := h145.lt
    have := ob_one_lt l150
    refine l_do rfl ?_
    have k158 := h34.keep0 f60
    have k159 := k158.keep f68 (ob_not1 (not_ob_old l50 (by omega)))
    have k160 := k159.keep0 f76
    have k161 := k160.keep0 f90
    have k162 := k161.keep0 f106
    have k163 := k162.keep f115 (ob_swap p43)
    have k164 := k163.keep f133 (ob_not1 n53)
    have k165 := k164.keep0 f143
    have s166 := h145.sl
    refine d_appendN (news := [(.int .u8 1), (.int .i64 0), (.int .i64 0), (.int .i64 0), (.int .i64 0), (.bool false)]) (nn := k + 1) (cs' := sts (List.replicate (k + 1) newS)) Proofs.Try.underlying49 F.inf56 rfl (Nat.le_of_ble_eq_true rfl) rfl k165 rfl s166 (by first | rfl | simp | omega) (by simp [Value.oneCell']) (by omega) (by simp only [maxLen]; omega) rfl (by exact rep_snoc) ?_
    intro w151 a_154 c_155 f152 h153 g156 n157
    have z167 := f152.size
    have t168 := t147.step f152 (ob_new p38 (by omega))
    have t169 := t148.step f152 (ob_new p38 (by omega))
    have l170 := h153.lt
    have g171 := ob_age p38 g156 (by omega)
    refine l_v (v := (.pointer (some ⟨bJ, 0, none⟩))) (r_nil_ptr rfl) ?_
    refine l_v (v := (.pointer (some ⟨bJ, 1, none⟩))) (r_field_l F.fo142_1 rfl rfl) ?_
    refine l_do rfl ?_
    have k175 := h134.keep0 f143
    have k176 := k175.keep f152 n53
    refine d_store1 (v := (.slice a_154 (k + 1) c_155)) (c' := #[(.slice a_117 (k + 1) c_118), (.slice a_154 (k + 1) c_155)]) F.sz49 rfl rfl rfl k176 (by simp) rfl ?_
    intro w172 f173 h174
    have z177 := f173.size
    have t178 := t168.step f173 (one_new (by omega))
    have t179 := t169.step f173 (one_new (by omega))
    refine l_nil ?_
    refine (x_blk (x_then ?_))
    refine c_region ?_
    refine l_v (v := (.int .i64 ((k + 1 : Nat) : Int))) (r_add s30 rfl (w64 (by omega) (by omega) (by omega))) ?_
    refine l_v (v := (.int .i64 ((k + 1 : Nat) : Int))) (r_move rfl) ?_
    refine l_nil ?_
    refine (x_then ?_)
    have k180 := h116.keep f133 (ob_not1 (not_grow n52 g119 (by omega)))
    have k181 := k180.keep0 f143
    have k182 := k181.keep f152 (grow_ne p43 g119 l50 (by omega))
    have k183 := k182.keep f173 (ob_not1 (not_grow n52 g119 (by omega)))
    have k184 := hJ2.keep0 f106
    have k185 := k184.keep f115 hLaj
    have k186 := k185.keep f133 (ob_not1 hLb)
    have k187 := k186.keep0 f143
    have k188 := k187.keep f152 hLal
    have k189 := k188.keep f173 (ob_not1 hLb)
    have k190 := h153.keep f173 (ob_not1 (not_grow n53 g156 (by omega)))
    exact ⟨_, _, (by omega), rfl, k + 1, bJ, a_117, c_118, a_154, c_155, (js ++ [(⟨a_91, c_92, x.m⟩ : JobP)]), L2, rfl, s21, s22, s23, s24, s25, s26, s27, s28, s29, rfl, t179, h174, k183, k189, k190, (by omega), (by omega), (by simp [hjl]), (take_map_succ hjm hx), (ob_ge g131 (by omega)), (ob_ge g171 (by omega)), (ob_ge hLge (by omega)), (not_grow n52 g119 (by omega)), (not_grow n53 g156 (by omega)), hLb, (ne_grow (grow_ne p43 g119 l50 (by omega)) g156 l130 (by omega)), (ne_grow hLal g156 hLlt (by omega)), (ne_grow hLaj g119 hLlt (by omega))⟩
  ·
    refine c_exit ?_
    refine (x_then_x (x_then_x (x_blk_hit (x_then ?_))))
    refine c_seq ?_
    refine c_region ?_
    refine l_v (v := (.pointer (some ⟨bJ, 0, none⟩))) (r_move s24) ?_
    refine l_v (v := (.pointer (some ⟨bJ, 0, none⟩))) (r_assign rfl) ?_
    refine l_nil ?_
    refine (x_then ?_)
    refine c_ret ?_
    refine p_ret (v := (.pointer (some ⟨bJ, 0, none⟩))) (res1 rfl rfl) ?_
    have ek : k = ps.length := by omega
    subst ek
    have hjm2 : js.map JobP.m = (ps.map PJob.m) := by rw [hjm]; exact List.take_of_length_le (by simp)
    have s191 := h32.ro
    exact ⟨bJ, aj, cj, al, cl, js, L, rfl, f20, (by rw [List.length_replicate, hjl]; exact h31), (by rw [hjl]; exact s191), h33, (by rw [List.length_replicate]; exact h34), hjl, hjm2, (by omega), (ob_ge p37 (by omega)), (ob_ge p38 (by omega)), (ob_ge p39 (by omega)), n53, p43, p44, n52, p42⟩

end Go.Sy
