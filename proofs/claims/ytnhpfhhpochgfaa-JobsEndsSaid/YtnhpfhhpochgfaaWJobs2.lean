/- Walks of package jobs: what is done. -/
import Derived.Test.YtnhpfhhpochgfaaWJobs
namespace Go.Sy
set_option linter.unusedVariables false
set_option linter.unusedSimpArgs false

set_option maxHeartbeats 400000 in
set_option maxRecDepth 100000 in
theorem new_no {w : World} {ap : Option Addr} {cp : Nat} {ps : List PJob} {LP : List Nat} (q1 : Ro w ap ps.length cp (pjs ps)) (q2 : PNds w LP ps) (hB : ∀ x ∈ ps, x.m.needs.length ≤ 2000) (hp : ps.length ≤ 2000) (hmay : mayB (ps.map PJob.m) = false) :
    Calls Proofs.Try.prog 24 #[(.agg #[(.slice ap ps.length cp)])] w (Ret fun v w' => v = (.tuple #[(.pointer none), (.int .i64 1)]) ∧ Fr [] w w') := by
  have lt_q1 := q1.lt
  have lt_q2 := q2.lt
  have t0 : Fr [] w w := Fr.refl _ _
  refine enter Proofs.Try.func24 rfl Proofs.Try.ntmps24 (Nat.le_of_ble_eq_true rfl) ?_
  refine c_seq ?_
  refine c_region ?_
  refine l_do rfl ?_
  refine d_box (v := (.agg #[(.slice ap ps.length cp)])) (cs := #[(.slice ap ps.length cp)]) rfl rfl ?_
  intro w1 b2 f3 a4 h5
  have z6 := f3.size
  have t7 := t0.trans0 f3
  have l8 := h5.lt
  refine l_v (v := (.pointer none)) (r_assign rfl) ?_
  refine l_v (v := (.int .i64 0)) (r_assign rfl) ?_
  refine l_nil ?_
  refine (x_then ?_)
  refine c_seq ?_
  refine c_seq ?_
  refine c_region ?_
  refine l_v (v := (.agg #[(.slice ap ps.length cp)])) (r_loadA (l := [(.slice ap ps.length cp)]) F.agg41 rfl h5 rfl) ?_
  refine l_do rfl ?_
  have k9 := q1.keep0 f3
  have k10 := q2.keep0 f3
  refine d_call (fl := []) (cl := []) (A := [(.agg #[(.slice ap ps.length cp)])]) (B := [(.agg #[(.slice ap ps.length cp)])]) F.ok83 rfl (ac rfl an) rfl (may_c (ap := ap) (ps := ps) (cp := cp) (LP := LP) k9 k10 (by omega)) ?_
  rintro _ w11 ⟨rfl, f12⟩
  have z13 := f12.size
  have t14 := t7.trans0 f12
  refine l_v (v := (.bool (!(mayB (ps.map PJob.m))))) (r_not rfl) ?_
  refine l_nil ?_
  refine (x_then ?_)
  refine c_split (t := (!(mayB (ps.map PJob.m)))) rfl (fun c15 => ?_) (fun c15 => ?_)
  ·
    refine c_seq ?_
    refine c_region ?_
    refine l_v (v := (.pointer none)) (r_assign rfl) ?_
    refine l_v (v := (.int .i64 1)) (r_assign rfl) ?_
    refine l_nil ?_
    refine (x_then ?_)
    refine c_ret ?_
    refine (x_then_r ?_)
    refine p_ret (v := (.tuple #[(.pointer none), (.int .i64 1)])) (res2 rfl rfl rfl) ?_
    exact ⟨rfl, t14⟩
  ·
    exfalso; simp_all

set_option maxHeartbeats 400000 in
set_option maxRecDepth 100000 in
theorem new_yes {w : World} {ap : Option Addr} {cp : Nat} {ps : List PJob} {LP : List Nat} (q1 : Ro w ap ps.length cp (pjs ps)) (q2 : PNds w LP ps) (hB : ∀ x ∈ ps, x.m.needs.length ≤ 2000) (hp : ps.length ≤ 2000) (hmay : mayB (ps.map PJob.m) = true) :
    Calls Proofs.Try.prog 24 #[(.agg #[(.slice ap ps.length cp)])] w (Ret fun v w' => ∃ b : Nat, ∃ aj : Option Addr, ∃ cj : Nat, ∃ al : Option Addr, ∃ cl : Nat, ∃ js : List JobP, ∃ L : List Nat, v = (.tuple #[(.pointer (some ⟨b, 0, none⟩)), (.int .i64 0)]) ∧ Fr [] w w' ∧ At w' b (.cells #[(.slice aj js.length cj), (.slice al ((newL (ps.map PJob.m)).length) cl)] 142 (0, 0)) ∧ Ro w' aj js.length cj (jbs js) ∧ JNds w' L js ∧ Own w' 56 6 al ((newL (ps.map PJob.m)).length) cl (sts (newL (ps.map PJob.m))) ∧ (js.length = ps.length) ∧ (js.map JobP.m = (ps.map PJob.m)) ∧ (w.heap.size ≤ b) ∧ (∀ x ∈ ob aj, w.heap.size ≤ x) ∧ (∀ x ∈ ob al, w.heap.size ≤ x) ∧ (∀ x ∈ L, w.heap.size ≤ x) ∧ (b ∉ ob al) ∧ (∀ x ∈ ob aj, x ∉ ob al) ∧ (∀ x ∈ L, x ∉ ob al) ∧ (b ∉ ob aj) ∧ (b ∉ L)) := by
  have lt_q1 := q1.lt
  have lt_q2 := q2.lt
  have t0 : Fr [] w w := Fr.refl _ _
  refine enter Proofs.Try.func24 rfl Proofs.Try.ntmps24 (Nat.le_of_ble_eq_true rfl) ?_
  refine c_seq ?_
  refine c_region ?_
  refine l_do rfl ?_
  refine d_box (v := (.agg #[(.slice ap ps.length cp)])) (cs := #[(.slice ap ps.length cp)]) rfl rfl ?_
  intro w1 b2 f3 a4 h5
  have z6 := f3.size
  have t7 := t0.trans0 f3
  have l8 := h5.lt
  refine l_v (v := (.pointer none)) (r_assign rfl) ?_
  refine l_v (v := (.int .i64 0)) (r_assign rfl) ?_
  refine l_nil ?_
  refine (x_then ?_)
  refine c_seq ?_
  refine c_seq ?_
  refine c_region ?_
  refine l_v (v := (.agg #[(.slice ap ps.length cp)])) (r_loadA (l := [(.slice ap ps.length cp)]) F.agg41 rfl h5 rfl) ?_
  refine l_do rfl ?_
  have k9 := q1.keep0 f3
  have k10 := q2.keep0 f3
  refine d_call (fl := []) (cl := []) (A := [(.agg #[(.slice ap ps.length cp)])]) (B := [(.agg #[(.slice ap ps.length cp)])]) F.ok83 rfl (ac rfl an) rfl (may_c (ap := ap) (ps := ps) (cp := cp) (LP := LP) k9 k10 (by omega)) ?_
  rintro _ w11 ⟨rfl, f12⟩
  have z13 := f12.size
  have t14 := t7.trans0 f12
  refine l_v (v := (.bool (!(mayB (ps.map PJob.m))))) (r_not rfl) ?_
  refine l_nil ?_
  refine (x_then ?_)
  refine c_split (t := (!(mayB (ps.map PJob.m)))) rfl (fun c15 => ?_) (fun c15 => ?_)
  ·
    exfalso; simp_all
  ·
    refine c_skip ?_
    refine (x_then ?_)
    refine c_seq ?_
    refine c_region ?_
    have k16 := h5.keep0 f12
    refine l_v (v := (.agg #[(.slice ap ps.length cp)])) (r_loadA (l := [(.slice ap ps.length cp)]) F.agg41 rfl k16 rfl) ?_
    refine l_do rfl ?_
    have k17 := k9.keep0 f12
    have k18 := k10.keep0 f12
    refine d_call (fl := []) (cl := []) (A := [(.agg #[(.slice ap ps.length cp)])]) (B := [(.agg #[(.slice ap ps.length cp)])]) F.ok84 rfl (ac rfl an) rfl (blank_c (ap := ap) (ps := ps) (cp := cp) (LP := LP) k17 k18 (by omega) (by omega)) ?_
    rintro _ w19 ⟨b_21, aj_22, cj_23, al_24, cl_25, js_26, L_27, rfl, f20, h28, h29, h30, h31, p32, p33, p34, p35, p36, p37, p38, p39, p40, p41, p42⟩
    have z43 := f20.size
    have t44 := t14.trans0 f20
    have l45 := h28.lt
    have l46 := h29.lt
    have l47 := h31.lt
    have l48 := h30.lt
    have hm_ : mayB (js_26.map JobP.m) = true := by rw [p33]; exact hmay
    have hp24 := (may_spec hmay).1
    rw [List.length_map] at hp24
    refine l_v (v := (.pointer (some ⟨b_21, 0, none⟩))) (r_assign rfl) ?_
    refine l_nil ?_
    refine (x_then ?_)
    refine c_seq ?_
    refine c_region ?_
    refine l_v (v := (.pointer (some ⟨b_21, 0, none⟩))) (r_move rfl) ?_
    refine l_do rfl ?_
    refine d_call (fl := []) (cl := []) (A := [(.pointer (some ⟨b_21, 0, none⟩))]) (B := [(.pointer (some ⟨b_21, 0, none⟩))]) F.ok85 rfl (ac rfl an) rfl (settle_c (b := b_21) (aj := aj_22) (js := js_26) (cj := cj_23) (al := al_24) (ss := List.replicate ps.length newS) (cl := cl_25) (L := L_27) h28 h29 h30 h31 (by rw [List.length_replicate]; exact p32) hm_ p38 p39 p40) ?_
    rintro _ w49 ⟨rfl, f50, h51, h52⟩
    have z53 := f50.size
    have t54 := t44.step f50 (ob_new p36 (by omega))
    refine l_nil ?_
    refine (x_then ?_)
    refine c_seq ?_
    refine c_region ?_
    refine l_v (v := (.pointer (some ⟨b_21, 0, none⟩))) (r_move rfl) ?_
    refine l_v (v := (.pointer (some ⟨b_21, 0, none⟩))) (r_assign rfl) ?_
    refine l_v (v := (.int .i64 0)) (r_assign rfl) ?_
    refine l_nil ?_
    refine (x_then ?_)
    refine c_ret ?_
    refine p_ret (v := (.tuple #[(.pointer (some ⟨b_21, 0, none⟩)), (.int .i64 0)])) (res2 rfl rfl rfl) ?_
    have enl : newL (ps.map PJob.m) = settle (js_26.map JobP.m) (List.replicate ps.length newS) := by rw [← p32, ← p33, newL_eq]
    have k55 := h29.keep f50 p39
    have k56 := h30.keep f50 p40
    exact ⟨b_21, aj_22, cj_23, al_24, cl_25, js_26, L_27, rfl, t54, (by rw [enl]; exact h51), k55, k56, (by rw [enl]; exact h52), p32, p33, (by omega), (ob_ge p35 (by omega)), (ob_ge p36 (by omega)), (ob_ge p37 (by omega)), p38, p39, p40, p41, p42⟩

set_option maxHeartbeats 400000 in
set_option maxRecDepth 100000 in
theorem runs_c {w : World} {b cj cl : Nat} {aj al : Option Addr} {js : List JobP} {L : List Nat} {ss : List St} {i badge : Int} (h1 : At w b (.cells #[(.slice aj js.length cj), (.slice al ss.length cl)] 142 (0, 0))) (h2 : Ro w aj js.length cj (jbs js)) (h3 : JNds w L js) (h4 : Own w 56 6 al ss.length cl (sts ss)) (hl : js.length = ss.length) (hm : mayB (js.map JobP.m) = true) :
    Calls Proofs.Try.prog 150 #[(.pointer (some ⟨b, 0, none⟩)), (.int .i64 i), (.int .i64 badge)] w (Ret fun v w' => v = (.int .i64 (runsC ss i badge)) ∧ Fr [] w w') := by
  have lt_h1 := h1.lt
  have lt_h2 := h2.lt
  have lt_h3 := h3.lt
  have lt_h4 := h4.lt
  have n1 := ob_ne' h4.tag h1 rfl
  have t0 : Fr [] w w := Fr.refl _ _
  refine enter Proofs.Try.func150 rfl Proofs.Try.ntmps150 (Nat.le_of_ble_eq_true rfl) ?_
  refine c_seq ?_
  refine c_region ?_
  refine l_v (v := (.int .i64 0)) (r_assign rfl) ?_
  refine l_nil ?_
  refine (x_then ?_)
  refine c_seq ?_
  refine c_seq ?_
  refine c_region ?_
  refine l_v (v := (.pointer (some ⟨b, 0, none⟩))) (r_move rfl) ?_
  refine l_v (v := (.int .i64 i)) (r_move rfl) ?_
  refine l_do rfl ?_
  refine d_call (fl := []) (cl := []) (A := [(.pointer (some ⟨b, 0, none⟩)), (.int .i64 i)]) (B := [(.pointer (some ⟨b, 0, none⟩)), (.int .i64 i)]) F.ok91 rfl (ac rfl (ac rfl an)) rfl (there_c (b := b) (i := i) (aj := aj) (js := js) (cj := cj) (al := al) (ss := ss) (cl := cl) h1) ?_
  rintro _ w2 ⟨rfl, f3⟩
  have z4 := f3.size
  have t5 := t0.trans0 f3
  have hsp := there_spec ss i
  refine l_v (v := (.int .i64 (thereC ss i))) (r_assign rfl) ?_
  refine l_nil ?_
  refine (x_then ?_)
  refine c_seq ?_
  refine c_region ?_
  refine l_v (v := (.int .i64 (thereC ss i))) (r_move rfl) ?_
  refine l_v (v := (.bool (decide ((thereC ss i) ≠ 0)))) (r_neq rfl rfl) ?_
  refine l_nil ?_
  refine (x_then ?_)
  refine c_if (p := (thereC ss i) ≠ 0) rfl (fun c6 => ?_) (fun c6 => ?_)
  ·
    refine c_seq ?_
    refine c_region ?_
    refine l_v (v := (.int .i64 (thereC ss i))) (r_move rfl) ?_
    refine l_v (v := (.int .i64 (thereC ss i))) (r_assign rfl) ?_
    refine l_nil ?_
    refine (x_then ?_)
    refine c_ret ?_
    refine (x_then_r ?_)
    refine p_ret (v := (.int .i64 (thereC ss i))) (res1 rfl rfl) ?_
    exact ⟨(by congr 1; unfold runsC; (try rw [hg]); (repeat' split) <;> omega), t5⟩
  ·
    refine c_skip ?_
    refine (x_then ?_)
    refine c_seq ?_
    refine c_seq ?_
    refine c_region ?_
    refine l_v (v := (.pointer (some ⟨b, 0, none⟩))) (r_move rfl) ?_
    refine l_v (v := (.pointer (some ⟨b, 0, none⟩))) (r_nil_ptr rfl) ?_
    refine l_v (v := (.pointer (some ⟨b, 1, none⟩))) (r_field_l F.fo142_1 rfl rfl) ?_
    have k7 := h1.keep0 f3
    refine l_v (v := (.slice al ss.length cl)) (r_load1 F.one49 rfl (At.cell k7 rfl)) ?_
    refine l_v (v := (.int .i64 i)) (r_move rfl) ?_
    have k8 := h4.keep0 f3
    have ha9 : ∃ ad, al = some ad := k8.sl.some (by rw [sts_len]; have := ((by first | omega | (simp only [settleTo_len, settle_len, startL_len, endsL_len, endL_len, cancelL_len, playL_len, newL_len, List.length_map, List.length_set, List.length_replicate, doL_len]; omega)) : (i).toNat < (ss).length); omega)
    obtain ⟨s, hs⟩ := get_some (l := ss) (k := (i).toNat) (by first | omega | (simp only [settleTo_len, settle_len, startL_len, endsL_len, endL_len, cancelL_len, playL_len, newL_len, List.length_map, List.length_set, List.length_replicate, doL_len]; omega))
    refine l_v (v := (.pointer (some ((adr al).add ((i).toNat * 6))))) (r_indexAddr F.sle49 rfl rfl ha9 (by omega) (by have := get_lt hs; (try simp only [settleTo_len, settle_len, startL_len, endsL_len, endL_len, cancelL_len, playL_len, newL_len, List.length_map, List.length_set, List.length_replicate, doL_len] at this); omega) (by first | rfl | simp | omega)) ?_
    have hg := getS_get hs
    have s10 := k8.sl
    refine l_v (v := (.agg #[(.int .u8 s.state), (.int .i64 s.tried), (.int .i64 s.badge), (.int .i64 s.since), (.int .i64 s.code), (.bool s.played)])) (r_loadES [(.int .u8 s.state), (.int .i64 s.tried), (.int .i64 s.badge), (.int .i64 s.since), (.int .i64 s.code), (.bool s.played)] F.agg56 s10 rfl rfl (sts_vs hs)) ?_
    refine l_do rfl ?_
    refine d_alloc (cs := #[(.int .u8 0), (.int .i64 0), (.int .i64 0), (.int .i64 0), (.int .i64 0), (.bool false)]) F.zero56 rfl ?_
    intro w11 b12 f13 a14 h15
    have z16 := f13.size
    have t17 := t5.trans0 f13
    have l18 := h15.lt
    refine l_do rfl ?_
    refine d_storeA (l := [(.int .u8 s.state), (.int .i64 s.tried), (.int .i64 s.badge), (.int .i64 s.since), (.int .i64 s.code), (.bool s.played)]) F.sz56 rfl rfl (by simp [Value.oneCell']) h15 rfl ?_
    intro w19 f20 h21
    have z22 := f20.size
    have t23 := t17.step f20 (one_new (by omega))
    refine l_nil ?_
    refine (x_then ?_)
    refine c_seq ?_
    refine c_region ?_
    refine l_v (v := (.pointer (some ⟨b12, 0, none⟩))) (r_field_l F.fo56_0 rfl rfl) ?_
    refine l_v (v := (.int .u8 s.state)) (r_load1 F.one5 rfl (At.cell h21 rfl)) ?_
    refine l_v (v := (.bool (decide (s.state ≠ 4)))) (r_neq rfl rfl) ?_
    refine l_v (v := (.bool (decide (s.state ≠ 4)))) (r_move rfl) ?_
    refine l_em (p := s.state ≠ 4) ?_ ?_
    · intro c24
      refine l_skip (wanted_not rfl rfl (bd rfl c24) (by decide)) ?_
      refine l_skip (wanted_not rfl rfl (bd rfl c24) (by decide)) ?_
      refine l_skip (wanted_not rfl rfl (bd rfl c24) (by decide)) ?_
      refine l_skip (wanted_not rfl rfl (bd rfl c24) (by decide)) ?_
      refine l_v (v := (.bool true)) (r_pick_t (bd rfl c24) rfl) ?_
      refine l_nil ?_
      refine (x_then ?_)
      refine c_true rfl ?_
      refine c_seq ?_
      refine c_region ?_
      refine l_v (v := (.int .i64 60)) (r_assign rfl) ?_
      refine l_nil ?_
      refine (x_then ?_)
      refine c_ret ?_
      refine (x_then_r ?_)
      refine p_ret (v := (.int .i64 60)) (res1 rfl rfl) ?_
      exact ⟨(by congr 1; unfold runsC; (try rw [hg]); (repeat' split) <;> omega), t23⟩
    · intro c24
      refine l_gv (v := (.pointer (some ⟨b12, 2, none⟩))) (wanted_run rfl rfl (bn rfl c24)) (r_field_l F.fo56_2 rfl rfl) ?_
      refine l_gv (v := (.int .i64 s.badge)) (wanted_run rfl rfl (bn rfl c24)) (r_load1 F.one3 rfl (At.cell h21 rfl)) ?_
      refine l_gv (v := (.int .i64 badge)) (wanted_run rfl rfl (bn rfl c24)) (r_move rfl) ?_
      refine l_gv (v := (.bool (decide (s.badge ≠ badge)))) (wanted_run rfl rfl (bn rfl c24)) (r_neq rfl rfl) ?_
      refine l_v (v := (.bool (decide (s.badge ≠ badge)))) (r_pick_f (bn rfl c24) rfl) ?_
      refine l_nil ?_
      refine (x_then ?_)
      refine c_if (p := s.badge ≠ badge) rfl (fun c25 => ?_) (fun c25 => ?_)
      ·
        refine c_seq ?_
        refine c_region ?_
        refine l_v (v := (.int .i64 60)) (r_assign rfl) ?_
        refine l_nil ?_
        refine (x_then ?_)
        refine c_ret ?_
        refine (x_then_r ?_)
        refine p_ret (v := (.int .i64 60)) (res1 rfl rfl) ?_
        exact ⟨(by congr 1; unfold runsC; (try rw [hg]); (repeat' split) <;> omega), t23⟩
      ·
        refine c_skip ?_
        refine (x_then ?_)
        refine c_seq ?_
        refine c_region ?_
        refine l_v (v := (.int .i64 0)) (r_assign rfl) ?_
        refine l_nil ?_
        refine (x_then ?_)
        refine c_ret ?_
        refine p_ret (v := (.int .i64 0)) (res1 rfl rfl) ?_
        exact ⟨(by congr 1; unfold runsC; (try rw [hg]); (repeat' split) <;> omega), t23⟩

set_option maxHeartbeats 400000 in
set_option maxRecDepth 100000 in
theorem start_c {w : World} {b cj cl : Nat} {aj al : Option Addr} {js : List JobP} {L : List Nat} {ss : List St} {i badge now : Int} (h1 : At w b (.cells #[(.slice aj js.length cj), (.slice al ss.length cl)] 142 (0, 0))) (h2 : Ro w aj js.length cj (jbs js)) (h3 : JNds w L js) (h4 : Own w 56 6 al ss.length cl (sts ss)) (hl : js.length = ss.length) (hm : mayB (js.map JobP.m) = true) (n1 : b ∉ ob al) (n2 : ∀ x ∈ ob aj, x ∉ ob al) (n3 : ∀ x ∈ L, x ∉ ob al) (ht : Tr ss) :
    Calls Proofs.Try.prog 31 #[(.pointer (some ⟨b, 0, none⟩)), (.int .i64 i), (.int .i64 badge), (.int .i64 now)] w (Ret fun v w' => v = (.int .i64 (startC ss i badge now)) ∧ Fr (ob al) w w' ∧ At w' b (.cells #[(.slice aj js.length cj), (.slice al ((startL ss i badge now).length) cl)] 142 (0, 0)) ∧ Own w' 56 6 al ((startL ss i badge now).length) cl (sts (startL ss i badge now))) := by
  have lt_h1 := h1.lt
  have lt_h2 := h2.lt
  have lt_h3 := h3.lt
  have lt_h4 := h4.lt
  have n1 := ob_ne' h4.tag h1 rfl
  have t0 : Fr (ob al) w w := Fr.refl _ _
  refine enter Proofs.Try.func31 rfl Proofs.Try.ntmps31 (Nat.le_of_ble_eq_true rfl) ?_
  refine c_seq ?_
  refine c_region ?_
  refine l_v (v := (.int .i64 0)) (r_assign rfl) ?_
  refine l_nil ?_
  refine (x_then ?_)
  refine c_seq ?_
  refine c_seq ?_
  refine c_region ?_
  refine l_v (v := (.pointer (some ⟨b, 0, none⟩))) (r_move rfl) ?_
  refine l_v (v := (.int .i64 i)) (r_move rfl) ?_
  refine l_do rfl ?_
  refine d_call (fl := []) (cl := []) (A := [(.pointer (some ⟨b, 0, none⟩)), (.int .i64 i)]) (B := [(.pointer (some ⟨b, 0, none⟩)), (.int .i64 i)]) F.ok91 rfl (ac rfl (ac rfl an)) rfl (there_c (b := b) (i := i) (aj := aj) (js := js) (cj := cj) (al := al) (ss := ss) (cl := cl) h1) ?_
  rintro _ w2 ⟨rfl, f3⟩
  have z4 := f3.size
  have t5 := t0.trans0 f3
  have hsp := there_spec ss i
  refine l_v (v := (.int .i64 (thereC ss i))) (r_assign rfl) ?_
  refine l_nil ?_
  refine (x_then ?_)
  refine c_seq ?_
  refine c_region ?_
  refine l_v (v := (.int .i64 (thereC ss i))) (r_move rfl) ?_
  refine l_v (v := (.bool (decide ((thereC ss i) ≠ 0)))) (r_neq rfl rfl) ?_
  refine l_nil ?_
  refine (x_then ?_)
  refine c_if (p := (thereC ss i) ≠ 0) rfl (fun c6 => ?_) (fun c6 => ?_)
  ·
    refine c_seq ?_
    refine c_region ?_
    refine l_v (v := (.int .i64 (thereC ss i))) (r_move rfl) ?_
    refine l_v (v := (.int .i64 (thereC ss i))) (r_assign rfl) ?_
    refine l_nil ?_
    refine (x_then ?_)
    refine c_ret ?_
    refine (x_then_r ?_)
    refine p_ret (v := (.int .i64 (thereC ss i))) (res1 rfl rfl) ?_
    have ec : startC ss i badge now = (thereC ss i) := by unfold startC; (try rw [getS_get hs]); (repeat' split) <;> omega
    have el : startL ss i badge now = ss := by unfold startL; rw [if_neg (by rw [ec]; (first | decide | omega))]
    have k7 := h1.keep0 f3
    have k8 := h4.keep0 f3
    exact ⟨(by rw [ec]), t5, (by rw [el]; exact k7), (by rw [el]; exact k8)⟩
  ·
    refine c_skip ?_
    refine (x_then ?_)
    refine c_seq ?_
    refine c_region ?_
    refine l_v (v := (.pointer (some ⟨b, 0, none⟩))) (r_move rfl) ?_
    refine l_v (v := (.pointer (some ⟨b, 0, none⟩))) (r_nil_ptr rfl) ?_
    refine l_v (v := (.pointer (some ⟨b, 1, none⟩))) (r_field_l F.fo142_1 rfl rfl) ?_
    have k9 := h1.keep0 f3
    refine l_v (v := (.slice al ss.length cl)) (r_load1 F.one49 rfl (At.cell k9 rfl)) ?_
    refine l_v (v := (.int .i64 i)) (r_move rfl) ?_
    have k10 := h4.keep0 f3
    have ha11 : ∃ ad, al = some ad := k10.sl.some (by rw [sts_len]; have := ((by first | omega | (simp only [settleTo_len, settle_len, startL_len, endsL_len, endL_len, cancelL_len, playL_len, newL_len, List.length_map, List.length_set, List.length_replicate, doL_len]; omega)) : (i).toNat < (ss).length); omega)
    obtain ⟨s, hs⟩ := get_some (l := ss) (k := (i).toNat) (by first | omega | (simp only [settleTo_len, settle_len, startL_len, endsL_len, endL_len, cancelL_len, playL_len, newL_len, List.length_map, List.length_set, List.length_replicate, doL_len]; omega))
    refine l_v (v := (.pointer (some ((adr al).add ((i).toNat * 6))))) (r_indexAddr F.sle49 rfl rfl ha11 (by omega) (by have := get_lt hs; (try simp only [settleTo_len, settle_len, startL_len, endsL_len, endL_len, cancelL_len, playL_len, newL_len, List.length_map, List.length_set, List.length_replicate, doL_len] at this); omega) (by first | rfl | simp | omega)) ?_
    have htr := ht s (mem_of_get hs)
    refine l_v (v := (.pointer (some ((adr al).add ((i).toNat * 6))))) (r_assign rfl) ?_
    refine l_nil ?_
    refine (x_then ?_)
    refine c_seq ?_
    refine c_block ?_
    refine c_seq ?_
    refine c_region ?_
    refine l_v (v := (.int .i64 badge)) (r_move rfl) ?_
    refine l_do rfl ?_
    refine d_call (fl := []) (cl := []) (A := [(.int .i64 badge), (.int .i64 1)]) (B := [(.int .i64 badge), (.int .i64 1)]) F.ok93 rfl (ac rfl (ac rfl an)) rfl (jcount_c (n := badge) (least := 1) ) ?_
    rintro _ w12 ⟨rfl, f13⟩
    have z14 := f13.size
    have t15 := t5.trans0 f13
    refine l_v (v := (.bool (decide (¬ (1 ≤ badge ∧ badge ≤ 2147483647))))) (r_notP rfl) ?_
    refine l_v (v := (.bool (decide (¬ (1 ≤ badge ∧ badge ≤ 2147483647))))) (r_move rfl) ?_
    refine l_em (p := ¬ (1 ≤ badge ∧ badge ≤ 2147483647)) ?_ ?_
    · intro c16
      refine l_skip (wanted_not rfl rfl (bd rfl c16) (by decide)) ?_
      refine l_skip (wanted_not rfl rfl (bd rfl c16) (by decide)) ?_
      refine l_skip (wanted_not rfl rfl (bd rfl c16) (by decide)) ?_
      refine l_v (v := (.bool true)) (r_pick_t (bd rfl c16) rfl) ?_
      refine l_v (v := (.bool true)) (r_assign rfl) ?_
      refine l_nil ?_
      refine (x_then ?_)
      refine c_true rfl ?_
      refine c_seq ?_
      refine c_region ?_
      refine l_v (v := (.int .i64 1)) (r_assign rfl) ?_
      refine l_nil ?_
      refine (x_then ?_)
      refine c_ret ?_
      refine (x_blk_r (x_then_r ?_))
      refine p_ret (v := (.int .i64 1)) (res1 rfl rfl) ?_
      have ec : startC ss i badge now = 1 := by unfold startC; (try rw [getS_get hs]); (repeat' split) <;> omega
      have el : startL ss i badge now = ss := by unfold startL; rw [if_neg (by rw [ec]; (first | decide | omega))]
      have k17 := k9.keep0 f13
      have k18 := k10.keep0 f13
      exact ⟨(by rw [ec]), t15, (by rw [el]; exact k17), (by rw [el]; exact k18)⟩
    · intro c16
      refine l_gv (v := (.int .i64 now)) (wanted_run rfl rfl (bn rfl c16)) (r_move rfl) ?_
      refine l_gdo (wanted_run rfl rfl (bn rfl c16)) ?_
      refine d_call (fl := []) (cl := []) (A := [(.int .i64 now), (.int .i64 0)]) (B := [(.int .i64 now), (.int .i64 0)]) F.ok93 rfl (ac rfl (ac rfl an)) rfl (jcount_c (n := now) (least := 0) ) ?_
      rintro _ w19 ⟨rfl, f20⟩
      have z21 := f20.size
      have t22 := t15.trans0 f20
      refine l_gv (v := (.bool (decide (¬ (0 ≤ now ∧ now ≤ 2147483647))))) (wanted_run rfl rfl (bn rfl c16)) (r_notP rfl) ?_
      refine l_v (v := (.bool (decide (¬ (0 ≤ now ∧ now ≤ 2147483647))))) (r_pick_f (bn rfl c16) rfl) ?_
      refine l_v (v := (.bool (decide (¬ (0 ≤ now ∧ now ≤ 2147483647))))) (r_assign rfl) ?_
      refine l_nil ?_
      refine (x_then ?_)
      refine c_if (p := ¬ (0 ≤ now ∧ now ≤ 2147483647)) rfl (fun c23 => ?_) (fun c23 => ?_)
      ·
        refine c_seq ?_
        refine c_region ?_
        refine l_v (v := (.int .i64 1)) (r_assign rfl) ?_
        refine l_nil ?_
        refine (x_then ?_)
        refine c_ret ?_
        refine (x_blk_r (x_then_r ?_))
        refine p_ret (v := (.int .i64 1)) (res1 rfl rfl) ?_
        have ec : startC ss i badge now = 1 := by unfold startC; (try rw [getS_get hs]); (repeat' split) <;> omega
        have el : startL ss i badge now = ss := by unfold startL; rw [if_neg (by rw [ec]; (first | decide | omega))]
        have k24 := k9.keep0 f13
        have k25 := k24.keep0 f20
        have k26 := k10.keep0 f13
        have k27 := k26.keep0 f20
        exact ⟨(by rw [ec]), t22, (by rw [el]; exact k25), (by rw [el]; exact k27)⟩
      ·
        refine c_seq ?_
        refine c_region ?_
        refine l_v (v := (.pointer (some ((adr al).add ((i).toNat * 6))))) (r_move rfl) ?_
        refine l_v (v := (.pointer (some ((adr al).add ((i).toNat * 6))))) (r_nil_ptr rfl) ?_
        refine l_v (v := (.pointer (some ((adr al).add ((i).toNat * 6))))) (r_field_e0 F.fo56_0 rfl) ?_
        have k28 := k10.keep0 f13
        have k29 := k28.keep0 f20
        have s30 := k29.sl
        refine l_v (v := (.int .u8 s.state)) (r_loadE1 F.one5 s30 rfl (sts_vs hs 0 _ rfl)) ?_
        refine l_v (v := (.bool (decide (s.state ≠ 3)))) (r_neq rfl rfl) ?_
        refine l_v (v := (.bool (decide (s.state ≠ 3)))) (r_assign rfl) ?_
        refine l_nil ?_
        refine (x_then ?_)
        refine c_if (p := s.state ≠ 3) rfl (fun c31 => ?_) (fun c31 => ?_)
        ·
          refine c_seq ?_
          refine c_region ?_
          refine l_v (v := (.int .i64 50)) (r_assign rfl) ?_
          refine l_nil ?_
          refine (x_then ?_)
          refine c_ret ?_
          refine (x_blk_r (x_then_r ?_))
          refine p_ret (v := (.int .i64 50)) (res1 rfl rfl) ?_
          have ec : startC ss i badge now = 50 := by unfold startC; (try rw [getS_get hs]); (repeat' split) <;> omega
          have el : startL ss i badge now = ss := by unfold startL; rw [if_neg (by rw [ec]; (first | decide | omega))]
          have k32 := k9.keep0 f13
          have k33 := k32.keep0 f20
          exact ⟨(by rw [ec]), t22, (by rw [el]; exact k33), (by rw [el]; exact k29)⟩
        ·
          refine c_skip ?_
          refine (x_blk (x_then ?_))
          refine c_seq ?_
          refine f_start (masks := [0, 0, 2, 6, 14, 30, 0, 0, 0, 256, 768, 1792, 4094, 8191, 16383]) (F := Fs [(4, fun w => Sl w al (sts ss)), (11, fun w => Sl w al (sts ss))]) #[false, false, false, false, false, false, false, false, false, false, false, false, false, false, false] F.mixed rfl rfl (by kernel_rfl) ?_
          intro w34 f35 r36
          have z37 := f35.size
          have t38 := t22.trans0 f35
          refine f_take (i := 0) (v := (.pointer (some ((adr al).add ((i).toNat * 6))))) #[true, false, false, false, false, false, false, false, false, false, false, false, false, false, false] r36 rfl (by kernel_rfl) (fun _ _ _ h => h) rfl (fs_none rfl) (fun w hF => r_move rfl) ?_
          refine f_take (i := 1) (v := (.pointer (some ((adr al).add ((i).toNat * 6))))) #[true, true, false, false, false, false, false, false, false, false, false, false, false, false, false] r36 rfl (by kernel_rfl) (fun _ _ _ h => h) rfl (fs_none rfl) (fun w hF => r_move rfl) ?_
          refine f_take (i := 2) (v := (.pointer (some ((adr al).add ((i).toNat * 6))))) #[true, true, true, false, false, false, false, false, false, false, false, false, false, false, false] r36 rfl (by kernel_rfl) (fun _ _ _ h => h) rfl (fs_none rfl) (fun w hF => r_nil_ptr rfl) ?_
          refine f_take (i := 3) (v := (.pointer (some ((adr al).add ((i).toNat * 6 + 1))))) #[true, true, true, true, false, false, false, false, false, false, false, false, false, false, false] r36 rfl (by kernel_rfl) (fun _ _ _ h => h) rfl (fs_none rfl) (fun w hF => r_field_e F.fo56_1 rfl) ?_
          have k39 := s30.keep0 f35
          refine f_take (i := 4) (v := (.int .i64 s.tried)) #[true, true, true, true, true, false, false, false, false, false, false, false, false, false, false] r36 rfl (by kernel_rfl) (fun _ _ _ h => h) rfl (fs_one k39 rfl) (fun w hF => r_loadE1 F.one3 (fs_get List.mem_cons_self hF) rfl (sts_vs hs 1 _ rfl)) ?_
          refine f_take (i := 5) (v := (.int .i64 (s.tried + 1))) #[true, true, true, true, true, true, false, false, false, false, false, false, false, false, false] r36 rfl (by kernel_rfl) (fun _ _ _ h => h) rfl (fs_none rfl) (fun w hF => r_add rfl rfl (w64 (by omega) (by omega) rfl)) ?_
          refine f_take (i := 6) (v := (.int .i64 badge)) #[true, true, true, true, true, true, true, false, false, false, false, false, false, false, false] r36 rfl (by kernel_rfl) (fun _ _ _ h => h) rfl (fs_none rfl) (fun w hF => r_move rfl) ?_
          refine f_take (i := 7) (v := (.int .i64 now)) #[true, true, true, true, true, true, true, true, false, false, false, false, false, false, false] r36 rfl (by kernel_rfl) (fun _ _ _ h => h) rfl (fs_none rfl) (fun w hF => r_move rfl) ?_
          refine f_take (i := 8) (v := (.pointer (some ((adr al).add ((i).toNat * 6))))) #[true, true, true, true, true, true, true, true, true, false, false, false, false, false, false] r36 rfl (by kernel_rfl) (fun _ _ _ h => h) rfl (fs_none rfl) (fun w hF => r_move rfl) ?_
          refine f_take (i := 9) (v := (.pointer (some ((adr al).add ((i).toNat * 6))))) #[true, true, true, true, true, true, true, true, true, true, false, false, false, false, false] r36 rfl (by kernel_rfl) (fun _ _ _ h => h) rfl (fs_none rfl) (fun w hF => r_nil_ptr rfl) ?_
          refine f_take (i := 10) (v := (.pointer (some ((adr al).add ((i).toNat * 6 + 5))))) #[true, true, true, true, true, true, true, true, true, true, true, false, false, false, false] r36 rfl (by kernel_rfl) (fun _ _ _ h => h) rfl (fs_none rfl) (fun w hF => r_field_e F.fo56_5 rfl) ?_
          refine f_take (i := 11) (v := (.bool s.played)) #[true, true, true, true, true, true, true, true, true, true, true, true, false, false, false] r36 rfl (by kernel_rfl) (fun _ _ _ h => h) rfl (fs_next rfl (fs_one k39 rfl)) (fun w hF => r_loadE1 F.one4 (fs_get (List.mem_cons_of_mem _ List.mem_cons_self) hF) rfl (sts_vs hs 5 _ rfl)) ?_
          refine f_take (i := 12) (v := (.agg #[(.int .u8 4), (.int .i64 (s.tried + 1)), (.int .i64 badge), (.int .i64 now), (.int .i64 0), (.bool s.played)])) #[true, true, true, true, true, true, true, true, true, true, true, true, true, false, false] r36 rfl (by kernel_rfl) (fun _ _ _ h => h) rfl (fs_none rfl) (fun w hF => r_build (pc rfl (pc rfl (pc rfl (pc rfl (pc rfl pn))))) (by kernel_rfl)) ?_
          refine f_take (i := 13) (v := (.pointer (some ((adr al).add ((i).toNat * 6))))) #[true, true, true, true, true, true, true, true, true, true, true, true, true, true, false] r36 rfl (by kernel_rfl) (fun _ _ _ h => h) rfl (fs_none rfl) (fun w hF => r_nil_ptr rfl) ?_
          refine f_one (i := 14) #[true, true, true, true, true, true, true, true, true, true, true, true, true, true, true] rfl (by kernel_rfl) rfl ?_
          have k43 := k29.keep0 f35
          refine d_storeES (l := [(.int .u8 4), (.int .i64 (s.tried + 1)), (.int .i64 badge), (.int .i64 now), (.int .i64 0), (.bool s.played)]) F.sz56 rfl rfl (by simp [Value.oneCell']) (by simp) k43 (by simp only [List.length_cons, List.length_nil]; omega) ?_
          intro w40 f41 h42
          have z44 := f41.size
          have t45 := t38.step f41 (ob_in (by intro x hx; simp [hx]))
          have e46 : spl (sts ss) ((i).toNat * 6) [(.int .u8 4), (.int .i64 (s.tried + 1)), (.int .i64 badge), (.int .i64 now), (.int .i64 0), (.bool s.played)] = sts (ss.set ((i).toNat) (⟨4, (s.tried + 1), badge, now, 0, s.played⟩ : St)) := sts_set (⟨4, (s.tried + 1), badge, now, 0, s.played⟩ : St) (get_lt hs)
          have h47 : Own w40 56 6 al ss.length cl (sts (ss.set ((i).toNat) (⟨4, (s.tried + 1), badge, now, 0, s.played⟩ : St))) := by rw [← e46]; exact h42
          have hx48 : (ss.set ((i).toNat) (⟨4, (s.tried + 1), badge, now, 0, s.played⟩ : St))[(i).toNat]? = some (⟨4, (s.tried + 1), badge, now, 0, s.played⟩ : St) := set_get hs
          refine ⟨(pres_all (by kernel_rfl)), ?_⟩
          refine f_done (by kernel_rfl) ?_
          refine (x_then ?_)
          refine c_seq ?_
          refine c_region ?_
          refine l_v (v := (.int .i64 0)) (r_assign rfl) ?_
          refine l_nil ?_
          refine (x_then ?_)
          refine c_ret ?_
          refine p_ret (v := (.int .i64 0)) (res1 rfl rfl) ?_
          have ec : startC ss i badge now = 0 := by unfold startC; (try rw [getS_get hs]); (repeat' split) <;> omega
          have el : startL ss i badge now = (ss.set ((i).toNat) (⟨4, (s.tried + 1), badge, now, 0, s.played⟩ : St)) := by unfold startL; rw [if_pos ec, getS_get hs]
          have en := startL_len ss i badge now
          have k49 := k9.keep0 f13
          have k50 := k49.keep0 f20
          have k51 := k50.keep0 f35
          have k52 := k51.keep f41 n1
          exact ⟨(by rw [ec]), t45, (by rw [en]; exact k52), (by rw [en, el]; exact h47)⟩

set_option maxHeartbeats 400000 in
set_option maxRecDepth 100000 in
theorem ends_c {w : World} {b cj cl : Nat} {aj al : Option Addr} {js : List JobP} {L : List Nat} {ss : List St} {i badge state number : Int} (h1 : At w b (.cells #[(.slice aj js.length cj), (.slice al ss.length cl)] 142 (0, 0))) (h2 : Ro w aj js.length cj (jbs js)) (h3 : JNds w L js) (h4 : Own w 56 6 al ss.length cl (sts ss)) (hl : js.length = ss.length) (hm : mayB (js.map JobP.m) = true) (n1 : b ∉ ob al) (n2 : ∀ x ∈ ob aj, x ∉ ob al) (n3 : ∀ x ∈ L, x ∉ ob al) :
    Calls Proofs.Try.prog 92 #[(.pointer (some ⟨b, 0, none⟩)), (.int .i64 i), (.int .i64 badge), (.int .u8 state), (.int .i64 number)] w (Ret fun v w' => v = (.int .i64 (runsC ss i badge)) ∧ Fr (ob al) w w' ∧ At w' b (.cells #[(.slice aj js.length cj), (.slice al ((endsL (js.map JobP.m) ss i badge state number).length) cl)] 142 (0, 0)) ∧ Own w' 56 6 al ((endsL (js.map JobP.m) ss i badge state number).length) cl (sts (endsL (js.map JobP.m) ss i badge state number))) := by
  have lt_h1 := h1.lt
  have lt_h2 := h2.lt
  have lt_h3 := h3.lt
  have lt_h4 := h4.lt
  have n1 := ob_ne' h4.tag h1 rfl
  have t0 : Fr (ob al) w w := Fr.refl _ _
  refine enter Proofs.Try.func92 rfl Proofs.Try.ntmps92 (Nat.le_of_ble_eq_true rfl) ?_
  refine c_seq ?_
  refine c_region ?_
  refine l_v (v := (.int .i64 0)) (r_assign rfl) ?_
  refine l_nil ?_
  refine (x_then ?_)
  refine c_seq ?_
  refine c_seq ?_
  refine c_region ?_
  refine l_v (v := (.pointer (some ⟨b, 0, none⟩))) (r_move rfl) ?_
  refine l_v (v := (.int .i64 i)) (r_move rfl) ?_
  refine l_v (v := (.int .i64 badge)) (r_move rfl) ?_
  refine l_do rfl ?_
  refine d_call (fl := []) (cl := []) (A := [(.pointer (some ⟨b, 0, none⟩)), (.int .i64 i), (.int .i64 badge)]) (B := [(.pointer (some ⟨b, 0, none⟩)), (.int .i64 i), (.int .i64 badge)]) F.ok150 rfl (ac rfl (ac rfl (ac rfl an))) rfl (runs_c (b := b) (i := i) (badge := badge) (aj := aj) (js := js) (cj := cj) (al := al) (ss := ss) (cl := cl) (L := L) h1 h2 h3 h4 (by omega) (by omega)) ?_
  rintro _ w2 ⟨rfl, f3⟩
  have z4 := f3.size
  have t5 := t0.trans0 f3
  have hsp := runs_spec ss i badge
  refine l_v (v := (.int .i64 (runsC ss i badge))) (r_assign rfl) ?_
  refine l_nil ?_
  refine (x_then ?_)
  refine c_seq ?_
  refine c_region ?_
  refine l_v (v := (.int .i64 (runsC ss i badge))) (r_move rfl) ?_
  refine l_v (v := (.bool (decide ((runsC ss i badge) ≠ 0)))) (r_neq rfl rfl) ?_
  refine l_nil ?_
  refine (x_then ?_)
  refine c_if (p := (runsC ss i badge) ≠ 0) rfl (fun c6 => ?_) (fun c6 => ?_)
  ·
    refine c_seq ?_
    refine c_region ?_
    refine l_v (v := (.int .i64 (runsC ss i badge))) (r_move rfl) ?_
    refine l_v (v := (.int .i64 (runsC ss i badge))) (r_assign rfl) ?_
    refine l_nil ?_
    refine (x_then ?_)
    refine c_ret ?_
    refine (x_then_r ?_)
    refine p_ret (v := (.int .i64 (runsC ss i badge))) (res1 rfl rfl) ?_
    have el := endsL_no (M := (js.map JobP.m)) (state := state) (number := number) (ss := ss) (i := i) (badge := badge) (by omega)
    have k7 := h1.keep0 f3
    have k8 := h4.keep0 f3
    exact ⟨rfl, t5, (by rw [el]; exact k7), (by rw [el]; exact k8)⟩
  ·
    refine c_skip ?_
    refine (x_then ?_)
    refine c_seq ?_
    refine c_region ?_
    refine l_v (v := (.pointer (some ⟨b, 0, none⟩))) (r_move rfl) ?_
    refine l_v (v := (.pointer (some ⟨b, 0, none⟩))) (r_nil_ptr rfl) ?_
    refine l_v (v := (.pointer (some ⟨b, 1, none⟩))) (r_field_l F.fo142_1 rfl rfl) ?_
    have k9 := h1.keep0 f3
    refine l_v (v := (.slice al ss.length cl)) (r_load1 F.one49 rfl (At.cell k9 rfl)) ?_
    refine l_v (v := (.int .i64 i)) (r_move rfl) ?_
    have k10 := h4.keep0 f3
    have ha11 : ∃ ad, al = some ad := k10.sl.some (by rw [sts_len]; have := ((by first | omega | (simp only [settleTo_len, settle_len, startL_len, endsL_len, endL_len, cancelL_len, playL_len, newL_len, List.length_map, List.length_set, List.length_replicate, doL_len]; omega)) : (i).toNat < (ss).length); omega)
    obtain ⟨s, hs⟩ := get_some (l := ss) (k := (i).toNat) (by first | omega | (simp only [settleTo_len, settle_len, startL_len, endsL_len, endL_len, cancelL_len, playL_len, newL_len, List.length_map, List.length_set, List.length_replicate, doL_len]; omega))
    refine l_v (v := (.pointer (some ((adr al).add ((i).toNat * 6))))) (r_indexAddr F.sle49 rfl rfl ha11 (by omega) (by have := get_lt hs; (try simp only [settleTo_len, settle_len, startL_len, endsL_len, endL_len, cancelL_len, playL_len, newL_len, List.length_map, List.length_set, List.length_replicate, doL_len] at this); omega) (by first | rfl | simp | omega)) ?_
    refine l_v (v := (.pointer (some ((adr al).add ((i).toNat * 6))))) (r_assign rfl) ?_
    refine l_nil ?_
    refine (x_then ?_)
    refine c_seq ?_
    refine f_start (masks := [0, 0, 2, 6, 14, 0, 0, 0, 128, 384, 896, 2047, 0, 8191]) (F := Fs [(4, fun w => Sl w al (sts ss)), (10, fun w => Sl w al (sts ss))]) #[false, false, false, false, false, false, false, false, false, false, false, false, false, false] F.mixed rfl rfl (by kernel_rfl) ?_
    intro w13 f14 r15
    have z16 := f14.size
    have t17 := t5.trans0 f14
    refine f_take (i := 0) (v := (.int .u8 state)) #[true, false, false, false, false, false, false, false, false, false, false, false, false, false] r15 rfl (by kernel_rfl) (fun _ _ _ h => h) rfl (fs_none rfl) (fun w hF => r_move rfl) ?_
    refine f_take (i := 1) (v := (.pointer (some ((adr al).add ((i).toNat * 6))))) #[true, true, false, false, false, false, false, false, false, false, false, false, false, false] r15 rfl (by kernel_rfl) (fun _ _ _ h => h) rfl (fs_none rfl) (fun w hF => r_move rfl) ?_
    refine f_take (i := 2) (v := (.pointer (some ((adr al).add ((i).toNat * 6))))) #[true, true, true, false, false, false, false, false, false, false, false, false, false, false] r15 rfl (by kernel_rfl) (fun _ _ _ h => h) rfl (fs_none rfl) (fun w hF => r_nil_ptr rfl) ?_
    refine f_take (i := 3) (v := (.pointer (some ((adr al).add ((i).toNat * 6 + 1))))) #[true, true, true, true, false, false, false, false, false, false, false, false, false, false] r15 rfl (by kernel_rfl) (fun _ _ _ h => h) rfl (fs_none rfl) (fun w hF => r_field_e F.fo56_1 rfl) ?_
    have k18 := k10.keep0 f14
    have s19 := k18.sl
    refine f_take (i := 4) (v := (.int .i64 s.tried)) #[true, true, true, true, true, false, false, false, false, false, false, false, false, false] r15 rfl (by kernel_rfl) (fun _ _ _ h => h) rfl (fs_one s19 rfl) (fun w hF => r_loadE1 F.one3 (fs_get List.mem_cons_self hF) rfl (sts_vs hs 1 _ rfl)) ?_
    refine f_take (i := 5) (v := (.int .i64 badge)) #[true, true, true, true, true, true, false, false, false, false, false, false, false, false] r15 rfl (by kernel_rfl) (fun _ _ _ h => h) rfl (fs_none rfl) (fun w hF => r_move rfl) ?_
    refine f_take (i := 6) (v := (.int .i64 number)) #[true, true, true, true, true, true, true, false, false, false, false, false, false, false] r15 rfl (by kernel_rfl) (fun _ _ _ h => h) rfl (fs_none rfl) (fun w hF => r_move rfl) ?_
    refine f_take (i := 7) (v := (.pointer (some ((adr al).add ((i).toNat * 6))))) #[true, true, true, true, true, true, true, true, false, false, false, false, false, false] r15 rfl (by kernel_rfl) (fun _ _ _ h => h) rfl (fs_none rfl) (fun w hF => r_move rfl) ?_
    refine f_take (i := 8) (v := (.pointer (some ((adr al).add ((i).toNat * 6))))) #[true, true, true, true, true, true, true, true, true, false, false, false, false, false] r15 rfl (by kernel_rfl) (fun _ _ _ h => h) rfl (fs_none rfl) (fun w hF => r_nil_ptr rfl) ?_
    refine f_take (i := 9) (v := (.pointer (some ((adr al).add ((i).toNat * 6 + 5))))) #[true, true, true, true, true, true, true, true, true, true, false, false, false, false] r15 rfl (by kernel_rfl) (fun _ _ _ h => h) rfl (fs_none rfl) (fun w hF => r_field_e F.fo56_5 rfl) ?_
    refine f_take (i := 10) (v := (.bool s.played)) #[true, true, true, true, true, true, true, true, true, true, true, false, false, false] r15 rfl (by kernel_rfl) (fun _ _ _ h => h) rfl (fs_next rfl (fs_one s19 rfl)) (fun w hF => r_loadE1 F.one4 (fs_get (List.mem_cons_of_mem _ List.mem_cons_self) hF) rfl (sts_vs hs 5 _ rfl)) ?_
    refine f_take (i := 11) (v := (.agg #[(.int .u8 state), (.int .i64 s.tried), (.int .i64 badge), (.int .i64 0), (.int .i64 number), (.bool s.played)])) #[true, true, true, true, true, true, true, true, true, true, true, true, false, false] r15 rfl (by kernel_rfl) (fun _ _ _ h => h) rfl (fs_none rfl) (fun w hF => r_build (pc rfl (pc rfl (pc rfl (pc rfl (pc rfl pn))))) (by kernel_rfl)) ?_
    refine f_one (i := 12) #[true, true, true, true, true, true, true, true, true, true, true, true, true, false] rfl (by kernel_rfl) rfl ?_
    refine d_alloc (cs := #[(.int .u8 0), (.int .i64 0), (.int .i64 0), (.int .i64 0), (.int .i64 0), (.bool false)]) F.zero56 rfl ?_
    intro w20 b21 f22 a23 h24
    have z25 := f22.size
    have t26 := t17.trans0 f22
    have l27 := h24.lt
    refine ⟨(pres_of (pcn_cons (fun _ h => h.keep0 f22) (pcn_cons (fun _ h => h.keep0 f22) pcn_nil))), ?_⟩
    refine f_one (i := 13) #[true, true, true, true, true, true, true, true, true, true, true, true, true, true] rfl (by kernel_rfl) rfl ?_
    refine d_storeA (l := [(.int .u8 state), (.int .i64 s.tried), (.int .i64 badge), (.int .i64 0), (.int .i64 number), (.bool s.played)]) F.sz56 rfl rfl (by simp [Value.oneCell']) h24 rfl ?_
    intro w28 f29 h30
    have z31 := f29.size
    have t32 := t26.step f29 (one_new (by omega))
    refine ⟨(pres_all (by kernel_rfl)), ?_⟩
    refine f_done (by kernel_rfl) ?_
    refine (x_then ?_)
    refine c_seq ?_
    refine c_seq ?_
    refine c_region ?_
    refine l_v (v := (.int .u8 state)) (r_move rfl) ?_
    refine l_nil ?_
    refine (x_then ?_)
    refine c_block ?_
    refine c_seq ?_
    refine c_block ?_
    refine c_block ?_
    refine c_seq ?_
    refine c_seq ?_
    refine c_seq ?_
    refine c_region ?_
    refine l_v (v := (.bool (decide (state = 6)))) (r_eql rfl rfl) ?_
    refine l_v (v := (.bool (decide (state = 6)))) (r_assign rfl) ?_
    refine l_nil ?_
    refine (x_then ?_)
    refine c_if (p := state = 6) rfl (fun c33 => ?_) (fun c33 => ?_)
    ·
      refine c_exit ?_
      refine (x_then_x (x_then_x (x_blk_hit (x_blk (x_then ?_)))))
      refine c_seq ?_
      refine c_seq ?_
      refine f_start (masks := [0, 1, 3, 7, 0, 16, 48, 112, 0, 496, 1008, 2032, 4095]) (F := Fs [(3, fun w => Sl w al (sts ss)), (7, fun w => At w b (.cells #[(.slice aj js.length cj), (.slice al ss.length cl)] 142 (0, 0))), (11, fun w => Sl w aj (jbs js))]) #[false, false, false, false, false, false, false, false, false, false, false, false, false] F.mixed rfl rfl (by kernel_rfl) ?_
      intro w45 f46 r47
      have z48 := f46.size
      have t49 := t32.trans0 f46
      refine f_take (i := 0) (v := (.pointer (some ((adr al).add ((i).toNat * 6))))) #[true, false, false, false, false, false, false, false, false, false, false, false, false] r47 rfl (by kernel_rfl) (fun _ _ _ h => h) rfl (fs_none rfl) (fun w hF => r_move rfl) ?_
      refine f_take (i := 1) (v := (.pointer (some ((adr al).add ((i).toNat * 6))))) #[true, true, false, false, false, false, false, false, false, false, false, false, false] r47 rfl (by kernel_rfl) (fun _ _ _ h => h) rfl (fs_none rfl) (fun w hF => r_nil_ptr rfl) ?_
      refine f_take (i := 2) (v := (.pointer (some ((adr al).add ((i).toNat * 6 + 1))))) #[true, true, true, false, false, false, false, false, false, false, false, false, false] r47 rfl (by kernel_rfl) (fun _ _ _ h => h) rfl (fs_none rfl) (fun w hF => r_field_e F.fo56_1 rfl) ?_
      have k50 := s19.keep0 f22
      have k51 := k50.keep f29 (ob_not1 (not_ob_old lt_h4 (by omega)))
      have k52 := k51.keep0 f46
      refine f_take (i := 3) (v := (.int .i64 s.tried)) #[true, true, true, true, false, false, false, false, false, false, false, false, false] r47 rfl (by kernel_rfl) (fun _ _ _ h => h) rfl (fs_one k52 rfl) (fun w hF => r_loadE1 F.one3 (fs_get List.mem_cons_self hF) rfl (sts_vs hs 1 _ rfl)) ?_
      refine f_take (i := 4) (v := (.pointer (some ⟨b, 0, none⟩))) #[true, true, true, true, true, false, false, false, false, false, false, false, false] r47 rfl (by kernel_rfl) (fun _ _ _ h => h) rfl (fs_none rfl) (fun w hF => r_move rfl) ?_
      refine f_take (i := 5) (v := (.pointer (some ⟨b, 0, none⟩))) #[true, true, true, true, true, true, false, false, false, false, false, false, false] r47 rfl (by kernel_rfl) (fun _ _ _ h => h) rfl (fs_none rfl) (fun w hF => r_nil_ptr rfl) ?_
      refine f_take (i := 6) (v := (.pointer (some ⟨b, 0, none⟩))) #[true, true, true, true, true, true, true, false, false, false, false, false, false] r47 rfl (by kernel_rfl) (fun _ _ _ h => h) rfl (fs_none rfl) (fun w hF => r_field_l F.fo142_0 rfl rfl) ?_
      have k53 := k9.keep0 f14
      have k54 := k53.keep0 f22
      have k55 := k54.keep f29 (not_in1 (by omega))
      have k56 := k55.keep0 f46
      refine f_take (i := 7) (v := (.slice aj js.length cj)) #[true, true, true, true, true, true, true, true, false, false, false, false, false] r47 rfl (by kernel_rfl) (fun _ _ _ h => h) rfl (fs_next rfl (fs_one k56 rfl)) (fun w hF => r_load1 F.one140 rfl (At.cell (fs_get (List.mem_cons_of_mem _ List.mem_cons_self) hF) rfl)) ?_
      refine f_take (i := 8) (v := (.int .i64 i)) #[true, true, true, true, true, true, true, true, true, false, false, false, false] r47 rfl (by kernel_rfl) (fun _ _ _ h => h) rfl (fs_none rfl) (fun w hF => r_move rfl) ?_
      have k57 := h2.keep0 f3
      have k58 := k57.keep0 f14
      have k59 := k58.keep0 f22
      have k60 := k59.keep f29 (ob_not1 (not_ob_old lt_h2 (by omega)))
      have k61 := k60.keep0 f46
      have ha62 : ∃ ad, aj = some ad := k61.sl.some (by rw [jbs_len]; have := ((by first | omega | (simp only [settleTo_len, settle_len, startL_len, endsL_len, endL_len, cancelL_len, playL_len, newL_len, List.length_map, List.length_set, List.length_replicate, doL_len]; omega)) : (i).toNat < (js).length); omega)
      obtain ⟨x, hx⟩ := get_some (l := js) (k := (i).toNat) (by first | omega | (simp only [settleTo_len, settle_len, startL_len, endsL_len, endL_len, cancelL_len, playL_len, newL_len, List.length_map, List.length_set, List.length_replicate, doL_len]; omega))
      refine f_take (i := 9) (v := (.pointer (some ((adr aj).add ((i).toNat * 4))))) #[true, true, true, true, true, true, true, true, true, true, false, false, false] r47 rfl (by kernel_rfl) (fun _ _ _ h => h) rfl (fs_none rfl) (fun w hF => r_indexAddr F.sle140 rfl rfl ha62 (by omega) (by have := get_lt hx; (try simp only [settleTo_len, settle_len, startL_len, endsL_len, endL_len, cancelL_len, playL_len, newL_len, List.length_map, List.length_set, List.length_replicate, doL_len] at this); omega) (by first | rfl | simp | omega)) ?_
      refine f_take (i := 10) (v := (.pointer (some ((adr aj).add ((i).toNat * 4 + 1))))) #[true, true, true, true, true, true, true, true, true, true, true, false, false] r47 rfl (by kernel_rfl) (fun _ _ _ h => h) rfl (fs_none rfl) (fun w hF => r_field_e F.fo160_1 rfl) ?_
      have s63 := k61.sl
      refine f_take (i := 11) (v := (.int .i64 x.m.tries)) #[true, true, true, true, true, true, true, true, true, true, true, true, false] r47 rfl (by kernel_rfl) (fun _ _ _ h => h) rfl (fs_next rfl (fs_next rfl (fs_one s63 rfl))) (fun w hF => r_loadE1 F.one3 (fs_get (List.mem_cons_of_mem _ (List.mem_cons_of_mem _ List.mem_cons_self)) hF) rfl (jbs_vs hx 1 _ rfl)) ?_
      refine f_take (i := 12) (v := (.bool (decide (s.tried < x.m.tries)))) #[true, true, true, true, true, true, true, true, true, true, true, true, true] r47 rfl (by kernel_rfl) (fun _ _ _ h => h) rfl (fs_none rfl) (fun w hF => r_lss rfl rfl) ?_
      refine f_done (by kernel_rfl) ?_
      refine (x_then ?_)
      refine c_if (p := s.tried < x.m.tries) rfl (fun c64 => ?_) (fun c64 => ?_)
      ·
        refine f_start (masks := [0, 1, 3, 7, 0, 16, 48, 112, 255, 511]) (F := Fs [(3, fun w => Sl w al (sts ss)), (7, fun w => Sl w al (sts ss))]) #[false, false, false, false, false, false, false, false, false, false] F.mixed rfl rfl (by kernel_rfl) ?_
        intro w65 f66 r67
        have z68 := f66.size
        have t69 := t49.trans0 f66
        refine f_take (i := 0) (v := (.pointer (some ((adr al).add ((i).toNat * 6))))) #[true, false, false, false, false, false, false, false, false, false] r67 rfl (by kernel_rfl) (fun _ _ _ h => h) rfl (fs_none rfl) (fun w hF => r_move rfl) ?_
        refine f_take (i := 1) (v := (.pointer (some ((adr al).add ((i).toNat * 6))))) #[true, true, false, false, false, false, false, false, false, false] r67 rfl (by kernel_rfl) (fun _ _ _ h => h) rfl (fs_none rfl) (fun w hF => r_nil_ptr rfl) ?_
        refine f_take (i := 2) (v := (.pointer (some ((adr al).add ((i).toNat * 6 + 1))))) #[true, true, true, false, false, false, false, false, false, false] r67 rfl (by kernel_rfl) (fun _ _ _ h => h) rfl (fs_none rfl) (fun w hF => r_field_e F.fo56_1 rfl) ?_
        have k70 := k52.keep0 f66
        refine f_take (i := 3) (v := (.int .i64 s.tried)) #[true, true, true, true, false, false, false, false, false, false] r67 rfl (by kernel_rfl) (fun _ _ _ h => h) rfl (fs_one k70 rfl) (fun w hF => r_loadE1 F.one3 (fs_get List.mem_cons_self hF) rfl (sts_vs hs 1 _ rfl)) ?_
        refine f_take (i := 4) (v := (.pointer (some ((adr al).add ((i).toNat * 6))))) #[true, true, true, true, true, false, false, false, false, false] r67 rfl (by kernel_rfl) (fun _ _ _ h => h) rfl (fs_none rfl) (fun w hF => r_move rfl) ?_
        refine f_take (i := 5) (v := (.pointer (some ((adr al).add ((i).toNat * 6))))) #[true, true, true, true, true, true, false, false, false, false] r67 rfl (by kernel_rfl) (fun _ _ _ h => h) rfl (fs_none rfl) (fun w hF => r_nil_ptr rfl) ?_
        refine f_take (i := 6) (v := (.pointer (some ((adr al).add ((i).toNat * 6 + 5))))) #[true, true, true, true, true, true, true, false, false, false] r67 rfl (by kernel_rfl) (fun _ _ _ h => h) rfl (fs_none rfl) (fun w hF => r_field_e F.fo56_5 rfl) ?_
        refine f_take (i := 7) (v := (.bool s.played)) #[true, true, true, true, true, true, true, true, false, false] r67 rfl (by kernel_rfl) (fun _ _ _ h => h) rfl (fs_next rfl (fs_one k70 rfl)) (fun w hF => r_loadE1 F.one4 (fs_get (List.mem_cons_of_mem _ List.mem_cons_self) hF) rfl (sts_vs hs 5 _ rfl)) ?_
        refine f_take (i := 8) (v := (.agg #[(.int .u8 3), (.int .i64 s.tried), (.int .i64 0), (.int .i64 0), (.int .i64 0), (.bool s.played)])) #[true, true, true, true, true, true, true, true, true, false] r67 rfl (by kernel_rfl) (fun _ _ _ h => h) rfl (fs_none rfl) (fun w hF => r_build (pc rfl (pc rfl (pc rfl pn))) (by kernel_rfl)) ?_
        refine f_one (i := 9) #[true, true, true, true, true, true, true, true, true, true] rfl (by kernel_rfl) rfl ?_
        have k74 := h30.keep0 f46
        have k75 := k74.keep0 f66
        refine d_storeA (l := [(.int .u8 3), (.int .i64 s.tried), (.int .i64 0), (.int .i64 0), (.int .i64 0), (.bool s.played)]) F.sz56 rfl rfl (by simp [Value.oneCell']) k75 rfl ?_
        intro w71 f72 h73
        have z76 := f72.size
        have t77 := t69.step f72 (one_new (by omega))
        refine ⟨(pres_all (by kernel_rfl)), ?_⟩
        refine f_done (by kernel_rfl) ?_
        refine (x_then ?_)
        refine c_exit ?_
        refine (x_blk_hit (x_then ?_))
        refine c_seq ?_
        refine c_region ?_
        refine l_v (v := (.pointer (some ((adr al).add ((i).toNat * 6))))) (r_move rfl) ?_
        refine l_v (v := (.agg #[(.int .u8 3), (.int .i64 s.tried), (.int .i64 0), (.int .i64 0), (.int .i64 0), (.bool s.played)])) (r_loadA (l := [(.int .u8 3), (.int .i64 s.tried), (.int .i64 0), (.int .i64 0), (.int .i64 0), (.bool s.played)]) F.agg56 rfl h73 rfl) ?_
        refine l_v (v := (.pointer (some ((adr al).add ((i).toNat * 6))))) (r_nil_ptr rfl) ?_
        refine l_do rfl ?_
        have k81 := k18.keep0 f22
        have k82 := k81.keep f29 (ob_not1 (not_ob_old lt_h4 (by omega)))
        have k83 := k82.keep0 f46
        have k84 := k83.keep0 f66
        have k85 := k84.keep f72 (ob_not1 (not_ob_old lt_h4 (by omega)))
        refine d_storeES (l := [(.int .u8 3), (.int .i64 s.tried), (.int .i64 0), (.int .i64 0), (.int .i64 0), (.bool s.played)]) F.sz56 rfl rfl (by simp [Value.oneCell']) (by simp) k85 (by simp only [List.length_cons, List.length_nil]; omega) ?_
        intro w78 f79 h80
        have z86 := f79.size
        have t87 := t77.step f79 (ob_in (by intro x hx; simp [hx]))
        have e88 : spl (sts ss) ((i).toNat * 6) [(.int .u8 3), (.int .i64 s.tried), (.int .i64 0), (.int .i64 0), (.int .i64 0), (.bool s.played)] = sts (ss.set ((i).toNat) (⟨3, s.tried, 0, 0, 0, s.played⟩ : St)) := sts_set (⟨3, s.tried, 0, 0, 0, s.played⟩ : St) (get_lt hs)
        have h89 : Own w78 56 6 al ss.length cl (sts (ss.set ((i).toNat) (⟨3, s.tried, 0, 0, 0, s.played⟩ : St))) := by rw [← e88]; exact h80
        have hx90 : (ss.set ((i).toNat) (⟨3, s.tried, 0, 0, 0, s.played⟩ : St))[(i).toNat]? = some (⟨3, s.tried, 0, 0, 0, s.played⟩ : St) := set_get hs
        refine l_nil ?_
        refine (x_then ?_)
        refine c_seq ?_
        refine c_region ?_
        refine l_v (v := (.pointer (some ⟨b, 0, none⟩))) (r_move rfl) ?_
        refine l_do rfl ?_
        have k91 := k56.keep0 f66
        have k92 := k91.keep f72 (not_in1 (by omega))
        have k93 := k92.keep f79 n1
        have k94 := k61.keep0 f66
        have k95 := k94.keep f72 (ob_not1 (not_ob_old lt_h2 (by omega)))
        have k96 := k95.keep f79 n2
        have k97 := h3.keep0 f3
        have k98 := k97.keep0 f14
        have k99 := k98.keep0 f22
        have k100 := k99.keep f29 (ob_not1 (not_ob_old lt_h3 (by omega)))
        have k101 := k100.keep0 f46
        have k102 := k101.keep0 f66
        have k103 := k102.keep f72 (ob_not1 (not_ob_old lt_h3 (by omega)))
        have k104 := k103.keep f79 n3
        refine d_call (fl := []) (cl := []) (A := [(.pointer (some ⟨b, 0, none⟩))]) (B := [(.pointer (some ⟨b, 0, none⟩))]) F.ok85 rfl (ac rfl an) rfl (settle_c (b := b) (ss := (ss.set ((i).toNat) (⟨3, s.tried, 0, 0, 0, s.played⟩ : St))) (aj := aj) (js := js) (cj := cj) (L := L) (by rw [List.length_set]; exact k93) k96 k104 (by rw [List.length_set]; exact h89) (by rw [List.length_set]; exact hl) hm n1 n2 n3) ?_
        rintro _ w105 ⟨rfl, f106, h107, h108⟩
        have z109 := f106.size
        have t110 := t87.step f106 (ob_in (by intro x hx; simp [hx]))
        refine l_nil ?_
        refine (x_then ?_)
        refine c_seq ?_
        refine c_region ?_
        refine l_v (v := (.int .i64 0)) (r_assign rfl) ?_
        refine l_nil ?_
        refine (x_then ?_)
        refine c_ret ?_
        refine p_ret (v := (.int .i64 0)) (res1 rfl rfl) ?_
        have el : endsL (js.map JobP.m) ss i badge state number = settle (js.map JobP.m) (ss.set ((i).toNat) (⟨3, s.tried, 0, 0, 0, s.played⟩ : St)) := by rw [endsL_yes (by omega)]; congr 2; unfold endS; rw [getS_get hs]; (try rw [triesOf_get (jm_get hx)]); simp [*]
        exact ⟨(by congr 1; omega), t110, (by rw [el]; exact h107), (by rw [el]; exact h108)⟩
      ·
        refine c_skip ?_
        refine (x_then ?_)
        refine c_exit ?_
        refine (x_blk_hit (x_then ?_))
        refine c_seq ?_
        refine c_region ?_
        refine l_v (v := (.pointer (some ((adr al).add ((i).toNat * 6))))) (r_move rfl) ?_
        have k111 := h30.keep0 f46
        refine l_v (v := (.agg #[(.int .u8 state), (.int .i64 s.tried), (.int .i64 badge), (.int .i64 0), (.int .i64 number), (.bool s.played)])) (r_loadA (l := [(.int .u8 state), (.int .i64 s.tried), (.int .i64 badge), (.int .i64 0), (.int .i64 number), (.bool s.played)]) F.agg56 rfl k111 rfl) ?_
        refine l_v (v := (.pointer (some ((adr al).add ((i).toNat * 6))))) (r_nil_ptr rfl) ?_
        refine l_do rfl ?_
        have k115 := k18.keep0 f22
        have k116 := k115.keep f29 (ob_not1 (not_ob_old lt_h4 (by omega)))
        have k117 := k116.keep0 f46
        refine d_storeES (l := [(.int .u8 state), (.int .i64 s.tried), (.int .i64 badge), (.int .i64 0), (.int .i64 number), (.bool s.played)]) F.sz56 rfl rfl (by simp [Value.oneCell']) (by simp) k117 (by simp only [List.length_cons, List.length_nil]; omega) ?_
        intro w112 f113 h114
        have z118 := f113.size
        have t119 := t49.step f113 (ob_in (by intro x hx; simp [hx]))
        have e120 : spl (sts ss) ((i).toNat * 6) [(.int .u8 state), (.int .i64 s.tried), (.int .i64 badge), (.int .i64 0), (.int .i64 number), (.bool s.played)] = sts (ss.set ((i).toNat) (⟨state, s.tried, badge, 0, number, s.played⟩ : St)) := sts_set (⟨state, s.tried, badge, 0, number, s.played⟩ : St) (get_lt hs)
        have h121 : Own w112 56 6 al ss.length cl (sts (ss.set ((i).toNat) (⟨state, s.tried, badge, 0, number, s.played⟩ : St))) := by rw [← e120]; exact h114
        have hx122 : (ss.set ((i).toNat) (⟨state, s.tried, badge, 0, number, s.played⟩ : St))[(i).toNat]? = some (⟨state, s.tried, badge, 0, number, s.played⟩ : St) := set_get hs
        refine l_nil ?_
        refine (x_then ?_)
        refine c_seq ?_
        refine c_region ?_
        refine l_v (v := (.pointer (some ⟨b, 0, none⟩))) (r_move rfl) ?_
        refine l_do rfl ?_
        have k123 := k56.keep f113 n1
        have k124 := k61.keep f113 n2
        have k125 := h3.keep0 f3
        have k126 := k125.keep0 f14
        have k127 := k126.keep0 f22
        have k128 := k127.keep f29 (ob_not1 (not_ob_old lt_h3 (by omega)))
        have k129 := k128.keep0 f46
        have k130 := k129.keep f113 n3
        refine d_call (fl := []) (cl := []) (A := [(.pointer (some ⟨b, 0, none⟩))]) (B := [(.pointer (some ⟨b, 0, none⟩))]) F.ok85 rfl (ac rfl an) rfl (settle_c (b := b) (ss := (ss.set ((i).toNat) (⟨state, s.tried, badge, 0, number, s.played⟩ : St))) (aj := aj) (js := js) (cj := cj) (L := L) (by rw [List.length_set]; exact k123) k124 k130 (by rw [List.length_set]; exact h121) (by rw [List.length_set]; exact hl) hm n1 n2 n3) ?_
        rintro _ w131 ⟨rfl, f132, h133, h134⟩
        have z135 := f132.size
        have t136 := t119.step f132 (ob_in (by intro x hx; simp [hx]))
        refine l_nil ?_
        refine (x_then ?_)
        refine c_seq ?_
        refine c_region ?_
        refine l_v (v := (.int .i64 0)) (r_assign rfl) ?_
        refine l_nil ?_
        refine (x_then ?_)
        refine c_ret ?_
        refine p_ret (v := (.int .i64 0)) (res1 rfl rfl) ?_
        have el : endsL (js.map JobP.m) ss i badge state number = settle (js.map JobP.m) (ss.set ((i).toNat) (⟨state, s.tried, badge, 0, number, s.played⟩ : St)) := by rw [endsL_yes (by omega)]; congr 2; unfold endS; rw [getS_get hs]; (try rw [triesOf_get (jm_get hx)]); simp [*]
        exact ⟨(by congr 1; omega), t136, (by rw [el]; exact h133), (by rw [el]; exact h134)⟩
    ·
      refine c_skip ?_
      refine (x_then ?_)
      refine c_seq ?_
      refine c_region ?_
      refine l_v (v := (.bool (decide (state = 7)))) (r_eql rfl rfl) ?_
      refine l_v (v := (.bool (decide (state = 7)))) (r_assign rfl) ?_
      refine l_nil ?_
      refine (x_then ?_)
      refine c_if (p := state = 7) rfl (fun c137 => ?_) (fun c137 => ?_)
      ·
        refine c_exit ?_
        refine (x_then_x (x_blk_miss rfl (x_blk_hit (x_then ?_))))
        refine c_seq ?_
        refine c_seq ?_
        refine f_start (masks := [0, 1, 3, 7, 0, 16, 48, 112, 0, 496, 1008, 2032, 4095]) (F := Fs [(3, fun w => Sl w al (sts ss)), (7, fun w => At w b (.cells #[(.slice aj js.length cj), (.slice al ss.length cl)] 142 (0, 0))), (11, fun w => Sl w aj (jbs js))]) #[false, false, false, false, false, false, false, false, false, false, false, false, false] F.mixed rfl rfl (by kernel_rfl) ?_
        intro w149 f150 r151
        have z152 := f150.size
        have t153 := t32.trans0 f150
        refine f_take (i := 0) (v := (.pointer (some ((adr al).add ((i).toNat * 6))))) #[true, false, false, false, false, false, false, false, false, false, false, false, false] r151 rfl (by kernel_rfl) (fun _ _ _ h => h) rfl (fs_none rfl) (fun w hF => r_move rfl) ?_
        refine f_take (i := 1) (v := (.pointer (some ((adr al).add ((i).toNat * 6))))) #[true, true, false, false, false, false, false, false, false, false, false, false, false] r151 rfl (by kernel_rfl) (fun _ _ _ h => h) rfl (fs_none rfl) (fun w hF => r_nil_ptr rfl) ?_
        refine f_take (i := 2) (v := (.pointer (some ((adr al).add ((i).toNat * 6 + 1))))) #[true, true, true, false, false, false, false, false, false, false, false, false, false] r151 rfl (by kernel_rfl) (fun _ _ _ h => h) rfl (fs_none rfl) (fun w hF => r_field_e F.fo56_1 rfl) ?_
        have k154 := s19.keep0 f22
        have k155 := k154.keep f29 (ob_not1 (not_ob_old lt_h4 (by omega)))
        have k156 := k155.keep0 f150
        refine f_take (i := 3) (v := (.int .i64 s.tried)) #[true, true, true, true, false, false, false, false, false, false, false, false, false] r151 rfl (by kernel_rfl) (fun _ _ _ h => h) rfl (fs_one k156 rfl) (fun w hF => r_loadE1 F.one3 (fs_get List.mem_cons_self hF) rfl (sts_vs hs 1 _ rfl)) ?_
        refine f_take (i := 4) (v := (.pointer (some ⟨b, 0, none⟩))) #[true, true, true, true, true, false, false, false, false, false, false, false, false] r151 rfl (by kernel_rfl) (fun _ _ _ h => h) rfl (fs_none rfl) (fun w hF => r_move rfl) ?_
        refine f_take (i := 5) (v := (.pointer (some ⟨b, 0, none⟩))) #[true, true, true, true, true, true, false, false, false, false, false, false, false] r151 rfl (by kernel_rfl) (fun _ _ _ h => h) rfl (fs_none rfl) (fun w hF => r_nil_ptr rfl) ?_
        refine f_take (i := 6) (v := (.pointer (some ⟨b, 0, none⟩))) #[true, true, true, true, true, true, true, false, false, false, false, false, false] r151 rfl (by kernel_rfl) (fun _ _ _ h => h) rfl (fs_none rfl) (fun w hF => r_field_l F.fo142_0 rfl rfl) ?_
        have k157 := k9.keep0 f14
        have k158 := k157.keep0 f22
        have k159 := k158.keep f29 (not_in1 (by omega))
        have k160 := k159.keep0 f150
        refine f_take (i := 7) (v := (.slice aj js.length cj)) #[true, true, true, true, true, true, true, true, false, false, false, false, false] r151 rfl (by kernel_rfl) (fun _ _ _ h => h) rfl (fs_next rfl (fs_one k160 rfl)) (fun w hF => r_load1 F.one140 rfl (At.cell (fs_get (List.mem_cons_of_mem _ List.mem_cons_self) hF) rfl)) ?_
        refine f_take (i := 8) (v := (.int .i64 i)) #[true, true, true, true, true, true, true, true, true, false, false, false, false] r151 rfl (by kernel_rfl) (fun _ _ _ h => h) rfl (fs_none rfl) (fun w hF => r_move rfl) ?_
        have k161 := h2.keep0 f3
        have k162 := k161.keep0 f14
        have k163 := k162.keep0 f22
        have k164 := k163.keep f29 (ob_not1 (not_ob_old lt_h2 (by omega)))
        have k165 := k164.keep0 f150
        have ha166 : ∃ ad, aj = some ad := k165.sl.some (by rw [jbs_len]; have := ((by first | omega | (simp only [settleTo_len, settle_len, startL_len, endsL_len, endL_len, cancelL_len, playL_len, newL_len, List.length_map, List.length_set, List.length_replicate, doL_len]; omega)) : (i).toNat < (js).length); omega)
        obtain ⟨x, hx⟩ := get_some (l := js) (k := (i).toNat) (by first | omega | (simp only [settleTo_len, settle_len, startL_len, endsL_len, endL_len, cancelL_len, playL_len, newL_len, List.length_map, List.length_set, List.length_replicate, doL_len]; omega))
        refine f_take (i := 9) (v := (.pointer (some ((adr aj).add ((i).toNat * 4))))) #[true, true, true, true, true, true, true, true, true, true, false, false, false] r151 rfl (by kernel_rfl) (fun _ _ _ h => h) rfl (fs_none rfl) (fun w hF => r_indexAddr F.sle140 rfl rfl ha166 (by omega) (by have := get_lt hx; (try simp only [settleTo_len, settle_len, startL_len, endsL_len, endL_len, cancelL_len, playL_len, newL_len, List.length_map, List.length_set, List.length_replicate, doL_len] at this); omega) (by first | rfl | simp | omega)) ?_
        refine f_take (i := 10) (v := (.pointer (some ((adr aj).add ((i).toNat * 4 + 1))))) #[true, true, true, true, true, true, true, true, true, true, true, false, false] r151 rfl (by kernel_rfl) (fun _ _ _ h => h) rfl (fs_none rfl) (fun w hF => r_field_e F.fo160_1 rfl) ?_
        have s167 := k165.sl
        refine f_take (i := 11) (v := (.int .i64 x.m.tries)) #[true, true, true, true, true, true, true, true, true, true, true, true, false] r151 rfl (by kernel_rfl) (fun _ _ _ h => h) rfl (fs_next rfl (fs_next rfl (fs_one s167 rfl))) (fun w hF => r_loadE1 F.one3 (fs_get (List.mem_cons_of_mem _ (List.mem_cons_of_mem _ List.mem_cons_self)) hF) rfl (jbs_vs hx 1 _ rfl)) ?_
        refine f_take (i := 12) (v := (.bool (decide (s.tried < x.m.tries)))) #[true, true, true, true, true, true, true, true, true, true, true, true, true] r151 rfl (by kernel_rfl) (fun _ _ _ h => h) rfl (fs_none rfl) (fun w hF => r_lss rfl rfl) ?_
        refine f_done (by kernel_rfl) ?_
        refine (x_then ?_)
        refine c_if (p := s.tried < x.m.tries) rfl (fun c168 => ?_) (fun c168 => ?_)
        ·
          refine f_start (masks := [0, 1, 3, 7, 0, 16, 48, 112, 255, 511]) (F := Fs [(3, fun w => Sl w al (sts ss)), (7, fun w => Sl w al (sts ss))]) #[false, false, false, false, false, false, false, false, false, false] F.mixed rfl rfl (by kernel_rfl) ?_
          intro w169 f170 r171
          have z172 := f170.size
          have t173 := t153.trans0 f170
          refine f_take (i := 0) (v := (.pointer (some ((adr al).add ((i).toNat * 6))))) #[true, false, false, false, false, false, false, false, false, false] r171 rfl (by kernel_rfl) (fun _ _ _ h => h) rfl (fs_none rfl) (fun w hF => r_move rfl) ?_
          refine f_take (i := 1) (v := (.pointer (some ((adr al).add ((i).toNat * 6))))) #[true, true, false, false, false, false, false, false, false, false] r171 rfl (by kernel_rfl) (fun _ _ _ h => h) rfl (fs_none rfl) (fun w hF => r_nil_ptr rfl) ?_
          refine f_take (i := 2) (v := (.pointer (some ((adr al).add ((i).toNat * 6 + 1))))) #[true, true, true, false, false, false, false, false, false, false] r171 rfl (by kernel_rfl) (fun _ _ _ h => h) rfl (fs_none rfl) (fun w hF => r_field_e F.fo56_1 rfl) ?_
          have k174 := k156.keep0 f170
          refine f_take (i := 3) (v := (.int .i64 s.tried)) #[true, true, true, true, false, false, false, false, false, false] r171 rfl (by kernel_rfl) (fun _ _ _ h => h) rfl (fs_one k174 rfl) (fun w hF => r_loadE1 F.one3 (fs_get List.mem_cons_self hF) rfl (sts_vs hs 1 _ rfl)) ?_
          refine f_take (i := 4) (v := (.pointer (some ((adr al).add ((i).toNat * 6))))) #[true, true, true, true, true, false, false, false, false, false] r171 rfl (by kernel_rfl) (fun _ _ _ h => h) rfl (fs_none rfl) (fun w hF => r_move rfl) ?_
          refine f_take (i := 5) (v := (.pointer (some ((adr al).add ((i).toNat * 6))))) #[true, true, true, true, true, true, false, false, false, false] r171 rfl (by kernel_rfl) (fun _ _ _ h => h) rfl (fs_none rfl) (fun w hF => r_nil_ptr rfl) ?_
          refine f_take (i := 6) (v := (.pointer (some ((adr al).add ((i).toNat * 6 + 5))))) #[true, true, true, true, true, true, true, false, false, false] r171 rfl (by kernel_rfl) (fun _ _ _ h => h) rfl (fs_none rfl) (fun w hF => r_field_e F.fo56_5 rfl) ?_
          refine f_take (i := 7) (v := (.bool s.played)) #[true, true, true, true, true, true, true, true, false, false] r171 rfl (by kernel_rfl) (fun _ _ _ h => h) rfl (fs_next rfl (fs_one k174 rfl)) (fun w hF => r_loadE1 F.one4 (fs_get (List.mem_cons_of_mem _ List.mem_cons_self) hF) rfl (sts_vs hs 5 _ rfl)) ?_
          refine f_take (i := 8) (v := (.agg #[(.int .u8 3), (.int .i64 s.tried), (.int .i64 0), (.int .i64 0), (.int .i64 0), (.bool s.played)])) #[true, true, true, true, true, true, true, true, true, false] r171 rfl (by kernel_rfl) (fun _ _ _ h => h) rfl (fs_none rfl) (fun w hF => r_build (pc rfl (pc rfl (pc rfl pn))) (by kernel_rfl)) ?_
          refine f_one (i := 9) #[true, true, true, true, true, true, true, true, true, true] rfl (by kernel_rfl) rfl ?_
          have k178 := h30.keep0 f150
          have k179 := k178.keep0 f170
          refine d_storeA (l := [(.int .u8 3), (.int .i64 s.tried), (.int .i64 0), (.int .i64 0), (.int .i64 0), (.bool s.played)]) F.sz56 rfl rfl (by simp [Value.oneCell']) k179 rfl ?_
          intro w175 f176 h177
          have z180 := f176.size
          have t181 := t173.step f176 (one_new (by omega))
          refine ⟨(pres_all (by kernel_rfl)), ?_⟩
          refine f_done (by kernel_rfl) ?_
          refine (x_then ?_)
          refine c_exit ?_
          refine (x_blk_hit (x_then ?_))
          refine c_seq ?_
          refine c_region ?_
          refine l_v (v := (.pointer (some ((adr al).add ((i).toNat * 6))))) (r_move rfl) ?_
          refine l_v (v := (.agg #[(.int .u8 3), (.int .i64 s.tried), (.int .i64 0), (.int .i64 0), (.int .i64 0), (.bool s.played)])) (r_loadA (l := [(.int .u8 3), (.int .i64 s.tried), (.int .i64 0), (.int .i64 0), (.int .i64 0), (.bool s.played)]) F.agg56 rfl h177 rfl) ?_
          refine l_v (v := (.pointer (some ((adr al).add ((i).toNat * 6))))) (r_nil_ptr rfl) ?_
          refine l_do rfl ?_
          have k185 := k18.keep0 f22
          have k186 := k185.keep f29 (ob_not1 (not_ob_old lt_h4 (by omega)))
          have k187 := k186.keep0 f150
          have k188 := k187.keep0 f170
          have k189 := k188.keep f176 (ob_not1 (not_ob_old lt_h4 (by omega)))
          refine d_storeES (l := [(.int .u8 3), (.int .i64 s.tried), (.int .i64 0), (.int .i64 0), (.int .i64 0), (.bool s.played)]) F.sz56 rfl rfl (by simp [Value.oneCell']) (by simp) k189 (by simp only [List.length_cons, List.length_nil]; omega) ?_
          intro w182 f183 h184
          have z190 := f183.size
          have t191 := t181.step f183 (ob_in (by intro x hx; simp [hx]))
          have e192 : spl (sts ss) ((i).toNat * 6) [(.int .u8 3), (.int .i64 s.tried), (.int .i64 0), (.int .i64 0), (.int .i64 0), (.bool s.played)] = sts (ss.set ((i).toNat) (⟨3, s.tried, 0, 0, 0, s.played⟩ : St)) := sts_set (⟨3, s.tried, 0, 0, 0, s.played⟩ : St) (get_lt hs)
          have h193 : Own w182 56 6 al ss.length cl (sts (ss.set ((i).toNat) (⟨3, s.tried, 0, 0, 0, s.played⟩ : St))) := by rw [← e192]; exact h184
          have hx194 : (ss.set ((i).toNat) (⟨3, s.tried, 0, 0, 0, s.played⟩ : St))[(i).toNat]? = some (⟨3, s.tried, 0, 0, 0, s.played⟩ : St) := set_get hs
          refine l_nil ?_
          refine (x_then ?_)
          refine c_seq ?_
          refine c_region ?_
          refine l_v (v := (.pointer (some ⟨b, 0, none⟩))) (r_move rfl) ?_
          refine l_do rfl ?_
          have k195 := k160.keep0 f170
          have k196 := k195.keep f176 (not_in1 (by omega))
          have k197 := k196.keep f183 n1
          have k198 := k165.keep0 f170
          have k199 := k198.keep f176 (ob_not1 (not_ob_old lt_h2 (by omega)))
          have k200 := k199.keep f183 n2
          have k201 := h3.keep0 f3
          have k202 := k201.keep0 f14
          have k203 := k202.keep0 f22
          have k204 := k203.keep f29 (ob_not1 (not_ob_old lt_h3 (by omega)))
          have k205 := k204.keep0 f150
          have k206 := k205.keep0 f170
          have k207 := k206.keep f176 (ob_not1 (not_ob_old lt_h3 (by omega)))
          have k208 := k207.keep f183 n3
          refine d_call (fl := []) (cl := []) (A := [(.pointer (some ⟨b, 0, none⟩))]) (B := [(.pointer (some ⟨b, 0, none⟩))]) F.ok85 rfl (ac rfl an) rfl (settle_c (b := b) (ss := (ss.set ((i).toNat) (⟨3, s.tried, 0, 0, 0, s.played⟩ : St))) (aj := aj) (js := js) (cj := cj) (L := L) (by rw [List.length_set]; exact k197) k200 k208 (by rw [List.length_set]; exact h193) (by rw [List.length_set]; exact hl) hm n1 n2 n3) ?_
          rintro _ w209 ⟨rfl, f210, h211, h212⟩
          have z213 := f210.size
          have t214 := t191.step f210 (ob_in (by intro x hx; simp [hx]))
          refine l_nil ?_
          refine (x_then ?_)
          refine c_seq ?_
          refine c_region ?_
          refine l_v (v := (.int .i64 0)) (r_assign rfl) ?_
          refine l_nil ?_
          refine (x_then ?_)
          refine c_ret ?_
          refine p_ret (v := (.int .i64 0)) (res1 rfl rfl) ?_
          have el : endsL (js.map JobP.m) ss i badge state number = settle (js.map JobP.m) (ss.set ((i).toNat) (⟨3, s.tried, 0, 0, 0, s.played⟩ : St)) := by rw [endsL_yes (by omega)]; congr 2; unfold endS; rw [getS_get hs]; (try rw [triesOf_get (jm_get hx)]); simp [*]
          exact ⟨(by congr 1; omega), t214, (by rw [el]; exact h211), (by rw [el]; exact h212)⟩
        ·
          refine c_skip ?_
          refine (x_then ?_)
          refine c_exit ?_
          refine (x_blk_hit (x_then ?_))
          refine c_seq ?_
          refine c_region ?_
          refine l_v (v := (.pointer (some ((adr al).add ((i).toNat * 6))))) (r_move rfl) ?_
          have k215 := h30.keep0 f150
          refine l_v (v := (.agg #[(.int .u8 state), (.int .i64 s.tried), (.int .i64 badge), (.int .i64 0), (.int .i64 number), (.bool s.played)])) (r_loadA (l := [(.int .u8 state), (.int .i64 s.tried), (.int .i64 badge), (.int .i64 0), (.int .i64 number), (.bool s.played)]) F.agg56 rfl k215 rfl) ?_
          refine l_v (v := (.pointer (some ((adr al).add ((i).toNat * 6))))) (r_nil_ptr rfl) ?_
          refine l_do rfl ?_
          have k219 := k18.keep0 f22
          have k220 := k219.keep f29 (ob_not1 (not_ob_old lt_h4 (by omega)))
          have k221 := k220.keep0 f150
          refine d_storeES (l := [(.int .u8 state), (.int .i64 s.tried), (.int .i64 badge), (.int .i64 0), (.int .i64 number), (.bool s.played)]) F.sz56 rfl rfl (by simp [Value.oneCell']) (by simp) k221 (by simp only [List.length_cons, List.length_nil]; omega) ?_
          intro w216 f217 h218
          have z222 := f217.size
          have t223 := t153.step f217 (ob_in (by intro x hx; simp [hx]))
          have e224 : spl (sts ss) ((i).toNat * 6) [(.int .u8 state), (.int .i64 s.tried), (.int .i64 badge), (.int .i64 0), (.int .i64 number), (.bool s.played)] = sts (ss.set ((i).toNat) (⟨state, s.tried, badge, 0, number, s.played⟩ : St)) := sts_set (⟨state, s.tried, badge, 0, number, s.played⟩ : St) (get_lt hs)
          have h225 : Own w216 56 6 al ss.length cl (sts (ss.set ((i).toNat) (⟨state, s.tried, badge, 0, number, s.played⟩ : St))) := by rw [← e224]; exact h218
          have hx226 : (ss.set ((i).toNat) (⟨state, s.tried, badge, 0, number, s.played⟩ : St))[(i).toNat]? = some (⟨state, s.tried, badge, 0, number, s.played⟩ : St) := set_get hs
          refine l_nil ?_
          refine (x_then ?_)
          refine c_seq ?_
          refine c_region ?_
          refine l_v (v := (.pointer (some ⟨b, 0, none⟩))) (r_move rfl) ?_
          refine l_do rfl ?_
          have k227 := k160.keep f217 n1
          have k228 := k165.keep f217 n2
          have k229 := h3.keep0 f3
          have k230 := k229.keep0 f14
          have k231 := k230.keep0 f22
          have k232 := k231.keep f29 (ob_not1 (not_ob_old lt_h3 (by omega)))
          have k233 := k232.keep0 f150
          have k234 := k233.keep f217 n3
          refine d_call (fl := []) (cl := []) (A := [(.pointer (some ⟨b, 0, none⟩))]) (B := [(.pointer (some ⟨b, 0, none⟩))]) F.ok85 rfl (ac rfl an) rfl (settle_c (b := b) (ss := (ss.set ((i).toNat) (⟨state, s.tried, badge, 0, number, s.played⟩ : St))) (aj := aj) (js := js) (cj := cj) (L := L) (by rw [List.length_set]; exact k227) k228 k234 (by rw [List.length_set]; exact h225) (by rw [List.length_set]; exact hl) hm n1 n2 n3) ?_
          rintro _ w235 ⟨rfl, f236, h237, h238⟩
          have z239 := f236.size
          have t240 := t223.step f236 (ob_in (by intro x hx; simp [hx]))
          refine l_nil ?_
          refine (x_then ?_)
          refine c_seq ?_
          refine c_region ?_
          refine l_v (v := (.int .i64 0)) (r_assign rfl) ?_
          refine l_nil ?_
          refine (x_then ?_)
          refine c_ret ?_
          refine p_ret (v := (.int .i64 0)) (res1 rfl rfl) ?_
          have el : endsL (js.map JobP.m) ss i badge state number = settle (js.map JobP.m) (ss.set ((i).toNat) (⟨state, s.tried, badge, 0, number, s.played⟩ : St)) := by rw [endsL_yes (by omega)]; congr 2; unfold endS; rw [getS_get hs]; (try rw [triesOf_get (jm_get hx)]); simp [*]
          exact ⟨(by congr 1; omega), t240, (by rw [el]; exact h237), (by rw [el]; exact h238)⟩
      ·
        refine c_skip ?_
        refine (x_then ?_)
        refine c_exit ?_
        refine (x_blk_miss rfl (x_blk_miss rfl (x_then_x (x_blk_hit (x_then ?_)))))
        refine c_seq ?_
        refine c_region ?_
        refine l_v (v := (.pointer (some ((adr al).add ((i).toNat * 6))))) (r_move rfl) ?_
        refine l_v (v := (.agg #[(.int .u8 state), (.int .i64 s.tried), (.int .i64 badge), (.int .i64 0), (.int .i64 number), (.bool s.played)])) (r_loadA (l := [(.int .u8 state), (.int .i64 s.tried), (.int .i64 badge), (.int .i64 0), (.int .i64 number), (.bool s.played)]) F.agg56 rfl h30 rfl) ?_
        refine l_v (v := (.pointer (some ((adr al).add ((i).toNat * 6))))) (r_nil_ptr rfl) ?_
        refine l_do rfl ?_
        have k244 := k18.keep0 f22
        have k245 := k244.keep f29 (ob_not1 (not_ob_old lt_h4 (by omega)))
        refine d_storeES (l := [(.int .u8 state), (.int .i64 s.tried), (.int .i64 badge), (.int .i64 0), (.int .i64 number), (.bool s.played)]) F.sz56 rfl rfl (by simp [Value.oneCell']) (by simp) k245 (by simp only [List.length_cons, List.length_nil]; omega) ?_
        intro w241 f242 h243
        have z246 := f242.size
        have t247 := t32.step f242 (ob_in (by intro x hx; simp [hx]))
        have e248 : spl (sts ss) ((i).toNat * 6) [(.int .u8 state), (.int .i64 s.tried), (.int .i64 badge), (.int .i64 0), (.int .i64 number), (.bool s.played)] = sts (ss.set ((i).toNat) (⟨state, s.tried, badge, 0, number, s.played⟩ : St)) := sts_set (⟨state, s.tried, badge, 0, number, s.played⟩ : St) (get_lt hs)
        have h249 : Own w241 56 6 al ss.length cl (sts (ss.set ((i).toNat) (⟨state, s.tried, badge, 0, number, s.played⟩ : St))) := by rw [← e248]; exact h243
        have hx250 : (ss.set ((i).toNat) (⟨state, s.tried, badge, 0, number, s.played⟩ : St))[(i).toNat]? = some (⟨state, s.tried, badge, 0, number, s.played⟩ : St) := set_get hs
        refine l_nil ?_
        refine (x_then ?_)
        refine c_seq ?_
        refine c_region ?_
        refine l_v (v := (.pointer (some ⟨b, 0, none⟩))) (r_move rfl) ?_
        refine l_do rfl ?_
        have k251 := k9.keep0 f14
        have k252 := k251.keep0 f22
        have k253 := k252.keep f29 (not_in1 (by omega))
        have k254 := k253.keep f242 n1
        have k255 := h2.keep0 f3
        have k256 := k255.keep0 f14
        have k257 := k256.keep0 f22
        have k258 := k257.keep f29 (ob_not1 (not_ob_old lt_h2 (by omega)))
        have k259 := k258.keep f242 n2
        have k260 := h3.keep0 f3
        have k261 := k260.keep0 f14
        have k262 := k261.keep0 f22
        have k263 := k262.keep f29 (ob_not1 (not_ob_old lt_h3 (by omega)))
        have k264 := k263.keep f242 n3
        refine d_call (fl := []) (cl := []) (A := [(.pointer (some ⟨b, 0, none⟩))]) (B := [(.pointer (some ⟨b, 0, none⟩))]) F.ok85 rfl (ac rfl an) rfl (settle_c (b := b) (ss := (ss.set ((i).toNat) (⟨state, s.tried, badge, 0, number, s.played⟩ : St))) (aj := aj) (js := js) (cj := cj) (L := L) (by rw [List.length_set]; exact k254) k259 k264 (by rw [List.length_set]; exact h249) (by rw [List.length_set]; exact hl) hm n1 n2 n3) ?_
        rintro _ w265 ⟨rfl, f266, h267, h268⟩
        have z269 := f266.size
        have t270 := t247.step f266 (ob_in (by intro x hx; simp [hx]))
        refine l_nil ?_
        refine (x_then ?_)
        refine c_seq ?_
        refine c_region ?_
        refine l_v (v := (.int .i64 0)) (r_assign rfl) ?_
        refine l_nil ?_
        refine (x_then ?_)
        refine c_ret ?_
        refine p_ret (v := (.int .i64 0)) (res1 rfl rfl) ?_
        have el : endsL (js.map JobP.m) ss i badge state number = settle (js.map JobP.m) (ss.set ((i).toNat) (⟨state, s.tried, badge, 0, number, s.played⟩ : St)) := by rw [endsL_yes (by omega)]; congr 2; unfold endS; rw [getS_get hs]; (try rw [triesOf_get (jm_get hx)]); simp [*]
        exact ⟨(by congr 1; omega), t270, (by rw [el]; exact h267), (by rw [el]; exact h268)⟩

set_option maxHeartbeats 400000 in
set_option maxRecDepth 100000 in
theorem end_c {w : World} {b cj cl : Nat} {aj al : Option Addr} {js : List JobP} {L : List Nat} {ss : List St} {i badge number : Int} (h1 : At w b (.cells #[(.slice aj js.length cj), (.slice al ss.length cl)] 142 (0, 0))) (h2 : Ro w aj js.length cj (jbs js)) (h3 : JNds w L js) (h4 : Own w 56 6 al ss.length cl (sts ss)) (hl : js.length = ss.length) (hm : mayB (js.map JobP.m) = true) (n1 : b ∉ ob al) (n2 : ∀ x ∈ ob aj, x ∉ ob al) (n3 : ∀ x ∈ L, x ∉ ob al) :
    Calls Proofs.Try.prog 30 #[(.pointer (some ⟨b, 0, none⟩)), (.int .i64 i), (.int .i64 badge), (.int .i64 number)] w (Ret fun v w' => v = (.int .i64 (endC ss i badge number)) ∧ Fr (ob al) w w' ∧ At w' b (.cells #[(.slice aj js.length cj), (.slice al ((endL (js.map JobP.m) ss i badge number).length) cl)] 142 (0, 0)) ∧ Own w' 56 6 al ((endL (js.map JobP.m) ss i badge number).length) cl (sts (endL (js.map JobP.m) ss i badge number))) := by
  have lt_h1 := h1.lt
  have lt_h2 := h2.lt
  have lt_h3 := h3.lt
  have lt_h4 := h4.lt
  have n1 := ob_ne' h4.tag h1 rfl
  have t0 : Fr (ob al) w w := Fr.refl _ _
  refine enter Proofs.Try.func30 rfl Proofs.Try.ntmps30 (Nat.le_of_ble_eq_true rfl) ?_
  refine c_seq ?_
  refine c_region ?_
  refine l_v (v := (.int .i64 0)) (r_assign rfl) ?_
  refine l_nil ?_
  refine (x_then ?_)
  refine c_seq ?_
  refine c_seq ?_
  refine c_region ?_
  refine l_v (v := (.pointer (some ⟨b, 0, none⟩))) (r_move rfl) ?_
  refine l_v (v := (.int .i64 i)) (r_move rfl) ?_
  refine l_do rfl ?_
  refine d_call (fl := []) (cl := []) (A := [(.pointer (some ⟨b, 0, none⟩)), (.int .i64 i)]) (B := [(.pointer (some ⟨b, 0, none⟩)), (.int .i64 i)]) F.ok91 rfl (ac rfl (ac rfl an)) rfl (there_c (b := b) (i := i) (aj := aj) (js := js) (cj := cj) (al := al) (ss := ss) (cl := cl) h1) ?_
  rintro _ w2 ⟨rfl, f3⟩
  have z4 := f3.size
  have t5 := t0.trans0 f3
  have hsp := there_spec ss i
  refine l_v (v := (.int .i64 (thereC ss i))) (r_assign rfl) ?_
  refine l_nil ?_
  refine (x_then ?_)
  refine c_seq ?_
  refine c_region ?_
  refine l_v (v := (.int .i64 (thereC ss i))) (r_move rfl) ?_
  refine l_v (v := (.bool (decide ((thereC ss i) ≠ 0)))) (r_neq rfl rfl) ?_
  refine l_nil ?_
  refine (x_then ?_)
  refine c_if (p := (thereC ss i) ≠ 0) rfl (fun c6 => ?_) (fun c6 => ?_)
  ·
    refine c_seq ?_
    refine c_region ?_
    refine l_v (v := (.int .i64 (thereC ss i))) (r_move rfl) ?_
    refine l_v (v := (.int .i64 (thereC ss i))) (r_assign rfl) ?_
    refine l_nil ?_
    refine (x_then ?_)
    refine c_ret ?_
    refine (x_then_r ?_)
    refine p_ret (v := (.int .i64 (thereC ss i))) (res1 rfl rfl) ?_
    have hsp2 := runs_spec ss i badge
    have ec : endC ss i badge number = (thereC ss i) := by unfold endC; (repeat' split) <;> omega
    have el : endL (js.map JobP.m) ss i badge number = ss := by unfold endL; rw [if_neg (by rw [ec]; omega)]
    have k7 := h1.keep0 f3
    have k8 := h4.keep0 f3
    exact ⟨(by rw [ec]), t5, (by rw [el]; exact k7), (by rw [el]; exact k8)⟩
  ·
    refine c_skip ?_
    refine (x_then ?_)
    refine c_seq ?_
    refine c_block ?_
    refine c_seq ?_
    refine c_region ?_
    refine l_v (v := (.int .i64 number)) (r_move rfl) ?_
    refine l_v (v := (.bool (decide (number < 0)))) (r_lss rfl rfl) ?_
    refine l_v (v := (.bool (decide (number < 0)))) (r_move rfl) ?_
    refine l_em (p := number < 0) ?_ ?_
    · intro c9
      refine l_skip (wanted_not rfl rfl (bd rfl c9) (by decide)) ?_
      refine l_skip (wanted_not rfl rfl (bd rfl c9) (by decide)) ?_
      refine l_v (v := (.bool true)) (r_pick_t (bd rfl c9) rfl) ?_
      refine l_v (v := (.bool true)) (r_assign rfl) ?_
      refine l_nil ?_
      refine (x_then ?_)
      refine c_true rfl ?_
      refine c_seq ?_
      refine c_region ?_
      refine l_v (v := (.int .i64 1)) (r_assign rfl) ?_
      refine l_nil ?_
      refine (x_then ?_)
      refine c_ret ?_
      refine (x_blk_r (x_then_r ?_))
      refine p_ret (v := (.int .i64 1)) (res1 rfl rfl) ?_
      have hsp2 := runs_spec ss i badge
      have ec : endC ss i badge number = 1 := by unfold endC; (repeat' split) <;> omega
      have el : endL (js.map JobP.m) ss i badge number = ss := by unfold endL; rw [if_neg (by rw [ec]; omega)]
      have k10 := h1.keep0 f3
      have k11 := h4.keep0 f3
      exact ⟨(by rw [ec]), t5, (by rw [el]; exact k10), (by rw [el]; exact k11)⟩
    · intro c9
      refine l_gv (v := (.int .i64 number)) (wanted_run rfl rfl (bn rfl c9)) (r_move rfl) ?_
      refine l_gv (v := (.bool (decide (999 < number)))) (wanted_run rfl rfl (bn rfl c9)) (r_gtr rfl rfl) ?_
      refine l_v (v := (.bool (decide (999 < number)))) (r_pick_f (bn rfl c9) rfl) ?_
      refine l_v (v := (.bool (decide (999 < number)))) (r_assign rfl) ?_
      refine l_nil ?_
      refine (x_then ?_)
      refine c_if (p := 999 < number) rfl (fun c12 => ?_) (fun c12 => ?_)
      ·
        refine c_seq ?_
        refine c_region ?_
        refine l_v (v := (.int .i64 1)) (r_assign rfl) ?_
        refine l_nil ?_
        refine (x_then ?_)
        refine c_ret ?_
        refine (x_blk_r (x_then_r ?_))
        refine p_ret (v := (.int .i64 1)) (res1 rfl rfl) ?_
        have hsp2 := runs_spec ss i badge
        have ec : endC ss i badge number = 1 := by unfold endC; (repeat' split) <;> omega
        have el : endL (js.map JobP.m) ss i badge number = ss := by unfold endL; rw [if_neg (by rw [ec]; omega)]
        have k13 := h1.keep0 f3
        have k14 := h4.keep0 f3
        exact ⟨(by rw [ec]), t5, (by rw [el]; exact k13), (by rw [el]; exact k14)⟩
      ·
        refine c_seq ?_
        refine c_region ?_
        refine l_v (v := (.int .i64 number)) (r_move rfl) ?_
        refine l_v (v := (.bool (decide (number = 0)))) (r_eql rfl rfl) ?_
        refine l_v (v := (.bool (decide (number = 0)))) (r_assign rfl) ?_
        refine l_nil ?_
        refine (x_then ?_)
        refine c_if (p := number = 0) rfl (fun c15 => ?_) (fun c15 => ?_)
        ·
          refine c_seq ?_
          refine c_region ?_
          refine l_v (v := (.pointer (some ⟨b, 0, none⟩))) (r_move rfl) ?_
          refine l_v (v := (.int .i64 i)) (r_move rfl) ?_
          refine l_v (v := (.int .i64 badge)) (r_move rfl) ?_
          refine l_do rfl ?_
          have k16 := h1.keep0 f3
          have k17 := h2.keep0 f3
          have k18 := h3.keep0 f3
          have k19 := h4.keep0 f3
          refine d_call (fl := []) (cl := []) (A := [(.pointer (some ⟨b, 0, none⟩)), (.int .i64 i), (.int .i64 badge), (.int .u8 5), (.int .i64 0)]) (B := [(.pointer (some ⟨b, 0, none⟩)), (.int .i64 i), (.int .i64 badge), (.int .u8 5), (.int .i64 0)]) F.ok92 rfl (ac rfl (ac rfl (ac rfl (ac rfl (ac rfl an))))) rfl (ends_c (b := b) (i := i) (badge := badge) (state := 5) (number := 0) (aj := aj) (js := js) (cj := cj) (al := al) (ss := ss) (cl := cl) (L := L) k16 k17 k18 k19 (by omega) (by omega) n1 n2 n3) ?_
          rintro _ w20 ⟨rfl, f21, h22, h23⟩
          have z24 := f21.size
          have t25 := t5.step f21 (ob_in (by intro x hx; simp [hx]))
          refine l_v (v := (.int .i64 (runsC ss i badge))) (r_assign rfl) ?_
          refine l_nil ?_
          refine (x_then ?_)
          refine c_ret ?_
          refine (x_blk_r (x_then_r ?_))
          refine p_ret (v := (.int .i64 (runsC ss i badge))) (res1 rfl rfl) ?_
          have hsp2 := runs_spec ss i badge
          have ec : endC ss i badge number = (runsC ss i badge) := by unfold endC; (repeat' split) <;> omega
          have el : endL (js.map JobP.m) ss i badge number = (endsL (js.map JobP.m) ss i badge 5 0) := by
            unfold endL; rw [ec]
            by_cases h0 : runsC ss i badge = 0
            · rw [if_pos h0]; congr 1; rw [if_pos (by omega)]
            · rw [if_neg h0, endsL_no h0]
          exact ⟨(by rw [ec]), t25, (by rw [el]; exact h22), (by rw [el]; exact h23)⟩
        ·
          refine c_skip ?_
          refine (x_blk (x_then ?_))
          refine c_seq ?_
          refine c_region ?_
          refine l_v (v := (.pointer (some ⟨b, 0, none⟩))) (r_move rfl) ?_
          refine l_v (v := (.int .i64 i)) (r_move rfl) ?_
          refine l_v (v := (.int .i64 badge)) (r_move rfl) ?_
          refine l_v (v := (.int .i64 number)) (r_move rfl) ?_
          refine l_do rfl ?_
          have k26 := h1.keep0 f3
          have k27 := h2.keep0 f3
          have k28 := h3.keep0 f3
          have k29 := h4.keep0 f3
          refine d_call (fl := []) (cl := []) (A := [(.pointer (some ⟨b, 0, none⟩)), (.int .i64 i), (.int .i64 badge), (.int .u8 6), (.int .i64 number)]) (B := [(.pointer (some ⟨b, 0, none⟩)), (.int .i64 i), (.int .i64 badge), (.int .u8 6), (.int .i64 number)]) F.ok92 rfl (ac rfl (ac rfl (ac rfl (ac rfl (ac rfl an))))) rfl (ends_c (b := b) (i := i) (badge := badge) (state := 6) (number := number) (aj := aj) (js := js) (cj := cj) (al := al) (ss := ss) (cl := cl) (L := L) k26 k27 k28 k29 (by omega) (by omega) n1 n2 n3) ?_
          rintro _ w30 ⟨rfl, f31, h32, h33⟩
          have z34 := f31.size
          have t35 := t5.step f31 (ob_in (by intro x hx; simp [hx]))
          refine l_v (v := (.int .i64 (runsC ss i badge))) (r_assign rfl) ?_
          refine l_nil ?_
          refine (x_then ?_)
          refine c_ret ?_
          refine p_ret (v := (.int .i64 (runsC ss i badge))) (res1 rfl rfl) ?_
          have hsp2 := runs_spec ss i badge
          have ec : endC ss i badge number = (runsC ss i badge) := by unfold endC; (repeat' split) <;> omega
          have el : endL (js.map JobP.m) ss i badge number = (endsL (js.map JobP.m) ss i badge 6 number) := by
            unfold endL; rw [ec]
            by_cases h0 : runsC ss i badge = 0
            · rw [if_pos h0]; congr 1; rw [if_neg (by omega)]
            · rw [if_neg h0, endsL_no h0]
          exact ⟨(by rw [ec]), t35, (by rw [el]; exact h32), (by rw [el]; exact h33)⟩

set_option maxHeartbeats 400000 in
set_option maxRecDepth 100000 in
theorem lose_c {w : World} {b cj cl : Nat} {aj al : Option Addr} {js : List JobP} {L : List Nat} {ss : List St} {i badge : Int} (h1 : At w b (.cells #[(.slice aj js.length cj), (.slice al ss.length cl)] 142 (0, 0))) (h2 : Ro w aj js.length cj (jbs js)) (h3 : JNds w L js) (h4 : Own w 56 6 al ss.length cl (sts ss)) (hl : js.length = ss.length) (hm : mayB (js.map JobP.m) = true) (n1 : b ∉ ob al) (n2 : ∀ x ∈ ob aj, x ∉ ob al) (n3 : ∀ x ∈ L, x ∉ ob al) :
    Calls Proofs.Try.prog 82 #[(.pointer (some ⟨b, 0, none⟩)), (.int .i64 i), (.int .i64 badge)] w (Ret fun v w' => v = (.int .i64 (runsC ss i badge)) ∧ Fr (ob al) w w' ∧ At w' b (.cells #[(.slice aj js.length cj), (.slice al ((endsL (js.map JobP.m) ss i badge 7 0).length) cl)] 142 (0, 0)) ∧ Own w' 56 6 al ((endsL (js.map JobP.m) ss i badge 7 0).length) cl (sts (endsL (js.map JobP.m) ss i badge 7 0))) := by
  have lt_h1 := h1.lt
  have lt_h2 := h2.lt
  have lt_h3 := h3.lt
  have lt_h4 := h4.lt
  have n1 := ob_ne' h4.tag h1 rfl
  have t0 : Fr (ob al) w w := Fr.refl _ _
  refine enter Proofs.Try.func82 rfl Proofs.Try.ntmps82 (Nat.le_of_ble_eq_true rfl) ?_
  refine c_seq ?_
  refine c_region ?_
  refine l_v (v := (.int .i64 0)) (r_assign rfl) ?_
  refine l_nil ?_
  refine (x_then ?_)
  refine c_seq ?_
  refine c_region ?_
  refine l_v (v := (.pointer (some ⟨b, 0, none⟩))) (r_move rfl) ?_
  refine l_v (v := (.int .i64 i)) (r_move rfl) ?_
  refine l_v (v := (.int .i64 badge)) (r_move rfl) ?_
  refine l_do rfl ?_
  refine d_call (fl := []) (cl := []) (A := [(.pointer (some ⟨b, 0, none⟩)), (.int .i64 i), (.int .i64 badge), (.int .u8 7), (.int .i64 0)]) (B := [(.pointer (some ⟨b, 0, none⟩)), (.int .i64 i), (.int .i64 badge), (.int .u8 7), (.int .i64 0)]) F.ok92 rfl (ac rfl (ac rfl (ac rfl (ac rfl (ac rfl an))))) rfl (ends_c (b := b) (i := i) (badge := badge) (state := 7) (number := 0) (aj := aj) (js := js) (cj := cj) (al := al) (ss := ss) (cl := cl) (L := L) h1 h2 h3 h4 (by omega) (by omega) n1 n2 n3) ?_
  rintro _ w2 ⟨rfl, f3, h4, h5⟩
  have z6 := f3.size
  have t7 := t0.step f3 (ob_in (by intro x hx; simp [hx]))
  refine l_v (v := (.int .i64 (runsC ss i badge))) (r_assign rfl) ?_
  refine l_nil ?_
  refine (x_then ?_)
  refine c_ret ?_
  refine p_ret (v := (.int .i64 (runsC ss i badge))) (res1 rfl rfl) ?_
  exact ⟨rfl, t7, h4, h5⟩

set_option maxHeartbeats 400000 in
set_option maxRecDepth 100000 in
theorem stop_c {w : World} {b cj cl : Nat} {aj al : Option Addr} {js : List JobP} {L : List Nat} {ss : List St} {i badge : Int} (h1 : At w b (.cells #[(.slice aj js.length cj), (.slice al ss.length cl)] 142 (0, 0))) (h2 : Ro w aj js.length cj (jbs js)) (h3 : JNds w L js) (h4 : Own w 56 6 al ss.length cl (sts ss)) (hl : js.length = ss.length) (hm : mayB (js.map JobP.m) = true) (n1 : b ∉ ob al) (n2 : ∀ x ∈ ob aj, x ∉ ob al) (n3 : ∀ x ∈ L, x ∉ ob al) :
    Calls Proofs.Try.prog 87 #[(.pointer (some ⟨b, 0, none⟩)), (.int .i64 i), (.int .i64 badge)] w (Ret fun v w' => v = (.int .i64 (runsC ss i badge)) ∧ Fr (ob al) w w' ∧ At w' b (.cells #[(.slice aj js.length cj), (.slice al ((endsL (js.map JobP.m) ss i badge 8 0).length) cl)] 142 (0, 0)) ∧ Own w' 56 6 al ((endsL (js.map JobP.m) ss i badge 8 0).length) cl (sts (endsL (js.map JobP.m) ss i badge 8 0))) := by
  have lt_h1 := h1.lt
  have lt_h2 := h2.lt
  have lt_h3 := h3.lt
  have lt_h4 := h4.lt
  have n1 := ob_ne' h4.tag h1 rfl
  have t0 : Fr (ob al) w w := Fr.refl _ _
  refine enter Proofs.Try.func87 rfl Proofs.Try.ntmps87 (Nat.le_of_ble_eq_true rfl) ?_
  refine c_seq ?_
  refine c_region ?_
  refine l_v (v := (.int .i64 0)) (r_assign rfl) ?_
  refine l_nil ?_
  refine (x_then ?_)
  refine c_seq ?_
  refine c_region ?_
  refine l_v (v := (.pointer (some ⟨b, 0, none⟩))) (r_move rfl) ?_
  refine l_v (v := (.int .i64 i)) (r_move rfl) ?_
  refine l_v (v := (.int .i64 badge)) (r_move rfl) ?_
  refine l_do rfl ?_
  refine d_call (fl := []) (cl := []) (A := [(.pointer (some ⟨b, 0, none⟩)), (.int .i64 i), (.int .i64 badge), (.int .u8 8), (.int .i64 0)]) (B := [(.pointer (some ⟨b, 0, none⟩)), (.int .i64 i), (.int .i64 badge), (.int .u8 8), (.int .i64 0)]) F.ok92 rfl (ac rfl (ac rfl (ac rfl (ac rfl (ac rfl an))))) rfl (ends_c (b := b) (i := i) (badge := badge) (state := 8) (number := 0) (aj := aj) (js := js) (cj := cj) (al := al) (ss := ss) (cl := cl) (L := L) h1 h2 h3 h4 (by omega) (by omega) n1 n2 n3) ?_
  rintro _ w2 ⟨rfl, f3, h4, h5⟩
  have z6 := f3.size
  have t7 := t0.step f3 (ob_in (by intro x hx; simp [hx]))
  refine l_v (v := (.int .i64 (runsC ss i badge))) (r_assign rfl) ?_
  refine l_nil ?_
  refine (x_then ?_)
  refine c_ret ?_
  refine p_ret (v := (.int .i64 (runsC ss i badge))) (res1 rfl rfl) ?_
  exact ⟨rfl, t7, h4, h5⟩

set_option maxHeartbeats 400000 in
set_option maxRecDepth 100000 in
theorem full_c {w : World} {b cj cl : Nat} {aj al : Option Addr} {js : List JobP} {L : List Nat} {ss : List St} {i badge : Int} (h1 : At w b (.cells #[(.slice aj js.length cj), (.slice al ss.length cl)] 142 (0, 0))) (h2 : Ro w aj js.length cj (jbs js)) (h3 : JNds w L js) (h4 : Own w 56 6 al ss.length cl (sts ss)) (hl : js.length = ss.length) (hm : mayB (js.map JobP.m) = true) (n1 : b ∉ ob al) (n2 : ∀ x ∈ ob aj, x ∉ ob al) (n3 : ∀ x ∈ L, x ∉ ob al) :
    Calls Proofs.Try.prog 88 #[(.pointer (some ⟨b, 0, none⟩)), (.int .i64 i), (.int .i64 badge)] w (Ret fun v w' => v = (.int .i64 (runsC ss i badge)) ∧ Fr (ob al) w w' ∧ At w' b (.cells #[(.slice aj js.length cj), (.slice al ((endsL (js.map JobP.m) ss i badge 11 0).length) cl)] 142 (0, 0)) ∧ Own w' 56 6 al ((endsL (js.map JobP.m) ss i badge 11 0).length) cl (sts (endsL (js.map JobP.m) ss i badge 11 0))) := by
  have lt_h1 := h1.lt
  have lt_h2 := h2.lt
  have lt_h3 := h3.lt
  have lt_h4 := h4.lt
  have n1 := ob_ne' h4.tag h1 rfl
  have t0 : Fr (ob al) w w := Fr.refl _ _
  refine enter Proofs.Try.func88 rfl Proofs.Try.ntmps88 (Nat.le_of_ble_eq_true rfl) ?_
  refine c_seq ?_
  refine c_region ?_
  refine l_v (v := (.int .i64 0)) (r_assign rfl) ?_
  refine l_nil ?_
  refine (x_then ?_)
  refine c_seq ?_
  refine c_region ?_
  refine l_v (v := (.pointer (some ⟨b, 0, none⟩))) (r_move rfl) ?_
  refine l_v (v := (.int .i64 i)) (r_move rfl) ?_
  refine l_v (v := (.int .i64 badge)) (r_move rfl) ?_
  refine l_do rfl ?_
  refine d_call (fl := []) (cl := []) (A := [(.pointer (some ⟨b, 0, none⟩)), (.int .i64 i), (.int .i64 badge), (.int .u8 11), (.int .i64 0)]) (B := [(.pointer (some ⟨b, 0, none⟩)), (.int .i64 i), (.int .i64 badge), (.int .u8 11), (.int .i64 0)]) F.ok92 rfl (ac rfl (ac rfl (ac rfl (ac rfl (ac rfl an))))) rfl (ends_c (b := b) (i := i) (badge := badge) (state := 11) (number := 0) (aj := aj) (js := js) (cj := cj) (al := al) (ss := ss) (cl := cl) (L := L) h1 h2 h3 h4 (by omega) (by omega) n1 n2 n3) ?_
  rintro _ w2 ⟨rfl, f3, h4, h5⟩
  have z6 := f3.size
  have t7 := t0.step f3 (ob_in (by intro x hx; simp [hx]))
  refine l_v (v := (.int .i64 (runsC ss i badge))) (r_assign rfl) ?_
  refine l_nil ?_
  refine (x_then ?_)
  refine c_ret ?_
  refine p_ret (v := (.int .i64 (runsC ss i badge))) (res1 rfl rfl) ?_
  exact ⟨rfl, t7, h4, h5⟩

set_option maxHeartbeats 400000 in
set_option maxRecDepth 100000 in
theorem cancel_c {w : World} {b cj cl : Nat} {aj al : Option Addr} {js : List JobP} {L : List Nat} {ss : List St} {i : Int} (h1 : At w b (.cells #[(.slice aj js.length cj), (.slice al ss.length cl)] 142 (0, 0))) (h2 : Ro w aj js.length cj (jbs js)) (h3 : JNds w L js) (h4 : Own w 56 6 al ss.length cl (sts ss)) (hl : js.length = ss.length) (hm : mayB (js.map JobP.m) = true) (n1 : b ∉ ob al) (n2 : ∀ x ∈ ob aj, x ∉ ob al) (n3 : ∀ x ∈ L, x ∉ ob al) :
    Calls Proofs.Try.prog 47 #[(.pointer (some ⟨b, 0, none⟩)), (.int .i64 i)] w (Ret fun v w' => v = (.int .i64 (cancelC ss i)) ∧ Fr (ob al) w w' ∧ At w' b (.cells #[(.slice aj js.length cj), (.slice al ((cancelL (js.map JobP.m) ss i).length) cl)] 142 (0, 0)) ∧ Own w' 56 6 al ((cancelL (js.map JobP.m) ss i).length) cl (sts (cancelL (js.map JobP.m) ss i))) := by
  have lt_h1 := h1.lt
  have lt_h2 := h2.lt
  have lt_h3 := h3.lt
  have lt_h4 := h4.lt
  have n1 := ob_ne' h4.tag h1 rfl
  have t0 : Fr (ob al) w w := Fr.refl _ _
  refine enter Proofs.Try.func47 rfl Proofs.Try.ntmps47 (Nat.le_of_ble_eq_true rfl) ?_
  refine c_seq ?_
  refine c_region ?_
  refine l_v (v := (.int .i64 0)) (r_assign rfl) ?_
  refine l_nil ?_
  refine (x_then ?_)
  refine c_seq ?_
  refine c_seq ?_
  refine c_region ?_
  refine l_v (v := (.pointer (some ⟨b, 0, none⟩))) (r_move rfl) ?_
  refine l_v (v := (.int .i64 i)) (r_move rfl) ?_
  refine l_do rfl ?_
  refine d_call (fl := []) (cl := []) (A := [(.pointer (some ⟨b, 0, none⟩)), (.int .i64 i)]) (B := [(.pointer (some ⟨b, 0, none⟩)), (.int .i64 i)]) F.ok91 rfl (ac rfl (ac rfl an)) rfl (there_c (b := b) (i := i) (aj := aj) (js := js) (cj := cj) (al := al) (ss := ss) (cl := cl) h1) ?_
  rintro _ w2 ⟨rfl, f3⟩
  have z4 := f3.size
  have t5 := t0.trans0 f3
  have hsp := there_spec ss i
  refine l_v (v := (.int .i64 (thereC ss i))) (r_assign rfl) ?_
  refine l_nil ?_
  refine (x_then ?_)
  refine c_seq ?_
  refine c_region ?_
  refine l_v (v := (.int .i64 (thereC ss i))) (r_move rfl) ?_
  refine l_v (v := (.bool (decide ((thereC ss i) ≠ 0)))) (r_neq rfl rfl) ?_
  refine l_nil ?_
  refine (x_then ?_)
  refine c_if (p := (thereC ss i) ≠ 0) rfl (fun c6 => ?_) (fun c6 => ?_)
  ·
    refine c_seq ?_
    refine c_region ?_
    refine l_v (v := (.int .i64 (thereC ss i))) (r_move rfl) ?_
    refine l_v (v := (.int .i64 (thereC ss i))) (r_assign rfl) ?_
    refine l_nil ?_
    refine (x_then ?_)
    refine c_ret ?_
    refine (x_then_r ?_)
    refine p_ret (v := (.int .i64 (thereC ss i))) (res1 rfl rfl) ?_
    have ec : cancelC ss i = (thereC ss i) := by unfold cancelC; (try rw [getS_get hs]); (repeat' split) <;> (first | omega | simp_all)
    have el : cancelL (js.map JobP.m) ss i = ss := by unfold cancelL; rw [if_neg (by rw [ec]; (first | decide | omega))]
    have k7 := h1.keep0 f3
    have k8 := h4.keep0 f3
    exact ⟨(by rw [ec]), t5, (by rw [el]; exact k7), (by rw [el]; exact k8)⟩
  ·
    refine c_skip ?_
    refine (x_then ?_)
    refine c_seq ?_
    refine c_region ?_
    refine l_v (v := (.pointer (some ⟨b, 0, none⟩))) (r_move rfl) ?_
    refine l_v (v := (.pointer (some ⟨b, 0, none⟩))) (r_nil_ptr rfl) ?_
    refine l_v (v := (.pointer (some ⟨b, 1, none⟩))) (r_field_l F.fo142_1 rfl rfl) ?_
    have k9 := h1.keep0 f3
    refine l_v (v := (.slice al ss.length cl)) (r_load1 F.one49 rfl (At.cell k9 rfl)) ?_
    refine l_v (v := (.int .i64 i)) (r_move rfl) ?_
    have k10 := h4.keep0 f3
    have ha11 : ∃ ad, al = some ad := k10.sl.some (by rw [sts_len]; have := ((by first | omega | (simp only [settleTo_len, settle_len, startL_len, endsL_len, endL_len, cancelL_len, playL_len, newL_len, List.length_map, List.length_set, List.length_replicate, doL_len]; omega)) : (i).toNat < (ss).length); omega)
    obtain ⟨s, hs⟩ := get_some (l := ss) (k := (i).toNat) (by first | omega | (simp only [settleTo_len, settle_len, startL_len, endsL_len, endL_len, cancelL_len, playL_len, newL_len, List.length_map, List.length_set, List.length_replicate, doL_len]; omega))
    refine l_v (v := (.pointer (some ((adr al).add ((i).toNat * 6))))) (r_indexAddr F.sle49 rfl rfl ha11 (by omega) (by have := get_lt hs; (try simp only [settleTo_len, settle_len, startL_len, endsL_len, endL_len, cancelL_len, playL_len, newL_len, List.length_map, List.length_set, List.length_replicate, doL_len] at this); omega) (by first | rfl | simp | omega)) ?_
    refine l_v (v := (.pointer (some ((adr al).add ((i).toNat * 6))))) (r_assign rfl) ?_
    refine l_nil ?_
    refine (x_then ?_)
    refine c_seq ?_
    refine c_seq ?_
    refine c_region ?_
    refine l_v (v := (.pointer (some ((adr al).add ((i).toNat * 6))))) (r_move rfl) ?_
    refine l_v (v := (.pointer (some ((adr al).add ((i).toNat * 6))))) (r_nil_ptr rfl) ?_
    refine l_v (v := (.pointer (some ((adr al).add ((i).toNat * 6))))) (r_field_e0 F.fo56_0 rfl) ?_
    have s12 := k10.sl
    refine l_v (v := (.int .u8 s.state)) (r_loadE1 F.one5 s12 rfl (sts_vs hs 0 _ rfl)) ?_
    refine l_do rfl ?_
    refine d_call (fl := []) (cl := []) (A := [(.int .u8 s.state)]) (B := [(.int .u8 s.state)]) F.ok27 rfl (ac rfl an) rfl (ended_c (s := s.state) ) ?_
    rintro _ w13 ⟨rfl, f14⟩
    have z15 := f14.size
    have t16 := t5.trans0 f14
    refine l_nil ?_
    refine (x_then ?_)
    refine c_split (t := (endd s.state)) rfl (fun c17 => ?_) (fun c17 => ?_)
    ·
      refine c_seq ?_
      refine c_region ?_
      refine l_v (v := (.int .i64 50)) (r_assign rfl) ?_
      refine l_nil ?_
      refine (x_then ?_)
      refine c_ret ?_
      refine (x_then_r ?_)
      refine p_ret (v := (.int .i64 50)) (res1 rfl rfl) ?_
      have ec : cancelC ss i = 50 := by unfold cancelC; (try rw [getS_get hs]); (repeat' split) <;> (first | omega | simp_all)
      have el : cancelL (js.map JobP.m) ss i = ss := by unfold cancelL; rw [if_neg (by rw [ec]; (first | decide | omega))]
      have k18 := k9.keep0 f14
      have k19 := k10.keep0 f14
      exact ⟨(by rw [ec]), t16, (by rw [el]; exact k18), (by rw [el]; exact k19)⟩
    ·
      refine c_skip ?_
      refine (x_then ?_)
      refine c_seq ?_
      refine f_start (masks := [0, 0, 2, 6, 14, 0, 32, 96, 224, 510, 1023, 2047]) (F := Fs [(4, fun w => Sl w al (sts ss)), (8, fun w => Sl w al (sts ss))]) #[false, false, false, false, false, false, false, false, false, false, false, false] F.mixed rfl rfl (by kernel_rfl) ?_
      intro w21 f22 r23
      have z24 := f22.size
      have t25 := t16.trans0 f22
      refine f_take (i := 0) (v := (.pointer (some ((adr al).add ((i).toNat * 6))))) #[true, false, false, false, false, false, false, false, false, false, false, false] r23 rfl (by kernel_rfl) (fun _ _ _ h => h) rfl (fs_none rfl) (fun w hF => r_move rfl) ?_
      refine f_take (i := 1) (v := (.pointer (some ((adr al).add ((i).toNat * 6))))) #[true, true, false, false, false, false, false, false, false, false, false, false] r23 rfl (by kernel_rfl) (fun _ _ _ h => h) rfl (fs_none rfl) (fun w hF => r_move rfl) ?_
      refine f_take (i := 2) (v := (.pointer (some ((adr al).add ((i).toNat * 6))))) #[true, true, true, false, false, false, false, false, false, false, false, false] r23 rfl (by kernel_rfl) (fun _ _ _ h => h) rfl (fs_none rfl) (fun w hF => r_nil_ptr rfl) ?_
      refine f_take (i := 3) (v := (.pointer (some ((adr al).add ((i).toNat * 6 + 1))))) #[true, true, true, true, false, false, false, false, false, false, false, false] r23 rfl (by kernel_rfl) (fun _ _ _ h => h) rfl (fs_none rfl) (fun w hF => r_field_e F.fo56_1 rfl) ?_
      have k26 := s12.keep0 f14
      have k27 := k26.keep0 f22
      refine f_take (i := 4) (v := (.int .i64 s.tried)) #[true, true, true, true, true, false, false, false, false, false, false, false] r23 rfl (by kernel_rfl) (fun _ _ _ h => h) rfl (fs_one k27 rfl) (fun w hF => r_loadE1 F.one3 (fs_get List.mem_cons_self hF) rfl (sts_vs hs 1 _ rfl)) ?_
      refine f_take (i := 5) (v := (.pointer (some ((adr al).add ((i).toNat * 6))))) #[true, true, true, true, true, true, false, false, false, false, false, false] r23 rfl (by kernel_rfl) (fun _ _ _ h => h) rfl (fs_none rfl) (fun w hF => r_move rfl) ?_
      refine f_take (i := 6) (v := (.pointer (some ((adr al).add ((i).toNat * 6))))) #[true, true, true, true, true, true, true, false, false, false, false, false] r23 rfl (by kernel_rfl) (fun _ _ _ h => h) rfl (fs_none rfl) (fun w hF => r_nil_ptr rfl) ?_
      refine f_take (i := 7) (v := (.pointer (some ((adr al).add ((i).toNat * 6 + 5))))) #[true, true, true, true, true, true, true, true, false, false, false, false] r23 rfl (by kernel_rfl) (fun _ _ _ h => h) rfl (fs_none rfl) (fun w hF => r_field_e F.fo56_5 rfl) ?_
      refine f_take (i := 8) (v := (.bool s.played)) #[true, true, true, true, true, true, true, true, true, false, false, false] r23 rfl (by kernel_rfl) (fun _ _ _ h => h) rfl (fs_next rfl (fs_one k27 rfl)) (fun w hF => r_loadE1 F.one4 (fs_get (List.mem_cons_of_mem _ List.mem_cons_self) hF) rfl (sts_vs hs 5 _ rfl)) ?_
      refine f_take (i := 9) (v := (.agg #[(.int .u8 9), (.int .i64 s.tried), (.int .i64 0), (.int .i64 0), (.int .i64 0), (.bool s.played)])) #[true, true, true, true, true, true, true, true, true, true, false, false] r23 rfl (by kernel_rfl) (fun _ _ _ h => h) rfl (fs_none rfl) (fun w hF => r_build (pc rfl (pc rfl (pc rfl pn))) (by kernel_rfl)) ?_
      refine f_take (i := 10) (v := (.pointer (some ((adr al).add ((i).toNat * 6))))) #[true, true, true, true, true, true, true, true, true, true, true, false] r23 rfl (by kernel_rfl) (fun _ _ _ h => h) rfl (fs_none rfl) (fun w hF => r_nil_ptr rfl) ?_
      refine f_one (i := 11) #[true, true, true, true, true, true, true, true, true, true, true, true] rfl (by kernel_rfl) rfl ?_
      have k31 := k10.keep0 f14
      have k32 := k31.keep0 f22
      refine d_storeES (l := [(.int .u8 9), (.int .i64 s.tried), (.int .i64 0), (.int .i64 0), (.int .i64 0), (.bool s.played)]) F.sz56 rfl rfl (by simp [Value.oneCell']) (by simp) k32 (by simp only [List.length_cons, List.length_nil]; omega) ?_
      intro w28 f29 h30
      have z33 := f29.size
      have t34 := t25.step f29 (ob_in (by intro x hx; simp [hx]))
      have e35 : spl (sts ss) ((i).toNat * 6) [(.int .u8 9), (.int .i64 s.tried), (.int .i64 0), (.int .i64 0), (.int .i64 0), (.bool s.played)] = sts (ss.set ((i).toNat) (⟨9, s.tried, 0, 0, 0, s.played⟩ : St)) := sts_set (⟨9, s.tried, 0, 0, 0, s.played⟩ : St) (get_lt hs)
      have h36 : Own w28 56 6 al ss.length cl (sts (ss.set ((i).toNat) (⟨9, s.tried, 0, 0, 0, s.played⟩ : St))) := by rw [← e35]; exact h30
      have hx37 : (ss.set ((i).toNat) (⟨9, s.tried, 0, 0, 0, s.played⟩ : St))[(i).toNat]? = some (⟨9, s.tried, 0, 0, 0, s.played⟩ : St) := set_get hs
      refine ⟨(pres_all (by kernel_rfl)), ?_⟩
      refine f_done (by kernel_rfl) ?_
      refine (x_then ?_)
      refine c_seq ?_
      refine c_region ?_
      refine l_v (v := (.pointer (some ⟨b, 0, none⟩))) (r_move rfl) ?_
      refine l_do rfl ?_
      have k38 := k9.keep0 f14
      have k39 := k38.keep0 f22
      have k40 := k39.keep f29 n1
      have k41 := h2.keep0 f3
      have k42 := k41.keep0 f14
      have k43 := k42.keep0 f22
      have k44 := k43.keep f29 n2
      have k45 := h3.keep0 f3
      have k46 := k45.keep0 f14
      have k47 := k46.keep0 f22
      have k48 := k47.keep f29 n3
      refine d_call (fl := []) (cl := []) (A := [(.pointer (some ⟨b, 0, none⟩))]) (B := [(.pointer (some ⟨b, 0, none⟩))]) F.ok85 rfl (ac rfl an) rfl (settle_c (b := b) (ss := (ss.set ((i).toNat) (⟨9, s.tried, 0, 0, 0, s.played⟩ : St))) (aj := aj) (js := js) (cj := cj) (L := L) (by rw [List.length_set]; exact k40) k44 k48 (by rw [List.length_set]; exact h36) (by rw [List.length_set]; exact hl) hm n1 n2 n3) ?_
      rintro _ w49 ⟨rfl, f50, h51, h52⟩
      have z53 := f50.size
      have t54 := t34.step f50 (ob_in (by intro x hx; simp [hx]))
      refine l_nil ?_
      refine (x_then ?_)
      refine c_seq ?_
      refine c_region ?_
      refine l_v (v := (.int .i64 0)) (r_assign rfl) ?_
      refine l_nil ?_
      refine (x_then ?_)
      refine c_ret ?_
      refine p_ret (v := (.int .i64 0)) (res1 rfl rfl) ?_
      have ec : cancelC ss i = 0 := by unfold cancelC; (try rw [getS_get hs]); (repeat' split) <;> (first | omega | simp_all)
      have el : cancelL (js.map JobP.m) ss i = settle (js.map JobP.m) (ss.set ((i).toNat) (⟨9, s.tried, 0, 0, 0, s.played⟩ : St)) := by unfold cancelL; rw [if_pos ec, getS_get hs]
      exact ⟨(by rw [ec]), t54, (by rw [el]; exact h51), (by rw [el]; exact h52)⟩

set_option maxHeartbeats 400000 in
set_option maxRecDepth 100000 in
theorem play_c {w : World} {b cj cl : Nat} {aj al : Option Addr} {js : List JobP} {L : List Nat} {ss : List St} {i : Int} (h1 : At w b (.cells #[(.slice aj js.length cj), (.slice al ss.length cl)] 142 (0, 0))) (h2 : Ro w aj js.length cj (jbs js)) (h3 : JNds w L js) (h4 : Own w 56 6 al ss.length cl (sts ss)) (hl : js.length = ss.length) (hm : mayB (js.map JobP.m) = true) (n1 : b ∉ ob al) (n2 : ∀ x ∈ ob aj, x ∉ ob al) (n3 : ∀ x ∈ L, x ∉ ob al) :
    Calls Proofs.Try.prog 29 #[(.pointer (some ⟨b, 0, none⟩)), (.int .i64 i)] w (Ret fun v w' => v = (.int .i64 (playC ss i)) ∧ Fr (ob al) w w' ∧ At w' b (.cells #[(.slice aj js.length cj), (.slice al ((playL (js.map JobP.m) ss i).length) cl)] 142 (0, 0)) ∧ Own w' 56 6 al ((playL (js.map JobP.m) ss i).length) cl (sts (playL (js.map JobP.m) ss i))) := by
  have lt_h1 := h1.lt
  have lt_h2 := h2.lt
  have lt_h3 := h3.lt
  have lt_h4 := h4.lt
  have n1 := ob_ne' h4.tag h1 rfl
  have t0 : Fr (ob al) w w := Fr.refl _ _
  refine enter Proofs.Try.func29 rfl Proofs.Try.ntmps29 (Nat.le_of_ble_eq_true rfl) ?_
  refine c_seq ?_
  refine c_region ?_
  refine l_v (v := (.int .i64 0)) (r_assign rfl) ?_
  refine l_nil ?_
  refine (x_then ?_)
  refine c_seq ?_
  refine c_seq ?_
  refine c_region ?_
  refine l_v (v := (.pointer (some ⟨b, 0, none⟩))) (r_move rfl) ?_
  refine l_v (v := (.int .i64 i)) (r_move rfl) ?_
  refine l_do rfl ?_
  refine d_call (fl := []) (cl := []) (A := [(.pointer (some ⟨b, 0, none⟩)), (.int .i64 i)]) (B := [(.pointer (some ⟨b, 0, none⟩)), (.int .i64 i)]) F.ok91 rfl (ac rfl (ac rfl an)) rfl (there_c (b := b) (i := i) (aj := aj) (js := js) (cj := cj) (al := al) (ss := ss) (cl := cl) h1) ?_
  rintro _ w2 ⟨rfl, f3⟩
  have z4 := f3.size
  have t5 := t0.trans0 f3
  have hsp := there_spec ss i
  refine l_v (v := (.int .i64 (thereC ss i))) (r_assign rfl) ?_
  refine l_nil ?_
  refine (x_then ?_)
  refine c_seq ?_
  refine c_region ?_
  refine l_v (v := (.int .i64 (thereC ss i))) (r_move rfl) ?_
  refine l_v (v := (.bool (decide ((thereC ss i) ≠ 0)))) (r_neq rfl rfl) ?_
  refine l_nil ?_
  refine (x_then ?_)
  refine c_if (p := (thereC ss i) ≠ 0) rfl (fun c6 => ?_) (fun c6 => ?_)
  ·
    refine c_seq ?_
    refine c_region ?_
    refine l_v (v := (.int .i64 (thereC ss i))) (r_move rfl) ?_
    refine l_v (v := (.int .i64 (thereC ss i))) (r_assign rfl) ?_
    refine l_nil ?_
    refine (x_then ?_)
    refine c_ret ?_
    refine (x_then_r ?_)
    refine p_ret (v := (.int .i64 (thereC ss i))) (res1 rfl rfl) ?_
    have ec : playC ss i = (thereC ss i) := by unfold playC; (try rw [getS_get hs]); (repeat' split) <;> (first | omega | simp_all)
    have el : playL (js.map JobP.m) ss i = ss := by unfold playL; rw [if_neg (by rw [ec]; (first | decide | omega))]
    have k7 := h1.keep0 f3
    have k8 := h4.keep0 f3
    exact ⟨(by rw [ec]), t5, (by rw [el]; exact k7), (by rw [el]; exact k8)⟩
  ·
    refine c_skip ?_
    refine (x_then ?_)
    refine c_seq ?_
    refine c_region ?_
    refine l_v (v := (.pointer (some ⟨b, 0, none⟩))) (r_move rfl) ?_
    refine l_v (v := (.pointer (some ⟨b, 0, none⟩))) (r_nil_ptr rfl) ?_
    refine l_v (v := (.pointer (some ⟨b, 1, none⟩))) (r_field_l F.fo142_1 rfl rfl) ?_
    have k9 := h1.keep0 f3
    refine l_v (v := (.slice al ss.length cl)) (r_load1 F.one49 rfl (At.cell k9 rfl)) ?_
    refine l_v (v := (.int .i64 i)) (r_move rfl) ?_
    have k10 := h4.keep0 f3
    have ha11 : ∃ ad, al = some ad := k10.sl.some (by rw [sts_len]; have := ((by first | omega | (simp only [settleTo_len, settle_len, startL_len, endsL_len, endL_len, cancelL_len, playL_len, newL_len, List.length_map, List.length_set, List.length_replicate, doL_len]; omega)) : (i).toNat < (ss).length); omega)
    obtain ⟨s, hs⟩ := get_some (l := ss) (k := (i).toNat) (by first | omega | (simp only [settleTo_len, settle_len, startL_len, endsL_len, endL_len, cancelL_len, playL_len, newL_len, List.length_map, List.length_set, List.length_replicate, doL_len]; omega))
    refine l_v (v := (.pointer (some ((adr al).add ((i).toNat * 6))))) (r_indexAddr F.sle49 rfl rfl ha11 (by omega) (by have := get_lt hs; (try simp only [settleTo_len, settle_len, startL_len, endsL_len, endL_len, cancelL_len, playL_len, newL_len, List.length_map, List.length_set, List.length_replicate, doL_len] at this); omega) (by first | rfl | simp | omega)) ?_
    refine l_v (v := (.pointer (some ((adr al).add ((i).toNat * 6))))) (r_assign rfl) ?_
    refine l_nil ?_
    refine (x_then ?_)
    refine c_seq ?_
    refine c_seq ?_
    refine c_region ?_
    refine l_v (v := (.pointer (some ((adr al).add ((i).toNat * 6))))) (r_move rfl) ?_
    refine l_v (v := (.pointer (some ((adr al).add ((i).toNat * 6))))) (r_nil_ptr rfl) ?_
    refine l_v (v := (.pointer (some ((adr al).add ((i).toNat * 6))))) (r_field_e0 F.fo56_0 rfl) ?_
    have s12 := k10.sl
    refine l_v (v := (.int .u8 s.state)) (r_loadE1 F.one5 s12 rfl (sts_vs hs 0 _ rfl)) ?_
    refine l_v (v := (.bool (decide (s.state ≠ 2)))) (r_neq rfl rfl) ?_
    refine l_nil ?_
    refine (x_then ?_)
    refine c_if (p := s.state ≠ 2) rfl (fun c13 => ?_) (fun c13 => ?_)
    ·
      refine c_seq ?_
      refine c_region ?_
      refine l_v (v := (.int .i64 50)) (r_assign rfl) ?_
      refine l_nil ?_
      refine (x_then ?_)
      refine c_ret ?_
      refine (x_then_r ?_)
      refine p_ret (v := (.int .i64 50)) (res1 rfl rfl) ?_
      have ec : playC ss i = 50 := by unfold playC; (try rw [getS_get hs]); (repeat' split) <;> (first | omega | simp_all)
      have el : playL (js.map JobP.m) ss i = ss := by unfold playL; rw [if_neg (by rw [ec]; (first | decide | omega))]
      exact ⟨(by rw [ec]), t5, (by rw [el]; exact k9), (by rw [el]; exact k10)⟩
    ·
      refine c_skip ?_
      refine (x_then ?_)
      refine c_seq ?_
      refine c_region ?_
      refine l_v (v := (.pointer (some ((adr al).add ((i).toNat * 6))))) (r_move rfl) ?_
      refine l_v (v := (.pointer (some ((adr al).add ((i).toNat * 6))))) (r_nil_ptr rfl) ?_
      refine l_v (v := (.pointer (some ((adr al).add ((i).toNat * 6 + 5))))) (r_field_e F.fo56_5 rfl) ?_
      refine l_do rfl ?_
      refine d_storeE (v := (.bool true)) F.sz4 rfl rfl rfl k10 (by omega) ?_
      intro w14 f15 h16
      have z17 := f15.size
      have t18 := t5.step f15 (ob_in (by intro x hx; simp [hx]))
      have e19 : spl (sts ss) ((i).toNat * 6 + 5) [(.bool true)] = sts (ss.set ((i).toNat) ({ s with played := true } : St)) := sts_part 5 (y := ({ s with played := true } : St)) hs rfl (Nat.le_of_ble_eq_true rfl)
      have h20 : Own w14 56 6 al ss.length cl (sts (ss.set ((i).toNat) ({ s with played := true } : St))) := by rw [← e19]; exact h16
      have hx21 : (ss.set ((i).toNat) ({ s with played := true } : St))[(i).toNat]? = some ({ s with played := true } : St) := set_get hs
      refine l_nil ?_
      refine (x_then ?_)
      refine c_seq ?_
      refine c_region ?_
      refine l_v (v := (.pointer (some ((adr al).add ((i).toNat * 6))))) (r_move rfl) ?_
      refine l_v (v := (.pointer (some ((adr al).add ((i).toNat * 6))))) (r_nil_ptr rfl) ?_
      refine l_v (v := (.pointer (some ((adr al).add ((i).toNat * 6))))) (r_field_e0 F.fo56_0 rfl) ?_
      refine l_do rfl ?_
      refine d_storeE (v := (.int .u8 1)) F.sz5 rfl rfl rfl h20 (by omega) ?_
      intro w22 f23 h24
      have z25 := f23.size
      have t26 := t18.step f23 (ob_in (by intro x hx; simp [hx]))
      have e27 : spl (sts (ss.set ((i).toNat) ({ s with played := true } : St))) ((i).toNat * 6) [(.int .u8 1)] = sts ((ss.set ((i).toNat) ({ s with played := true } : St)).set ((i).toNat) ({ ({ s with played := true } : St) with state := 1 } : St)) := sts_part0  (y := ({ ({ s with played := true } : St) with state := 1 } : St)) hx21 rfl (Nat.le_of_ble_eq_true rfl)
      have h28 : Own w22 56 6 al ss.length cl (sts ((ss.set ((i).toNat) ({ s with played := true } : St)).set ((i).toNat) ({ ({ s with played := true } : St) with state := 1 } : St))) := by rw [← e27]; exact h24
      have hx29 : ((ss.set ((i).toNat) ({ s with played := true } : St)).set ((i).toNat) ({ ({ s with played := true } : St) with state := 1 } : St))[(i).toNat]? = some ({ ({ s with played := true } : St) with state := 1 } : St) := set_get hx21
      refine l_nil ?_
      refine (x_then ?_)
      refine c_seq ?_
      refine c_region ?_
      refine l_v (v := (.pointer (some ⟨b, 0, none⟩))) (r_move rfl) ?_
      refine l_do rfl ?_
      have k30 := k9.keep f15 n1
      have k31 := k30.keep f23 n1
      have k32 := h2.keep0 f3
      have k33 := k32.keep f15 n2
      have k34 := k33.keep f23 n2
      have k35 := h3.keep0 f3
      have k36 := k35.keep f15 n3
      have k37 := k36.keep f23 n3
      refine d_call (fl := []) (cl := []) (A := [(.pointer (some ⟨b, 0, none⟩))]) (B := [(.pointer (some ⟨b, 0, none⟩))]) F.ok85 rfl (ac rfl an) rfl (settle_c (b := b) (ss := ((ss.set ((i).toNat) ({ s with played := true } : St)).set ((i).toNat) ({ ({ s with played := true } : St) with state := 1 } : St))) (aj := aj) (js := js) (cj := cj) (L := L) (by rw [List.length_set, List.length_set]; exact k31) k34 k37 (by rw [List.length_set, List.length_set]; exact h28) (by rw [List.length_set, List.length_set]; exact hl) hm n1 n2 n3) ?_
      rintro _ w38 ⟨rfl, f39, h40, h41⟩
      have z42 := f39.size
      have t43 := t26.step f39 (ob_in (by intro x hx; simp [hx]))
      refine l_nil ?_
      refine (x_then ?_)
      refine c_seq ?_
      refine c_region ?_
      refine l_v (v := (.int .i64 0)) (r_assign rfl) ?_
      refine l_nil ?_
      refine (x_then ?_)
      refine c_ret ?_
      refine p_ret (v := (.int .i64 0)) (res1 rfl rfl) ?_
      have ec : playC ss i = 0 := by unfold playC; (try rw [getS_get hs]); (repeat' split) <;> (first | omega | simp_all)
      have el : playL (js.map JobP.m) ss i = settle (js.map JobP.m) ((ss.set ((i).toNat) ({ s with played := true } : St)).set ((i).toNat) ({ ({ s with played := true } : St) with state := 1 } : St)) := by unfold playL; rw [if_pos ec, getS_get hs]; simp [List.set_set]
      exact ⟨(by rw [ec]), t43, (by rw [el]; exact h40), (by rw [el]; exact h41)⟩

set_option maxHeartbeats 400000 in
set_option maxRecDepth 100000 in
theorem jlist_c {w : World} {b cj cl : Nat} {aj al : Option Addr} {js : List JobP} {ss : List St} (h1 : At w b (.cells #[(.slice aj js.length cj), (.slice al ss.length cl)] 142 (0, 0))) (h4 : Own w 56 6 al ss.length cl (sts ss)) (h9 : ss.length ≤ 1000000) :
    Calls Proofs.Try.prog 25 #[(.pointer (some ⟨b, 0, none⟩))] w (Ret fun v w' => ∃ a' : Option Addr, ∃ c' : Nat, v = (.slice a' ss.length c') ∧ Fr [] w w' ∧ Own w' 56 6 a' ss.length c' (sts ss) ∧ (∀ x ∈ ob a', w.heap.size ≤ x)) := by
  have lt_h1 := h1.lt
  have lt_h4 := h4.lt
  have n1 := ob_ne' h4.tag h1 rfl
  have t0 : Fr [] w w := Fr.refl _ _
  refine enter Proofs.Try.func25 rfl Proofs.Try.ntmps25 (Nat.le_of_ble_eq_true rfl) ?_
  refine c_seq ?_
  refine c_region ?_
  refine l_v (v := (.slice none 0 0)) (r_assign rfl) ?_
  refine l_nil ?_
  refine (x_then ?_)
  refine c_seq ?_
  refine c_seq ?_
  refine c_region ?_
  refine l_v (v := (.pointer (some ⟨b, 0, none⟩))) (r_move rfl) ?_
  refine l_v (v := (.bool false)) (r_eqlPn (a := (some ⟨b, 0, none⟩)) F.ptr45 rfl) ?_
  refine l_nil ?_
  refine (x_then ?_)
  refine c_false rfl ?_
  refine c_skip ?_
  refine (x_then ?_)
  refine c_seq ?_
  refine c_region ?_
  refine l_v (v := (.pointer (some ⟨b, 0, none⟩))) (r_move rfl) ?_
  refine l_v (v := (.pointer (some ⟨b, 0, none⟩))) (r_nil_ptr rfl) ?_
  refine l_v (v := (.pointer (some ⟨b, 1, none⟩))) (r_field_l F.fo142_1 rfl rfl) ?_
  refine l_v (v := (.slice al ss.length cl)) (r_load1 F.one49 rfl (At.cell h1 rfl)) ?_
  refine l_do rfl ?_
  have s2 := h4.sl
  refine d_call (fl := []) (cl := []) (A := [(.slice al ss.length cl)]) (B := [(.slice al ss.length cl)]) F.ok86 rfl (ac rfl an) rfl (cloneS_c (a := al) (ss := ss) (c := cl) s2 (by omega)) ?_
  rintro _ w3 ⟨a_5, c_6, rfl, f4, h7, p8⟩
  have z9 := f4.size
  have t10 := t0.trans0 f4
  have l11 := h7.lt
  refine l_v (v := (.slice a_5 ss.length c_6)) (r_assign rfl) ?_
  refine l_nil ?_
  refine (x_then ?_)
  refine c_ret ?_
  refine p_ret (v := (.slice a_5 ss.length c_6)) (res1 rfl rfl) ?_
  exact ⟨a_5, c_6, rfl, t10, h7, (ob_ge p8 (by omega))⟩

set_option maxHeartbeats 400000 in
set_option maxRecDepth 100000 in
theorem ready1_c {w : World} {k : Nat} {s : St}  :
    Calls Proofs.Try.prog 94 #[(.int .i64 ((k : Nat) : Int)), (.agg #[(.int .u8 s.state), (.int .i64 s.tried), (.int .i64 s.badge), (.int .i64 s.since), (.int .i64 s.code), (.bool s.played)])] w (Ret fun v w' => v = (.bool (decide (s.state = 3))) ∧ Fr [] w w') := by
  have t0 : Fr [] w w := Fr.refl _ _
  refine enter Proofs.Try.func94 rfl Proofs.Try.ntmps94 (Nat.le_of_ble_eq_true rfl) ?_
  refine c_seq ?_
  refine c_region ?_
  refine l_do rfl ?_
  refine d_box (v := (.agg #[(.int .u8 s.state), (.int .i64 s.tried), (.int .i64 s.badge), (.int .i64 s.since), (.int .i64 s.code), (.bool s.played)])) (cs := #[(.int .u8 s.state), (.int .i64 s.tried), (.int .i64 s.badge), (.int .i64 s.since), (.int .i64 s.code), (.bool s.played)]) rfl rfl ?_
  intro w1 b2 f3 a4 h5
  have z6 := f3.size
  have t7 := t0.trans0 f3
  have l8 := h5.lt
  refine l_v (v := (.bool false)) (r_assign rfl) ?_
  refine l_nil ?_
  refine (x_then ?_)
  refine c_seq ?_
  refine c_region ?_
  refine l_v (v := (.pointer (some ⟨b2, 0, none⟩))) (r_field_l F.fo56_0 rfl rfl) ?_
  refine l_v (v := (.int .u8 s.state)) (r_load1 F.one5 rfl (At.cell h5 rfl)) ?_
  refine l_v (v := (.bool (decide (s.state = 3)))) (r_eql rfl rfl) ?_
  refine l_v (v := (.bool (decide (s.state = 3)))) (r_assign rfl) ?_
  refine l_nil ?_
  refine (x_then ?_)
  refine c_ret ?_
  refine p_ret (v := (.bool (decide (s.state = 3)))) (res1 rfl rfl) ?_
  exact ⟨rfl, t7⟩

set_option maxHeartbeats 400000 in
set_option maxRecDepth 100000 in
theorem over1_c {w : World} {k : Nat} {s : St}  :
    Calls Proofs.Try.prog 90 #[(.int .i64 ((k : Nat) : Int)), (.agg #[(.int .u8 s.state), (.int .i64 s.tried), (.int .i64 s.badge), (.int .i64 s.since), (.int .i64 s.code), (.bool s.played)])] w (Ret fun v w' => v = (.bool (!(endd s.state))) ∧ Fr [] w w') := by
  have t0 : Fr [] w w := Fr.refl _ _
  refine enter Proofs.Try.func90 rfl Proofs.Try.ntmps90 (Nat.le_of_ble_eq_true rfl) ?_
  refine c_seq ?_
  refine c_region ?_
  refine l_do rfl ?_
  refine d_box (v := (.agg #[(.int .u8 s.state), (.int .i64 s.tried), (.int .i64 s.badge), (.int .i64 s.since), (.int .i64 s.code), (.bool s.played)])) (cs := #[(.int .u8 s.state), (.int .i64 s.tried), (.int .i64 s.badge), (.int .i64 s.since), (.int .i64 s.code), (.bool s.played)]) rfl rfl ?_
  intro w1 b2 f3 a4 h5
  have z6 := f3.size
  have t7 := t0.trans0 f3
  have l8 := h5.lt
  refine l_v (v := (.bool false)) (r_assign rfl) ?_
  refine l_nil ?_
  refine (x_then ?_)
  refine c_seq ?_
  refine c_region ?_
  refine l_v (v := (.pointer (some ⟨b2, 0, none⟩))) (r_field_l F.fo56_0 rfl rfl) ?_
  refine l_v (v := (.int .u8 s.state)) (r_load1 F.one5 rfl (At.cell h5 rfl)) ?_
  refine l_do rfl ?_
  refine d_call (fl := []) (cl := []) (A := [(.int .u8 s.state)]) (B := [(.int .u8 s.state)]) F.ok27 rfl (ac rfl an) rfl (ended_c (s := s.state) ) ?_
  rintro _ w9 ⟨rfl, f10⟩
  have z11 := f10.size
  have t12 := t7.trans0 f10
  refine l_v (v := (.bool (!(endd s.state)))) (r_not rfl) ?_
  refine l_v (v := (.bool (!(endd s.state)))) (r_assign rfl) ?_
  refine l_nil ?_
  refine (x_then ?_)
  refine c_ret ?_
  refine p_ret (v := (.bool (!(endd s.state)))) (res1 rfl rfl) ?_
  exact ⟨rfl, t12⟩

set_option maxHeartbeats 400000 in
set_option maxRecDepth 100000 in
theorem pickR_c {w : World} {b cj cl : Nat} {aj al : Option Addr} {js : List JobP} {ss : List St} (h1 : At w b (.cells #[(.slice aj js.length cj), (.slice al ss.length cl)] 142 (0, 0))) (h4 : Own w 56 6 al ss.length cl (sts ss)) (h9 : ss.length ≤ 1000000) :
    Calls Proofs.Try.prog 89 #[(.pointer (some ⟨b, 0, none⟩)), (.func (.func 94) #[] #[])] w (Ret fun v w' => ∃ a' : Option Addr, ∃ c' : Nat, v = (.slice a' ((picks (fun _ s => decide (s.state = 3)) ss).length) c') ∧ Fr [] w w' ∧ Own w' 3 1 a' ((picks (fun _ s => decide (s.state = 3)) ss).length) c' (iv (picks (fun _ s => decide (s.state = 3)) ss)) ∧ (∀ x ∈ ob a', w.heap.size ≤ x)) := by
  have lt_h1 := h1.lt
  have lt_h4 := h4.lt
  have n1 := ob_ne' h4.tag h1 rfl
  have t0 : Fr [] w w := Fr.refl _ _
  refine enter Proofs.Try.func89 rfl Proofs.Try.ntmps89 (Nat.le_of_ble_eq_true rfl) ?_
  refine c_seq ?_
  refine c_region ?_
  refine l_v (v := (.slice none 0 0)) (r_assign rfl) ?_
  refine l_nil ?_
  refine (x_then ?_)
  refine c_seq ?_
  refine c_seq ?_
  refine c_region ?_
  refine l_v (v := (.pointer (some ⟨b, 0, none⟩))) (r_move rfl) ?_
  refine l_v (v := (.bool false)) (r_eqlPn (a := (some ⟨b, 0, none⟩)) F.ptr45 rfl) ?_
  refine l_nil ?_
  refine (x_then ?_)
  refine c_false rfl ?_
  refine c_skip ?_
  refine (x_then ?_)
  refine c_seq ?_
  refine c_region ?_
  refine l_v (v := (.slice none 0 0)) (r_assign rfl) ?_
  refine l_nil ?_
  refine (x_then ?_)
  refine c_seq ?_
  refine c_seq ?_
  refine c_region ?_
  refine l_v (v := (.pointer (some ⟨b, 0, none⟩))) (r_move rfl) ?_
  refine l_v (v := (.pointer (some ⟨b, 0, none⟩))) (r_nil_ptr rfl) ?_
  refine l_v (v := (.pointer (some ⟨b, 1, none⟩))) (r_field_l F.fo142_1 rfl rfl) ?_
  refine l_v (v := (.slice al ss.length cl)) (r_load1 F.one49 rfl (At.cell h1 rfl)) ?_
  refine l_v (v := (.int .i64 ((ss.length : Nat) : Int))) (r_lenSl F.sl49 rfl) ?_
  refine l_v (v := (.int .i64 0)) (r_move rfl) ?_
  refine l_nil ?_
  refine (x_then ?_)
  refine c_block ?_
  refine c_loop (fun (m : Nat) (e' : Nat → Value) (w' : World) => ∃ k : Nat, ∃ a3 : Option Addr, ∃ c3 : Nat, m = ss.length - k ∧ e' 0 = (.pointer (some ⟨b, 0, none⟩)) ∧ e' 1 = (.func (.func 94) #[] #[]) ∧ e' 4 = (.slice none 0 0) ∧ e' 5 = (.slice a3 ((picksTo (fun _ s => decide (s.state = 3)) ss k).length) c3) ∧ e' 8 = (.pointer (some ⟨b, 0, none⟩)) ∧ e' 9 = (.bool false) ∧ e' 10 = (.pointer (some ⟨b, 0, none⟩)) ∧ e' 11 = (.pointer (some ⟨b, 0, none⟩)) ∧ e' 12 = (.pointer (some ⟨b, 1, none⟩)) ∧ e' 13 = (.slice al ss.length cl) ∧ e' 14 = (.int .i64 ((ss.length : Nat) : Int)) ∧ e' 15 = (.int .i64 ((k : Nat) : Int)) ∧ Fr [] w w' ∧ Own w' 3 1 a3 ((picksTo (fun _ s => decide (s.state = 3)) ss k).length) c3 (iv (picksTo (fun _ s => decide (s.state = 3)) ss k)) ∧ (k ≤ ss.length) ∧ (∀ x ∈ ob a3, w.heap.size ≤ x)) (ss.length - 0) ⟨0, none, 0, rfl, rfl, rfl, rfl, (Eq.trans (b := (.slice none 0 0)) rfl (by first | rfl | (congr 1; first | rfl | omega | simp | (simp; omega)))), rfl, rfl, rfl, rfl, rfl, rfl, rfl, rfl, Fr.refl _ _, Own.nil _ _ _, (by omega), (fun x hx => by cases hx)⟩ ?_
  rintro m_f4 e2 w3 ⟨k, a3, c3, hm_f4, s5, s6, s7, s8, s9, s10, s11, s12, s13, s14, s15, s16, f4, h17, p18, hge⟩
  have z19 := f4.size
  have t20 := t0.trans0 f4
  have l21 := h17.lt
  have t_f4 : Fr [] w w3 := f4
  refine c_seq ?_
  refine c_region ?_
  refine l_v (v := (.bool (decide (((k : Nat) : Int) < ((ss.length : Nat) : Int))))) (r_lss s16 s15) ?_
  refine l_nil ?_
  refine (x_then ?_)
  refine c_seq ?_
  refine c_if (p := ((k : Nat) : Int) < ((ss.length : Nat) : Int)) rfl (fun c22 => ?_) (fun c22 => ?_)
  ·
    refine c_skip ?_
    refine (x_then ?_)
    refine c_seq ?_
    refine c_block ?_
    refine c_seq ?_
    refine c_region ?_
    refine l_v (v := (.int .i64 ((k : Nat) : Int))) (r_move s16) ?_
    have k23 := h4.keep0 f4
    have ha24 : ∃ ad, al = some ad := k23.sl.some (by rw [sts_len]; have := ((by first | omega | (simp only [settleTo_len, settle_len, startL_len, endsL_len, endL_len, cancelL_len, playL_len, newL_len, List.length_map, List.length_set, List.length_replicate, doL_len]; omega)) : k < (ss).length); omega)
    obtain ⟨s, hs⟩ := get_some (l := ss) (k := k) (by first | omega | (simp only [settleTo_len, settle_len, startL_len, endsL_len, endL_len, cancelL_len, playL_len, newL_len, List.length_map, List.length_set, List.length_replicate, doL_len]; omega))
    refine l_v (v := (.pointer (some ((adr al).add (k * 6))))) (r_indexAddr F.sle49 s14 s16 ha24 (by omega) (by have := get_lt hs; (try simp only [settleTo_len, settle_len, startL_len, endsL_len, endL_len, cancelL_len, playL_len, newL_len, List.length_map, List.length_set, List.length_replicate, doL_len] at this); omega) (by first | rfl | simp | omega)) ?_
    have hpl := picks_le (fun _ s => decide (s.state = 3)) ss k
    have s25 := k23.sl
    refine l_v (v := (.agg #[(.int .u8 s.state), (.int .i64 s.tried), (.int .i64 s.badge), (.int .i64 s.since), (.int .i64 s.code), (.bool s.played)])) (r_loadES [(.int .u8 s.state), (.int .i64 s.tried), (.int .i64 s.badge), (.int .i64 s.since), (.int .i64 s.code), (.bool s.played)] F.agg56 s25 rfl rfl (sts_vs hs)) ?_
    refine l_do rfl ?_
    refine d_alloc (cs := #[(.int .u8 0), (.int .i64 0), (.int .i64 0), (.int .i64 0), (.int .i64 0), (.bool false)]) F.zero56 rfl ?_
    intro w26 b27 f28 a29 h30
    have z31 := f28.size
    have t32 := t20.trans0 f28
    have t33 := t_f4.trans0 f28
    have l34 := h30.lt
    refine l_v (v := (.int .i64 ((k : Nat) : Int))) (r_assign rfl) ?_
    refine l_do rfl ?_
    refine d_storeA (l := [(.int .u8 s.state), (.int .i64 s.tried), (.int .i64 s.badge), (.int .i64 s.since), (.int .i64 s.code), (.bool s.played)]) F.sz56 rfl rfl (by simp [Value.oneCell']) h30 rfl ?_
    intro w35 f36 h37
    have z38 := f36.size
    have t39 := t32.step f36 (one_new (by omega))
    have t40 := t33.step f36 (one_new (by omega))
    refine l_nil ?_
    refine (x_then ?_)
    refine c_seq ?_
    refine c_region ?_
    refine l_v (v := (.func (.func 94) #[] #[])) (r_move s6) ?_
    refine l_v (v := (.int .i64 ((k : Nat) : Int))) (r_move rfl) ?_
    refine l_v (v := (.agg #[(.int .u8 s.state), (.int .i64 s.tried), (.int .i64 s.badge), (.int .i64 s.since), (.int .i64 s.code), (.bool s.played)])) (r_loadA (l := [(.int .u8 s.state), (.int .i64 s.tried), (.int .i64 s.badge), (.int .i64 s.since), (.int .i64 s.code), (.bool s.played)]) F.agg56 rfl h37 rfl) ?_
    refine l_do rfl ?_
    refine d_call (fl := []) (cl := []) (A := [(.int .i64 ((k : Nat) : Int)), (.agg #[(.int .u8 s.state), (.int .i64 s.tried), (.int .i64 s.badge), (.int .i64 s.since), (.int .i64 s.code), (.bool s.played)])]) (B := [(.int .i64 ((k : Nat) : Int)), (.agg #[(.int .u8 s.state), (.int .i64 s.tried), (.int .i64 s.badge), (.int .i64 s.since), (.int .i64 s.code), (.bool s.played)])]) F.ok94 rfl (ac rfl (ac rfl an)) rfl (ready1_c (k := k) (s := s) ) ?_
    rintro _ w41 ⟨rfl, f42⟩
    have z43 := f42.size
    have t44 := t39.trans0 f42
    have t45 := t40.trans0 f42
    refine l_nil ?_
    refine (x_then ?_)
    refine c_if (p := s.state = 3) rfl (fun c46 => ?_) (fun c46 => ?_)
    ·
      refine c_region ?_
      refine l_v (v := (.slice a3 ((picksTo (fun _ s => decide (s.state = 3)) ss k).length) c3)) (r_move s8) ?_
      refine l_v (v := (.int .i64 ((k : Nat) : Int))) (r_move rfl) ?_
      refine l_do rfl ?_
      refine d_lit (el := 3) (k' := 1) (ps := [(0, (.int .i64 ((k : Nat) : Int)))]) (cells := #[(.int .i64 ((k : Nat) : Int))]) (pc rfl pn) (by kernel_rfl) rfl (Nat.le_of_ble_eq_true rfl) ?_
      intro w47 b48 f49 a50 h51
      have z52 := f49.size
      have t53 := t44.trans0 f49
      have t54 := t45.trans0 f49
      have g55 := ob_one_ge (o := 0) (s := none) a50
      have l56 := h51.lt
      have := ob_one_lt l56
      refine l_do rfl ?_
      have k64 := h17.keep0 f28
      have k65 := k64.keep f36 (ob_not1 (not_ob_old l21 (by omega)))
      have k66 := k65.keep0 f42
      have k67 := k66.keep0 f49
      have s68 := h51.sl
      refine d_appendN (news := [(.int .i64 ((k : Nat) : Int))]) (nn := (picksTo (fun _ s => decide (s.state = 3)) ss k).length + 1) (cs' := (iv (picksTo (fun _ s => decide (s.state = 3)) ss k)) ++ [(.int .i64 ((k : Nat) : Int))]) Proofs.Try.underlying48 F.inf3 rfl (Nat.le_of_ble_eq_true rfl) rfl k67 rfl s68 (by first | rfl | simp | omega) (by simp [Value.oneCell']) (by omega) (by simp only [maxLen]; omega) rfl rfl ?_
      intro w57 a_60 c_61 f58 h59 g62 n63
      have z69 := f58.size
      have t70 := t53.step f58 (ob_new hge (by omega))
      have t71 := t54.step f58 (ob_new hge (by omega))
      have l72 := h59.lt
      have g73 := ob_age hge g62 (by omega)
      refine l_v (v := (.slice a_60 ((picksTo (fun _ s => decide (s.state = 3)) ss k).length + 1) c_61)) (r_assign rfl) ?_
      refine l_nil ?_
      refine (x_blk (x_then ?_))
      refine c_region ?_
      refine l_v (v := (.int .i64 ((k + 1 : Nat) : Int))) (r_add s16 rfl (w64 (by omega) (by omega) (by omega))) ?_
      refine l_v (v := (.int .i64 ((k + 1 : Nat) : Int))) (r_move rfl) ?_
      refine l_nil ?_
      refine (x_then ?_)
      exact ⟨_, _, (by omega), rfl, k + 1, a_60, c_61, rfl, s5, s6, s7, (Eq.trans (b := (.slice a_60 ((picksTo (fun _ s => decide (s.state = 3)) ss k).length + 1) c_61)) rfl (by rw [picks_yes hs (decide_eq_true c46), List.length_append]; rfl)), s9, s10, s11, s12, s13, s14, s15, rfl, t71, (by rw [picks_yes hs (decide_eq_true c46), List.length_append, iv_app]; exact h59), (by omega), (ob_ge g73 (by omega))⟩
    ·
      refine c_skip ?_
      refine (x_blk (x_then ?_))
      refine c_region ?_
      refine l_v (v := (.int .i64 ((k + 1 : Nat) : Int))) (r_add s16 rfl (w64 (by omega) (by omega) (by omega))) ?_
      refine l_v (v := (.int .i64 ((k + 1 : Nat) : Int))) (r_move rfl) ?_
      refine l_nil ?_
      refine (x_then ?_)
      have k74 := h17.keep0 f28
      have k75 := k74.keep f36 (ob_not1 (not_ob_old l21 (by omega)))
      have k76 := k75.keep0 f42
      exact ⟨_, _, (by omega), rfl, k + 1, a3, c3, rfl, s5, s6, s7, (by rw [picks_no hs (decide_eq_false c46)]; exact s8), s9, s10, s11, s12, s13, s14, s15, rfl, t45, (by rw [picks_no hs (decide_eq_false c46)]; exact k76), (by omega), (ob_ge hge (by omega))⟩
  ·
    refine c_exit ?_
    refine (x_then_x (x_then_x (x_blk_hit (x_then ?_))))
    refine c_seq ?_
    refine c_region ?_
    refine l_v (v := (.slice a3 ((picksTo (fun _ s => decide (s.state = 3)) ss k).length) c3)) (r_move s8) ?_
    refine l_v (v := (.slice a3 ((picksTo (fun _ s => decide (s.state = 3)) ss k).length) c3)) (r_assign rfl) ?_
    refine l_nil ?_
    refine (x_then ?_)
    refine c_ret ?_
    refine p_ret (v := (.slice a3 ((picksTo (fun _ s => decide (s.state = 3)) ss k).length) c3)) (res1 rfl rfl) ?_
    have ek : k = ss.length := by omega
    subst ek
    exact ⟨a3, c3, rfl, t20, h17, (ob_ge hge (by omega))⟩

set_option maxHeartbeats 400000 in
set_option maxRecDepth 100000 in
theorem pickO_c {w : World} {b cj cl : Nat} {aj al : Option Addr} {js : List JobP} {ss : List St} (h1 : At w b (.cells #[(.slice aj js.length cj), (.slice al ss.length cl)] 142 (0, 0))) (h4 : Own w 56 6 al ss.length cl (sts ss)) (h9 : ss.length ≤ 1000000) :
    Calls Proofs.Try.prog 89 #[(.pointer (some ⟨b, 0, none⟩)), (.func (.func 90) #[] #[])] w (Ret fun v w' => ∃ a' : Option Addr, ∃ c' : Nat, v = (.slice a' ((picks (fun _ s => !(endd s.state)) ss).length) c') ∧ Fr [] w w' ∧ Own w' 3 1 a' ((picks (fun _ s => !(endd s.state)) ss).length) c' (iv (picks (fun _ s => !(endd s.state)) ss)) ∧ (∀ x ∈ ob a', w.heap.size ≤ x)) := by
  have lt_h1 := h1.lt
  have lt_h4 := h4.lt
  have n1 := ob_ne' h4.tag h1 rfl
  have t0 : Fr [] w w := Fr.refl _ _
  refine enter Proofs.Try.func89 rfl Proofs.Try.ntmps89 (Nat.le_of_ble_eq_true rfl) ?_
  refine c_seq ?_
  refine c_region ?_
  refine l_v (v := (.slice none 0 0)) (r_assign rfl) ?_
  refine l_nil ?_
  refine (x_then ?_)
  refine c_seq ?_
  refine c_seq ?_
  refine c_region ?_
  refine l_v (v := (.pointer (some ⟨b, 0, none⟩))) (r_move rfl) ?_
  refine l_v (v := (.bool false)) (r_eqlPn (a := (some ⟨b, 0, none⟩)) F.ptr45 rfl) ?_
  refine l_nil ?_
  refine (x_then ?_)
  refine c_false rfl ?_
  refine c_skip ?_
  refine (x_then ?_)
  refine c_seq ?_
  refine c_region ?_
  refine l_v (v := (.slice none 0 0)) (r_assign rfl) ?_
  refine l_nil ?_
  refine (x_then ?_)
  refine c_seq ?_
  refine c_seq ?_
  refine c_region ?_
  refine l_v (v := (.pointer (some ⟨b, 0, none⟩))) (r_move rfl) ?_
  refine l_v (v := (.pointer (some ⟨b, 0, none⟩))) (r_nil_ptr rfl) ?_
  refine l_v (v := (.pointer (some ⟨b, 1, none⟩))) (r_field_l F.fo142_1 rfl rfl) ?_
  refine l_v (v := (.slice al ss.length cl)) (r_load1 F.one49 rfl (At.cell h1 rfl)) ?_
  refine l_v (v := (.int .i64 ((ss.length : Nat) : Int))) (r_lenSl F.sl49 rfl) ?_
  refine l_v (v := (.int .i64 0)) (r_move rfl) ?_
  refine l_nil ?_
  refine (x_then ?_)
  refine c_block ?_
  refine c_loop (fun (m : Nat) (e' : Nat → Value) (w' : World) => ∃ k : Nat, ∃ a3 : Option Addr, ∃ c3 : Nat, m = ss.length - k ∧ e' 0 = (.pointer (some ⟨b, 0, none⟩)) ∧ e' 1 = (.func (.func 90) #[] #[]) ∧ e' 4 = (.slice none 0 0) ∧ e' 5 = (.slice a3 ((picksTo (fun _ s => !(endd s.state)) ss k).length) c3) ∧ e' 8 = (.pointer (some ⟨b, 0, none⟩)) ∧ e' 9 = (.bool false) ∧ e' 10 = (.pointer (some ⟨b, 0, none⟩)) ∧ e' 11 = (.pointer (some ⟨b, 0, none⟩)) ∧ e' 12 = (.pointer (some ⟨b, 1, none⟩)) ∧ e' 13 = (.slice al ss.length cl) ∧ e' 14 = (.int .i64 ((ss.length : Nat) : Int)) ∧ e' 15 = (.int .i64 ((k : Nat) : Int)) ∧ Fr [] w w' ∧ Own w' 3 1 a3 ((picksTo (fun _ s => !(endd s.state)) ss k).length) c3 (iv (picksTo (fun _ s => !(endd s.state)) ss k)) ∧ (k ≤ ss.length) ∧ (∀ x ∈ ob a3, w.heap.size ≤ x)) (ss.length - 0) ⟨0, none, 0, rfl, rfl, rfl, rfl, (Eq.trans (b := (.slice none 0 0)) rfl (by first | rfl | (congr 1; first | rfl | omega | simp | (simp; omega)))), rfl, rfl, rfl, rfl, rfl, rfl, rfl, rfl, Fr.refl _ _, Own.nil _ _ _, (by omega), (fun x hx => by cases hx)⟩ ?_
  rintro m_f4 e2 w3 ⟨k, a3, c3, hm_f4, s5, s6, s7, s8, s9, s10, s11, s12, s13, s14, s15, s16, f4, h17, p18, hge⟩
  have z19 := f4.size
  have t20 := t0.trans0 f4
  have l21 := h17.lt
  have t_f4 : Fr [] w w3 := f4
  refine c_seq ?_
  refine c_region ?_
  refine l_v (v := (.bool (decide (((k : Nat) : Int) < ((ss.length : Nat) : Int))))) (r_lss s16 s15) ?_
  refine l_nil ?_
  refine (x_then ?_)
  refine c_seq ?_
  refine c_if (p := ((k : Nat) : Int) < ((ss.length : Nat) : Int)) rfl (fun c22 => ?_) (fun c22 => ?_)
  ·
    refine c_skip ?_
    refine (x_then ?_)
    refine c_seq ?_
    refine c_block ?_
    refine c_seq ?_
    refine c_region ?_
    refine l_v (v := (.int .i64 ((k : Nat) : Int))) (r_move s16) ?_
    have k23 := h4.keep0 f4
    have ha24 : ∃ ad, al = some ad := k23.sl.some (by rw [sts_len]; have := ((by first | omega | (simp only [settleTo_len, settle_len, startL_len, endsL_len, endL_len, cancelL_len, playL_len, newL_len, List.length_map, List.length_set, List.length_replicate, doL_len]; omega)) : k < (ss).length); omega)
    obtain ⟨s, hs⟩ := get_some (l := ss) (k := k) (by first | omega | (simp only [settleTo_len, settle_len, startL_len, endsL_len, endL_len, cancelL_len, playL_len, newL_len, List.length_map, List.length_set, List.length_replicate, doL_len]; omega))
    refine l_v (v := (.pointer (some ((adr al).add (k * 6))))) (r_indexAddr F.sle49 s14 s16 ha24 (by omega) (by have := get_lt hs; (try simp only [settleTo_len, settle_len, startL_len, endsL_len, endL_len, cancelL_len, playL_len, newL_len, List.length_map, List.length_set, List.length_replicate, doL_len] at this); omega) (by first | rfl | simp | omega)) ?_
    have hpl := picks_le (fun _ s => !(endd s.state)) ss k
    have s25 := k23.sl
    refine l_v (v := (.agg #[(.int .u8 s.state), (.int .i64 s.tried), (.int .i64 s.badge), (.int .i64 s.since), (.int .i64 s.code), (.bool s.played)])) (r_loadES [(.int .u8 s.state), (.int .i64 s.tried), (.int .i64 s.badge), (.int .i64 s.since), (.int .i64 s.code), (.bool s.played)] F.agg56 s25 rfl rfl (sts_vs hs)) ?_
    refine l_do rfl ?_
    refine d_alloc (cs := #[(.int .u8 0), (.int .i64 0), (.int .i64 0), (.int .i64 0), (.int .i64 0), (.bool false)]) F.zero56 rfl ?_
    intro w26 b27 f28 a29 h30
    have z31 := f28.size
    have t32 := t20.trans0 f28
    have t33 := t_f4.trans0 f28
    have l34 := h30.lt
    refine l_v (v := (.int .i64 ((k : Nat) : Int))) (r_assign rfl) ?_
    refine l_do rfl ?_
    refine d_storeA (l := [(.int .u8 s.state), (.int .i64 s.tried), (.int .i64 s.badge), (.int .i64 s.since), (.int .i64 s.code), (.bool s.played)]) F.sz56 rfl rfl (by simp [Value.oneCell']) h30 rfl ?_
    intro w35 f36 h37
    have z38 := f36.size
    have t39 := t32.step f36 (one_new (by omega))
    have t40 := t33.step f36 (one_new (by omega))
    refine l_nil ?_
    refine (x_then ?_)
    refine c_seq ?_
    refine c_region ?_
    refine l_v (v := (.func (.func 90) #[] #[])) (r_move s6) ?_
    refine l_v (v := (.int .i64 ((k : Nat) : Int))) (r_move rfl) ?_
    refine l_v (v := (.agg #[(.int .u8 s.state), (.int .i64 s.tried), (.int .i64 s.badge), (.int .i64 s.since), (.int .i64 s.code), (.bool s.played)])) (r_loadA (l := [(.int .u8 s.state), (.int .i64 s.tried), (.int .i64 s.badge), (.int .i64 s.since), (.int .i64 s.code), (.bool s.played)]) F.agg56 rfl h37 rfl) ?_
    refine l_do rfl ?_
    refine d_call (fl := []) (cl := []) (A := [(.int .i64 ((k : Nat) : Int)), (.agg #[(.int .u8 s.state), (.int .i64 s.tried), (.int .i64 s.badge), (.int .i64 s.since), (.int .i64 s.code), (.bool s.played)])]) (B := [(.int .i64 ((k : Nat) : Int)), (.agg #[(.int .u8 s.state), (.int .i64 s.tried), (.int .i64 s.badge), (.int .i64 s.since), (.int .i64 s.code), (.bool s.played)])]) F.ok90 rfl (ac rfl (ac rfl an)) rfl (over1_c (k := k) (s := s) ) ?_
    rintro _ w41 ⟨rfl, f42⟩
    have z43 := f42.size
    have t44 := t39.trans0 f42
    have t45 := t40.trans0 f42
    refine l_nil ?_
    refine (x_then ?_)
    refine c_split (t := (!(endd s.state))) rfl (fun c46 => ?_) (fun c46 => ?_)
    ·
      refine c_region ?_
      refine l_v (v := (.slice a3 ((picksTo (fun _ s => !(endd s.state)) ss k).length) c3)) (r_move s8) ?_
      refine l_v (v := (.int .i64 ((k : Nat) : Int))) (r_move rfl) ?_
      refine l_do rfl ?_
      refine d_lit (el := 3) (k' := 1) (ps := [(0, (.int .i64 ((k : Nat) : Int)))]) (cells := #[(.int .i64 ((k : Nat) : Int))]) (pc rfl pn) (by kernel_rfl) rfl (Nat.le_of_ble_eq_true rfl) ?_
      intro w47 b48 f49 a50 h51
      have z52 := f49.size
      have t53 := t44.trans0 f49
      have t54 := t45.trans0 f49
      have g55 := ob_one_ge (o := 0) (s := none) a50
      have l56 := h51.lt
      have := ob_one_lt l56
      refine l_do rfl ?_
      have k64 := h17.keep0 f28
      have k65 := k64.keep f36 (ob_not1 (not_ob_old l21 (by omega)))
      have k66 := k65.keep0 f42
      have k67 := k66.keep0 f49
      have s68 := h51.sl
      refine d_appendN (news := [(.int .i64 ((k : Nat) : Int))]) (nn := (picksTo (fun _ s => !(endd s.state)) ss k).length + 1) (cs' := (iv (picksTo (fun _ s => !(endd s.state)) ss k)) ++ [(.int .i64 ((k : Nat) : Int))]) Proofs.Try.underlying48 F.inf3 rfl (Nat.le_of_ble_eq_true rfl) rfl k67 rfl s68 (by first | rfl | simp | omega) (by simp [Value.oneCell']) (by omega) (by simp only [maxLen]; omega) rfl rfl ?_
      intro w57 a_60 c_61 f58 h59 g62 n63
      have z69 := f58.size
      have t70 := t53.step f58 (ob_new hge (by omega))
      have t71 := t54.step f58 (ob_new hge (by omega))
      have l72 := h59.lt
      have g73 := ob_age hge g62 (by omega)
      refine l_v (v := (.slice a_60 ((picksTo (fun _ s => !(endd s.state)) ss k).length + 1) c_61)) (r_assign rfl) ?_
      refine l_nil ?_
      refine (x_blk (x_then ?_))
      refine c_region ?_
      refine l_v (v := (.int .i64 ((k + 1 : Nat) : Int))) (r_add s16 rfl (w64 (by omega) (by omega) (by omega))) ?_
      refine l_v (v := (.int .i64 ((k + 1 : Nat) : Int))) (r_move rfl) ?_
      refine l_nil ?_
      refine (x_then ?_)
      exact ⟨_, _, (by omega), rfl, k + 1, a_60, c_61, rfl, s5, s6, s7, (Eq.trans (b := (.slice a_60 ((picksTo (fun _ s => !(endd s.state)) ss k).length + 1) c_61)) rfl (by rw [picks_yes hs c46, List.length_append]; rfl)), s9, s10, s11, s12, s13, s14, s15, rfl, t71, (by rw [picks_yes hs c46, List.length_append, iv_app]; exact h59), (by omega), (ob_ge g73 (by omega))⟩
    ·
      refine c_skip ?_
      refine (x_blk (x_then ?_))
      refine c_region ?_
      refine l_v (v := (.int .i64 ((k + 1 : Nat) : Int))) (r_add s16 rfl (w64 (by omega) (by omega) (by omega))) ?_
      refine l_v (v := (.int .i64 ((k + 1 : Nat) : Int))) (r_move rfl) ?_
      refine l_nil ?_
      refine (x_then ?_)
      have k74 := h17.keep0 f28
      have k75 := k74.keep f36 (ob_not1 (not_ob_old l21 (by omega)))
      have k76 := k75.keep0 f42
      exact ⟨_, _, (by omega), rfl, k + 1, a3, c3, rfl, s5, s6, s7, (by rw [picks_no hs c46]; exact s8), s9, s10, s11, s12, s13, s14, s15, rfl, t45, (by rw [picks_no hs c46]; exact k76), (by omega), (ob_ge hge (by omega))⟩
  ·
    refine c_exit ?_
    refine (x_then_x (x_then_x (x_blk_hit (x_then ?_))))
    refine c_seq ?_
    refine c_region ?_
    refine l_v (v := (.slice a3 ((picksTo (fun _ s => !(endd s.state)) ss k).length) c3)) (r_move s8) ?_
    refine l_v (v := (.slice a3 ((picksTo (fun _ s => !(endd s.state)) ss k).length) c3)) (r_assign rfl) ?_
    refine l_nil ?_
    refine (x_then ?_)
    refine c_ret ?_
    refine p_ret (v := (.slice a3 ((picksTo (fun _ s => !(endd s.state)) ss k).length) c3)) (res1 rfl rfl) ?_
    have ek : k = ss.length := by omega
    subst ek
    exact ⟨a3, c3, rfl, t20, h17, (ob_ge hge (by omega))⟩

set_option maxHeartbeats 400000 in
set_option maxRecDepth 100000 in
theorem ready_c {w : World} {b cj cl : Nat} {aj al : Option Addr} {js : List JobP} {ss : List St} (h1 : At w b (.cells #[(.slice aj js.length cj), (.slice al ss.length cl)] 142 (0, 0))) (h4 : Own w 56 6 al ss.length cl (sts ss)) (h9 : ss.length ≤ 1000000) :
    Calls Proofs.Try.prog 32 #[(.pointer (some ⟨b, 0, none⟩))] w (Ret fun v w' => ∃ a' : Option Addr, ∃ c' : Nat, v = (.slice a' ((picks (fun _ s => decide (s.state = 3)) ss).length) c') ∧ Fr [] w w' ∧ Own w' 3 1 a' ((picks (fun _ s => decide (s.state = 3)) ss).length) c' (iv (picks (fun _ s => decide (s.state = 3)) ss)) ∧ (∀ x ∈ ob a', w.heap.size ≤ x)) := by
  have lt_h1 := h1.lt
  have lt_h4 := h4.lt
  have n1 := ob_ne' h4.tag h1 rfl
  have t0 : Fr [] w w := Fr.refl _ _
  refine enter Proofs.Try.func32 rfl Proofs.Try.ntmps32 (Nat.le_of_ble_eq_true rfl) ?_
  refine c_seq ?_
  refine c_region ?_
  refine l_v (v := (.slice none 0 0)) (r_assign rfl) ?_
  refine l_nil ?_
  refine (x_then ?_)
  refine c_seq ?_
  refine c_region ?_
  refine l_v (v := (.pointer (some ⟨b, 0, none⟩))) (r_move rfl) ?_
  refine l_do rfl ?_
  refine d_call (fl := []) (cl := []) (A := [(.pointer (some ⟨b, 0, none⟩)), (.func (.func 94) #[] #[])]) (B := [(.pointer (some ⟨b, 0, none⟩)), (.func (.func 94) #[] #[])]) F.ok89 rfl (ac rfl (ac rfl an)) rfl (pickR_c (b := b) (aj := aj) (js := js) (cj := cj) (al := al) (ss := ss) (cl := cl) h1 h4 (by omega)) ?_
  rintro _ w2 ⟨a_4, c_5, rfl, f3, h6, p7⟩
  have z8 := f3.size
  have t9 := t0.trans0 f3
  have l10 := h6.lt
  refine l_v (v := (.slice a_4 ((picks (fun _ s => decide (s.state = 3)) ss).length) c_5)) (r_assign rfl) ?_
  refine l_nil ?_
  refine (x_then ?_)
  refine c_ret ?_
  refine p_ret (v := (.slice a_4 ((picks (fun _ s => decide (s.state = 3)) ss).length) c_5)) (res1 rfl rfl) ?_
  exact ⟨a_4, c_5, rfl, t9, h6, (ob_ge p7 (by omega))⟩

set_option maxHeartbeats 400000 in
set_option maxRecDepth 100000 in
theorem over_c {w : World} {b cj cl : Nat} {aj al : Option Addr} {js : List JobP} {ss : List St} (h1 : At w b (.cells #[(.slice aj js.length cj), (.slice al ss.length cl)] 142 (0, 0))) (h4 : Own w 56 6 al ss.length cl (sts ss)) (h9 : ss.length ≤ 1000000) :
    Calls Proofs.Try.prog 28 #[(.pointer (some ⟨b, 0, none⟩))] w (Ret fun v w' => v = (.bool (decide ((((picks (fun _ s => !(endd s.state)) ss).length : Nat) : Int) = 0))) ∧ Fr [] w w') := by
  have lt_h1 := h1.lt
  have lt_h4 := h4.lt
  have n1 := ob_ne' h4.tag h1 rfl
  have t0 : Fr [] w w := Fr.refl _ _
  refine enter Proofs.Try.func28 rfl Proofs.Try.ntmps28 (Nat.le_of_ble_eq_true rfl) ?_
  refine c_seq ?_
  refine c_region ?_
  refine l_v (v := (.bool false)) (r_assign rfl) ?_
  refine l_nil ?_
  refine (x_then ?_)
  refine c_seq ?_
  refine c_region ?_
  refine l_v (v := (.pointer (some ⟨b, 0, none⟩))) (r_move rfl) ?_
  refine l_do rfl ?_
  refine d_call (fl := []) (cl := []) (A := [(.pointer (some ⟨b, 0, none⟩)), (.func (.func 90) #[] #[])]) (B := [(.pointer (some ⟨b, 0, none⟩)), (.func (.func 90) #[] #[])]) F.ok89 rfl (ac rfl (ac rfl an)) rfl (pickO_c (b := b) (aj := aj) (js := js) (cj := cj) (al := al) (ss := ss) (cl := cl) h1 h4 (by omega)) ?_
  rintro _ w2 ⟨a_4, c_5, rfl, f3, h6, p7⟩
  have z8 := f3.size
  have t9 := t0.trans0 f3
  have l10 := h6.lt
  refine l_v (v := (.int .i64 (((picks (fun _ s => !(endd s.state)) ss).length : Nat) : Int))) (r_lenSl F.sl48 rfl) ?_
  refine l_v (v := (.bool (decide ((((picks (fun _ s => !(endd s.state)) ss).length : Nat) : Int) = 0)))) (r_eql rfl rfl) ?_
  refine l_v (v := (.bool (decide ((((picks (fun _ s => !(endd s.state)) ss).length : Nat) : Int) = 0)))) (r_assign rfl) ?_
  refine l_nil ?_
  refine (x_then ?_)
  refine c_ret ?_
  refine p_ret (v := (.bool (decide ((((picks (fun _ s => !(endd s.state)) ss).length : Nat) : Int) = 0)))) (res1 rfl rfl) ?_
  exact ⟨rfl, t9⟩

set_option maxHeartbeats 400000 in
set_option maxRecDepth 100000 in
theorem jdo_c {w : World} {b cj cl : Nat} {aj al : Option Addr} {js : List JobP} {L : List Nat} {ss : List St} {x : JStep} (h1 : At w b (.cells #[(.slice aj js.length cj), (.slice al ss.length cl)] 142 (0, 0))) (h2 : Ro w aj js.length cj (jbs js)) (h3 : JNds w L js) (h4 : Own w 56 6 al ss.length cl (sts ss)) (hl : js.length = ss.length) (hm : mayB (js.map JobP.m) = true) (n1 : b ∉ ob al) (n2 : ∀ x ∈ ob aj, x ∉ ob al) (n3 : ∀ x ∈ L, x ∉ ob al) (ht : Tr ss) :
    Calls Proofs.Try.prog 26 #[(.pointer (some ⟨b, 0, none⟩)), (.agg #[(.int .u8 x.kind), (.int .i64 x.i), (.int .i64 x.badge), (.int .i64 x.n)])] w (Ret fun v w' => v = (.int .i64 (doC ss x)) ∧ Fr (ob al) w w' ∧ At w' b (.cells #[(.slice aj js.length cj), (.slice al ((doL (js.map JobP.m) ss x).length) cl)] 142 (0, 0)) ∧ Own w' 56 6 al ((doL (js.map JobP.m) ss x).length) cl (sts (doL (js.map JobP.m) ss x))) := by
  have lt_h1 := h1.lt
  have lt_h2 := h2.lt
  have lt_h3 := h3.lt
  have lt_h4 := h4.lt
  have n1 := ob_ne' h4.tag h1 rfl
  have t0 : Fr (ob al) w w := Fr.refl _ _
  refine enter Proofs.Try.func26 rfl Proofs.Try.ntmps26 (Nat.le_of_ble_eq_true rfl) ?_
  refine c_seq ?_
  refine c_region ?_
  refine l_do rfl ?_
  refine d_box (v := (.agg #[(.int .u8 x.kind), (.int .i64 x.i), (.int .i64 x.badge), (.int .i64 x.n)])) (cs := #[(.int .u8 x.kind), (.int .i64 x.i), (.int .i64 x.badge), (.int .i64 x.n)]) rfl rfl ?_
  intro w2 b3 f4 a5 h6
  have z7 := f4.size
  have t8 := t0.trans0 f4
  have l9 := h6.lt
  refine l_v (v := (.int .i64 0)) (r_assign rfl) ?_
  refine l_nil ?_
  refine (x_then ?_)
  refine c_seq ?_
  refine c_seq ?_
  refine c_region ?_
  refine l_v (v := (.pointer (some ⟨b3, 0, none⟩))) (r_field_l F.fo53_0 rfl rfl) ?_
  refine l_v (v := (.int .u8 x.kind)) (r_load1 F.one5 rfl (At.cell h6 rfl)) ?_
  refine l_nil ?_
  refine (x_then ?_)
  refine c_block ?_
  refine c_seq ?_
  refine c_region ?_
  refine l_v (v := (.bool (decide (x.kind = 0)))) (r_eql rfl rfl) ?_
  refine l_v (v := (.bool (decide (x.kind = 0)))) (r_assign rfl) ?_
  refine l_nil ?_
  refine (x_then ?_)
  refine c_if (p := x.kind = 0) rfl (fun c10 => ?_) (fun c10 => ?_)
  ·
    refine c_seq ?_
    refine c_region ?_
    refine l_v (v := (.pointer (some ⟨b, 0, none⟩))) (r_move rfl) ?_
    refine l_v (v := (.pointer (some ⟨b3, 1, none⟩))) (r_field_l F.fo53_1 rfl rfl) ?_
    refine l_v (v := (.int .i64 x.i)) (r_load1 F.one3 rfl (At.cell h6 rfl)) ?_
    refine l_v (v := (.pointer (some ⟨b3, 2, none⟩))) (r_field_l F.fo53_2 rfl rfl) ?_
    refine l_v (v := (.int .i64 x.badge)) (r_load1 F.one3 rfl (At.cell h6 rfl)) ?_
    refine l_v (v := (.pointer (some ⟨b3, 3, none⟩))) (r_field_l F.fo53_3 rfl rfl) ?_
    refine l_v (v := (.int .i64 x.n)) (r_load1 F.one3 rfl (At.cell h6 rfl)) ?_
    refine l_do rfl ?_
    have k11 := h1.keep0 f4
    have k12 := h2.keep0 f4
    have k13 := h3.keep0 f4
    have k14 := h4.keep0 f4
    refine d_call (fl := []) (cl := []) (A := [(.pointer (some ⟨b, 0, none⟩)), (.int .i64 x.i), (.int .i64 x.badge), (.int .i64 x.n)]) (B := [(.pointer (some ⟨b, 0, none⟩)), (.int .i64 x.i), (.int .i64 x.badge), (.int .i64 x.n)]) F.ok31 rfl (ac rfl (ac rfl (ac rfl (ac rfl an)))) rfl (start_c (b := b) (i := x.i) (badge := x.badge) (now := x.n) (aj := aj) (js := js) (cj := cj) (al := al) (ss := ss) (cl := cl) (L := L) k11 k12 k13 k14 (by omega) (by omega) n1 n2 n3 ht) ?_
    rintro _ w15 ⟨rfl, f16, h17, h18⟩
    have z19 := f16.size
    have t20 := t8.step f16 (ob_in (by intro x hx; simp [hx]))
    refine l_v (v := (.int .i64 (startC ss x.i x.badge x.n))) (r_assign rfl) ?_
    refine l_nil ?_
    refine (x_then ?_)
    refine c_ret ?_
    refine (x_blk_r (x_then_r ?_))
    refine p_ret (v := (.int .i64 (startC ss x.i x.badge x.n))) (res1 rfl rfl) ?_
    have ec : doC ss x = (startC ss x.i x.badge x.n) := by unfold doC; simp [*]
    have el : doL (js.map JobP.m) ss x = (startL ss x.i x.badge x.n) := by unfold doL; simp [*]
    exact ⟨(by rw [ec]), t20, (by rw [el]; exact h17), (by rw [el]; exact h18)⟩
  ·
    refine c_seq ?_
    refine c_region ?_
    refine l_v (v := (.bool (decide (x.kind = 1)))) (r_eql rfl rfl) ?_
    refine l_v (v := (.bool (decide (x.kind = 1)))) (r_assign rfl) ?_
    refine l_nil ?_
    refine (x_then ?_)
    refine c_if (p := x.kind = 1) rfl (fun c21 => ?_) (fun c21 => ?_)
    ·
      refine c_seq ?_
      refine c_region ?_
      refine l_v (v := (.pointer (some ⟨b, 0, none⟩))) (r_move rfl) ?_
      refine l_v (v := (.pointer (some ⟨b3, 1, none⟩))) (r_field_l F.fo53_1 rfl rfl) ?_
      refine l_v (v := (.int .i64 x.i)) (r_load1 F.one3 rfl (At.cell h6 rfl)) ?_
      refine l_v (v := (.pointer (some ⟨b3, 2, none⟩))) (r_field_l F.fo53_2 rfl rfl) ?_
      refine l_v (v := (.int .i64 x.badge)) (r_load1 F.one3 rfl (At.cell h6 rfl)) ?_
      refine l_v (v := (.pointer (some ⟨b3, 3, none⟩))) (r_field_l F.fo53_3 rfl rfl) ?_
      refine l_v (v := (.int .i64 x.n)) (r_load1 F.one3 rfl (At.cell h6 rfl)) ?_
      refine l_do rfl ?_
      have k22 := h1.keep0 f4
      have k23 := h2.keep0 f4
      have k24 := h3.keep0 f4
      have k25 := h4.keep0 f4
      refine d_call (fl := []) (cl := []) (A := [(.pointer (some ⟨b, 0, none⟩)), (.int .i64 x.i), (.int .i64 x.badge), (.int .i64 x.n)]) (B := [(.pointer (some ⟨b, 0, none⟩)), (.int .i64 x.i), (.int .i64 x.badge), (.int .i64 x.n)]) F.ok30 rfl (ac rfl (ac rfl (ac rfl (ac rfl an)))) rfl (end_c (b := b) (i := x.i) (badge := x.badge) (number := x.n) (aj := aj) (js := js) (cj := cj) (al := al) (ss := ss) (cl := cl) (L := L) k22 k23 k24 k25 (by omega) (by omega) n1 n2 n3) ?_
      rintro _ w26 ⟨rfl, f27, h28, h29⟩
      have z30 := f27.size
      have t31 := t8.step f27 (ob_in (by intro x hx; simp [hx]))
      refine l_v (v := (.int .i64 (endC ss x.i x.badge x.n))) (r_assign rfl) ?_
      refine l_nil ?_
      refine (x_then ?_)
      refine c_ret ?_
      refine (x_blk_r (x_then_r ?_))
      refine p_ret (v := (.int .i64 (endC ss x.i x.badge x.n))) (res1 rfl rfl) ?_
      have ec : doC ss x = (endC ss x.i x.badge x.n) := by unfold doC; simp [*]
      have el : doL (js.map JobP.m) ss x = (endL (js.map JobP.m) ss x.i x.badge x.n) := by unfold doL; simp [*]
      exact ⟨(by rw [ec]), t31, (by rw [el]; exact h28), (by rw [el]; exact h29)⟩
    ·
      refine c_seq ?_
      refine c_region ?_
      refine l_v (v := (.bool (decide (x.kind = 2)))) (r_eql rfl rfl) ?_
      refine l_v (v := (.bool (decide (x.kind = 2)))) (r_assign rfl) ?_
      refine l_nil ?_
      refine (x_then ?_)
      refine c_if (p := x.kind = 2) rfl (fun c32 => ?_) (fun c32 => ?_)
      ·
        refine c_seq ?_
        refine c_region ?_
        refine l_v (v := (.pointer (some ⟨b, 0, none⟩))) (r_move rfl) ?_
        refine l_v (v := (.pointer (some ⟨b3, 1, none⟩))) (r_field_l F.fo53_1 rfl rfl) ?_
        refine l_v (v := (.int .i64 x.i)) (r_load1 F.one3 rfl (At.cell h6 rfl)) ?_
        refine l_v (v := (.pointer (some ⟨b3, 2, none⟩))) (r_field_l F.fo53_2 rfl rfl) ?_
        refine l_v (v := (.int .i64 x.badge)) (r_load1 F.one3 rfl (At.cell h6 rfl)) ?_
        refine l_do rfl ?_
        have k33 := h1.keep0 f4
        have k34 := h2.keep0 f4
        have k35 := h3.keep0 f4
        have k36 := h4.keep0 f4
        refine d_call (fl := []) (cl := []) (A := [(.pointer (some ⟨b, 0, none⟩)), (.int .i64 x.i), (.int .i64 x.badge)]) (B := [(.pointer (some ⟨b, 0, none⟩)), (.int .i64 x.i), (.int .i64 x.badge)]) F.ok82 rfl (ac rfl (ac rfl (ac rfl an))) rfl (lose_c (b := b) (i := x.i) (badge := x.badge) (aj := aj) (js := js) (cj := cj) (al := al) (ss := ss) (cl := cl) (L := L) k33 k34 k35 k36 (by omega) (by omega) n1 n2 n3) ?_
        rintro _ w37 ⟨rfl, f38, h39, h40⟩
        have z41 := f38.size
        have t42 := t8.step f38 (ob_in (by intro x hx; simp [hx]))
        refine l_v (v := (.int .i64 (runsC ss x.i x.badge))) (r_assign rfl) ?_
        refine l_nil ?_
        refine (x_then ?_)
        refine c_ret ?_
        refine (x_blk_r (x_then_r ?_))
        refine p_ret (v := (.int .i64 (runsC ss x.i x.badge))) (res1 rfl rfl) ?_
        have ec : doC ss x = (runsC ss x.i x.badge) := by unfold doC; simp [*]
        have el : doL (js.map JobP.m) ss x = (endsL (js.map JobP.m) ss x.i x.badge 7 0) := by unfold doL; simp [*]
        exact ⟨(by rw [ec]), t42, (by rw [el]; exact h39), (by rw [el]; exact h40)⟩
      ·
        refine c_seq ?_
        refine c_region ?_
        refine l_v (v := (.bool (decide (x.kind = 3)))) (r_eql rfl rfl) ?_
        refine l_v (v := (.bool (decide (x.kind = 3)))) (r_assign rfl) ?_
        refine l_nil ?_
        refine (x_then ?_)
        refine c_if (p := x.kind = 3) rfl (fun c43 => ?_) (fun c43 => ?_)
        ·
          refine c_seq ?_
          refine c_region ?_
          refine l_v (v := (.pointer (some ⟨b, 0, none⟩))) (r_move rfl) ?_
          refine l_v (v := (.pointer (some ⟨b3, 1, none⟩))) (r_field_l F.fo53_1 rfl rfl) ?_
          refine l_v (v := (.int .i64 x.i)) (r_load1 F.one3 rfl (At.cell h6 rfl)) ?_
          refine l_v (v := (.pointer (some ⟨b3, 2, none⟩))) (r_field_l F.fo53_2 rfl rfl) ?_
          refine l_v (v := (.int .i64 x.badge)) (r_load1 F.one3 rfl (At.cell h6 rfl)) ?_
          refine l_do rfl ?_
          have k44 := h1.keep0 f4
          have k45 := h2.keep0 f4
          have k46 := h3.keep0 f4
          have k47 := h4.keep0 f4
          refine d_call (fl := []) (cl := []) (A := [(.pointer (some ⟨b, 0, none⟩)), (.int .i64 x.i), (.int .i64 x.badge)]) (B := [(.pointer (some ⟨b, 0, none⟩)), (.int .i64 x.i), (.int .i64 x.badge)]) F.ok87 rfl (ac rfl (ac rfl (ac rfl an))) rfl (stop_c (b := b) (i := x.i) (badge := x.badge) (aj := aj) (js := js) (cj := cj) (al := al) (ss := ss) (cl := cl) (L := L) k44 k45 k46 k47 (by omega) (by omega) n1 n2 n3) ?_
          rintro _ w48 ⟨rfl, f49, h50, h51⟩
          have z52 := f49.size
          have t53 := t8.step f49 (ob_in (by intro x hx; simp [hx]))
          refine l_v (v := (.int .i64 (runsC ss x.i x.badge))) (r_assign rfl) ?_
          refine l_nil ?_
          refine (x_then ?_)
          refine c_ret ?_
          refine (x_blk_r (x_then_r ?_))
          refine p_ret (v := (.int .i64 (runsC ss x.i x.badge))) (res1 rfl rfl) ?_
          have ec : doC ss x = (runsC ss x.i x.badge) := by unfold doC; simp [*]
          have el : doL (js.map JobP.m) ss x = (endsL (js.map JobP.m) ss x.i x.badge 8 0) := by unfold doL; simp [*]
          exact ⟨(by rw [ec]), t53, (by rw [el]; exact h50), (by rw [el]; exact h51)⟩
        ·
          refine c_seq ?_
          refine c_region ?_
          refine l_v (v := (.bool (decide (x.kind = 4)))) (r_eql rfl rfl) ?_
          refine l_v (v := (.bool (decide (x.kind = 4)))) (r_assign rfl) ?_
          refine l_nil ?_
          refine (x_then ?_)
          refine c_if (p := x.kind = 4) rfl (fun c54 => ?_) (fun c54 => ?_)
          ·
            refine c_seq ?_
            refine c_region ?_
            refine l_v (v := (.pointer (some ⟨b, 0, none⟩))) (r_move rfl) ?_
            refine l_v (v := (.pointer (some ⟨b3, 1, none⟩))) (r_field_l F.fo53_1 rfl rfl) ?_
            refine l_v (v := (.int .i64 x.i)) (r_load1 F.one3 rfl (At.cell h6 rfl)) ?_
            refine l_v (v := (.pointer (some ⟨b3, 2, none⟩))) (r_field_l F.fo53_2 rfl rfl) ?_
            refine l_v (v := (.int .i64 x.badge)) (r_load1 F.one3 rfl (At.cell h6 rfl)) ?_
            refine l_do rfl ?_
            have k55 := h1.keep0 f4
            have k56 := h2.keep0 f4
            have k57 := h3.keep0 f4
            have k58 := h4.keep0 f4
            refine d_call (fl := []) (cl := []) (A := [(.pointer (some ⟨b, 0, none⟩)), (.int .i64 x.i), (.int .i64 x.badge)]) (B := [(.pointer (some ⟨b, 0, none⟩)), (.int .i64 x.i), (.int .i64 x.badge)]) F.ok88 rfl (ac rfl (ac rfl (ac rfl an))) rfl (full_c (b := b) (i := x.i) (badge := x.badge) (aj := aj) (js := js) (cj := cj) (al := al) (ss := ss) (cl := cl) (L := L) k55 k56 k57 k58 (by omega) (by omega) n1 n2 n3) ?_
            rintro _ w59 ⟨rfl, f60, h61, h62⟩
            have z63 := f60.size
            have t64 := t8.step f60 (ob_in (by intro x hx; simp [hx]))
            refine l_v (v := (.int .i64 (runsC ss x.i x.badge))) (r_assign rfl) ?_
            refine l_nil ?_
            refine (x_then ?_)
            refine c_ret ?_
            refine (x_blk_r (x_then_r ?_))
            refine p_ret (v := (.int .i64 (runsC ss x.i x.badge))) (res1 rfl rfl) ?_
            have ec : doC ss x = (runsC ss x.i x.badge) := by unfold doC; simp [*]
            have el : doL (js.map JobP.m) ss x = (endsL (js.map JobP.m) ss x.i x.badge 11 0) := by unfold doL; simp [*]
            exact ⟨(by rw [ec]), t64, (by rw [el]; exact h61), (by rw [el]; exact h62)⟩
          ·
            refine c_seq ?_
            refine c_region ?_
            refine l_v (v := (.bool (decide (x.kind = 5)))) (r_eql rfl rfl) ?_
            refine l_v (v := (.bool (decide (x.kind = 5)))) (r_assign rfl) ?_
            refine l_nil ?_
            refine (x_then ?_)
            refine c_if (p := x.kind = 5) rfl (fun c65 => ?_) (fun c65 => ?_)
            ·
              refine c_seq ?_
              refine c_region ?_
              refine l_v (v := (.pointer (some ⟨b, 0, none⟩))) (r_move rfl) ?_
              refine l_v (v := (.pointer (some ⟨b3, 1, none⟩))) (r_field_l F.fo53_1 rfl rfl) ?_
              refine l_v (v := (.int .i64 x.i)) (r_load1 F.one3 rfl (At.cell h6 rfl)) ?_
              refine l_do rfl ?_
              have k66 := h1.keep0 f4
              have k67 := h2.keep0 f4
              have k68 := h3.keep0 f4
              have k69 := h4.keep0 f4
              refine d_call (fl := []) (cl := []) (A := [(.pointer (some ⟨b, 0, none⟩)), (.int .i64 x.i)]) (B := [(.pointer (some ⟨b, 0, none⟩)), (.int .i64 x.i)]) F.ok47 rfl (ac rfl (ac rfl an)) rfl (cancel_c (b := b) (i := x.i) (aj := aj) (js := js) (cj := cj) (al := al) (ss := ss) (cl := cl) (L := L) k66 k67 k68 k69 (by omega) (by omega) n1 n2 n3) ?_
              rintro _ w70 ⟨rfl, f71, h72, h73⟩
              have z74 := f71.size
              have t75 := t8.step f71 (ob_in (by intro x hx; simp [hx]))
              refine l_v (v := (.int .i64 (cancelC ss x.i))) (r_assign rfl) ?_
              refine l_nil ?_
              refine (x_then ?_)
              refine c_ret ?_
              refine (x_blk_r (x_then_r ?_))
              refine p_ret (v := (.int .i64 (cancelC ss x.i))) (res1 rfl rfl) ?_
              have ec : doC ss x = (cancelC ss x.i) := by unfold doC; simp [*]
              have el : doL (js.map JobP.m) ss x = (cancelL (js.map JobP.m) ss x.i) := by unfold doL; simp [*]
              exact ⟨(by rw [ec]), t75, (by rw [el]; exact h72), (by rw [el]; exact h73)⟩
            ·
              refine c_skip ?_
              refine (x_blk (x_then ?_))
              refine c_seq ?_
              refine c_region ?_
              refine l_v (v := (.pointer (some ⟨b, 0, none⟩))) (r_move rfl) ?_
              refine l_v (v := (.pointer (some ⟨b3, 1, none⟩))) (r_field_l F.fo53_1 rfl rfl) ?_
              refine l_v (v := (.int .i64 x.i)) (r_load1 F.one3 rfl (At.cell h6 rfl)) ?_
              refine l_do rfl ?_
              have k76 := h1.keep0 f4
              have k77 := h2.keep0 f4
              have k78 := h3.keep0 f4
              have k79 := h4.keep0 f4
              refine d_call (fl := []) (cl := []) (A := [(.pointer (some ⟨b, 0, none⟩)), (.int .i64 x.i)]) (B := [(.pointer (some ⟨b, 0, none⟩)), (.int .i64 x.i)]) F.ok29 rfl (ac rfl (ac rfl an)) rfl (play_c (b := b) (i := x.i) (aj := aj) (js := js) (cj := cj) (al := al) (ss := ss) (cl := cl) (L := L) k76 k77 k78 k79 (by omega) (by omega) n1 n2 n3) ?_
              rintro _ w80 ⟨rfl, f81, h82, h83⟩
              have z84 := f81.size
              have t85 := t8.step f81 (ob_in (by intro x hx; simp [hx]))
              refine l_v (v := (.int .i64 (playC ss x.i))) (r_assign rfl) ?_
              refine l_nil ?_
              refine (x_then ?_)
              refine c_ret ?_
              refine p_ret (v := (.int .i64 (playC ss x.i))) (res1 rfl rfl) ?_
              have ec : doC ss x = (playC ss x.i) := by unfold doC; simp [*]
              have el : doL (js.map JobP.m) ss x = (playL (js.map JobP.m) ss x.i) := by unfold doL; simp [*]
              exact ⟨(by rw [ec]), t85, (by rw [el]; exact h82), (by rw [el]; exact h83)⟩

set_option maxHeartbeats 400000 in
set_option maxRecDepth 100000 in
theorem large_c {w : World} {ap : Option Addr} {cp : Nat} {ps : List PJob} (q1 : Ro w ap ps.length cp (pjs ps)) (hN : ∀ x ∈ ps, x.m.needs.length ≤ 1000000000000000000) :
    Calls Proofs.Try.prog 23 #[(.agg #[(.slice ap ps.length cp)])] w (Ret fun v w' => ∃ r : Bool, v = (.bool r) ∧ Fr [] w w' ∧ (r = false → ps.length ≤ 2000 ∧ ∀ x ∈ ps, x.m.needs.length ≤ 2000)) := by
  have lt_q1 := q1.lt
  have t0 : Fr [] w w := Fr.refl _ _
  refine enter Proofs.Try.func23 rfl Proofs.Try.ntmps23 (Nat.le_of_ble_eq_true rfl) ?_
  refine c_seq ?_
  refine c_region ?_
  refine l_do rfl ?_
  refine d_box (v := (.agg #[(.slice ap ps.length cp)])) (cs := #[(.slice ap ps.length cp)]) rfl rfl ?_
  intro w1 b2 f3 a4 h5
  have z6 := f3.size
  have t7 := t0.trans0 f3
  have l8 := h5.lt
  refine l_v (v := (.bool false)) (r_assign rfl) ?_
  refine l_nil ?_
  refine (x_then ?_)
  refine c_seq ?_
  refine c_region ?_
  refine l_v (v := (.int .i64 0)) (r_assign rfl) ?_
  refine l_nil ?_
  refine (x_then ?_)
  refine c_seq ?_
  refine c_seq ?_
  refine c_region ?_
  refine l_v (v := (.int .i64 0)) (r_assign rfl) ?_
  refine l_nil ?_
  refine (x_then ?_)
  refine c_block ?_
  refine c_loop (fun (m : Nat) (e' : Nat → Value) (w' : World) => ∃ i : Nat, ∃ n : Nat, m = ps.length - i ∧ e' 0 = (.agg #[(.slice ap ps.length cp)]) ∧ e' 1 = (.pointer (some ⟨b2, 0, none⟩)) ∧ e' 2 = (.bool false) ∧ e' 3 = (.int .i64 ((n : Nat) : Int)) ∧ e' 4 = (.int .i64 ((i : Nat) : Int)) ∧ Fr [] w1 w' ∧ (i ≤ ps.length) ∧ (i ≤ n) ∧ (n ≤ 4000000000000000000) ∧ (∀ j, j < i → ∀ x, ps[j]? = some x → x.m.needs.length ≤ n)) (ps.length - 0) ⟨0, 0, rfl, rfl, rfl, rfl, rfl, rfl, Fr.refl _ _, (by omega), (by omega), (by omega), (fun j hj => by omega)⟩ ?_
  rintro m_f11 e9 w10 ⟨i, n, hm_f11, s12, s13, s14, s15, s16, f11, p17, p18, p19, hall⟩
  have z20 := f11.size
  have t21 := t7.trans0 f11
  have t_f11 : Fr [] w1 w10 := f11
  refine c_seq ?_
  refine c_seq ?_
  refine c_region ?_
  refine l_v (v := (.int .i64 ((i : Nat) : Int))) (r_move s16) ?_
  refine l_v (v := (.pointer (some ⟨b2, 0, none⟩))) (r_field_l F.fo41_0 s13 rfl) ?_
  have k22 := h5.keep0 f11
  refine l_v (v := (.slice ap ps.length cp)) (r_load1 F.one39 rfl (At.cell k22 rfl)) ?_
  refine l_v (v := (.int .i64 ((ps.length : Nat) : Int))) (r_lenSl F.sl39 rfl) ?_
  refine l_v (v := (.bool (decide (((i : Nat) : Int) < ((ps.length : Nat) : Int))))) (r_lss rfl rfl) ?_
  refine l_v (v := (.bool (decide (((i : Nat) : Int) < ((ps.length : Nat) : Int))))) (r_move rfl) ?_
  refine l_em (p := ((i : Nat) : Int) < ((ps.length : Nat) : Int)) ?_ ?_
  · intro c23
    refine l_gv (v := (.int .i64 ((n : Nat) : Int))) (wanted_run rfl rfl (bd rfl c23)) (r_move s15) ?_
    refine l_gv (v := (.bool (decide (((n : Nat) : Int) < 2000)))) (wanted_run rfl rfl (bd rfl c23)) (r_lss rfl rfl) ?_
    refine l_v (v := (.bool (decide (((n : Nat) : Int) < 2000)))) (r_pick_t (bd rfl c23) rfl) ?_
    refine l_nil ?_
    refine (x_then ?_)
    refine c_if (p := ((n : Nat) : Int) < 2000) rfl (fun c24 => ?_) (fun c24 => ?_)
    ·
      refine c_skip ?_
      refine (x_then ?_)
      refine c_seq ?_
      refine c_block ?_
      refine c_region ?_
      refine l_v (v := (.int .i64 ((n : Nat) : Int))) (r_move s15) ?_
      refine l_v (v := (.int .i64 ((n + 1 : Nat) : Int))) (r_add rfl rfl (w64 (by omega) (by omega) (by omega))) ?_
      refine l_v (v := (.pointer (some ⟨b2, 0, none⟩))) (r_field_l F.fo41_0 s13 rfl) ?_
      refine l_v (v := (.slice ap ps.length cp)) (r_load1 F.one39 rfl (At.cell k22 rfl)) ?_
      refine l_v (v := (.int .i64 ((i : Nat) : Int))) (r_move s16) ?_
      have k25 := q1.keep0 f3
      have k26 := k25.keep0 f11
      have ha27 : ∃ ad, ap = some ad := k26.sl.some (by rw [pjs_len]; have := ((by first | omega | (simp only [settleTo_len, settle_len, startL_len, endsL_len, endL_len, cancelL_len, playL_len, newL_len, List.length_map, List.length_set, List.length_replicate, doL_len]; omega)) : i < (ps).length); omega)
      obtain ⟨x, hx⟩ := get_some (l := ps) (k := i) (by first | omega | (simp only [settleTo_len, settle_len, startL_len, endsL_len, endL_len, cancelL_len, playL_len, newL_len, List.length_map, List.length_set, List.length_replicate, doL_len]; omega))
      refine l_v (v := (.pointer (some ((adr ap).add (i * 9))))) (r_indexAddr F.sle39 rfl rfl ha27 (by omega) (by have := get_lt hx; (try simp only [settleTo_len, settle_len, startL_len, endsL_len, endL_len, cancelL_len, playL_len, newL_len, List.length_map, List.length_set, List.length_replicate, doL_len] at this); omega) (by first | rfl | simp | omega)) ?_
      have hxn := hN x (mem_of_get hx)
      refine l_v (v := (.pointer (some ((adr ap).add (i * 9 + 1))))) (r_field_e F.fo60_1 rfl) ?_
      have s28 := k26.sl
      refine l_v (v := (.slice x.na x.m.needs.length x.nc)) (r_loadE1 F.one48 s28 rfl (pjs_vs hx 1 _ rfl)) ?_
      refine l_v (v := (.int .i64 ((x.m.needs.length : Nat) : Int))) (r_lenSl F.sl48 rfl) ?_
      refine l_v (v := (.int .i64 ((n + 1 + x.m.needs.length : Nat) : Int))) (r_add rfl rfl (w64 (by omega) (by omega) (by omega))) ?_
      refine l_v (v := (.int .i64 ((n + 1 + x.m.needs.length : Nat) : Int))) (r_assign rfl) ?_
      refine l_nil ?_
      refine (x_blk (x_then ?_))
      refine c_region ?_
      refine l_v (v := (.int .i64 ((i : Nat) : Int))) (r_move s16) ?_
      refine l_v (v := (.int .i64 ((i + 1 : Nat) : Int))) (r_add rfl rfl (w64 (by omega) (by omega) (by omega))) ?_
      refine l_v (v := (.int .i64 ((i + 1 : Nat) : Int))) (r_assign rfl) ?_
      refine l_nil ?_
      refine (x_then ?_)
      exact ⟨_, _, (by omega), rfl, i + 1, n + 1 + x.m.needs.length, rfl, s12, s13, s14, rfl, rfl, t_f11, (by omega), (by omega), (by omega), (large_succ hall hx)⟩
    ·
      refine c_exit ?_
      refine (x_then_x (x_then_x (x_blk_hit (x_then ?_))))
      refine c_seq ?_
      refine c_region ?_
      refine l_v (v := (.int .i64 ((n : Nat) : Int))) (r_move s15) ?_
      refine l_v (v := (.bool (decide (2000 ≤ ((n : Nat) : Int))))) (r_geq rfl rfl) ?_
      refine l_v (v := (.bool (decide (2000 ≤ ((n : Nat) : Int))))) (r_assign rfl) ?_
      refine l_nil ?_
      refine (x_then ?_)
      refine c_ret ?_
      refine p_ret (v := (.bool (decide (2000 ≤ ((n : Nat) : Int))))) (res1 rfl rfl) ?_
      exact ⟨decide (2000 ≤ ((n : Nat) : Int)), rfl, t21, (fun hr => by have hr2 := of_decide_eq_false hr; exact ⟨by omega, large_all hall (by omega) (by omega)⟩)⟩
  · intro c23
    refine l_skip (wanted_not rfl rfl (bn rfl c23) (by decide)) ?_
    refine l_skip (wanted_not rfl rfl (bn rfl c23) (by decide)) ?_
    refine l_v (v := (.bool false)) (r_pick_f (bn rfl c23) rfl) ?_
    refine l_nil ?_
    refine (x_then ?_)
    refine c_false rfl ?_
    refine c_exit ?_
    refine (x_then_x (x_then_x (x_blk_hit (x_then ?_))))
    refine c_seq ?_
    refine c_region ?_
    refine l_v (v := (.int .i64 ((n : Nat) : Int))) (r_move s15) ?_
    refine l_v (v := (.bool (decide (2000 ≤ ((n : Nat) : Int))))) (r_geq rfl rfl) ?_
    refine l_v (v := (.bool (decide (2000 ≤ ((n : Nat) : Int))))) (r_assign rfl) ?_
    refine l_nil ?_
    refine (x_then ?_)
    refine c_ret ?_
    refine p_ret (v := (.bool (decide (2000 ≤ ((n : Nat) : Int))))) (res1 rfl rfl) ?_
    exact ⟨decide (2000 ≤ ((n : Nat) : Int)), rfl, t21, (fun hr => by have hr2 := of_decide_eq_false hr; exact ⟨by omega, large_all hall (by omega) (by omega)⟩)⟩

end Go.Sy
