/- Walks of package trigger. -/
import Derived.Test.YtnhpfhhpochgfaaFacts
import Derived.Test.YtnhpfhhpochgfaaPTrig
import Derived.Test.YtnhpfhhpochgfaaWRead
namespace Go.Sy
set_option linter.unusedVariables false
set_option linter.unusedSimpArgs false

set_option maxHeartbeats 400000 in
set_option maxRecDepth 100000 in
theorem find1_c {w : World} {s id : ByteArray} {p : Int} {q : Nat} (h1 : At w q (.cells #[(.string id)] 9 (0, 0))) :
    Calls Proofs.Try.prog 152 #[(.agg #[(.string s), (.int .i64 p)]), (.pointer (some ⟨q, 0, none⟩))] w (Ret fun v w' => v = (.bool (s.toList == id.toList)) ∧ Fr [] w w') := by
  have lt_h1 := h1.lt
  have t0 : Fr [] w w := Fr.refl _ _
  refine enter Proofs.Try.func152 rfl Proofs.Try.ntmps152 (Nat.le_of_ble_eq_true rfl) ?_
  refine c_seq ?_
  refine c_region ?_
  refine l_do rfl ?_
  refine d_box (v := (.agg #[(.string s), (.int .i64 p)])) (cs := #[(.string s), (.int .i64 p)]) rfl rfl ?_
  intro w1 b2 f3 a4 h5
  have z6 := f3.size
  have t7 := t0.trans0 f3
  have l8 := h5.lt
  refine l_v (v := (.bool false)) (r_assign rfl) ?_
  refine l_nil ?_
  refine (x_then ?_)
  refine c_seq ?_
  refine c_region ?_
  refine l_v (v := (.pointer (some ⟨b2, 0, none⟩))) (r_field_l F.fo74_0 rfl rfl) ?_
  refine l_v (v := (.string s)) (r_load1 F.one9 rfl (At.cell h5 rfl)) ?_
  have k9 := h1.keep0 f3
  refine l_v (v := (.string id)) (r_load1 F.one9 rfl (At.cell k9 rfl)) ?_
  refine l_v (v := (.bool (s.toList == id.toList))) (r_eqlS rfl rfl) ?_
  refine l_v (v := (.bool (s.toList == id.toList))) (r_assign rfl) ?_
  refine l_nil ?_
  refine (x_then ?_)
  refine c_ret ?_
  refine p_ret (v := (.bool (s.toList == id.toList))) (res1 rfl rfl) ?_
  exact ⟨rfl, t7⟩

set_option maxHeartbeats 400000 in
set_option maxRecDepth 100000 in
theorem index_c {w : World} {a : Option Addr} {c : Nat} {xs : List Ev} {q : Nat} {id : ByteArray} (h1 : Sl w a (evs xs)) (h2 : At w q (.cells #[(.string id)] 9 (0, 0))) (h3 : xs.length ≤ 1000000) :
    Calls Proofs.Try.prog 151 #[(.slice a xs.length c), (.func (.func 152) #[] #[(.pointer (some ⟨q, 0, none⟩))])] w (Ret fun v w' => v = (.int .i64 (fidx (sameId id) xs)) ∧ Fr [] w w') := by
  have lt_h2 := h2.lt
  have t0 : Fr [] w w := Fr.refl _ _
  refine enter Proofs.Try.func151 rfl Proofs.Try.ntmps151 (Nat.le_of_ble_eq_true rfl) ?_
  refine c_seq ?_
  refine c_region ?_
  refine l_v (v := (.int .i64 0)) (r_assign rfl) ?_
  refine l_nil ?_
  refine (x_then ?_)
  refine c_seq ?_
  refine c_seq ?_
  refine c_region ?_
  refine l_v (v := (.slice a xs.length c)) (r_move rfl) ?_
  refine l_v (v := (.int .i64 ((xs.length : Nat) : Int))) (r_lenSl F.sl33 rfl) ?_
  refine l_v (v := (.int .i64 0)) (r_move rfl) ?_
  refine l_nil ?_
  refine (x_then ?_)
  refine c_block ?_
  refine c_loop (fun (m : Nat) (e' : Nat → Value) (w' : World) => ∃ k : Nat, m = xs.length - k ∧ e' 0 = (.slice a xs.length c) ∧ e' 1 = (.func (.func 152) #[] #[(.pointer (some ⟨q, 0, none⟩))]) ∧ e' 6 = (.slice a xs.length c) ∧ e' 7 = (.int .i64 ((xs.length : Nat) : Int)) ∧ e' 8 = (.int .i64 ((k : Nat) : Int)) ∧ Fr [] w w' ∧ (k ≤ xs.length) ∧ (∀ j, j < k → ∀ y, xs[j]? = some y → (y.id.toList == id.toList) = false)) (xs.length - 0) ⟨0, rfl, rfl, rfl, rfl, rfl, rfl, Fr.refl _ _, (by omega), (fun j hj => by omega)⟩ ?_
  rintro m_f3 e1 w2 ⟨k, hm_f3, s4, s5, s6, s7, s8, f3, p9, hall⟩
  have z10 := f3.size
  have t11 := t0.trans0 f3
  have t_f3 : Fr [] w w2 := f3
  refine c_seq ?_
  refine c_region ?_
  refine l_v (v := (.bool (decide (((k : Nat) : Int) < ((xs.length : Nat) : Int))))) (r_lss s8 s7) ?_
  refine l_nil ?_
  refine (x_then ?_)
  refine c_seq ?_
  refine c_if (p := ((k : Nat) : Int) < ((xs.length : Nat) : Int)) rfl (fun c12 => ?_) (fun c12 => ?_)
  ·
    refine c_skip ?_
    refine (x_then ?_)
    refine c_seq ?_
    refine c_block ?_
    refine c_seq ?_
    refine c_region ?_
    refine l_v (v := (.int .i64 ((k : Nat) : Int))) (r_move s8) ?_
    refine l_v (v := (.int .i64 ((k : Nat) : Int))) (r_assign rfl) ?_
    refine l_nil ?_
    refine (x_then ?_)
    refine c_seq ?_
    refine c_region ?_
    refine l_v (v := (.func (.func 152) #[] #[(.pointer (some ⟨q, 0, none⟩))])) (r_move s5) ?_
    refine l_v (v := (.slice a xs.length c)) (r_move s4) ?_
    refine l_v (v := (.int .i64 ((k : Nat) : Int))) (r_move rfl) ?_
    have hk : k < xs.length := by omega
    obtain ⟨x, hx⟩ := get_some hk
    have ha : ∃ ad, a = some ad := h1.some (by rw [evs_len]; omega)
    refine l_v (v := (.pointer (some ((adr a).add (k * 2))))) (r_indexAddr F.sle33 rfl rfl ha (by omega) (by omega) (by first | rfl | simp | omega)) ?_
    have k13 := h1.keep0 f3
    refine l_v (v := (.agg #[(.string x.id), (.int .i64 x.pipe)])) (r_loadES [(.string x.id), (.int .i64 x.pipe)] F.agg74 k13 rfl rfl (evs_vs hx)) ?_
    refine l_do rfl ?_
    have k14 := h2.keep0 f3
    refine d_call (fl := []) (cl := [(.pointer (some ⟨q, 0, none⟩))]) (A := [(.agg #[(.string x.id), (.int .i64 x.pipe)])]) (B := [(.agg #[(.string x.id), (.int .i64 x.pipe)]), (.pointer (some ⟨q, 0, none⟩))]) F.ok152 rfl (ac rfl an) rfl (find1_c (s := x.id) (p := x.pipe) (q := q) (id := id) k14) ?_
    rintro _ w15 ⟨rfl, f16⟩
    have z17 := f16.size
    have t18 := t11.trans0 f16
    have t19 := t_f3.trans0 f16
    refine l_nil ?_
    refine (x_then ?_)
    refine c_split (t := (x.id.toList == id.toList)) rfl (fun c20 => ?_) (fun c20 => ?_)
    ·
      refine c_seq ?_
      refine c_region ?_
      refine l_v (v := (.int .i64 ((k : Nat) : Int))) (r_move rfl) ?_
      refine l_v (v := (.int .i64 ((k : Nat) : Int))) (r_assign rfl) ?_
      refine l_nil ?_
      refine (x_then ?_)
      refine c_ret ?_
      refine (x_blk_r (x_then_r (x_then_r (x_blk_r (x_then_r ?_)))))
      refine p_ret (v := (.int .i64 ((k : Nat) : Int))) (res1 rfl rfl) ?_
      exact ⟨(by rw [fidx_some (p := sameId id) hx c20 hall]), t18⟩
    ·
      refine c_skip ?_
      refine (x_blk (x_then ?_))
      refine c_region ?_
      refine l_v (v := (.int .i64 ((k + 1 : Nat) : Int))) (r_add s8 rfl (w64 (by omega) (by omega) (by omega))) ?_
      refine l_v (v := (.int .i64 ((k + 1 : Nat) : Int))) (r_move rfl) ?_
      refine l_nil ?_
      refine (x_then ?_)
      exact ⟨_, _, (by omega), rfl, k + 1, rfl, s4, s5, s6, s7, rfl, t19, (by omega), (all_succ hall hx c20)⟩
  ·
    refine c_exit ?_
    refine (x_then_x (x_then_x (x_blk_hit (x_then ?_))))
    refine c_seq ?_
    refine c_region ?_
    refine l_v (v := (.int .i64 (-1))) (r_assign rfl) ?_
    refine l_nil ?_
    refine (x_then ?_)
    refine c_ret ?_
    refine p_ret (v := (.int .i64 (-1))) (res1 rfl rfl) ?_
    exact ⟨(by rw [fidx_none (p := sameId id) (fun j y hj => hall j (by have := get_lt hj; omega) y hj)]), t11⟩

set_option maxHeartbeats 400000 in
set_option maxRecDepth 100000 in
theorem find_c {w : World} {b : Nat} {a : Option Addr} {c : Nat} {xs : List Ev} {id : ByteArray} (h1 : At w b (.cells #[(.slice a xs.length c)] 133 (0, 0))) (h2 : Sl w a (evs xs)) (h3 : xs.length ≤ 1000000) :
    Calls Proofs.Try.prog 96 #[(.pointer (some ⟨b, 0, none⟩)), (.string id)] w (Ret fun v w' => v = (.int .i64 (fidx (sameId id) xs)) ∧ Fr [] w w') := by
  have lt_h1 := h1.lt
  have t0 : Fr [] w w := Fr.refl _ _
  refine enter Proofs.Try.func96 rfl Proofs.Try.ntmps96 (Nat.le_of_ble_eq_true rfl) ?_
  refine c_seq ?_
  refine c_region ?_
  refine l_do rfl ?_
  refine d_box (v := (.string id)) (cs := #[(.string id)]) rfl rfl ?_
  intro w1 b2 f3 a4 h5
  have z6 := f3.size
  have t7 := t0.trans0 f3
  have l8 := h5.lt
  refine l_v (v := (.int .i64 0)) (r_assign rfl) ?_
  refine l_nil ?_
  refine (x_then ?_)
  refine c_seq ?_
  refine c_region ?_
  refine l_v (v := (.pointer (some ⟨b, 0, none⟩))) (r_move rfl) ?_
  refine l_v (v := (.pointer (some ⟨b, 0, none⟩))) (r_nil_ptr rfl) ?_
  refine l_v (v := (.pointer (some ⟨b, 0, none⟩))) (r_field_l F.fo133_0 rfl rfl) ?_
  have k9 := h1.keep0 f3
  refine l_v (v := (.slice a xs.length c)) (r_load1 F.one33 rfl (At.cell k9 rfl)) ?_
  refine l_v (v := (.func (.func 152) #[] #[(.pointer (some ⟨b2, 0, none⟩))])) (r_makeFunc an (ac rfl an)) ?_
  refine l_do rfl ?_
  have k10 := h2.keep0 f3
  refine d_call (fl := []) (cl := []) (A := [(.slice a xs.length c), (.func (.func 152) #[] #[(.pointer (some ⟨b2, 0, none⟩))])]) (B := [(.slice a xs.length c), (.func (.func 152) #[] #[(.pointer (some ⟨b2, 0, none⟩))])]) F.ok151 rfl (ac rfl (ac rfl an)) rfl (index_c (a := a) (xs := xs) (c := c) (q := b2) (id := id) k10 h5 (by omega)) ?_
  rintro _ w11 ⟨rfl, f12⟩
  have z13 := f12.size
  have t14 := t7.trans0 f12
  refine l_v (v := (.int .i64 (fidx (sameId id) xs))) (r_assign rfl) ?_
  refine l_nil ?_
  refine (x_then ?_)
  refine c_ret ?_
  refine p_ret (v := (.int .i64 (fidx (sameId id) xs))) (res1 rfl rfl) ?_
  exact ⟨rfl, t14⟩

set_option maxHeartbeats 400000 in
set_option maxRecDepth 100000 in
theorem word_c {w : World} {s : ByteArray} (h9 : s.size ≤ 1000000000000000) :
    Calls Proofs.Try.prog 95 #[(.string s)] w (Ret fun v w' => v = (.bool (isWord s)) ∧ Fr [] w w') := by
  have t0 : Fr [] w w := Fr.refl _ _
  refine enter Proofs.Try.func95 rfl Proofs.Try.ntmps95 (Nat.le_of_ble_eq_true rfl) ?_
  refine c_seq ?_
  refine c_region ?_
  refine l_v (v := (.bool false)) (r_assign rfl) ?_
  refine l_nil ?_
  refine (x_then ?_)
  refine c_seq ?_
  refine c_seq ?_
  refine c_region ?_
  refine l_v (v := (.string s)) (r_move rfl) ?_
  refine l_v (v := (.int .i64 ((s.size : Nat) : Int))) (r_lenSn Proofs.Try.underlying9 rfl rfl) ?_
  refine l_v (v := (.int .i64 0)) (r_move rfl) ?_
  refine l_nil ?_
  refine (x_then ?_)
  refine c_block ?_
  refine c_loop (fun (m : Nat) (e' : Nat → Value) (w' : World) => ∃ k : Nat, m = s.size - k ∧ e' 0 = (.string s) ∧ e' 4 = (.string s) ∧ e' 5 = (.int .i64 ((s.size : Nat) : Int)) ∧ e' 6 = (.int .i64 ((k : Nat) : Int)) ∧ Fr [] w w' ∧ (k ≤ s.size) ∧ (∀ j, j < k → ∀ y, s.data.toList[j]? = some y → wOk y = true)) (s.size - 0) ⟨0, rfl, rfl, rfl, rfl, rfl, Fr.refl _ _, (by omega), (fun j hj => by omega)⟩ ?_
  rintro m_f3 e1 w2 ⟨k, hm_f3, s4, s5, s6, s7, f3, p8, hall⟩
  have z9 := f3.size
  have t10 := t0.trans0 f3
  have t_f3 : Fr [] w w2 := f3
  refine c_seq ?_
  refine c_region ?_
  refine l_v (v := (.bool (decide (((k : Nat) : Int) < ((s.size : Nat) : Int))))) (r_lss s7 s6) ?_
  refine l_nil ?_
  refine (x_then ?_)
  refine c_seq ?_
  refine c_if (p := ((k : Nat) : Int) < ((s.size : Nat) : Int)) rfl (fun c11 => ?_) (fun c11 => ?_)
  ·
    refine c_skip ?_
    refine (x_then ?_)
    refine c_seq ?_
    refine c_block ?_
    refine c_seq ?_
    refine c_region ?_
    refine l_v (v := (.int .i64 ((k : Nat) : Int))) (r_move s7) ?_
    refine l_v (v := (.int .i64 ((k : Nat) : Int))) (r_assign rfl) ?_
    refine l_nil ?_
    refine (x_then ?_)
    refine c_seq ?_
    refine c_region ?_
    refine l_v (v := (.string s)) (r_move s4) ?_
    refine l_v (v := (.int .i64 ((k : Nat) : Int))) (r_move rfl) ?_
    obtain ⟨x, hx⟩ := byte_some (s := s) (k := k) (by omega)
    refine l_v (v := (.int .u8 ((x.toNat : Nat) : Int))) (r_indexS Proofs.Try.underlying9 rfl rfl (by omega) (byte_get rfl hx)) ?_
    refine l_v (v := (.bool (decide (((x.toNat : Nat) : Int) < 33)))) (r_lss rfl rfl) ?_
    refine l_v (v := (.bool (decide (((x.toNat : Nat) : Int) < 33)))) (r_move rfl) ?_
    refine l_em (p := ((x.toNat : Nat) : Int) < 33) ?_ ?_
    · intro c12
      refine l_skip (wanted_not rfl rfl (bd rfl c12) (by decide)) ?_
      refine l_skip (wanted_not rfl rfl (bd rfl c12) (by decide)) ?_
      refine l_skip (wanted_not rfl rfl (bd rfl c12) (by decide)) ?_
      refine l_skip (wanted_not rfl rfl (bd rfl c12) (by decide)) ?_
      refine l_v (v := (.bool true)) (r_pick_t (bd rfl c12) rfl) ?_
      refine l_nil ?_
      refine (x_then ?_)
      refine c_true rfl ?_
      refine c_seq ?_
      refine c_region ?_
      refine l_v (v := (.bool false)) (r_assign rfl) ?_
      refine l_nil ?_
      refine (x_then ?_)
      refine c_ret ?_
      refine (x_blk_r (x_then_r (x_then_r (x_blk_r (x_then_r ?_)))))
      refine p_ret (v := (.bool false)) (res1 rfl rfl) ?_
      exact ⟨(by rw [word_bad hx (by omega)]), t10⟩
    · intro c12
      refine l_gv (v := (.string s)) (wanted_run rfl rfl (bn rfl c12)) (r_move s4) ?_
      refine l_gv (v := (.int .i64 ((k : Nat) : Int))) (wanted_run rfl rfl (bn rfl c12)) (r_move rfl) ?_
      refine l_gv (v := (.int .u8 ((x.toNat : Nat) : Int))) (wanted_run rfl rfl (bn rfl c12)) (r_indexS Proofs.Try.underlying9 rfl rfl (by omega) (byte_get rfl hx)) ?_
      refine l_gv (v := (.bool (decide (126 < ((x.toNat : Nat) : Int))))) (wanted_run rfl rfl (bn rfl c12)) (r_gtr rfl rfl) ?_
      refine l_v (v := (.bool (decide (126 < ((x.toNat : Nat) : Int))))) (r_pick_f (bn rfl c12) rfl) ?_
      refine l_nil ?_
      refine (x_then ?_)
      refine c_if (p := 126 < ((x.toNat : Nat) : Int)) rfl (fun c13 => ?_) (fun c13 => ?_)
      ·
        refine c_seq ?_
        refine c_region ?_
        refine l_v (v := (.bool false)) (r_assign rfl) ?_
        refine l_nil ?_
        refine (x_then ?_)
        refine c_ret ?_
        refine (x_blk_r (x_then_r (x_then_r (x_blk_r (x_then_r ?_)))))
        refine p_ret (v := (.bool false)) (res1 rfl rfl) ?_
        exact ⟨(by rw [word_bad hx (by omega)]), t10⟩
      ·
        refine c_skip ?_
        refine (x_blk (x_then ?_))
        refine c_region ?_
        refine l_v (v := (.int .i64 ((k + 1 : Nat) : Int))) (r_add s7 rfl (w64 (by omega) (by omega) (by omega))) ?_
        refine l_v (v := (.int .i64 ((k + 1 : Nat) : Int))) (r_move rfl) ?_
        refine l_nil ?_
        refine (x_then ?_)
        exact ⟨_, _, (by omega), rfl, k + 1, rfl, s4, s5, s6, rfl, t_f3, (by omega), (ok_succ hall hx (wok_of (by omega) (by omega)))⟩
  ·
    refine c_exit ?_
    refine (x_then_x (x_then_x (x_blk_hit (x_then ?_))))
    refine c_seq ?_
    refine c_region ?_
    refine l_v (v := (.string s)) (r_move s4) ?_
    refine l_v (v := (.bool (decide (s.size ≠ 0)))) (r_neqS0 rfl rfl) ?_
    refine l_v (v := (.bool (decide (s.size ≠ 0)))) (r_move rfl) ?_
    refine l_em (p := s.size ≠ 0) ?_ ?_
    · intro c14
      refine l_gv (v := (.string s)) (wanted_run rfl rfl (bd rfl c14)) (r_move s4) ?_
      refine l_gv (v := (.int .i64 ((s.size : Nat) : Int))) (wanted_run rfl rfl (bd rfl c14)) (r_lenSn Proofs.Try.underlying9 rfl rfl) ?_
      refine l_gv (v := (.bool (decide (((s.size : Nat) : Int) ≤ 64)))) (wanted_run rfl rfl (bd rfl c14)) (r_leq rfl rfl) ?_
      refine l_v (v := (.bool (decide (((s.size : Nat) : Int) ≤ 64)))) (r_pick_t (bd rfl c14) rfl) ?_
      refine l_v (v := (.bool (decide (((s.size : Nat) : Int) ≤ 64)))) (r_assign rfl) ?_
      refine l_nil ?_
      refine (x_then ?_)
      refine c_ret ?_
      refine p_ret (v := (.bool (decide (((s.size : Nat) : Int) ≤ 64)))) (res1 rfl rfl) ?_
      exact ⟨(by rw [word_all hall (by omega)]; congr 1; rw [Bool.eq_iff_iff]; simp; omega), t10⟩
    · intro c14
      refine l_skip (wanted_not rfl rfl (bn rfl c14) (by decide)) ?_
      refine l_skip (wanted_not rfl rfl (bn rfl c14) (by decide)) ?_
      refine l_skip (wanted_not rfl rfl (bn rfl c14) (by decide)) ?_
      refine l_v (v := (.bool false)) (r_pick_f (bn rfl c14) rfl) ?_
      refine l_v (v := (.bool false)) (r_assign rfl) ?_
      refine l_nil ?_
      refine (x_then ?_)
      refine c_ret ?_
      refine p_ret (v := (.bool false)) (res1 rfl rfl) ?_
      exact ⟨(by rw [word_all hall (by omega)]; congr 1; rw [Bool.eq_iff_iff]; simp; omega), t10⟩

set_option maxHeartbeats 400000 in
set_option maxRecDepth 100000 in
theorem seen_c {w : World} {b : Nat} {a : Option Addr} {c : Nat} {xs : List Ev} {id : ByteArray} (h1 : At w b (.cells #[(.slice a xs.length c)] 133 (0, 0))) (h2 : Own w 74 2 a xs.length c (evs xs)) (h3 : xs.length ≤ 8) :
    Calls Proofs.Try.prog 37 #[(.pointer (some ⟨b, 0, none⟩)), (.string id)] w (Ret fun v w' => v = (.tuple #[(.int .i64 ((seenE xs id).elim 0 Ev.pipe)), (.bool ((seenE xs id).isSome))]) ∧ Fr [] w w') := by
  have lt_h1 := h1.lt
  have lt_h2 := h2.lt
  have n1 := ob_ne' h2.tag h1 rfl
  have t0 : Fr [] w w := Fr.refl _ _
  refine enter Proofs.Try.func37 rfl Proofs.Try.ntmps37 (Nat.le_of_ble_eq_true rfl) ?_
  refine c_seq ?_
  refine c_region ?_
  refine l_v (v := (.int .i64 0)) (r_assign rfl) ?_
  refine l_v (v := (.bool false)) (r_assign rfl) ?_
  refine l_nil ?_
  refine (x_then ?_)
  refine c_seq ?_
  refine c_seq ?_
  refine c_region ?_
  refine l_v (v := (.pointer (some ⟨b, 0, none⟩))) (r_move rfl) ?_
  refine l_v (v := (.bool false)) (r_eqlPn (a := (some ⟨b, 0, none⟩)) F.ptr23 rfl) ?_
  refine l_nil ?_
  refine (x_then ?_)
  refine c_false rfl ?_
  refine c_skip ?_
  refine (x_then ?_)
  refine c_seq ?_
  refine c_region ?_
  refine l_v (v := (.pointer (some ⟨b, 0, none⟩))) (r_move rfl) ?_
  refine l_v (v := (.string id)) (r_move rfl) ?_
  refine l_do rfl ?_
  have s2 := h2.sl
  refine d_call (fl := []) (cl := []) (A := [(.pointer (some ⟨b, 0, none⟩)), (.string id)]) (B := [(.pointer (some ⟨b, 0, none⟩)), (.string id)]) F.ok96 rfl (ac rfl (ac rfl an)) rfl (find_c (b := b) (id := id) (a := a) (xs := xs) (c := c) h1 s2 (by omega)) ?_
  rintro _ w3 ⟨rfl, f4⟩
  have z5 := f4.size
  have t6 := t0.trans0 f4
  refine l_v (v := (.int .i64 (fidx (sameId id) xs))) (r_assign rfl) ?_
  refine l_nil ?_
  refine (x_then ?_)
  refine c_seq ?_
  refine c_seq ?_
  refine c_region ?_
  refine l_v (v := (.int .i64 (fidx (sameId id) xs))) (r_move rfl) ?_
  refine l_v (v := (.bool (decide ((fidx (sameId id) xs) < 0)))) (r_lss rfl rfl) ?_
  refine l_nil ?_
  refine (x_then ?_)
  refine c_if (p := (fidx (sameId id) xs) < 0) rfl (fun c7 => ?_) (fun c7 => ?_)
  ·
    refine c_seq ?_
    refine c_region ?_
    refine l_v (v := (.int .i64 0)) (r_assign rfl) ?_
    refine l_v (v := (.bool false)) (r_assign rfl) ?_
    refine l_nil ?_
    refine (x_then ?_)
    refine c_ret ?_
    refine (x_then_r ?_)
    refine p_ret (v := (.tuple #[(.int .i64 0), (.bool false)])) (res2 rfl rfl rfl) ?_
    exact ⟨(by rw [seen_none (by omega)]; rfl), t6⟩
  ·
    refine c_skip ?_
    refine (x_then ?_)
    refine c_seq ?_
    refine c_region ?_
    refine l_v (v := (.pointer (some ⟨b, 0, none⟩))) (r_move rfl) ?_
    refine l_v (v := (.pointer (some ⟨b, 0, none⟩))) (r_nil_ptr rfl) ?_
    refine l_v (v := (.pointer (some ⟨b, 0, none⟩))) (r_field_l F.fo133_0 rfl rfl) ?_
    have k8 := h1.keep0 f4
    refine l_v (v := (.slice a xs.length c)) (r_load1 F.one33 rfl (At.cell k8 rfl)) ?_
    refine l_v (v := (.int .i64 (fidx (sameId id) xs))) (r_move rfl) ?_
    obtain ⟨k, x, hk, hx, hp⟩ := fidx_ge (p := sameId id) (l := xs) (by omega)
    have ha : ∃ ad, a = some ad := h2.sl.some (by rw [evs_len]; have := get_lt hx; omega)
    refine l_v (v := (.pointer (some ((adr a).add (k * 2))))) (r_indexAddr F.sle33 rfl (congrArg (Value.int .i64) hk) ha (by omega) (by have := get_lt hx; omega) (by first | rfl | simp | omega)) ?_
    refine l_v (v := (.pointer (some ((adr a).add (k * 2 + 1))))) (r_field_e F.fo74_1 rfl) ?_
    have k9 := s2.keep0 f4
    refine l_v (v := (.int .i64 x.pipe)) (r_loadE1 F.one3 k9 rfl (evs_vs hx 1 _ rfl)) ?_
    refine l_v (v := (.int .i64 x.pipe)) (r_assign rfl) ?_
    refine l_v (v := (.bool true)) (r_assign rfl) ?_
    refine l_nil ?_
    refine (x_then ?_)
    refine c_ret ?_
    refine p_ret (v := (.tuple #[(.int .i64 x.pipe), (.bool true)])) (res2 rfl rfl rfl) ?_
    exact ⟨(by rw [seen_some hk hx]; rfl), t6⟩

set_option maxHeartbeats 400000 in
set_option maxRecDepth 100000 in
theorem take_c {w : World} {b : Nat} {a : Option Addr} {c : Nat} {xs : List Ev} {id : ByteArray} {p : Int} (h1 : At w b (.cells #[(.slice a xs.length c)] 133 (0, 0))) (h2 : Own w 74 2 a xs.length c (evs xs)) (h3 : xs.length ≤ 8) (h9 : id.size ≤ 1000000000000000) :
    Calls Proofs.Try.prog 34 #[(.pointer (some ⟨b, 0, none⟩)), (.string id), (.int .i64 p)] w (Ret fun v w' => ∃ a' : Option Addr, ∃ c' : Nat, v = (.int .i64 (takeC xs id p)) ∧ Fr ([b] ++ (ob a)) w w' ∧ At w' b (.cells #[(.slice a' ((takeL xs id p).length) c')] 133 (0, 0)) ∧ Own w' 74 2 a' ((takeL xs id p).length) c' (evs (takeL xs id p)) ∧ (∀ x ∈ ob a', x ∈ ob a ∨ w.heap.size ≤ x)) := by
  have lt_h1 := h1.lt
  have lt_h2 := h2.lt
  have n1 := ob_ne' h2.tag h1 rfl
  have hcap := h2.cap
  have t0 : Fr ([b] ++ (ob a)) w w := Fr.refl _ _
  refine enter Proofs.Try.func34 rfl Proofs.Try.ntmps34 (Nat.le_of_ble_eq_true rfl) ?_
  refine c_seq ?_
  refine c_region ?_
  refine l_v (v := (.int .i64 0)) (r_assign rfl) ?_
  refine l_nil ?_
  refine (x_then ?_)
  refine c_seq ?_
  refine c_block ?_
  refine c_seq ?_
  refine c_region ?_
  refine l_v (v := (.pointer (some ⟨b, 0, none⟩))) (r_move rfl) ?_
  refine l_v (v := (.bool false)) (r_eqlPn (a := (some ⟨b, 0, none⟩)) F.ptr23 rfl) ?_
  refine l_v (v := (.bool false)) (r_assign rfl) ?_
  refine l_nil ?_
  refine (x_then ?_)
  refine c_false rfl ?_
  refine c_seq ?_
  refine c_region ?_
  refine l_v (v := (.string id)) (r_move rfl) ?_
  refine l_do rfl ?_
  refine d_call (fl := []) (cl := []) (A := [(.string id)]) (B := [(.string id)]) F.ok95 rfl (ac rfl an) rfl (word_c (s := id) (by omega)) ?_
  rintro _ w2 ⟨rfl, f3⟩
  have z4 := f3.size
  have t5 := t0.trans0 f3
  refine l_v (v := (.bool (!(isWord id)))) (r_not rfl) ?_
  refine l_v (v := (.bool (!(isWord id)))) (r_assign rfl) ?_
  refine l_nil ?_
  refine (x_then ?_)
  refine c_split (t := (!(isWord id))) rfl (fun c6 => ?_) (fun c6 => ?_)
  ·
    refine c_seq ?_
    refine c_region ?_
    refine l_v (v := (.int .i64 63)) (r_assign rfl) ?_
    refine l_nil ?_
    refine (x_then ?_)
    refine c_ret ?_
    refine (x_blk_r (x_then_r ?_))
    refine p_ret (v := (.int .i64 63)) (res1 rfl rfl) ?_
    have ec : takeC xs id p = 63 := by unfold takeC; rw [if_pos (by simpa using c6)]
    have et : takeL xs id p = xs := by unfold takeL; rw [if_neg (by rw [ec]; decide)]
    have k7 := h1.keep0 f3
    have k8 := h2.keep0 f3
    exact ⟨a, c, (by rw [ec]), t5, (by rw [et]; exact k7), (by rw [et]; exact k8), grow_refl⟩
  ·
    refine c_seq ?_
    refine c_region ?_
    refine l_v (v := (.int .i64 p)) (r_move rfl) ?_
    refine l_v (v := (.bool (decide (p < 0)))) (r_lss rfl rfl) ?_
    refine l_v (v := (.bool (decide (p < 0)))) (r_move rfl) ?_
    refine l_em (p := p < 0) ?_ ?_
    · intro c9
      refine l_skip (wanted_not rfl rfl (bd rfl c9) (by decide)) ?_
      refine l_skip (wanted_not rfl rfl (bd rfl c9) (by decide)) ?_
      refine l_v (v := (.bool true)) (r_pick_t (bd rfl c9) rfl) ?_
      refine l_v (v := (.bool true)) (r_assign rfl) ?_
      refine l_nil ?_
      refine (x_then ?_)
      refine c_true rfl ?_
      refine c_seq ?_
      refine c_region ?_
      refine l_v (v := (.int .i64 1)) (r_assign rfl) ?_
      refine l_nil ?_
      refine (x_then ?_)
      refine c_ret ?_
      refine (x_blk_r (x_then_r ?_))
      refine p_ret (v := (.int .i64 1)) (res1 rfl rfl) ?_
      have ec : takeC xs id p = 1 := by unfold takeC; rw [if_neg (by simpa using c6), if_pos (by omega)]
      have et : takeL xs id p = xs := by unfold takeL; rw [if_neg (by rw [ec]; decide)]
      have k10 := h1.keep0 f3
      have k11 := h2.keep0 f3
      exact ⟨a, c, (by rw [ec]), t5, (by rw [et]; exact k10), (by rw [et]; exact k11), grow_refl⟩
    · intro c9
      refine l_gv (v := (.int .i64 p)) (wanted_run rfl rfl (bn rfl c9)) (r_move rfl) ?_
      refine l_gv (v := (.bool (decide (2147483647 < p)))) (wanted_run rfl rfl (bn rfl c9)) (r_gtr rfl rfl) ?_
      refine l_v (v := (.bool (decide (2147483647 < p)))) (r_pick_f (bn rfl c9) rfl) ?_
      refine l_v (v := (.bool (decide (2147483647 < p)))) (r_assign rfl) ?_
      refine l_nil ?_
      refine (x_then ?_)
      refine c_if (p := 2147483647 < p) rfl (fun c12 => ?_) (fun c12 => ?_)
      ·
        refine c_seq ?_
        refine c_region ?_
        refine l_v (v := (.int .i64 1)) (r_assign rfl) ?_
        refine l_nil ?_
        refine (x_then ?_)
        refine c_ret ?_
        refine (x_blk_r (x_then_r ?_))
        refine p_ret (v := (.int .i64 1)) (res1 rfl rfl) ?_
        have ec : takeC xs id p = 1 := by unfold takeC; rw [if_neg (by simpa using c6), if_pos (by omega)]
        have et : takeL xs id p = xs := by unfold takeL; rw [if_neg (by rw [ec]; decide)]
        have k13 := h1.keep0 f3
        have k14 := h2.keep0 f3
        exact ⟨a, c, (by rw [ec]), t5, (by rw [et]; exact k13), (by rw [et]; exact k14), grow_refl⟩
      ·
        refine c_seq ?_
        refine c_region ?_
        refine l_v (v := (.pointer (some ⟨b, 0, none⟩))) (r_move rfl) ?_
        refine l_v (v := (.string id)) (r_move rfl) ?_
        refine l_do rfl ?_
        have k15 := h1.keep0 f3
        have k16 := h2.keep0 f3
        have s17 := k16.sl
        refine d_call (fl := []) (cl := []) (A := [(.pointer (some ⟨b, 0, none⟩)), (.string id)]) (B := [(.pointer (some ⟨b, 0, none⟩)), (.string id)]) F.ok96 rfl (ac rfl (ac rfl an)) rfl (find_c (b := b) (id := id) (a := a) (xs := xs) (c := c) k15 s17 (by omega)) ?_
        rintro _ w18 ⟨rfl, f19⟩
        have z20 := f19.size
        have t21 := t5.trans0 f19
        refine l_v (v := (.bool (decide (0 ≤ (fidx (sameId id) xs))))) (r_geq rfl rfl) ?_
        refine l_v (v := (.bool (decide (0 ≤ (fidx (sameId id) xs))))) (r_assign rfl) ?_
        refine l_nil ?_
        refine (x_then ?_)
        refine c_if (p := 0 ≤ (fidx (sameId id) xs)) rfl (fun c22 => ?_) (fun c22 => ?_)
        ·
          refine c_seq ?_
          refine c_region ?_
          refine l_v (v := (.int .i64 6)) (r_assign rfl) ?_
          refine l_nil ?_
          refine (x_then ?_)
          refine c_ret ?_
          refine (x_blk_r (x_then_r ?_))
          refine p_ret (v := (.int .i64 6)) (res1 rfl rfl) ?_
          have ec : takeC xs id p = 6 := by unfold takeC; rw [if_neg (by simpa using c6), if_neg (by omega), if_pos (by omega)]
          have et : takeL xs id p = xs := by unfold takeL; rw [if_neg (by rw [ec]; decide)]
          have k23 := k15.keep0 f19
          have k24 := k16.keep0 f19
          exact ⟨a, c, (by rw [ec]), t21, (by rw [et]; exact k23), (by rw [et]; exact k24), grow_refl⟩
        ·
          refine c_skip ?_
          refine (x_blk (x_then ?_))
          refine c_seq ?_
          refine c_region ?_
          refine l_v (v := (.string id)) (r_move rfl) ?_
          refine l_v (v := (.int .i64 p)) (r_move rfl) ?_
          refine l_v (v := (.agg #[(.string id), (.int .i64 p)])) (r_build (pc rfl (pc rfl pn)) rfl) ?_
          refine l_do rfl ?_
          refine d_alloc (cs := #[(.string ⟨#[]⟩), (.int .i64 0)]) F.zero74 rfl ?_
          intro w25 b26 f27 a28 h29
          have z30 := f27.size
          have t31 := t21.trans0 f27
          have l32 := h29.lt
          refine l_do rfl ?_
          refine d_storeA (l := [(.string id), (.int .i64 p)]) F.sz74 rfl rfl (by simp [Value.oneCell']) h29 rfl ?_
          intro w33 f34 h35
          have z36 := f34.size
          have t37 := t31.step f34 (one_new (by omega))
          refine l_nil ?_
          refine (x_then ?_)
          refine c_seq ?_
          refine c_seq ?_
          refine c_region ?_
          refine l_v (v := (.pointer (some ⟨b, 0, none⟩))) (r_move rfl) ?_
          refine l_v (v := (.pointer (some ⟨b, 0, none⟩))) (r_nil_ptr rfl) ?_
          refine l_v (v := (.pointer (some ⟨b, 0, none⟩))) (r_field_l F.fo133_0 rfl rfl) ?_
          have k38 := k15.keep0 f19
          have k39 := k38.keep0 f27
          have k40 := k39.keep f34 (not_in1 (by omega))
          refine l_v (v := (.slice a xs.length c)) (r_load1 F.one33 rfl (At.cell k40 rfl)) ?_
          refine l_v (v := (.int .i64 ((xs.length : Nat) : Int))) (r_lenSl F.sl33 rfl) ?_
          refine l_v (v := (.bool (decide (((xs.length : Nat) : Int) = 8)))) (r_eql rfl rfl) ?_
          refine l_nil ?_
          refine (x_then ?_)
          refine c_if (p := ((xs.length : Nat) : Int) = 8) rfl (fun c41 => ?_) (fun c41 => ?_)
          ·
            refine c_seq ?_
            refine f_start (masks := [0, 1, 3, 7, 0, 16, 48, 112, 240, 511]) (F := Fs [(3, fun w => At w b (.cells #[(.slice a xs.length c)] 133 (0, 0))), (7, fun w => At w b (.cells #[(.slice a xs.length c)] 133 (0, 0)))]) #[false, false, false, false, false, false, false, false, false, false] F.mixed rfl rfl (by kernel_rfl) ?_
            intro w48 f49 r50
            have z51 := f49.size
            have t52 := t37.trans0 f49
            refine f_take (i := 0) (v := (.pointer (some ⟨b, 0, none⟩))) #[true, false, false, false, false, false, false, false, false, false] r50 rfl (by kernel_rfl) (fun _ _ _ h => h) rfl (fs_none rfl) (fun w hF => r_move rfl) ?_
            refine f_take (i := 1) (v := (.pointer (some ⟨b, 0, none⟩))) #[true, true, false, false, false, false, false, false, false, false] r50 rfl (by kernel_rfl) (fun _ _ _ h => h) rfl (fs_none rfl) (fun w hF => r_nil_ptr rfl) ?_
            refine f_take (i := 2) (v := (.pointer (some ⟨b, 0, none⟩))) #[true, true, true, false, false, false, false, false, false, false] r50 rfl (by kernel_rfl) (fun _ _ _ h => h) rfl (fs_none rfl) (fun w hF => r_field_l F.fo133_0 rfl rfl) ?_
            have k53 := k40.keep0 f49
            refine f_take (i := 3) (v := (.slice a xs.length c)) #[true, true, true, true, false, false, false, false, false, false] r50 rfl (by kernel_rfl) (fun _ _ _ h => h) rfl (fs_one k53 rfl) (fun w hF => r_load1 F.one33 rfl (At.cell (fs_get List.mem_cons_self hF) rfl)) ?_
            refine f_take (i := 4) (v := (.pointer (some ⟨b, 0, none⟩))) #[true, true, true, true, true, false, false, false, false, false] r50 rfl (by kernel_rfl) (fun _ _ _ h => h) rfl (fs_none rfl) (fun w hF => r_move rfl) ?_
            refine f_take (i := 5) (v := (.pointer (some ⟨b, 0, none⟩))) #[true, true, true, true, true, true, false, false, false, false] r50 rfl (by kernel_rfl) (fun _ _ _ h => h) rfl (fs_none rfl) (fun w hF => r_nil_ptr rfl) ?_
            refine f_take (i := 6) (v := (.pointer (some ⟨b, 0, none⟩))) #[true, true, true, true, true, true, true, false, false, false] r50 rfl (by kernel_rfl) (fun _ _ _ h => h) rfl (fs_none rfl) (fun w hF => r_field_l F.fo133_0 rfl rfl) ?_
            refine f_take (i := 7) (v := (.slice a xs.length c)) #[true, true, true, true, true, true, true, true, false, false] r50 rfl (by kernel_rfl) (fun _ _ _ h => h) rfl (fs_next rfl (fs_one k53 rfl)) (fun w hF => r_load1 F.one33 rfl (At.cell (fs_get (List.mem_cons_of_mem _ List.mem_cons_self) hF) rfl)) ?_
            have k54 := k16.keep0 f19
            have k55 := k54.keep0 f27
            have k56 := k55.keep f34 (ob_not1 (not_ob_old lt_h2 (by omega)))
            have k57 := k56.keep0 f49
            have s58 := k57.ro
            have q59 := s58.cap
            have s60 : Ro w48 (cutA a c 1 2) (xs.length - 1) (c - 1) (evs (xs.drop 1)) := by
              have e0 := Ro.cut0 (k := 2) s58 (by first | (simp only [evs_len]; done) | (simp only [evs_len]; omega) | (simp [evs_len]; done) | (simp [evs_len]; omega)) 1 (by omega)
              have e1 : (evs xs).drop (1 * 2) = (evs xs).drop (1 * 2) := rfl
              have en : xs.length - 1 = xs.length - 1 := by omega
              have ec : c - 1 = c - 1 := by omega
              have ecs : (evs xs).drop (1 * 2) = evs (xs.drop 1) := by rw [evs_drop]
              first | (rw [ecs] at e0; exact e0) | (rw [ecs, ec] at e0; exact e0) | (rw [ecs, en, ec] at e0; exact e0)
            refine f_take (i := 8) (v := (.slice (cutA a c 1 2) (xs.length - 1) (c - 1))) #[true, true, true, true, true, true, true, true, true, false] r50 rfl (by kernel_rfl) (fun _ _ _ h => h) rfl (fs_none rfl) (fun w hF => r_cutN (l := 1) (h := xs.length) F.sle33 rfl ⟨_, rfl⟩ rfl (by omega) (by omega) (by omega) (by omega) (by omega)) ?_
            refine f_one (i := 9) #[true, true, true, true, true, true, true, true, true, true] rfl (by kernel_rfl) rfl ?_
            have s61 := s60.sl
            refine d_copy (news := evs (xs.drop 1)) (m2 := xs.length - 1) Proofs.Try.underlying33 F.inf74 rfl k57 rfl s61 (by rw [evs_len, List.length_drop]) (evs_one _) (by omega) (Nat.le_of_ble_eq_true rfl) ?_
            intro w62 f63 h64
            have z65 := f63.size
            have t66 := t52.step f63 (ob_in (by intro x hx; simp [hx]))
            refine ⟨(pres_all (by kernel_rfl)), ?_⟩
            refine f_done (by kernel_rfl) ?_
            refine (x_then ?_)
            refine c_seq ?_
            refine f_start (masks := [0, 1, 3, 7, 0, 16, 48, 112, 240, 496, 0, 2047, 4095]) (F := Fs [(3, fun w => At w b (.cells #[(.slice a xs.length c)] 133 (0, 0))), (7, fun w => At w b (.cells #[(.slice a xs.length c)] 133 (0, 0))), (10, fun w => At w b26 (.cells #[(.string id), (.int .i64 p)] 74 (0, 0)))]) #[false, false, false, false, false, false, false, false, false, false, false, false, false] F.mixed rfl rfl (by kernel_rfl) ?_
            intro w70 f71 r72
            have z73 := f71.size
            have t74 := t66.trans0 f71
            refine f_take (i := 0) (v := (.pointer (some ⟨b, 0, none⟩))) #[true, false, false, false, false, false, false, false, false, false, false, false, false] r72 rfl (by kernel_rfl) (fun _ _ _ h => h) rfl (fs_none rfl) (fun w hF => r_move rfl) ?_
            refine f_take (i := 1) (v := (.pointer (some ⟨b, 0, none⟩))) #[true, true, false, false, false, false, false, false, false, false, false, false, false] r72 rfl (by kernel_rfl) (fun _ _ _ h => h) rfl (fs_none rfl) (fun w hF => r_nil_ptr rfl) ?_
            refine f_take (i := 2) (v := (.pointer (some ⟨b, 0, none⟩))) #[true, true, true, false, false, false, false, false, false, false, false, false, false] r72 rfl (by kernel_rfl) (fun _ _ _ h => h) rfl (fs_none rfl) (fun w hF => r_field_l F.fo133_0 rfl rfl) ?_
            have k75 := k53.keep f63 n1
            have k76 := k75.keep0 f71
            refine f_take (i := 3) (v := (.slice a xs.length c)) #[true, true, true, true, false, false, false, false, false, false, false, false, false] r72 rfl (by kernel_rfl) (fun _ _ _ h => h) rfl (fs_one k76 rfl) (fun w hF => r_load1 F.one33 rfl (At.cell (fs_get List.mem_cons_self hF) rfl)) ?_
            refine f_take (i := 4) (v := (.pointer (some ⟨b, 0, none⟩))) #[true, true, true, true, true, false, false, false, false, false, false, false, false] r72 rfl (by kernel_rfl) (fun _ _ _ h => h) rfl (fs_none rfl) (fun w hF => r_move rfl) ?_
            refine f_take (i := 5) (v := (.pointer (some ⟨b, 0, none⟩))) #[true, true, true, true, true, true, false, false, false, false, false, false, false] r72 rfl (by kernel_rfl) (fun _ _ _ h => h) rfl (fs_none rfl) (fun w hF => r_nil_ptr rfl) ?_
            refine f_take (i := 6) (v := (.pointer (some ⟨b, 0, none⟩))) #[true, true, true, true, true, true, true, false, false, false, false, false, false] r72 rfl (by kernel_rfl) (fun _ _ _ h => h) rfl (fs_none rfl) (fun w hF => r_field_l F.fo133_0 rfl rfl) ?_
            refine f_take (i := 7) (v := (.slice a xs.length c)) #[true, true, true, true, true, true, true, true, false, false, false, false, false] r72 rfl (by kernel_rfl) (fun _ _ _ h => h) rfl (fs_next rfl (fs_one k76 rfl)) (fun w hF => r_load1 F.one33 rfl (At.cell (fs_get (List.mem_cons_of_mem _ List.mem_cons_self) hF) rfl)) ?_
            refine f_take (i := 8) (v := (.int .i64 ((xs.length : Nat) : Int))) #[true, true, true, true, true, true, true, true, true, false, false, false, false] r72 rfl (by kernel_rfl) (fun _ _ _ h => h) rfl (fs_none rfl) (fun w hF => r_lenSl F.sl33 rfl) ?_
            refine f_take (i := 9) (v := (.int .i64 ((xs.length - 1 : Nat) : Int))) #[true, true, true, true, true, true, true, true, true, true, false, false, false] r72 rfl (by kernel_rfl) (fun _ _ _ h => h) rfl (fs_none rfl) (fun w hF => r_sub rfl rfl (w64 (by omega) (by omega) (by omega))) ?_
            have k77 := h35.keep0 f49
            have k78 := k77.keep f63 (not_ob_old lt_h2 (by omega))
            have k79 := k78.keep0 f71
            refine f_take (i := 10) (v := (.agg #[(.string id), (.int .i64 p)])) #[true, true, true, true, true, true, true, true, true, true, true, false, false] r72 rfl (by kernel_rfl) (fun _ _ _ h => h) rfl (fs_next rfl (fs_next rfl (fs_one k79 rfl))) (fun w hF => r_loadA (l := [(.string id), (.int .i64 p)]) F.agg74 rfl (fs_get (List.mem_cons_of_mem _ (List.mem_cons_of_mem _ List.mem_cons_self)) hF) rfl) ?_
            have ha : ∃ ad, a = some ad := h2.sl.some (by rw [evs_len]; omega)
            refine f_take (i := 11) (v := (.pointer (some ((adr a).add ((xs.length - 1) * 2))))) #[true, true, true, true, true, true, true, true, true, true, true, true, false] r72 rfl (by kernel_rfl) (fun _ _ _ h => h) rfl (fs_none rfl) (fun w hF => r_indexAddr F.sle33 rfl rfl ha (by omega) (by omega) (by first | rfl | simp | omega)) ?_
            refine f_one (i := 12) #[true, true, true, true, true, true, true, true, true, true, true, true, true] rfl (by kernel_rfl) rfl ?_
            have k83 := h64.keep0 f71
            refine d_storeES (l := [(.string id), (.int .i64 p)]) F.sz74 rfl rfl (by simp [Value.oneCell']) (by simp) k83 (by simp only [List.length_cons, List.length_nil]; omega) ?_
            intro w80 f81 h82
            have z84 := f81.size
            have t85 := t74.step f81 (ob_in (by intro x hx; simp [hx]))
            refine ⟨(pres_all (by kernel_rfl)), ?_⟩
            refine f_done (by kernel_rfl) ?_
            refine (x_then ?_)
            refine c_seq ?_
            refine c_region ?_
            refine l_v (v := (.int .i64 0)) (r_assign rfl) ?_
            refine l_nil ?_
            refine (x_then ?_)
            refine c_ret ?_
            refine (x_then_r ?_)
            refine p_ret (v := (.int .i64 0)) (res1 rfl rfl) ?_
            have ec : takeC xs id p = 0 := by unfold takeC; rw [if_neg (by simpa using c6), if_neg (by omega), if_neg (by omega)]
            have et : takeL xs id p = xs.drop 1 ++ [⟨id, p⟩] := by unfold takeL; rw [if_pos ec, if_pos (by omega)]
            have el : (takeL xs id p).length = xs.length := by rw [et]; simp; omega
            have ev := evs_shift (xs := xs) (id := id) (p := p) (by omega)
            have ho : Own w80 74 2 a (takeL xs id p).length c (evs (takeL xs id p)) := by rw [el, et, ← ev]; exact h82
            have k86 := k76.keep f81 n1
            exact ⟨a, c, (by rw [ec]), t85, (by rw [el]; exact k86), ho, grow_refl⟩
          ·
            refine c_skip ?_
            refine (x_then ?_)
            refine c_seq ?_
            refine f_start (masks := [0, 0, 2, 6, 14, 0, 32, 126, 255, 511, 1023]) (F := Fs [(4, fun w => At w b (.cells #[(.slice a xs.length c)] 133 (0, 0))), (5, fun w => At w b26 (.cells #[(.string id), (.int .i64 p)] 74 (0, 0)))]) #[false, false, false, false, false, false, false, false, false, false, false] F.mixed rfl rfl (by kernel_rfl) ?_
            intro w87 f88 r89
            have z90 := f88.size
            have t91 := t37.trans0 f88
            refine f_take (i := 0) (v := (.pointer (some ⟨b, 0, none⟩))) #[true, false, false, false, false, false, false, false, false, false, false] r89 rfl (by kernel_rfl) (fun _ _ _ h => h) rfl (fs_none rfl) (fun w hF => r_move rfl) ?_
            refine f_take (i := 1) (v := (.pointer (some ⟨b, 0, none⟩))) #[true, true, false, false, false, false, false, false, false, false, false] r89 rfl (by kernel_rfl) (fun _ _ _ h => h) rfl (fs_none rfl) (fun w hF => r_move rfl) ?_
            refine f_take (i := 2) (v := (.pointer (some ⟨b, 0, none⟩))) #[true, true, true, false, false, false, false, false, false, false, false] r89 rfl (by kernel_rfl) (fun _ _ _ h => h) rfl (fs_none rfl) (fun w hF => r_nil_ptr rfl) ?_
            refine f_take (i := 3) (v := (.pointer (some ⟨b, 0, none⟩))) #[true, true, true, true, false, false, false, false, false, false, false] r89 rfl (by kernel_rfl) (fun _ _ _ h => h) rfl (fs_none rfl) (fun w hF => r_field_l F.fo133_0 rfl rfl) ?_
            have k92 := k40.keep0 f88
            refine f_take (i := 4) (v := (.slice a xs.length c)) #[true, true, true, true, true, false, false, false, false, false, false] r89 rfl (by kernel_rfl) (fun _ _ _ h => h) rfl (fs_one k92 rfl) (fun w hF => r_load1 F.one33 rfl (At.cell (fs_get List.mem_cons_self hF) rfl)) ?_
            have k93 := h35.keep0 f88
            refine f_take (i := 5) (v := (.agg #[(.string id), (.int .i64 p)])) #[true, true, true, true, true, true, false, false, false, false, false] r89 rfl (by kernel_rfl) (fun _ _ _ h => h) rfl (fs_next rfl (fs_one k93 rfl)) (fun w hF => r_loadA (l := [(.string id), (.int .i64 p)]) F.agg74 rfl (fs_get (List.mem_cons_of_mem _ List.mem_cons_self) hF) rfl) ?_
            refine f_one (i := 6) #[true, true, true, true, true, true, true, false, false, false, false] rfl (by kernel_rfl) rfl ?_
            refine d_lit (el := 74) (k' := 2) (ps := [(0, (.agg #[(.string id), (.int .i64 p)]))]) (cells := #[(.string id), (.int .i64 p)]) (pc rfl pn) (by kernel_rfl) rfl (Nat.le_of_ble_eq_true rfl) ?_
            intro w94 b95 f96 a97 h98
            have z99 := f96.size
            have t100 := t91.trans0 f96
            have g101 := ob_one_ge (o := 0) (s := none) a97
            have l102 := h98.lt
            have := ob_one_lt l102
            refine ⟨(pres_of (pcn_cons (fun _ h => h.keep0 f96) (pcn_cons (fun h _ => absurd h (by decide)) pcn_nil))), ?_⟩
            refine f_one (i := 7) #[true, true, true, true, true, true, true, true, false, false, false] rfl (by kernel_rfl) rfl ?_
            have k110 := k16.keep0 f19
            have k111 := k110.keep0 f27
            have k112 := k111.keep f34 (ob_not1 (not_ob_old lt_h2 (by omega)))
            have k113 := k112.keep0 f88
            have k114 := k113.keep0 f96
            have s115 := h98.sl
            refine d_appendN (news := [(.string id), (.int .i64 p)]) (nn := xs.length + 1) (cs' := (evs xs) ++ [(.string id), (.int .i64 p)]) Proofs.Try.underlying33 F.inf74 rfl (Nat.le_of_ble_eq_true rfl) rfl k114 rfl s115 (by first | rfl | simp | omega) (by simp [Value.oneCell']) (by omega) (by simp only [maxLen]; omega) rfl rfl ?_
            intro w103 a_106 c_107 f104 h105 g108 n109
            have z116 := f104.size
            have t117 := t100.step f104 (ob_in (by intro x hx; simp [hx]))
            have l118 := h105.lt
            refine ⟨(pres_all (by kernel_rfl)), ?_⟩
            refine f_take (i := 8) (v := (.pointer (some ⟨b, 0, none⟩))) #[true, true, true, true, true, true, true, true, true, false, false] r89 rfl (by kernel_rfl) (fun _ _ _ h => h) rfl (fs_none rfl) (fun w hF => r_nil_ptr rfl) ?_
            refine f_take (i := 9) (v := (.pointer (some ⟨b, 0, none⟩))) #[true, true, true, true, true, true, true, true, true, true, false] r89 rfl (by kernel_rfl) (fun _ _ _ h => h) rfl (fs_none rfl) (fun w hF => r_field_l F.fo133_0 rfl rfl) ?_
            refine f_one (i := 10) #[true, true, true, true, true, true, true, true, true, true, true] rfl (by kernel_rfl) rfl ?_
            have k122 := k92.keep0 f96
            have k123 := k122.keep f104 n1
            refine d_store1 (v := (.slice a_106 (xs.length + 1) c_107)) (c' := #[(.slice a_106 (xs.length + 1) c_107)]) F.sz33 rfl rfl rfl k123 (by simp) rfl ?_
            intro w119 f120 h121
            have z124 := f120.size
            have t125 := t117.step f120 (one_in (by simp))
            refine ⟨(pres_all (by kernel_rfl)), ?_⟩
            refine f_done (by kernel_rfl) ?_
            refine (x_then ?_)
            refine c_seq ?_
            refine c_region ?_
            refine l_v (v := (.int .i64 0)) (r_assign rfl) ?_
            refine l_nil ?_
            refine (x_then ?_)
            refine c_ret ?_
            refine p_ret (v := (.int .i64 0)) (res1 rfl rfl) ?_
            have ec : takeC xs id p = 0 := by unfold takeC; rw [if_neg (by simpa using c6), if_neg (by omega), if_neg (by omega)]
            have et : takeL xs id p = xs ++ [⟨id, p⟩] := by unfold takeL; rw [if_pos ec, if_neg (by omega)]
            have k126 := h105.keep f120 (ob_not1 (not_grow n1 g108 (by omega)))
            have ho : Own w119 74 2 a_106 (takeL xs id p).length c_107 (evs (takeL xs id p)) := by rw [et]; first | exact k126 | simpa [evs, evc, spl] using k126
            exact ⟨a_106, c_107, (by rw [ec]), t125, (by rw [et]; first | exact h121 | simpa using h121), ho, (grow_trans grow_refl g108 (by omega))⟩

set_option maxHeartbeats 400000 in
set_option maxRecDepth 100000 in
theorem clone_c {w : World} {a : Option Addr} {c : Nat} {xs : List Ev} (h2 : Own w 74 2 a xs.length c (evs xs)) (h3 : xs.length ≤ 8) :
    Calls Proofs.Try.prog 77 #[(.slice a xs.length c)] w (Ret fun v w' => ∃ a' : Option Addr, ∃ c' : Nat, v = (.slice a' xs.length c') ∧ Fr [] w w' ∧ Own w' 74 2 a' xs.length c' (evs xs) ∧ (∀ x ∈ ob a', w.heap.size ≤ x)) := by
  have lt_h2 := h2.lt
  have t0 : Fr [] w w := Fr.refl _ _
  refine enter Proofs.Try.func77 rfl Proofs.Try.ntmps77 (Nat.le_of_ble_eq_true rfl) ?_
  refine c_seq ?_
  refine c_region ?_
  refine l_v (v := (.slice none 0 0)) (r_assign rfl) ?_
  refine l_nil ?_
  refine (x_then ?_)
  refine c_seq ?_
  refine c_seq ?_
  refine c_region ?_
  refine l_v (v := (.slice a xs.length c)) (r_move rfl) ?_
  refine l_v (v := (.bool a.isNone)) (r_eqlSn (a := a) F.sl33 rfl) ?_
  refine l_nil ?_
  refine (x_then ?_)
  refine c_split (t := a.isNone) rfl (fun c1 => ?_) (fun c1 => ?_)
  ·
    refine c_seq ?_
    refine c_region ?_
    refine l_v (v := (.slice none 0 0)) (r_assign rfl) ?_
    refine l_nil ?_
    refine (x_then ?_)
    refine c_ret ?_
    refine (x_then_r ?_)
    refine p_ret (v := (.slice none 0 0)) (res1 rfl rfl) ?_
    obtain ⟨e0, e1, e2, e3⟩ := own_none h2 c1
    exact ⟨none, 0, (by rw [e1]), t0, (by rw [e1, e3]; exact Own.nil _ _ _), (fun x hx => by cases hx)⟩
  ·
    refine c_skip ?_
    refine (x_then ?_)
    refine c_seq ?_
    refine c_region ?_
    refine l_do rfl ?_
    refine d_lit (el := 74) (k' := 2) (ps := []) (cells := #[]) pn (by kernel_rfl) rfl (Nat.le_of_ble_eq_true rfl) ?_
    intro w2 b3 f4 a5 h6
    have z7 := f4.size
    have t8 := t0.trans0 f4
    have g9 := ob_one_ge (o := 0) (s := none) a5
    have l10 := h6.lt
    have := ob_one_lt l10
    refine l_v (v := (.slice a xs.length c)) (r_move rfl) ?_
    refine l_do rfl ?_
    have k18 := h2.keep0 f4
    have s19 := k18.sl
    refine d_appendN (news := evs xs) (nn := xs.length) (cs' := evs xs) Proofs.Try.underlying33 F.inf74 rfl (Nat.le_of_ble_eq_true rfl) rfl h6 rfl s19 (by rw [evs_len]) (evs_one xs) (by omega) (by simp only [maxLen]; omega) (by omega) (by simp) ?_
    intro w11 a_14 c_15 f12 h13 g16 n17
    have z20 := f12.size
    have t21 := t8.step f12 (ob_new g9 (by omega))
    have l22 := h13.lt
    have g23 := ob_age g9 g16 (by omega)
    refine l_v (v := (.slice a_14 xs.length c_15)) (r_assign rfl) ?_
    refine l_nil ?_
    refine (x_then ?_)
    refine c_ret ?_
    refine p_ret (v := (.slice a_14 xs.length c_15)) (res1 rfl rfl) ?_
    exact ⟨a_14, c_15, rfl, t21, h13, (ob_ge g23 (by omega))⟩

set_option maxHeartbeats 400000 in
set_option maxRecDepth 100000 in
theorem list_c {w : World} {b : Nat} {a : Option Addr} {c : Nat} {xs : List Ev} (h1 : At w b (.cells #[(.slice a xs.length c)] 133 (0, 0))) (h2 : Own w 74 2 a xs.length c (evs xs)) (h3 : xs.length ≤ 8) :
    Calls Proofs.Try.prog 20 #[(.pointer (some ⟨b, 0, none⟩))] w (Ret fun v w' => ∃ a' : Option Addr, ∃ c' : Nat, v = (.slice a' xs.length c') ∧ Fr [] w w' ∧ Own w' 74 2 a' xs.length c' (evs xs) ∧ (∀ x ∈ ob a', w.heap.size ≤ x)) := by
  have lt_h1 := h1.lt
  have lt_h2 := h2.lt
  have n1 := ob_ne' h2.tag h1 rfl
  have t0 : Fr [] w w := Fr.refl _ _
  refine enter Proofs.Try.func20 rfl Proofs.Try.ntmps20 (Nat.le_of_ble_eq_true rfl) ?_
  refine c_seq ?_
  refine c_region ?_
  refine l_v (v := (.slice none 0 0)) (r_assign rfl) ?_
  refine l_nil ?_
  refine (x_then ?_)
  refine c_seq ?_
  refine c_seq ?_
  refine c_region ?_
  refine l_v (v := (.pointer (some ⟨b, 0, none⟩))) (r_move rfl) ?_
  refine l_v (v := (.bool false)) (r_eqlPn (a := (some ⟨b, 0, none⟩)) F.ptr23 rfl) ?_
  refine l_nil ?_
  refine (x_then ?_)
  refine c_false rfl ?_
  refine c_skip ?_
  refine (x_then ?_)
  refine c_seq ?_
  refine c_region ?_
  refine l_v (v := (.pointer (some ⟨b, 0, none⟩))) (r_move rfl) ?_
  refine l_v (v := (.pointer (some ⟨b, 0, none⟩))) (r_nil_ptr rfl) ?_
  refine l_v (v := (.pointer (some ⟨b, 0, none⟩))) (r_field_l F.fo133_0 rfl rfl) ?_
  refine l_v (v := (.slice a xs.length c)) (r_load1 F.one33 rfl (At.cell h1 rfl)) ?_
  refine l_do rfl ?_
  refine d_call (fl := []) (cl := []) (A := [(.slice a xs.length c)]) (B := [(.slice a xs.length c)]) F.ok77 rfl (ac rfl an) rfl (clone_c (a := a) (xs := xs) (c := c) h2 (by omega)) ?_
  rintro _ w2 ⟨a_4, c_5, rfl, f3, h6, p7⟩
  have z8 := f3.size
  have t9 := t0.trans0 f3
  have l11 := h6.lt
  refine l_v (v := (.slice a_4 xs.length c_5)) (r_assign rfl) ?_
  refine l_nil ?_
  refine (x_then ?_)
  refine c_ret ?_
  refine p_ret (v := (.slice a_4 xs.length c_5)) (res1 rfl rfl) ?_
  exact ⟨a_4, c_5, rfl, t9, h6, (ob_ge p7 (by omega))⟩

set_option maxHeartbeats 400000 in
set_option maxRecDepth 100000 in
theorem bytes_c {w : World} {b : Nat} {a : Option Addr} {c : Nat} {xs : List Ev} (h1 : At w b (.cells #[(.slice a xs.length c)] 133 (0, 0))) (h2 : Own w 74 2 a xs.length c (evs xs)) (hg : Good xs) :
    Calls Proofs.Try.prog 21 #[(.pointer (some ⟨b, 0, none⟩))] w (Ret fun v w' => ∃ a' : Option Addr, ∃ c' : Nat, v = (.slice a' ((evBytes xs).length) c') ∧ Fr [] w w' ∧ Own w' 5 1 a' ((evBytes xs).length) c' (bv (evBytes xs)) ∧ (∀ x ∈ ob a', w.heap.size ≤ x)) := by
  have lt_h1 := h1.lt
  have lt_h2 := h2.lt
  have n1 := ob_ne' h2.tag h1 rfl
  have h3 := hg.1
  have t0 : Fr [] w w := Fr.refl _ _
  refine enter Proofs.Try.func21 rfl Proofs.Try.ntmps21 (Nat.le_of_ble_eq_true rfl) ?_
  refine c_seq ?_
  refine c_region ?_
  refine l_v (v := (.slice none 0 0)) (r_assign rfl) ?_
  refine l_nil ?_
  refine (x_then ?_)
  refine c_seq ?_
  refine c_seq ?_
  refine c_region ?_
  refine l_v (v := (.pointer (some ⟨b, 0, none⟩))) (r_move rfl) ?_
  refine l_v (v := (.bool false)) (r_eqlPn (a := (some ⟨b, 0, none⟩)) F.ptr23 rfl) ?_
  refine l_nil ?_
  refine (x_then ?_)
  refine c_false rfl ?_
  refine c_skip ?_
  refine (x_then ?_)
  refine c_seq ?_
  refine c_region ?_
  refine l_v (v := (.pointer (some ⟨b, 0, none⟩))) (r_move rfl) ?_
  refine l_v (v := (.pointer (some ⟨b, 0, none⟩))) (r_nil_ptr rfl) ?_
  refine l_v (v := (.pointer (some ⟨b, 0, none⟩))) (r_field_l F.fo133_0 rfl rfl) ?_
  refine l_v (v := (.slice a xs.length c)) (r_load1 F.one33 rfl (At.cell h1 rfl)) ?_
  refine l_v (v := (.int .i64 ((xs.length : Nat) : Int))) (r_lenSl F.sl33 rfl) ?_
  refine l_do rfl ?_
  refine d_call (fl := []) (cl := []) (A := [(.slice none 0 0), (.int .i64 ((xs.length : Nat) : Int))]) (B := [(.slice none 0 0), (.int .i64 ((xs.length : Nat) : Int))]) F.ok78 rfl (ac rfl (ac rfl an)) rfl (count_c (a := none) (c := 0) (n := ((xs.length : Nat) : Int)) (bs := []) (l := evB xs 0) (Sl.nil _ _) (Nat.zero_le _) (evB_zero xs)) ?_
  rintro _ w2 ⟨a_4, c_5, rfl, f3, h6, p7⟩
  have z8 := f3.size
  have t9 := t0.trans0 f3
  have l11 := h6.lt
  refine l_v (v := (.slice a_4 ((evB xs 0).length) c_5)) (r_assign rfl) ?_
  refine l_nil ?_
  refine (x_then ?_)
  refine c_seq ?_
  refine c_seq ?_
  refine c_region ?_
  refine l_v (v := (.pointer (some ⟨b, 0, none⟩))) (r_move rfl) ?_
  refine l_v (v := (.pointer (some ⟨b, 0, none⟩))) (r_nil_ptr rfl) ?_
  refine l_v (v := (.pointer (some ⟨b, 0, none⟩))) (r_field_l F.fo133_0 rfl rfl) ?_
  have k12 := h1.keep0 f3
  refine l_v (v := (.slice a xs.length c)) (r_load1 F.one33 rfl (At.cell k12 rfl)) ?_
  refine l_v (v := (.int .i64 ((xs.length : Nat) : Int))) (r_lenSl F.sl33 rfl) ?_
  refine l_v (v := (.int .i64 0)) (r_move rfl) ?_
  refine l_nil ?_
  refine (x_then ?_)
  refine c_block ?_
  refine c_loop (fun (m : Nat) (e' : Nat → Value) (w' : World) => ∃ k : Nat, ∃ a3 : Option Addr, ∃ c3 : Nat, m = xs.length - k ∧ e' 0 = (.pointer (some ⟨b, 0, none⟩)) ∧ e' 2 = (.slice none 0 0) ∧ e' 3 = (.slice a3 ((evB xs k).length) c3) ∧ e' 6 = (.pointer (some ⟨b, 0, none⟩)) ∧ e' 7 = (.bool false) ∧ e' 8 = (.pointer (some ⟨b, 0, none⟩)) ∧ e' 9 = (.pointer (some ⟨b, 0, none⟩)) ∧ e' 10 = (.pointer (some ⟨b, 0, none⟩)) ∧ e' 11 = (.slice a xs.length c) ∧ e' 12 = (.int .i64 ((xs.length : Nat) : Int)) ∧ e' 13 = (.slice a_4 ((evB xs 0).length) c_5) ∧ e' 14 = (.pointer (some ⟨b, 0, none⟩)) ∧ e' 15 = (.pointer (some ⟨b, 0, none⟩)) ∧ e' 16 = (.pointer (some ⟨b, 0, none⟩)) ∧ e' 17 = (.slice a xs.length c) ∧ e' 18 = (.int .i64 ((xs.length : Nat) : Int)) ∧ e' 19 = (.int .i64 ((k : Nat) : Int)) ∧ Fr [] w2 w' ∧ Own w' 5 1 a3 ((evB xs k).length) c3 (bv (evB xs k)) ∧ (k ≤ xs.length) ∧ (∀ x ∈ ob a3, w.heap.size ≤ x)) (xs.length - 0) ⟨0, a_4, c_5, rfl, rfl, rfl, rfl, rfl, rfl, rfl, rfl, rfl, rfl, rfl, rfl, rfl, rfl, rfl, rfl, rfl, rfl, Fr.refl _ _, h6, (by omega), (ob_ge p7 (by omega))⟩ ?_
  rintro m_f15 e13 w14 ⟨k, a3, c3, hm_f15, s16, s17, s18, s19, s20, s21, s22, s23, s24, s25, s26, s27, s28, s29, s30, s31, s32, f15, h33, p34, hge⟩
  have z35 := f15.size
  have t36 := t9.trans0 f15
  have l37 := h33.lt
  have t_f15 : Fr [] w2 w14 := f15
  refine c_seq ?_
  refine c_region ?_
  refine l_v (v := (.bool (decide (((k : Nat) : Int) < ((xs.length : Nat) : Int))))) (r_lss s32 s31) ?_
  refine l_nil ?_
  refine (x_then ?_)
  refine c_seq ?_
  refine c_if (p := ((k : Nat) : Int) < ((xs.length : Nat) : Int)) rfl (fun c38 => ?_) (fun c38 => ?_)
  ·
    refine c_skip ?_
    refine (x_then ?_)
    refine c_seq ?_
    refine c_block ?_
    refine c_seq ?_
    refine c_region ?_
    obtain ⟨x, hx⟩ := get_some (l := xs) (k := k) (by omega)
    have ha : ∃ ad, a = some ad := h2.sl.some (by rw [evs_len]; omega)
    have hb1 := evB_len hg k (by omega)
    have hb2 := strL_len (evB xs k) x.id.data.toList
    have hb3 := word_size (hg.2 x (mem_of_get hx)).1
    have hb4 := size_eq x.id
    refine l_v (v := (.pointer (some ((adr a).add (k * 2))))) (r_indexAddr F.sle33 s30 s32 ha (by omega) (by omega) (by first | rfl | simp | omega)) ?_
    have k39 := h2.keep0 f3
    have k40 := k39.keep0 f15
    have s41 := k40.sl
    refine l_v (v := (.agg #[(.string x.id), (.int .i64 x.pipe)])) (r_loadES [(.string x.id), (.int .i64 x.pipe)] F.agg74 s41 rfl rfl (evs_vs hx)) ?_
    refine l_do rfl ?_
    refine d_alloc (cs := #[(.string ⟨#[]⟩), (.int .i64 0)]) F.zero74 rfl ?_
    intro w42 b43 f44 a45 h46
    have z47 := f44.size
    have t48 := t36.trans0 f44
    have t49 := t_f15.trans0 f44
    have l50 := h46.lt
    refine l_do rfl ?_
    refine d_storeA (l := [(.string x.id), (.int .i64 x.pipe)]) F.sz74 rfl rfl (by simp [Value.oneCell']) h46 rfl ?_
    intro w51 f52 h53
    have z54 := f52.size
    have t55 := t48.step f52 (one_new (by omega))
    have t56 := t49.step f52 (one_new (by omega))
    refine l_nil ?_
    refine (x_then ?_)
    refine f_start (masks := [0, 0, 2, 7, 0, 16, 63, 127]) (F := Fs [(2, fun w => At w b43 (.cells #[(.string x.id), (.int .i64 x.pipe)] 74 (0, 0))), (5, fun w => At w b43 (.cells #[(.string x.id), (.int .i64 x.pipe)] 74 (0, 0)))]) #[false, false, false, false, false, false, false, false] F.mixed rfl rfl (by kernel_rfl) ?_
    intro w57 f58 r59
    have z60 := f58.size
    have t61 := t55.trans0 f58
    have t62 := t56.trans0 f58
    refine f_take (i := 0) (v := (.slice a3 ((evB xs k).length) c3)) #[true, false, false, false, false, false, false, false] r59 rfl (by kernel_rfl) (fun _ _ _ h => h) rfl (fs_none rfl) (fun w hF => r_move s18) ?_
    refine f_take (i := 1) (v := (.pointer (some ⟨b43, 0, none⟩))) #[true, true, false, false, false, false, false, false] r59 rfl (by kernel_rfl) (fun _ _ _ h => h) rfl (fs_none rfl) (fun w hF => r_field_l F.fo74_0 rfl rfl) ?_
    have k63 := h53.keep0 f58
    refine f_take (i := 2) (v := (.string x.id)) #[true, true, true, false, false, false, false, false] r59 rfl (by kernel_rfl) (fun _ _ _ h => h) rfl (fs_one k63 rfl) (fun w hF => r_load1 F.one9 rfl (At.cell (fs_get List.mem_cons_self hF) rfl)) ?_
    refine f_take (i := 4) (v := (.pointer (some ⟨b43, 1, none⟩))) #[true, true, true, false, true, false, false, false] r59 rfl (by kernel_rfl) (fun _ _ _ h => h) rfl (fs_none rfl) (fun w hF => r_field_l F.fo74_1 rfl rfl) ?_
    refine f_take (i := 5) (v := (.int .i64 x.pipe)) #[true, true, true, false, true, true, false, false] r59 rfl (by kernel_rfl) (fun _ _ _ h => h) rfl (fs_next rfl (fs_one k63 rfl)) (fun w hF => r_load1 F.one3 rfl (At.cell (fs_get (List.mem_cons_of_mem _ List.mem_cons_self) hF) rfl)) ?_
    refine f_one (i := 3) #[true, true, true, true, true, true, false, false] rfl (by kernel_rfl) rfl ?_
    have k64 := h33.keep0 f44
    have k65 := k64.keep f52 (ob_not1 (not_ob_old l37 (by omega)))
    have k66 := k65.keep0 f58
    have s67 := k66.sl
    refine d_call (fl := []) (cl := []) (A := [(.slice a3 ((evB xs k).length) c3), (.string x.id)]) (B := [(.slice a3 ((evB xs k).length) c3), (.string x.id)]) F.ok79 rfl (ac rfl (ac rfl an)) rfl (str_c (a := a3) (bs := evB xs k) (c := c3) (s := x.id) (l := strL (evB xs k) x.id.data.toList) s67 (by omega) (by omega) rfl) ?_
    rintro _ w68 ⟨a_70, c_71, rfl, f69, h72, p73⟩
    have z74 := f69.size
    have t75 := t61.trans0 f69
    have t76 := t62.trans0 f69
    have l78 := h72.lt
    refine ⟨(pres_of (pcn_cons (fun h _ => absurd h (by decide)) (pcn_cons (fun _ h => h.keep0 f69) pcn_nil))), ?_⟩
    refine f_one (i := 6) #[true, true, true, true, true, true, true, false] rfl (by kernel_rfl) rfl ?_
    have s79 := h72.sl
    refine d_call (fl := []) (cl := []) (A := [(.slice a_70 ((strL (evB xs k) x.id.data.toList).length) c_71), (.int .i64 x.pipe)]) (B := [(.slice a_70 ((strL (evB xs k) x.id.data.toList).length) c_71), (.int .i64 x.pipe)]) F.ok78 rfl (ac rfl (ac rfl an)) rfl (count_c (a := a_70) (bs := strL (evB xs k) x.id.data.toList) (c := c_71) (n := x.pipe) (l := evB xs (k + 1)) s79 (by omega) (evB_succ hx)) ?_
    rintro _ w80 ⟨a_82, c_83, rfl, f81, h84, p85⟩
    have z86 := f81.size
    have t87 := t75.trans0 f81
    have t88 := t76.trans0 f81
    have l90 := h84.lt
    refine ⟨(pres_all (by kernel_rfl)), ?_⟩
    refine f_take (i := 7) (v := (.slice a_82 ((evB xs (k + 1)).length) c_83)) #[true, true, true, true, true, true, true, true] r59 rfl (by kernel_rfl) (fun _ _ _ h => h) rfl (fs_none rfl) (fun w hF => r_assign rfl) ?_
    refine f_done (by kernel_rfl) ?_
    refine (x_blk (x_then ?_))
    refine c_region ?_
    refine l_v (v := (.int .i64 ((k + 1 : Nat) : Int))) (r_add s32 rfl (w64 (by omega) (by omega) (by omega))) ?_
    refine l_v (v := (.int .i64 ((k + 1 : Nat) : Int))) (r_move rfl) ?_
    refine l_nil ?_
    refine (x_then ?_)
    exact ⟨_, _, (by omega), rfl, k + 1, a_82, c_83, rfl, s16, s17, rfl, s19, s20, s21, s22, s23, s24, s25, s26, s27, s28, s29, s30, s31, rfl, t88, h84, (by omega), (ob_ge p85 (by omega))⟩
  ·
    refine c_exit ?_
    refine (x_then_x (x_then_x (x_blk_hit (x_then ?_))))
    refine c_seq ?_
    refine c_region ?_
    refine l_v (v := (.slice a3 ((evB xs k).length) c3)) (r_move s18) ?_
    refine l_v (v := (.slice a3 ((evB xs k).length) c3)) (r_assign rfl) ?_
    refine l_nil ?_
    refine (x_then ?_)
    refine c_ret ?_
    refine p_ret (v := (.slice a3 ((evB xs k).length) c3)) (res1 rfl rfl) ?_
    have ek : k = xs.length := by omega
    subst ek
    exact ⟨a3, c3, rfl, t36, h33, (ob_ge hge (by omega))⟩

set_option maxHeartbeats 400000 in
set_option maxRecDepth 100000 in
theorem new_c {w : World}   :
    Calls Proofs.Try.prog 33 #[] w (Ret fun v w' => ∃ b : Nat, v = (.pointer (some ⟨b, 0, none⟩)) ∧ Fr [] w w' ∧ At w' b (.cells #[(.slice none 0 0)] 133 (0, 0)) ∧ (w.heap.size ≤ b)) := by
  have t0 : Fr [] w w := Fr.refl _ _
  refine enter Proofs.Try.func33 rfl Proofs.Try.ntmps33 (Nat.le_of_ble_eq_true rfl) ?_
  refine c_seq ?_
  refine c_region ?_
  refine l_v (v := (.pointer none)) (r_assign rfl) ?_
  refine l_nil ?_
  refine (x_then ?_)
  refine c_seq ?_
  refine c_region ?_
  refine l_v (v := (.agg #[(.slice none 0 0)])) (r_build pn rfl) ?_
  refine l_do rfl ?_
  refine d_box (v := (.agg #[(.slice none 0 0)])) (cs := #[(.slice none 0 0)]) rfl rfl ?_
  intro w1 b2 f3 a4 h5
  have z6 := f3.size
  have t7 := t0.trans0 f3
  have l8 := h5.lt
  refine l_v (v := (.pointer (some ⟨b2, 0, none⟩))) (r_assign rfl) ?_
  refine l_nil ?_
  refine (x_then ?_)
  refine c_ret ?_
  refine p_ret (v := (.pointer (some ⟨b2, 0, none⟩))) (res1 rfl rfl) ?_
  exact ⟨b2, rfl, t7, h5, (by omega)⟩

set_option maxHeartbeats 400000 in
set_option maxRecDepth 100000 in
theorem copy_c {w : World} {b : Nat} {a : Option Addr} {c : Nat} {xs : List Ev} (h1 : At w b (.cells #[(.slice a xs.length c)] 133 (0, 0))) (h2 : Own w 74 2 a xs.length c (evs xs)) (h3 : xs.length ≤ 8) :
    Calls Proofs.Try.prog 36 #[(.pointer (some ⟨b, 0, none⟩))] w (Ret fun v w' => ∃ b' : Nat, ∃ a' : Option Addr, ∃ c' : Nat, v = (.pointer (some ⟨b', 0, none⟩)) ∧ Fr [] w w' ∧ At w' b' (.cells #[(.slice a' xs.length c')] 133 (0, 0)) ∧ Own w' 74 2 a' xs.length c' (evs xs) ∧ (w.heap.size ≤ b') ∧ (∀ x ∈ ob a', w.heap.size ≤ x)) := by
  have lt_h1 := h1.lt
  have lt_h2 := h2.lt
  have n1 := ob_ne' h2.tag h1 rfl
  have t0 : Fr [] w w := Fr.refl _ _
  refine enter Proofs.Try.func36 rfl Proofs.Try.ntmps36 (Nat.le_of_ble_eq_true rfl) ?_
  refine c_seq ?_
  refine c_region ?_
  refine l_v (v := (.pointer none)) (r_assign rfl) ?_
  refine l_nil ?_
  refine (x_then ?_)
  refine c_seq ?_
  refine c_seq ?_
  refine c_region ?_
  refine l_v (v := (.pointer (some ⟨b, 0, none⟩))) (r_move rfl) ?_
  refine l_v (v := (.bool false)) (r_eqlPn (a := (some ⟨b, 0, none⟩)) F.ptr23 rfl) ?_
  refine l_nil ?_
  refine (x_then ?_)
  refine c_false rfl ?_
  refine c_skip ?_
  refine (x_then ?_)
  refine c_seq ?_
  refine c_region ?_
  refine l_v (v := (.pointer (some ⟨b, 0, none⟩))) (r_move rfl) ?_
  refine l_do rfl ?_
  refine d_call (fl := []) (cl := []) (A := [(.pointer (some ⟨b, 0, none⟩))]) (B := [(.pointer (some ⟨b, 0, none⟩))]) F.ok20 rfl (ac rfl an) rfl (list_c (b := b) (a := a) (xs := xs) (c := c) h1 h2 (by omega)) ?_
  rintro _ w2 ⟨a_4, c_5, rfl, f3, h6, p7⟩
  have z8 := f3.size
  have t9 := t0.trans0 f3
  have l11 := h6.lt
  refine l_v (v := (.agg #[(.slice a_4 xs.length c_5)])) (r_build (pc rfl pn) rfl) ?_
  refine l_do rfl ?_
  refine d_box (v := (.agg #[(.slice a_4 xs.length c_5)])) (cs := #[(.slice a_4 xs.length c_5)]) rfl rfl ?_
  intro w12 b13 f14 a15 h16
  have z17 := f14.size
  have t18 := t9.trans0 f14
  have l19 := h16.lt
  refine l_v (v := (.pointer (some ⟨b13, 0, none⟩))) (r_assign rfl) ?_
  refine l_nil ?_
  refine (x_then ?_)
  refine c_ret ?_
  refine p_ret (v := (.pointer (some ⟨b13, 0, none⟩))) (res1 rfl rfl) ?_
  have k20 := h6.keep0 f14
  exact ⟨b13, a_4, c_5, rfl, t18, h16, k20, (by omega), (ob_ge p7 (by omega))⟩

end Go.Sy
