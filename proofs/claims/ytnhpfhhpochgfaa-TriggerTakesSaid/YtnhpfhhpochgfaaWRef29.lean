/- Walks of the document's package trigger. -/
import Derived.Test.YtnhpfhhpochgfaaWRef1
import Derived.Test.YtnhpfhhpochgfaaPTrig
namespace Go.Sy
set_option linter.unusedVariables false
set_option linter.unusedSimpArgs false

set_option maxHeartbeats 400000 in
set_option maxRecDepth 100000 in
theorem rWord_c {w : World} {s : ByteArray} (h9 : s.size ≤ 1000000000000000) :
    Calls Proofs.Try.prog 97 #[(.string s)] w (Ret fun v w' => v = (.bool (isWord s)) ∧ Fr [] w w') := by
  have t0 : Fr [] w w := Fr.refl _ _
  refine enter Proofs.Try.func97 rfl Proofs.Try.ntmps97 (Nat.le_of_ble_eq_true rfl) ?_
  refine c_seq ?_
  refine c_region ?_
  refine l_v (v := (.bool false)) (r_assign rfl) ?_
  refine l_nil ?_
  refine (x_then ?_)
  refine c_seq ?_
  refine c_seq ?_
  refine c_region ?_
  refine l_v (v := (.string s)) (r_move rfl) ?_
  refine l_v (v := (.int .i64 ((s.size : Nat) : Int))) (r_lenSn Proofs.Try.underlying9 rfl rfl) ?_
  refine l_v (v := (.bool (decide (((s.size : Nat) : Int) < 1)))) (r_lss rfl rfl) ?_
  refine l_v (v := (.bool (decide (((s.size : Nat) : Int) < 1)))) (r_move rfl) ?_
  refine l_em (p := ((s.size : Nat) : Int) < 1) ?_ ?_
  · intro c1
    refine l_skip (wanted_not rfl rfl (bd rfl c1) (by decide)) ?_
    refine l_skip (wanted_not rfl rfl (bd rfl c1) (by decide)) ?_
    refine l_skip (wanted_not rfl rfl (bd rfl c1) (by decide)) ?_
    refine l_v (v := (.bool true)) (r_pick_t (bd rfl c1) rfl) ?_
    refine l_nil ?_
    refine (x_then ?_)
    refine c_true rfl ?_
    refine c_seq ?_
    refine c_region ?_
    refine l_v (v := (.bool false)) (r_assign rfl) ?_
    refine l_nil ?_
    refine (x_then ?_)
    refine c_ret ?_
    refine (x_then_r ?_)
    refine p_ret (v := (.bool false)) (res1 rfl rfl) ?_
    exact ⟨(by rw [word_len (by omega)]), t0⟩
  · intro c1
    refine l_gv (v := (.string s)) (wanted_run rfl rfl (bn rfl c1)) (r_move rfl) ?_
    refine l_gv (v := (.int .i64 ((s.size : Nat) : Int))) (wanted_run rfl rfl (bn rfl c1)) (r_lenSn Proofs.Try.underlying9 rfl rfl) ?_
    refine l_gv (v := (.bool (decide (64 < ((s.size : Nat) : Int))))) (wanted_run rfl rfl (bn rfl c1)) (r_gtr rfl rfl) ?_
    refine l_v (v := (.bool (decide (64 < ((s.size : Nat) : Int))))) (r_pick_f (bn rfl c1) rfl) ?_
    refine l_nil ?_
    refine (x_then ?_)
    refine c_if (p := 64 < ((s.size : Nat) : Int)) rfl (fun c2 => ?_) (fun c2 => ?_)
    ·
      refine c_seq ?_
      refine c_region ?_
      refine l_v (v := (.bool false)) (r_assign rfl) ?_
      refine l_nil ?_
      refine (x_then ?_)
      refine c_ret ?_
      refine (x_then_r ?_)
      refine p_ret (v := (.bool false)) (res1 rfl rfl) ?_
      exact ⟨(by rw [word_len (by omega)]), t0⟩
    ·
      refine c_skip ?_
      refine (x_then ?_)
      refine c_seq ?_
      refine c_seq ?_
      refine c_region ?_
      refine l_v (v := (.int .i64 0)) (r_assign rfl) ?_
      refine l_nil ?_
      refine (x_then ?_)
      refine c_block ?_
      refine c_loop (fun (m : Nat) (e' : Nat → Value) (w' : World) => ∃ k : Nat, m = s.size - k ∧ e' 0 = (.string s) ∧ e' 3 = (.int .i64 ((k : Nat) : Int)) ∧ e' 4 = (.string s) ∧ e' 5 = (.int .i64 ((s.size : Nat) : Int)) ∧ e' 6 = (.bool (decide (((s.size : Nat) : Int) < 1))) ∧ e' 7 = (.bool (decide (((s.size : Nat) : Int) < 1))) ∧ e' 8 = (.string s) ∧ e' 9 = (.int .i64 ((s.size : Nat) : Int)) ∧ e' 10 = (.bool (decide (64 < ((s.size : Nat) : Int)))) ∧ e' 11 = (.bool (decide (64 < ((s.size : Nat) : Int)))) ∧ Fr [] w w' ∧ (k ≤ s.size) ∧ (∀ j, j < k → ∀ c, s.data.toList[j]? = some c → wOk c = true)) (s.size - 0) ⟨0, rfl, rfl, rfl, rfl, rfl, rfl, rfl, rfl, rfl, rfl, rfl, Fr.refl _ _, (by omega), (fun j hj => by omega)⟩ ?_
      rintro m_f5 e3 w4 ⟨k, hm_f5, s6, s7, s8, s9, s10, s11, s12, s13, s14, s15, f5, p16, hall⟩
      have z17 := f5.size
      have t18 := t0.trans0 f5
      have t_f5 : Fr [] w w4 := f5
      refine c_seq ?_
      refine c_seq ?_
      refine c_region ?_
      refine l_v (v := (.int .i64 ((k : Nat) : Int))) (r_move s7) ?_
      refine l_v (v := (.string s)) (r_move s6) ?_
      refine l_v (v := (.int .i64 ((s.size : Nat) : Int))) (r_lenSn Proofs.Try.underlying9 rfl rfl) ?_
      refine l_v (v := (.bool (decide (((k : Nat) : Int) < ((s.size : Nat) : Int))))) (r_lss rfl rfl) ?_
      refine l_nil ?_
      refine (x_then ?_)
      refine c_if (p := ((k : Nat) : Int) < ((s.size : Nat) : Int)) rfl (fun c19 => ?_) (fun c19 => ?_)
      ·
        refine c_skip ?_
        refine (x_then ?_)
        refine c_seq ?_
        refine c_block ?_
        refine c_seq ?_
        refine c_region ?_
        refine l_v (v := (.string s)) (r_move s6) ?_
        refine l_v (v := (.int .i64 ((k : Nat) : Int))) (r_move s7) ?_
        obtain ⟨x, hx⟩ := byte_some (s := s) (k := k) (by first | omega | (rw [mkS_size]; omega))
        refine l_v (v := (.int .u8 ((x.toNat : Nat) : Int))) (r_indexS Proofs.Try.underlying9 rfl rfl (by omega) (byte_get rfl hx)) ?_
        refine l_v (v := (.bool (decide (((x.toNat : Nat) : Int) < 33)))) (r_lss rfl rfl) ?_
        refine l_v (v := (.bool (decide (((x.toNat : Nat) : Int) < 33)))) (r_move rfl) ?_
        refine l_em (p := ((x.toNat : Nat) : Int) < 33) ?_ ?_
        · intro c20
          refine l_skip (wanted_not rfl rfl (bd rfl c20) (by decide)) ?_
          refine l_skip (wanted_not rfl rfl (bd rfl c20) (by decide)) ?_
          refine l_skip (wanted_not rfl rfl (bd rfl c20) (by decide)) ?_
          refine l_skip (wanted_not rfl rfl (bd rfl c20) (by decide)) ?_
          refine l_v (v := (.bool true)) (r_pick_t (bd rfl c20) rfl) ?_
          refine l_nil ?_
          refine (x_then ?_)
          refine c_true rfl ?_
          refine c_seq ?_
          refine c_region ?_
          refine l_v (v := (.bool false)) (r_assign rfl) ?_
          refine l_nil ?_
          refine (x_then ?_)
          refine c_ret ?_
          refine (x_blk_r (x_then_r (x_then_r (x_blk_r (x_then_r ?_)))))
          refine p_ret (v := (.bool false)) (res1 rfl rfl) ?_
          exact ⟨(by rw [word_bad hx (by omega)]), t18⟩
        · intro c20
          refine l_gv (v := (.string s)) (wanted_run rfl rfl (bn rfl c20)) (r_move s6) ?_
          refine l_gv (v := (.int .i64 ((k : Nat) : Int))) (wanted_run rfl rfl (bn rfl c20)) (r_move s7) ?_
          refine l_gv (v := (.int .u8 ((x.toNat : Nat) : Int))) (wanted_run rfl rfl (bn rfl c20)) (r_indexS Proofs.Try.underlying9 rfl rfl (by omega) (byte_get rfl hx)) ?_
          refine l_gv (v := (.bool (decide (126 < ((x.toNat : Nat) : Int))))) (wanted_run rfl rfl (bn rfl c20)) (r_gtr rfl rfl) ?_
          refine l_v (v := (.bool (decide (126 < ((x.toNat : Nat) : Int))))) (r_pick_f (bn rfl c20) rfl) ?_
          refine l_nil ?_
          refine (x_then ?_)
          refine c_if (p := 126 < ((x.toNat : Nat) : Int)) rfl (fun c21 => ?_) (fun c21 => ?_)
          ·
            refine c_seq ?_
            refine c_region ?_
            refine l_v (v := (.bool false)) (r_assign rfl) ?_
            refine l_nil ?_
            refine (x_then ?_)
            refine c_ret ?_
            refine (x_blk_r (x_then_r (x_then_r (x_blk_r (x_then_r ?_)))))
            refine p_ret (v := (.bool false)) (res1 rfl rfl) ?_
            exact ⟨(by rw [word_bad hx (by omega)]), t18⟩
          ·
            refine c_skip ?_
            refine (x_blk (x_then ?_))
            refine c_region ?_
            refine l_v (v := (.int .i64 ((k : Nat) : Int))) (r_move s7) ?_
            refine l_v (v := (.int .i64 ((k + 1 : Nat) : Int))) (r_add rfl rfl (w64 (by omega) (by omega) (by omega))) ?_
            refine l_v (v := (.int .i64 ((k + 1 : Nat) : Int))) (r_assign rfl) ?_
            refine l_nil ?_
            refine (x_then ?_)
            exact ⟨_, _, (by omega), rfl, k + 1, rfl, s6, rfl, s8, s9, s10, s11, s12, s13, s14, s15, t_f5, (by omega), (ok_succ hall hx (wok_of (by omega) (by omega)))⟩
      ·
        refine c_exit ?_
        refine (x_then_x (x_then_x (x_blk_hit (x_then ?_))))
        refine c_seq ?_
        refine c_region ?_
        refine l_v (v := (.bool true)) (r_assign rfl) ?_
        refine l_nil ?_
        refine (x_then ?_)
        refine c_ret ?_
        refine p_ret (v := (.bool true)) (res1 rfl rfl) ?_
        exact ⟨(by rw [word_ok hall (by omega) (by omega) (by omega)]), t18⟩

set_option maxHeartbeats 400000 in
set_option maxRecDepth 100000 in
theorem rSeen_c {w : World} {b c : Nat} {a : Option Addr} {xs : List Ev} {id : ByteArray} (h1 : At w b (.cells #[(.slice a xs.length c)] 36 (0, 0))) (h2 : Ro w a xs.length c (evs xs)) (h3 : xs.length ≤ 8) :
    Calls Proofs.Try.prog 38 #[(.pointer (some ⟨b, 0, none⟩)), (.string id)] w (Ret fun v w' => v = (.tuple #[(.int .i64 ((seenE xs id).elim 0 Ev.pipe)), (.bool ((seenE xs id).isSome))]) ∧ Fr [] w w') := by
  have lt_h1 := h1.lt
  have lt_h2 := h2.lt
  have t0 : Fr [] w w := Fr.refl _ _
  refine enter Proofs.Try.func38 rfl Proofs.Try.ntmps38 (Nat.le_of_ble_eq_true rfl) ?_
  refine c_seq ?_
  refine c_region ?_
  refine l_v (v := (.int .i64 0)) (r_assign rfl) ?_
  refine l_v (v := (.bool false)) (r_assign rfl) ?_
  refine l_nil ?_
  refine (x_then ?_)
  refine c_seq ?_
  refine c_seq ?_
  refine c_region ?_
  refine l_v (v := (.int .i64 0)) (r_assign rfl) ?_
  refine l_nil ?_
  refine (x_then ?_)
  refine c_block ?_
  refine c_loop (fun (m : Nat) (e' : Nat → Value) (w' : World) => ∃ k : Nat, m = xs.length - k ∧ e' 0 = (.pointer (some ⟨b, 0, none⟩)) ∧ e' 1 = (.string id) ∧ e' 6 = (.int .i64 ((k : Nat) : Int)) ∧ Fr [] w w' ∧ (k ≤ xs.length) ∧ (∀ j, j < k → ∀ y, xs[j]? = some y → sameId id y = false)) (xs.length - 0) ⟨0, rfl, rfl, rfl, rfl, Fr.refl _ _, (by omega), (fun j hj => by omega)⟩ ?_
  rintro m_f3 e1 w2 ⟨k, hm_f3, s4, s5, s6, f3, p7, hall⟩
  have z8 := f3.size
  have t9 := t0.trans0 f3
  have t_f3 : Fr [] w w2 := f3
  refine c_seq ?_
  refine c_seq ?_
  refine c_region ?_
  refine l_v (v := (.int .i64 ((k : Nat) : Int))) (r_move s6) ?_
  refine l_v (v := (.pointer (some ⟨b, 0, none⟩))) (r_move s4) ?_
  refine l_v (v := (.pointer (some ⟨b, 0, none⟩))) (r_nil_ptr rfl) ?_
  refine l_v (v := (.pointer (some ⟨b, 0, none⟩))) (r_field_l F.fo36_0 rfl rfl) ?_
  have k10 := h1.keep0 f3
  refine l_v (v := (.slice a xs.length c)) (r_load1 F.one31 rfl (At.cell k10 rfl)) ?_
  refine l_v (v := (.int .i64 ((xs.length : Nat) : Int))) (r_lenSl F.sl31 rfl) ?_
  refine l_v (v := (.bool (decide (((k : Nat) : Int) < ((xs.length : Nat) : Int))))) (r_lss rfl rfl) ?_
  refine l_nil ?_
  refine (x_then ?_)
  refine c_if (p := ((k : Nat) : Int) < ((xs.length : Nat) : Int)) rfl (fun c11 => ?_) (fun c11 => ?_)
  ·
    refine c_skip ?_
    refine (x_then ?_)
    refine c_seq ?_
    refine c_block ?_
    refine c_seq ?_
    refine c_region ?_
    refine l_v (v := (.pointer (some ⟨b, 0, none⟩))) (r_move s4) ?_
    refine l_v (v := (.pointer (some ⟨b, 0, none⟩))) (r_nil_ptr rfl) ?_
    refine l_v (v := (.pointer (some ⟨b, 0, none⟩))) (r_field_l F.fo36_0 rfl rfl) ?_
    refine l_v (v := (.slice a xs.length c)) (r_load1 F.one31 rfl (At.cell k10 rfl)) ?_
    refine l_v (v := (.int .i64 ((k : Nat) : Int))) (r_move s6) ?_
    have k12 := h2.keep0 f3
    have ha13 : ∃ ad, a = some ad := k12.sl.some (by rw [evs_len]; have := ((by omega) : k < (xs).length); omega)
    obtain ⟨x, hx⟩ := get_some (l := xs) (k := k) (by omega)
    refine l_v (v := (.pointer (some ((adr a).add (k * 2))))) (r_indexAddr F.sle31 rfl rfl ha13 (by omega) (by have := get_lt hx; omega) (by first | rfl | simp | omega)) ?_
    refine l_v (v := (.pointer (some ((adr a).add (k * 2))))) (r_field_e0 F.fo130_0 rfl) ?_
    have s14 := k12.sl
    refine l_v (v := (.string x.id)) (r_loadE1 F.one9 s14 rfl (evs_vs hx 0 _ rfl)) ?_
    refine l_v (v := (.string id)) (r_move s5) ?_
    refine l_v (v := (.bool (x.id.toList == id.toList))) (r_eqlS rfl rfl) ?_
    refine l_nil ?_
    refine (x_then ?_)
    refine c_split (t := (x.id.toList == id.toList)) rfl (fun c15 => ?_) (fun c15 => ?_)
    ·
      refine c_seq ?_
      refine c_region ?_
      refine l_v (v := (.pointer (some ⟨b, 0, none⟩))) (r_move s4) ?_
      refine l_v (v := (.pointer (some ⟨b, 0, none⟩))) (r_nil_ptr rfl) ?_
      refine l_v (v := (.pointer (some ⟨b, 0, none⟩))) (r_field_l F.fo36_0 rfl rfl) ?_
      refine l_v (v := (.slice a xs.length c)) (r_load1 F.one31 rfl (At.cell k10 rfl)) ?_
      refine l_v (v := (.int .i64 ((k : Nat) : Int))) (r_move s6) ?_
      have ha16 : ∃ ad, a = some ad := k12.sl.some (by rw [evs_len]; have := ((by omega) : k < (xs).length); omega)
      refine l_v (v := (.pointer (some ((adr a).add (k * 2))))) (r_indexAddr F.sle31 rfl rfl ha16 (by omega) (by have := get_lt hx; omega) (by first | rfl | simp | omega)) ?_
      refine l_v (v := (.pointer (some ((adr a).add (k * 2 + 1))))) (r_field_e F.fo130_1 rfl) ?_
      refine l_v (v := (.int .i64 x.pipe)) (r_loadE1 F.one3 s14 rfl (evs_vs hx 1 _ rfl)) ?_
      refine l_v (v := (.int .i64 x.pipe)) (r_assign rfl) ?_
      refine l_v (v := (.bool true)) (r_assign rfl) ?_
      refine l_nil ?_
      refine (x_then ?_)
      refine c_ret ?_
      refine (x_blk_r (x_then_r (x_then_r (x_blk_r (x_then_r ?_)))))
      refine p_ret (v := (.tuple #[(.int .i64 x.pipe), (.bool true)])) (res2 rfl rfl rfl) ?_
      exact ⟨(by rw [seen_some (fidx_some (p := sameId id) hx c15 hall) hx]; rfl), t9⟩
    ·
      refine c_skip ?_
      refine (x_blk (x_then ?_))
      refine c_region ?_
      refine l_v (v := (.int .i64 ((k : Nat) : Int))) (r_move s6) ?_
      refine l_v (v := (.int .i64 ((k + 1 : Nat) : Int))) (r_add rfl rfl (w64 (by omega) (by omega) (by omega))) ?_
      refine l_v (v := (.int .i64 ((k + 1 : Nat) : Int))) (r_assign rfl) ?_
      refine l_nil ?_
      refine (x_then ?_)
      exact ⟨_, _, (by omega), rfl, k + 1, rfl, s4, s5, rfl, t_f3, (by omega), (all_succ hall hx c15)⟩
  ·
    refine c_exit ?_
    refine (x_then_x (x_then_x (x_blk_hit (x_then ?_))))
    refine c_seq ?_
    refine c_region ?_
    refine l_v (v := (.int .i64 0)) (r_assign rfl) ?_
    refine l_v (v := (.bool false)) (r_assign rfl) ?_
    refine l_nil ?_
    refine (x_then ?_)
    refine c_ret ?_
    refine p_ret (v := (.tuple #[(.int .i64 0), (.bool false)])) (res2 rfl rfl rfl) ?_
    exact ⟨(by rw [seen_none (by rw [fidx_none (p := sameId id) (fun j y hj => hall j (by have := get_lt hj; omega) y hj)]; decide)]; rfl), t9⟩

set_option maxHeartbeats 400000 in
set_option maxRecDepth 100000 in
theorem rTake_c {w : World} {b c : Nat} {a : Option Addr} {xs : List Ev} {id : ByteArray} {p : Int} (h1 : At w b (.cells #[(.slice a xs.length c)] 36 (0, 0))) (h2 : Ro w a xs.length c (evs xs)) (h3 : xs.length ≤ 8) (h9 : id.size ≤ 1000000000000000) (hn : b ∉ ob a) :
    Calls Proofs.Try.prog 35 #[(.pointer (some ⟨b, 0, none⟩)), (.string id), (.int .i64 p)] w (Ret fun v w' => ∃ a' : Option Addr, ∃ c' : Nat, v = (.int .i64 (takeC xs id p)) ∧ Fr [b] w w' ∧ At w' b (.cells #[(.slice a' ((takeL xs id p).length) c')] 36 (0, 0)) ∧ Ro w' a' ((takeL xs id p).length) c' (evs (takeL xs id p)) ∧ (∀ x ∈ ob a', x ∈ ob a ∨ w.heap.size ≤ x) ∧ (b ∉ ob a')) := by
  have lt_h1 := h1.lt
  have lt_h2 := h2.lt
  have t0 : Fr [b] w w := Fr.refl _ _
  refine enter Proofs.Try.func35 rfl Proofs.Try.ntmps35 (Nat.le_of_ble_eq_true rfl) ?_
  refine c_seq ?_
  refine c_region ?_
  refine l_v (v := (.int .i64 0)) (r_assign rfl) ?_
  refine l_nil ?_
  refine (x_then ?_)
  refine c_seq ?_
  refine c_seq ?_
  refine c_region ?_
  refine l_v (v := (.string id)) (r_move rfl) ?_
  refine l_do rfl ?_
  refine d_call (fl := []) (cl := []) (A := [(.string id)]) (B := [(.string id)]) F.ok97 rfl (ac rfl an) rfl (rWord_c (s := id) (by omega)) ?_
  rintro _ w1 ⟨rfl, f2⟩
  have z3 := f2.size
  have t4 := t0.trans0 f2
  refine l_v (v := (.bool (!(isWord id)))) (r_not rfl) ?_
  refine l_nil ?_
  refine (x_then ?_)
  refine c_split (t := (!(isWord id))) rfl (fun c5 => ?_) (fun c5 => ?_)
  ·
    refine c_seq ?_
    refine c_region ?_
    refine l_v (v := (.int .i64 63)) (r_assign rfl) ?_
    refine l_nil ?_
    refine (x_then ?_)
    refine c_ret ?_
    refine (x_then_r ?_)
    refine p_ret (v := (.int .i64 63)) (res1 rfl rfl) ?_
    have ec : takeC xs id p = 63 := takeC_63 c5
    have et : takeL xs id p = xs := takeL_ne (by rw [ec]; decide)
    have k6 := h1.keep0 f2
    have k7 := h2.keep0 f2
    exact ⟨a, c, (by rw [ec]), t4, (by rw [et]; exact k6), (by rw [et]; exact k7), grow_refl, hn⟩
  ·
    refine c_skip ?_
    refine (x_then ?_)
    refine c_seq ?_
    refine c_seq ?_
    refine c_region ?_
    refine l_v (v := (.int .i64 p)) (r_move rfl) ?_
    refine l_v (v := (.bool (decide (p < 0)))) (r_lss rfl rfl) ?_
    refine l_v (v := (.bool (decide (p < 0)))) (r_move rfl) ?_
    refine l_em (p := p < 0) ?_ ?_
    · intro c8
      refine l_skip (wanted_not rfl rfl (bd rfl c8) (by decide)) ?_
      refine l_skip (wanted_not rfl rfl (bd rfl c8) (by decide)) ?_
      refine l_v (v := (.bool true)) (r_pick_t (bd rfl c8) rfl) ?_
      refine l_nil ?_
      refine (x_then ?_)
      refine c_true rfl ?_
      refine c_seq ?_
      refine c_region ?_
      refine l_v (v := (.int .i64 1)) (r_assign rfl) ?_
      refine l_nil ?_
      refine (x_then ?_)
      refine c_ret ?_
      refine (x_then_r ?_)
      refine p_ret (v := (.int .i64 1)) (res1 rfl rfl) ?_
      have ec : takeC xs id p = 1 := takeC_1 c5 (by omega)
      have et : takeL xs id p = xs := takeL_ne (by rw [ec]; decide)
      have k9 := h1.keep0 f2
      have k10 := h2.keep0 f2
      exact ⟨a, c, (by rw [ec]), t4, (by rw [et]; exact k9), (by rw [et]; exact k10), grow_refl, hn⟩
    · intro c8
      refine l_gv (v := (.int .i64 p)) (wanted_run rfl rfl (bn rfl c8)) (r_move rfl) ?_
      refine l_gv (v := (.bool (decide (2147483647 < p)))) (wanted_run rfl rfl (bn rfl c8)) (r_gtr rfl rfl) ?_
      refine l_v (v := (.bool (decide (2147483647 < p)))) (r_pick_f (bn rfl c8) rfl) ?_
      refine l_nil ?_
      refine (x_then ?_)
      refine c_if (p := 2147483647 < p) rfl (fun c11 => ?_) (fun c11 => ?_)
      ·
        refine c_seq ?_
        refine c_region ?_
        refine l_v (v := (.int .i64 1)) (r_assign rfl) ?_
        refine l_nil ?_
        refine (x_then ?_)
        refine c_ret ?_
        refine (x_then_r ?_)
        refine p_ret (v := (.int .i64 1)) (res1 rfl rfl) ?_
        have ec : takeC xs id p = 1 := takeC_1 c5 (by omega)
        have et : takeL xs id p = xs := takeL_ne (by rw [ec]; decide)
        have k12 := h1.keep0 f2
        have k13 := h2.keep0 f2
        exact ⟨a, c, (by rw [ec]), t4, (by rw [et]; exact k12), (by rw [et]; exact k13), grow_refl, hn⟩
      ·
        refine c_skip ?_
        refine (x_then ?_)
        refine c_seq ?_
        refine c_region ?_
        refine l_v (v := (.pointer (some ⟨b, 0, none⟩))) (r_move rfl) ?_
        refine l_v (v := (.string id)) (r_move rfl) ?_
        refine l_do rfl ?_
        have k14 := h1.keep0 f2
        have k15 := h2.keep0 f2
        refine d_call (fl := []) (cl := []) (A := [(.pointer (some ⟨b, 0, none⟩)), (.string id)]) (B := [(.pointer (some ⟨b, 0, none⟩)), (.string id)]) F.ok38 rfl (ac rfl (ac rfl an)) rfl (rSeen_c (b := b) (id := id) (a := a) (xs := xs) (c := c) k14 k15 (by omega)) ?_
        rintro _ w16 ⟨rfl, f17⟩
        have z18 := f17.size
        have t19 := t4.trans0 f17
        refine l_v (v := (.tuple #[(.int .i64 ((seenE xs id).elim 0 Ev.pipe)), (.bool ((seenE xs id).isSome))])) (r_move rfl) ?_
        refine l_v (v := (.int .i64 ((seenE xs id).elim 0 Ev.pipe))) (r_extract rfl rfl) ?_
        refine l_v (v := (.bool ((seenE xs id).isSome))) (r_extract rfl rfl) ?_
        refine l_v (v := (.int .i64 ((seenE xs id).elim 0 Ev.pipe))) (r_assign rfl) ?_
        refine l_v (v := (.bool ((seenE xs id).isSome))) (r_assign rfl) ?_
        refine l_nil ?_
        refine (x_then ?_)
        refine c_seq ?_
        refine c_seq ?_
        refine c_region ?_
        refine l_v (v := (.bool ((seenE xs id).isSome))) (r_move rfl) ?_
        refine l_nil ?_
        refine (x_then ?_)
        refine c_split (t := (seenE xs id).isSome) rfl (fun c20 => ?_) (fun c20 => ?_)
        ·
          refine c_seq ?_
          refine c_region ?_
          refine l_v (v := (.int .i64 6)) (r_assign rfl) ?_
          refine l_nil ?_
          refine (x_then ?_)
          refine c_ret ?_
          refine (x_then_r ?_)
          refine p_ret (v := (.int .i64 6)) (res1 rfl rfl) ?_
          have ec : takeC xs id p = 6 := takeC_6 c5 (by omega) (by omega) c20
          have et : takeL xs id p = xs := takeL_ne (by rw [ec]; decide)
          have k21 := k14.keep0 f17
          have k22 := k15.keep0 f17
          exact ⟨a, c, (by rw [ec]), t19, (by rw [et]; exact k21), (by rw [et]; exact k22), grow_refl, hn⟩
        ·
          refine c_skip ?_
          refine (x_then ?_)
          refine c_seq ?_
          refine c_region ?_
          refine l_do rfl ?_
          refine d_lit (el := 130) (k' := 2) (ps := []) (cells := #[]) pn (by kernel_rfl) rfl (Nat.le_of_ble_eq_true rfl) ?_
          intro w23 b24 f25 a26 h27
          have z28 := f25.size
          have t29 := t19.trans0 f25
          have g30 := ob_one_ge (o := 0) (s := none) a26
          have l31 := h27.lt
          have := ob_one_lt l31
          refine l_v (v := (.pointer (some ⟨b, 0, none⟩))) (r_move rfl) ?_
          refine l_v (v := (.pointer (some ⟨b, 0, none⟩))) (r_nil_ptr rfl) ?_
          refine l_v (v := (.pointer (some ⟨b, 0, none⟩))) (r_field_l F.fo36_0 rfl rfl) ?_
          have k32 := k14.keep0 f17
          have k33 := k32.keep0 f25
          refine l_v (v := (.slice a xs.length c)) (r_load1 F.one31 rfl (At.cell k33 rfl)) ?_
          refine l_do rfl ?_
          have k41 := k15.keep0 f17
          have k42 := k41.keep0 f25
          have s43 := k42.sl
          refine d_appendN (news := evs xs) (nn := xs.length) (cs' := evs xs) Proofs.Try.underlying31 F.inf130 rfl (Nat.le_of_ble_eq_true rfl) rfl h27 rfl s43 (by rw [evs_len]) (evs_one _) (by omega) (by simp only [maxLen]; omega) (by omega) (by simp) ?_
          intro w34 a_37 c_38 f35 h36 g39 n40
          have z44 := f35.size
          have t45 := t29.step f35 (ob_new g30 (by omega))
          have l46 := h36.lt
          have g47 := ob_age g30 g39 (by omega)
          refine l_v (v := (.slice a_37 xs.length c_38)) (r_assign rfl) ?_
          refine l_nil ?_
          refine (x_then ?_)
          refine c_seq ?_
          refine c_region ?_
          refine l_v (v := (.slice a_37 xs.length c_38)) (r_move rfl) ?_
          refine l_v (v := (.string id)) (r_move rfl) ?_
          refine l_v (v := (.int .i64 p)) (r_move rfl) ?_
          refine l_v (v := (.agg #[(.string id), (.int .i64 p)])) (r_build (pc rfl (pc rfl pn)) rfl) ?_
          refine l_do rfl ?_
          refine d_lit (el := 130) (k' := 2) (ps := [(0, (.agg #[(.string id), (.int .i64 p)]))]) (cells := #[(.string id), (.int .i64 p)]) (pc rfl pn) (by kernel_rfl) rfl (Nat.le_of_ble_eq_true rfl) ?_
          intro w48 b49 f50 a51 h52
          have z53 := f50.size
          have t54 := t45.trans0 f50
          have g55 := ob_one_ge (o := 0) (s := none) a51
          have l56 := h52.lt
          have := ob_one_lt l56
          refine l_do rfl ?_
          have k64 := h36.keep0 f50
          have s65 := h52.sl
          refine d_appendN (news := [(.string id), (.int .i64 p)]) (nn := xs.length + 1) (cs' := evs (xs ++ [Ev.mk id p])) Proofs.Try.underlying31 F.inf130 rfl (Nat.le_of_ble_eq_true rfl) rfl k64 rfl s65 (by first | rfl | simp | omega) (by simp [Value.oneCell']) (by omega) (by simp only [maxLen]; omega) rfl (by rw [evs_app]; rfl) ?_
          intro w57 a_60 c_61 f58 h59 g62 n63
          have z66 := f58.size
          have t67 := t54.step f58 (ob_new g47 (by omega))
          have l68 := h59.lt
          have g69 := ob_age g47 g62 (by omega)
          have g70 := grow_trans g39 g62 (by omega)
          refine l_v (v := (.slice a_60 (xs.length + 1) c_61)) (r_assign rfl) ?_
          refine l_nil ?_
          refine (x_then ?_)
          refine c_seq ?_
          refine c_seq ?_
          refine c_region ?_
          refine l_v (v := (.slice a_60 (xs.length + 1) c_61)) (r_move rfl) ?_
          refine l_v (v := (.int .i64 ((xs.length + 1 : Nat) : Int))) (r_lenSl F.sl31 rfl) ?_
          refine l_v (v := (.bool (decide (8 < ((xs.length + 1 : Nat) : Int))))) (r_gtr rfl rfl) ?_
          refine l_nil ?_
          refine (x_then ?_)
          refine c_if (p := 8 < ((xs.length + 1 : Nat) : Int)) rfl (fun c71 => ?_) (fun c71 => ?_)
          ·
            refine c_region ?_
            refine l_v (v := (.slice a_60 (xs.length + 1) c_61)) (r_move rfl) ?_
            have s72 := h59.ro
            have q73 := s72.cap
            have s74 : Ro w57 (cutA a_60 c_61 1 2) (xs.length + 1 - 1) (c_61 - 1) (evs ((xs ++ [Ev.mk id p]).drop 1)) := by
              have e0 := Ro.cut0 (k := 2) s72 (by first | (simp only [evs_len]; done) | (simp only [evs_len]; omega) | (simp [evs_len]; done) | (simp [evs_len]; omega)) 1 (by omega)
              have e1 : (evs (xs ++ [Ev.mk id p])).drop (1 * 2) = (evs (xs ++ [Ev.mk id p])).drop (1 * 2) := rfl
              have en : xs.length + 1 - 1 = xs.length + 1 - 1 := by omega
              have ec : c_61 - 1 = c_61 - 1 := by omega
              have ecs : (evs (xs ++ [Ev.mk id p])).drop (1 * 2) = evs ((xs ++ [Ev.mk id p]).drop 1) := by rw [evs_drop]
              first | (rw [ecs] at e0; exact e0) | (rw [ecs, ec] at e0; exact e0) | (rw [ecs, en, ec] at e0; exact e0)
            refine l_v (v := (.slice (cutA a_60 c_61 1 2) (xs.length + 1 - 1) (c_61 - 1))) (r_cutN (l := 1) (h := xs.length + 1) F.sle31 rfl ⟨_, rfl⟩ rfl (by omega) (by omega) (by omega) (by omega) (by omega)) ?_
            refine l_v (v := (.slice (cutA a_60 c_61 1 2) (xs.length + 1 - 1) (c_61 - 1))) (r_assign rfl) ?_
            refine l_nil ?_
            refine (x_then ?_)
            refine c_seq ?_
            refine c_region ?_
            refine l_v (v := (.pointer (some ⟨b, 0, none⟩))) (r_move rfl) ?_
            refine l_v (v := (.slice (cutA a_60 c_61 1 2) (xs.length + 1 - 1) (c_61 - 1))) (r_move rfl) ?_
            refine l_v (v := (.pointer (some ⟨b, 0, none⟩))) (r_nil_ptr rfl) ?_
            refine l_v (v := (.pointer (some ⟨b, 0, none⟩))) (r_field_l F.fo36_0 rfl rfl) ?_
            refine l_do rfl ?_
            have k78 := k33.keep f35 (not_ob_one (by omega))
            have k79 := k78.keep0 f50
            have k80 := k79.keep f58 (not_ob_new g47 (by omega))
            refine d_store1 (v := (.slice (cutA a_60 c_61 1 2) (xs.length + 1 - 1) (c_61 - 1))) (c' := #[(.slice (cutA a_60 c_61 1 2) (xs.length + 1 - 1) (c_61 - 1))]) F.sz31 rfl rfl rfl k80 (by simp) rfl ?_
            intro w75 f76 h77
            have z81 := f76.size
            have t82 := t67.step f76 (one_in (by simp))
            refine l_nil ?_
            refine (x_then ?_)
            refine c_seq ?_
            refine c_region ?_
            refine l_v (v := (.int .i64 0)) (r_assign rfl) ?_
            refine l_nil ?_
            refine (x_then ?_)
            refine c_ret ?_
            refine p_ret (v := (.int .i64 0)) (res1 rfl rfl) ?_
            have ec : takeC xs id p = 0 := takeC_0 c5 (by omega) (by omega) c20
            have et := takeL_full ec (by omega)
            have el : (takeL xs id p).length = xs.length + 1 - 1 := by rw [et]; simp
            have k83 := s74.keep f76 (by rw [ob_cutA]; exact (ob_not1 (not_ob_new g69 (by omega))))
            exact ⟨(cutA a_60 c_61 1 2), c_61 - 1, (by rw [ec]), t82, (by rw [el]; exact h77), (by rw [el, et]; exact k83), (by rw [ob_cutA]; exact (fun x hx => .inr (ob_ge g69 (by omega) x hx))), (by rw [ob_cutA]; exact (not_ob_new g69 (by omega)))⟩
          ·
            refine c_skip ?_
            refine (x_then ?_)
            refine c_seq ?_
            refine c_region ?_
            refine l_v (v := (.pointer (some ⟨b, 0, none⟩))) (r_move rfl) ?_
            refine l_v (v := (.slice a_60 (xs.length + 1) c_61)) (r_move rfl) ?_
            refine l_v (v := (.pointer (some ⟨b, 0, none⟩))) (r_nil_ptr rfl) ?_
            refine l_v (v := (.pointer (some ⟨b, 0, none⟩))) (r_field_l F.fo36_0 rfl rfl) ?_
            refine l_do rfl ?_
            have k87 := k33.keep f35 (not_ob_one (by omega))
            have k88 := k87.keep0 f50
            have k89 := k88.keep f58 (not_ob_new g47 (by omega))
            refine d_store1 (v := (.slice a_60 (xs.length + 1) c_61)) (c' := #[(.slice a_60 (xs.length + 1) c_61)]) F.sz31 rfl rfl rfl k89 (by simp) rfl ?_
            intro w84 f85 h86
            have z90 := f85.size
            have t91 := t67.step f85 (one_in (by simp))
            refine l_nil ?_
            refine (x_then ?_)
            refine c_seq ?_
            refine c_region ?_
            refine l_v (v := (.int .i64 0)) (r_assign rfl) ?_
            refine l_nil ?_
            refine (x_then ?_)
            refine c_ret ?_
            refine p_ret (v := (.int .i64 0)) (res1 rfl rfl) ?_
            have ec : takeC xs id p = 0 := takeC_0 c5 (by omega) (by omega) c20
            have et := takeL_room ec (by omega)
            have el : (takeL xs id p).length = xs.length + 1 := by rw [et]; simp
            have k92 := h59.keep f85 (ob_not1 (not_ob_new g69 (by omega)))
            have s93 := k92.ro
            exact ⟨a_60, c_61, (by rw [ec]), t91, (by rw [el]; exact h86), (by rw [el, et]; exact s93), (fun x hx => .inr (ob_ge g69 (by omega) x hx)), (not_ob_new g69 (by omega))⟩

set_option maxHeartbeats 400000 in
set_option maxRecDepth 100000 in
theorem rBytes_c {w : World} {b c : Nat} {a : Option Addr} {xs : List Ev} (h1 : At w b (.cells #[(.slice a xs.length c)] 36 (0, 0))) (h2 : Ro w a xs.length c (evs xs)) (hg : Good xs) :
    Calls Proofs.Try.prog 39 #[(.pointer (some ⟨b, 0, none⟩))] w (Ret fun v w' => ∃ a' : Option Addr, ∃ c' : Nat, v = (.slice a' ((evBytes xs).length) c') ∧ Fr [] w w' ∧ Own w' 5 1 a' ((evBytes xs).length) c' (bv (evBytes xs)) ∧ (∀ x ∈ ob a', w.heap.size ≤ x)) := by
  have lt_h1 := h1.lt
  have lt_h2 := h2.lt
  have h3 := hg.1
  have t0 : Fr [] w w := Fr.refl _ _
  refine enter Proofs.Try.func39 rfl Proofs.Try.ntmps39 (Nat.le_of_ble_eq_true rfl) ?_
  refine c_seq ?_
  refine c_region ?_
  refine l_v (v := (.slice none 0 0)) (r_assign rfl) ?_
  refine l_nil ?_
  refine (x_then ?_)
  refine c_seq ?_
  refine c_region ?_
  refine l_v (v := (.pointer (some ⟨b, 0, none⟩))) (r_move rfl) ?_
  refine l_v (v := (.pointer (some ⟨b, 0, none⟩))) (r_nil_ptr rfl) ?_
  refine l_v (v := (.pointer (some ⟨b, 0, none⟩))) (r_field_l F.fo36_0 rfl rfl) ?_
  refine l_v (v := (.slice a xs.length c)) (r_load1 F.one31 rfl (At.cell h1 rfl)) ?_
  refine l_v (v := (.int .i64 ((xs.length : Nat) : Int))) (r_lenSl F.sl31 rfl) ?_
  refine l_do rfl ?_
  refine d_call (fl := []) (cl := []) (A := [(.slice none 0 0), (.int .i64 ((xs.length : Nat) : Int))]) (B := [(.slice none 0 0), (.int .i64 ((xs.length : Nat) : Int))]) F.ok98 rfl (ac rfl (ac rfl an)) rfl (rlCount_c (a := none) (c := 0) (n := ((xs.length : Nat) : Int)) (bs := []) (l := evB xs 0) (Sl.nil _ _) (Nat.zero_le _) (evB_zero xs)) ?_
  rintro _ w1 ⟨a_3, c_4, rfl, f2, h5, p6⟩
  have z7 := f2.size
  have t8 := t0.trans0 f2
  have l10 := h5.lt
  refine l_v (v := (.slice a_3 ((evB xs 0).length) c_4)) (r_assign rfl) ?_
  refine l_nil ?_
  refine (x_then ?_)
  refine c_seq ?_
  refine c_seq ?_
  refine c_region ?_
  refine l_v (v := (.int .i64 0)) (r_assign rfl) ?_
  refine l_nil ?_
  refine (x_then ?_)
  refine c_block ?_
  refine c_loop (fun (m : Nat) (e' : Nat → Value) (w' : World) => ∃ k : Nat, ∃ a3 : Option Addr, ∃ c3 : Nat, m = xs.length - k ∧ e' 0 = (.pointer (some ⟨b, 0, none⟩)) ∧ e' 2 = (.slice none 0 0) ∧ e' 3 = (.slice a3 ((evB xs k).length) c3) ∧ e' 4 = (.int .i64 ((k : Nat) : Int)) ∧ e' 5 = (.pointer (some ⟨b, 0, none⟩)) ∧ e' 6 = (.pointer (some ⟨b, 0, none⟩)) ∧ e' 7 = (.pointer (some ⟨b, 0, none⟩)) ∧ e' 8 = (.slice a xs.length c) ∧ e' 9 = (.int .i64 ((xs.length : Nat) : Int)) ∧ e' 10 = (.slice a_3 ((evB xs 0).length) c_4) ∧ Fr [] w1 w' ∧ Own w' 5 1 a3 ((evB xs k).length) c3 (bv (evB xs k)) ∧ (k ≤ xs.length) ∧ (∀ x ∈ ob a3, w.heap.size ≤ x)) (xs.length - 0) ⟨0, a_3, c_4, rfl, rfl, rfl, rfl, rfl, rfl, rfl, rfl, rfl, rfl, rfl, Fr.refl _ _, h5, (by omega), (ob_ge p6 (by omega))⟩ ?_
  rintro m_f13 e11 w12 ⟨k, a3, c3, hm_f13, s14, s15, s16, s17, s18, s19, s20, s21, s22, s23, f13, h24, p25, hge⟩
  have z26 := f13.size
  have t27 := t8.trans0 f13
  have l28 := h24.lt
  have t_f13 : Fr [] w1 w12 := f13
  refine c_seq ?_
  refine c_seq ?_
  refine c_region ?_
  refine l_v (v := (.int .i64 ((k : Nat) : Int))) (r_move s17) ?_
  refine l_v (v := (.pointer (some ⟨b, 0, none⟩))) (r_move s14) ?_
  refine l_v (v := (.pointer (some ⟨b, 0, none⟩))) (r_nil_ptr rfl) ?_
  refine l_v (v := (.pointer (some ⟨b, 0, none⟩))) (r_field_l F.fo36_0 rfl rfl) ?_
  have k29 := h1.keep0 f2
  have k30 := k29.keep0 f13
  refine l_v (v := (.slice a xs.length c)) (r_load1 F.one31 rfl (At.cell k30 rfl)) ?_
  refine l_v (v := (.int .i64 ((xs.length : Nat) : Int))) (r_lenSl F.sl31 rfl) ?_
  refine l_v (v := (.bool (decide (((k : Nat) : Int) < ((xs.length : Nat) : Int))))) (r_lss rfl rfl) ?_
  refine l_nil ?_
  refine (x_then ?_)
  refine c_if (p := ((k : Nat) : Int) < ((xs.length : Nat) : Int)) rfl (fun c31 => ?_) (fun c31 => ?_)
  ·
    refine c_skip ?_
    refine (x_then ?_)
    refine c_seq ?_
    refine c_block ?_
    refine c_seq ?_
    refine c_region ?_
    refine l_v (v := (.slice a3 ((evB xs k).length) c3)) (r_move s16) ?_
    refine l_v (v := (.pointer (some ⟨b, 0, none⟩))) (r_move s14) ?_
    refine l_v (v := (.pointer (some ⟨b, 0, none⟩))) (r_nil_ptr rfl) ?_
    refine l_v (v := (.pointer (some ⟨b, 0, none⟩))) (r_field_l F.fo36_0 rfl rfl) ?_
    refine l_v (v := (.slice a xs.length c)) (r_load1 F.one31 rfl (At.cell k30 rfl)) ?_
    refine l_v (v := (.int .i64 ((k : Nat) : Int))) (r_move s17) ?_
    have k32 := h2.keep0 f2
    have k33 := k32.keep0 f13
    have ha34 : ∃ ad, a = some ad := k33.sl.some (by rw [evs_len]; have := ((by omega) : k < (xs).length); omega)
    obtain ⟨x, hx⟩ := get_some (l := xs) (k := k) (by omega)
    refine l_v (v := (.pointer (some ((adr a).add (k * 2))))) (r_indexAddr F.sle31 rfl rfl ha34 (by omega) (by have := get_lt hx; omega) (by first | rfl | simp | omega)) ?_
    have hb1 := evB_len hg k (by omega)
    have hb2 := strL_len (evB xs k) x.id.data.toList
    have hb3 := word_size (hg.2 x (mem_of_get hx)).1
    have hb4 := size_eq x.id
    refine l_v (v := (.pointer (some ((adr a).add (k * 2))))) (r_field_e0 F.fo130_0 rfl) ?_
    have s35 := k33.sl
    refine l_v (v := (.string x.id)) (r_loadE1 F.one9 s35 rfl (evs_vs hx 0 _ rfl)) ?_
    refine l_do rfl ?_
    have s36 := h24.sl
    refine d_call (fl := []) (cl := []) (A := [(.slice a3 ((evB xs k).length) c3), (.string x.id)]) (B := [(.slice a3 ((evB xs k).length) c3), (.string x.id)]) F.ok99 rfl (ac rfl (ac rfl an)) rfl (rlStr_c (a := a3) (bs := evB xs k) (c := c3) (s := x.id) (l := strL (evB xs k) x.id.data.toList) s36 (by omega) (by omega) (by omega) rfl) ?_
    rintro _ w37 ⟨a_39, c_40, rfl, f38, h41, p42⟩
    have z43 := f38.size
    have t44 := t27.trans0 f38
    have t45 := t_f13.trans0 f38
    have l47 := h41.lt
    refine l_v (v := (.slice a_39 ((strL (evB xs k) x.id.data.toList).length) c_40)) (r_assign rfl) ?_
    refine l_nil ?_
    refine (x_then ?_)
    refine c_region ?_
    refine l_v (v := (.slice a_39 ((strL (evB xs k) x.id.data.toList).length) c_40)) (r_move rfl) ?_
    refine l_v (v := (.pointer (some ⟨b, 0, none⟩))) (r_move s14) ?_
    refine l_v (v := (.pointer (some ⟨b, 0, none⟩))) (r_nil_ptr rfl) ?_
    refine l_v (v := (.pointer (some ⟨b, 0, none⟩))) (r_field_l F.fo36_0 rfl rfl) ?_
    have k48 := k30.keep0 f38
    refine l_v (v := (.slice a xs.length c)) (r_load1 F.one31 rfl (At.cell k48 rfl)) ?_
    refine l_v (v := (.int .i64 ((k : Nat) : Int))) (r_move s17) ?_
    have k49 := k33.keep0 f38
    have ha50 : ∃ ad, a = some ad := k49.sl.some (by rw [evs_len]; have := ((by omega) : k < (xs).length); omega)
    refine l_v (v := (.pointer (some ((adr a).add (k * 2))))) (r_indexAddr F.sle31 rfl rfl ha50 (by omega) (by have := get_lt hx; omega) (by first | rfl | simp | omega)) ?_
    refine l_v (v := (.pointer (some ((adr a).add (k * 2 + 1))))) (r_field_e F.fo130_1 rfl) ?_
    have k51 := s35.keep0 f38
    refine l_v (v := (.int .i64 x.pipe)) (r_loadE1 F.one3 k51 rfl (evs_vs hx 1 _ rfl)) ?_
    refine l_do rfl ?_
    have s52 := h41.sl
    refine d_call (fl := []) (cl := []) (A := [(.slice a_39 ((strL (evB xs k) x.id.data.toList).length) c_40), (.int .i64 x.pipe)]) (B := [(.slice a_39 ((strL (evB xs k) x.id.data.toList).length) c_40), (.int .i64 x.pipe)]) F.ok98 rfl (ac rfl (ac rfl an)) rfl (rlCount_c (a := a_39) (bs := strL (evB xs k) x.id.data.toList) (c := c_40) (n := x.pipe) (l := evB xs (k + 1)) s52 (by omega) (evB_succ hx)) ?_
    rintro _ w53 ⟨a_55, c_56, rfl, f54, h57, p58⟩
    have z59 := f54.size
    have t60 := t44.trans0 f54
    have t61 := t45.trans0 f54
    have l63 := h57.lt
    refine l_v (v := (.slice a_55 ((evB xs (k + 1)).length) c_56)) (r_assign rfl) ?_
    refine l_nil ?_
    refine (x_blk (x_then ?_))
    refine c_region ?_
    refine l_v (v := (.int .i64 ((k : Nat) : Int))) (r_move s17) ?_
    refine l_v (v := (.int .i64 ((k + 1 : Nat) : Int))) (r_add rfl rfl (w64 (by omega) (by omega) (by omega))) ?_
    refine l_v (v := (.int .i64 ((k + 1 : Nat) : Int))) (r_assign rfl) ?_
    refine l_nil ?_
    refine (x_then ?_)
    exact ⟨_, _, (by omega), rfl, k + 1, a_55, c_56, rfl, s14, s15, rfl, rfl, s18, s19, s20, s21, s22, s23, t61, h57, (by omega), (ob_ge p58 (by omega))⟩
  ·
    refine c_exit ?_
    refine (x_then_x (x_then_x (x_blk_hit (x_then ?_))))
    refine c_seq ?_
    refine c_region ?_
    refine l_v (v := (.slice a3 ((evB xs k).length) c3)) (r_move s16) ?_
    refine l_v (v := (.slice a3 ((evB xs k).length) c3)) (r_assign rfl) ?_
    refine l_nil ?_
    refine (x_then ?_)
    refine c_ret ?_
    refine p_ret (v := (.slice a3 ((evB xs k).length) c3)) (res1 rfl rfl) ?_
    have ek : k = xs.length := by omega
    subst ek
    exact ⟨a3, c3, rfl, t27, h24, (ob_ge hge (by omega))⟩

set_option maxHeartbeats 400000 in
set_option maxRecDepth 100000 in
theorem rSame_c {w : World} {a d : Option Addr} {c e : Nat} {xs ys : List Ev} (h1 : Sl w a (evs xs)) (h2 : Sl w d (evs ys)) (h3 : xs.length ≤ 8) :
    Calls Proofs.Try.prog 18 #[(.slice a xs.length c), (.slice d ys.length e)] w (Ret fun v w' => v = (.bool (decide (xs = ys))) ∧ Fr [] w w') := by
  have t0 : Fr [] w w := Fr.refl _ _
  refine enter Proofs.Try.func18 rfl Proofs.Try.ntmps18 (Nat.le_of_ble_eq_true rfl) ?_
  refine c_seq ?_
  refine c_region ?_
  refine l_v (v := (.bool false)) (r_assign rfl) ?_
  refine l_nil ?_
  refine (x_then ?_)
  refine c_seq ?_
  refine c_seq ?_
  refine c_region ?_
  refine l_v (v := (.slice a xs.length c)) (r_move rfl) ?_
  refine l_v (v := (.int .i64 ((xs.length : Nat) : Int))) (r_lenSl F.sl31 rfl) ?_
  refine l_v (v := (.slice d ys.length e)) (r_move rfl) ?_
  refine l_v (v := (.int .i64 ((ys.length : Nat) : Int))) (r_lenSl F.sl31 rfl) ?_
  refine l_v (v := (.bool (decide (((xs.length : Nat) : Int) ≠ ((ys.length : Nat) : Int))))) (r_neq rfl rfl) ?_
  refine l_nil ?_
  refine (x_then ?_)
  refine c_if (p := ((xs.length : Nat) : Int) ≠ ((ys.length : Nat) : Int)) rfl (fun c1 => ?_) (fun c1 => ?_)
  ·
    refine c_seq ?_
    refine c_region ?_
    refine l_v (v := (.bool false)) (r_assign rfl) ?_
    refine l_nil ?_
    refine (x_then ?_)
    refine c_ret ?_
    refine (x_then_r ?_)
    refine p_ret (v := (.bool false)) (res1 rfl rfl) ?_
    exact ⟨(by rw [decide_eq_false (fun h => by subst h; omega)]), t0⟩
  ·
    refine c_skip ?_
    refine (x_then ?_)
    refine c_seq ?_
    refine c_seq ?_
    refine c_region ?_
    refine l_v (v := (.int .i64 0)) (r_assign rfl) ?_
    refine l_nil ?_
    refine (x_then ?_)
    refine c_block ?_
    refine c_loop (fun (m : Nat) (e' : Nat → Value) (w' : World) => ∃ k : Nat, m = xs.length - k ∧ e' 0 = (.slice a xs.length c) ∧ e' 1 = (.slice d ys.length e) ∧ e' 5 = (.int .i64 ((k : Nat) : Int)) ∧ e' 6 = (.slice a xs.length c) ∧ e' 7 = (.int .i64 ((xs.length : Nat) : Int)) ∧ e' 8 = (.slice d ys.length e) ∧ e' 9 = (.int .i64 ((ys.length : Nat) : Int)) ∧ e' 10 = (.bool (decide (((xs.length : Nat) : Int) ≠ ((ys.length : Nat) : Int)))) ∧ Fr [] w w' ∧ (k ≤ xs.length) ∧ (∀ j, j < k → xs[j]? = ys[j]?)) (xs.length - 0) ⟨0, rfl, rfl, rfl, rfl, rfl, rfl, rfl, rfl, rfl, Fr.refl _ _, (by omega), (fun j hj => by omega)⟩ ?_
    rintro m_f4 e2 w3 ⟨k, hm_f4, s5, s6, s7, s8, s9, s10, s11, s12, f4, p13, hall⟩
    have z14 := f4.size
    have t15 := t0.trans0 f4
    have t_f4 : Fr [] w w3 := f4
    refine c_seq ?_
    refine c_seq ?_
    refine c_region ?_
    refine l_v (v := (.int .i64 ((k : Nat) : Int))) (r_move s7) ?_
    refine l_v (v := (.slice a xs.length c)) (r_move s5) ?_
    refine l_v (v := (.int .i64 ((xs.length : Nat) : Int))) (r_lenSl F.sl31 rfl) ?_
    refine l_v (v := (.bool (decide (((k : Nat) : Int) < ((xs.length : Nat) : Int))))) (r_lss rfl rfl) ?_
    refine l_nil ?_
    refine (x_then ?_)
    refine c_if (p := ((k : Nat) : Int) < ((xs.length : Nat) : Int)) rfl (fun c16 => ?_) (fun c16 => ?_)
    ·
      refine c_skip ?_
      refine (x_then ?_)
      refine c_seq ?_
      refine c_block ?_
      refine c_seq ?_
      refine f_start (masks := [0, 0, 3, 7, 0, 0, 48, 112, 255]) (F := Fs [(3, fun w => Sl w a (evs xs)), (7, fun w => Sl w d (evs ys))]) #[false, false, false, false, false, false, false, false, false] F.mixed rfl rfl (by kernel_rfl) ?_
      intro w21 f22 r23
      have z24 := f22.size
      have t25 := t15.trans0 f22
      have t26 := t_f4.trans0 f22
      refine f_take (i := 0) (v := (.slice a xs.length c)) #[true, false, false, false, false, false, false, false, false] r23 rfl (by kernel_rfl) (fun _ _ _ h => h) rfl (fs_none rfl) (fun w hF => r_move s5) ?_
      refine f_take (i := 1) (v := (.int .i64 ((k : Nat) : Int))) #[true, true, false, false, false, false, false, false, false] r23 rfl (by kernel_rfl) (fun _ _ _ h => h) rfl (fs_none rfl) (fun w hF => r_move s7) ?_
      have k27 := h1.keep0 f4
      have k28 := k27.keep0 f22
      have ha29 : ∃ ad, a = some ad := k28.some (by rw [evs_len]; have := ((by omega) : k < (xs).length); omega)
      obtain ⟨x, hx⟩ := get_some (l := xs) (k := k) (by omega)
      refine f_take (i := 2) (v := (.pointer (some ((adr a).add (k * 2))))) #[true, true, true, false, false, false, false, false, false] r23 rfl (by kernel_rfl) (fun _ _ _ h => h) rfl (fs_none rfl) (fun w hF => r_indexAddr F.sle31 rfl rfl ha29 (by omega) (by have := get_lt hx; omega) (by first | rfl | simp | omega)) ?_
      refine f_take (i := 3) (v := (.agg #[(.string x.id), (.int .i64 x.pipe)])) #[true, true, true, true, false, false, false, false, false] r23 rfl (by kernel_rfl) (fun _ _ _ h => h) rfl (fs_one k28 rfl) (fun w hF => r_loadES [(.string x.id), (.int .i64 x.pipe)] F.agg130 (fs_get List.mem_cons_self hF) rfl rfl (evs_vs hx)) ?_
      refine f_take (i := 4) (v := (.slice d ys.length e)) #[true, true, true, true, true, false, false, false, false] r23 rfl (by kernel_rfl) (fun _ _ _ h => h) rfl (fs_none rfl) (fun w hF => r_move s6) ?_
      refine f_take (i := 5) (v := (.int .i64 ((k : Nat) : Int))) #[true, true, true, true, true, true, false, false, false] r23 rfl (by kernel_rfl) (fun _ _ _ h => h) rfl (fs_none rfl) (fun w hF => r_move s7) ?_
      have k30 := h2.keep0 f4
      have k31 := k30.keep0 f22
      have ha32 : ∃ ad, d = some ad := k31.some (by rw [evs_len]; have := ((by omega) : k < (ys).length); omega)
      obtain ⟨y, hy⟩ := get_some (l := ys) (k := k) (by omega)
      refine f_take (i := 6) (v := (.pointer (some ((adr d).add (k * 2))))) #[true, true, true, true, true, true, true, false, false] r23 rfl (by kernel_rfl) (fun _ _ _ h => h) rfl (fs_none rfl) (fun w hF => r_indexAddr F.sle31 rfl rfl ha32 (by omega) (by have := get_lt hy; omega) (by first | rfl | simp | omega)) ?_
      refine f_take (i := 7) (v := (.agg #[(.string y.id), (.int .i64 y.pipe)])) #[true, true, true, true, true, true, true, true, false] r23 rfl (by kernel_rfl) (fun _ _ _ h => h) rfl (fs_next rfl (fs_one k31 rfl)) (fun w hF => r_loadES [(.string y.id), (.int .i64 y.pipe)] F.agg130 (fs_get (List.mem_cons_of_mem _ List.mem_cons_self) hF) rfl rfl (evs_vs hy)) ?_
      refine f_take (i := 8) (v := (.bool (decide (¬ (x = y))))) #[true, true, true, true, true, true, true, true, true] r23 rfl (by kernel_rfl) (fun _ _ _ h => h) rfl (fs_none rfl) (fun w hF => (r_neqA (X := [(.string x.id), (.int .i64 x.pipe)]) (Y := [(.string y.id), (.int .i64 y.pipe)]) F.fl130 rfl rfl rfl).trans (by rw [show (allEq [(.string x.id), (.int .i64 x.pipe)] [(.string y.id), (.int .i64 y.pipe)]) = decide (x = y) from allEq_ev]; rw [← decide_not])) ?_
      refine f_done (by kernel_rfl) ?_
      refine (x_then ?_)
      refine c_if (p := ¬ (x = y)) rfl (fun c33 => ?_) (fun c33 => ?_)
      ·
        refine c_seq ?_
        refine c_region ?_
        refine l_v (v := (.bool false)) (r_assign rfl) ?_
        refine l_nil ?_
        refine (x_then ?_)
        refine c_ret ?_
        refine (x_blk_r (x_then_r (x_then_r (x_blk_r (x_then_r ?_)))))
        refine p_ret (v := (.bool false)) (res1 rfl rfl) ?_
        exact ⟨(by rw [decide_eq_false (ne_at hx hy c33)]), t25⟩
      ·
        refine c_skip ?_
        refine (x_blk (x_then ?_))
        refine c_region ?_
        refine l_v (v := (.int .i64 ((k : Nat) : Int))) (r_move s7) ?_
        refine l_v (v := (.int .i64 ((k + 1 : Nat) : Int))) (r_add rfl rfl (w64 (by omega) (by omega) (by omega))) ?_
        refine l_v (v := (.int .i64 ((k + 1 : Nat) : Int))) (r_assign rfl) ?_
        refine l_nil ?_
        refine (x_then ?_)
        exact ⟨_, _, (by omega), rfl, k + 1, rfl, s5, s6, rfl, s8, s9, s10, s11, s12, t26, (by omega), (eq_succ hall hx hy (Classical.not_not.1 c33))⟩
    ·
      refine c_exit ?_
      refine (x_then_x (x_then_x (x_blk_hit (x_then ?_))))
      refine c_seq ?_
      refine c_region ?_
      refine l_v (v := (.bool true)) (r_assign rfl) ?_
      refine l_nil ?_
      refine (x_then ?_)
      refine c_ret ?_
      refine p_ret (v := (.bool true)) (res1 rfl rfl) ?_
      exact ⟨(by rw [decide_eq_true (eq_all hall (by omega) (by omega))]), t15⟩

set_option maxHeartbeats 400000 in
set_option maxRecDepth 100000 in
theorem events_c {w : World} {a : Option Addr} {c : Nat} {xs : List Ev} (h1 : Sl w a (evs xs)) (h3 : xs.length ≤ 8) :
    Calls Proofs.Try.prog 19 #[(.slice a xs.length c)] w (Ret fun v w' => ∃ a' : Option Addr, ∃ c' : Nat, v = (.slice a' xs.length c') ∧ Fr [] w w' ∧ Own w' 130 2 a' xs.length c' (evs xs) ∧ (∀ x ∈ ob a', w.heap.size ≤ x)) := by
  have t0 : Fr [] w w := Fr.refl _ _
  refine enter Proofs.Try.func19 rfl Proofs.Try.ntmps19 (Nat.le_of_ble_eq_true rfl) ?_
  refine c_seq ?_
  refine c_region ?_
  refine l_v (v := (.slice none 0 0)) (r_assign rfl) ?_
  refine l_nil ?_
  refine (x_then ?_)
  refine c_seq ?_
  refine c_region ?_
  refine l_v (v := (.slice none 0 0)) (r_assign rfl) ?_
  refine l_nil ?_
  refine (x_then ?_)
  refine c_seq ?_
  refine c_seq ?_
  refine c_region ?_
  refine l_v (v := (.int .i64 0)) (r_assign rfl) ?_
  refine l_nil ?_
  refine (x_then ?_)
  refine c_block ?_
  refine c_loop (fun (m : Nat) (e' : Nat → Value) (w' : World) => ∃ k : Nat, ∃ a3 : Option Addr, ∃ c3 : Nat, m = xs.length - k ∧ e' 0 = (.slice a xs.length c) ∧ e' 2 = (.slice none 0 0) ∧ e' 3 = (.slice a3 k c3) ∧ e' 4 = (.int .i64 ((k : Nat) : Int)) ∧ Fr [] w w' ∧ Own w' 130 2 a3 k c3 (evs (xs.take k)) ∧ (k ≤ xs.length) ∧ (∀ x ∈ ob a3, w.heap.size ≤ x)) (xs.length - 0) ⟨0, none, 0, rfl, rfl, rfl, rfl, rfl, Fr.refl _ _, Own.nil _ _ _, (by omega), (fun x hx => by cases hx)⟩ ?_
  rintro m_f3 e1 w2 ⟨k, a3, c3, hm_f3, s4, s5, s6, s7, f3, h8, p9, hge⟩
  have z10 := f3.size
  have t11 := t0.trans0 f3
  have l12 := h8.lt
  have t_f3 : Fr [] w w2 := f3
  refine c_seq ?_
  refine c_seq ?_
  refine c_region ?_
  refine l_v (v := (.int .i64 ((k : Nat) : Int))) (r_move s7) ?_
  refine l_v (v := (.slice a xs.length c)) (r_move s4) ?_
  refine l_v (v := (.int .i64 ((xs.length : Nat) : Int))) (r_lenSl F.sl33 rfl) ?_
  refine l_v (v := (.bool (decide (((k : Nat) : Int) < ((xs.length : Nat) : Int))))) (r_lss rfl rfl) ?_
  refine l_nil ?_
  refine (x_then ?_)
  refine c_if (p := ((k : Nat) : Int) < ((xs.length : Nat) : Int)) rfl (fun c13 => ?_) (fun c13 => ?_)
  ·
    refine c_skip ?_
    refine (x_then ?_)
    refine c_seq ?_
    refine c_block ?_
    refine f_start (masks := [0, 0, 0, 6, 14, 30, 0, 0, 192, 448, 960, 2046, 4094, 8191, 16383]) (F := Fs [(5, fun w => Sl w a (evs xs)), (10, fun w => Sl w a (evs xs))]) #[false, false, false, false, false, false, false, false, false, false, false, false, false, false, false] F.mixed rfl rfl (by kernel_rfl) ?_
    intro w17 f18 r19
    have z20 := f18.size
    have t21 := t11.trans0 f18
    have t22 := t_f3.trans0 f18
    refine f_take (i := 0) (v := (.slice a3 k c3)) #[true, false, false, false, false, false, false, false, false, false, false, false, false, false, false] r19 rfl (by kernel_rfl) (fun _ _ _ h => h) rfl (fs_none rfl) (fun w hF => r_move s6) ?_
    refine f_take (i := 1) (v := (.slice a xs.length c)) #[true, true, false, false, false, false, false, false, false, false, false, false, false, false, false] r19 rfl (by kernel_rfl) (fun _ _ _ h => h) rfl (fs_none rfl) (fun w hF => r_move s4) ?_
    refine f_take (i := 2) (v := (.int .i64 ((k : Nat) : Int))) #[true, true, true, false, false, false, false, false, false, false, false, false, false, false, false] r19 rfl (by kernel_rfl) (fun _ _ _ h => h) rfl (fs_none rfl) (fun w hF => r_move s7) ?_
    have k23 := h1.keep0 f3
    have k24 := k23.keep0 f18
    have ha25 : ∃ ad, a = some ad := k24.some (by rw [evs_len]; have := ((by omega) : k < (xs).length); omega)
    obtain ⟨x, hx⟩ := get_some (l := xs) (k := k) (by omega)
    refine f_take (i := 3) (v := (.pointer (some ((adr a).add (k * 2))))) #[true, true, true, true, false, false, false, false, false, false, false, false, false, false, false] r19 rfl (by kernel_rfl) (fun _ _ _ h => h) rfl (fs_none rfl) (fun w hF => r_indexAddr F.sle33 rfl rfl ha25 (by omega) (by have := get_lt hx; omega) (by first | rfl | simp | omega)) ?_
    refine f_take (i := 4) (v := (.pointer (some ((adr a).add (k * 2))))) #[true, true, true, true, true, false, false, false, false, false, false, false, false, false, false] r19 rfl (by kernel_rfl) (fun _ _ _ h => h) rfl (fs_none rfl) (fun w hF => r_field_e0 F.fo74_0 rfl) ?_
    refine f_take (i := 5) (v := (.string x.id)) #[true, true, true, true, true, true, false, false, false, false, false, false, false, false, false] r19 rfl (by kernel_rfl) (fun _ _ _ h => h) rfl (fs_one k24 rfl) (fun w hF => r_loadE1 F.one9 (fs_get List.mem_cons_self hF) rfl (evs_vs hx 0 _ rfl)) ?_
    refine f_take (i := 6) (v := (.slice a xs.length c)) #[true, true, true, true, true, true, true, false, false, false, false, false, false, false, false] r19 rfl (by kernel_rfl) (fun _ _ _ h => h) rfl (fs_none rfl) (fun w hF => r_move s4) ?_
    refine f_take (i := 7) (v := (.int .i64 ((k : Nat) : Int))) #[true, true, true, true, true, true, true, true, false, false, false, false, false, false, false] r19 rfl (by kernel_rfl) (fun _ _ _ h => h) rfl (fs_none rfl) (fun w hF => r_move s7) ?_
    have ha26 : ∃ ad, a = some ad := k24.some (by rw [evs_len]; have := ((by omega) : k < (xs).length); omega)
    refine f_take (i := 8) (v := (.pointer (some ((adr a).add (k * 2))))) #[true, true, true, true, true, true, true, true, true, false, false, false, false, false, false] r19 rfl (by kernel_rfl) (fun _ _ _ h => h) rfl (fs_none rfl) (fun w hF => r_indexAddr F.sle33 rfl rfl ha26 (by omega) (by have := get_lt hx; omega) (by first | rfl | simp | omega)) ?_
    refine f_take (i := 9) (v := (.pointer (some ((adr a).add (k * 2 + 1))))) #[true, true, true, true, true, true, true, true, true, true, false, false, false, false, false] r19 rfl (by kernel_rfl) (fun _ _ _ h => h) rfl (fs_none rfl) (fun w hF => r_field_e F.fo74_1 rfl) ?_
    refine f_take (i := 10) (v := (.int .i64 x.pipe)) #[true, true, true, true, true, true, true, true, true, true, true, false, false, false, false] r19 rfl (by kernel_rfl) (fun _ _ _ h => h) rfl (fs_next rfl (fs_one k24 rfl)) (fun w hF => r_loadE1 F.one3 (fs_get (List.mem_cons_of_mem _ List.mem_cons_self) hF) rfl (evs_vs hx 1 _ rfl)) ?_
    refine f_take (i := 11) (v := (.agg #[(.string x.id), (.int .i64 x.pipe)])) #[true, true, true, true, true, true, true, true, true, true, true, true, false, false, false] r19 rfl (by kernel_rfl) (fun _ _ _ h => h) rfl (fs_none rfl) (fun w hF => r_build (pc rfl (pc rfl pn)) rfl) ?_
    refine f_one (i := 12) #[true, true, true, true, true, true, true, true, true, true, true, true, true, false, false] rfl (by kernel_rfl) rfl ?_
    refine d_lit (el := 130) (k' := 2) (ps := [(0, (.agg #[(.string x.id), (.int .i64 x.pipe)]))]) (cells := #[(.string x.id), (.int .i64 x.pipe)]) (pc rfl pn) (by kernel_rfl) rfl (Nat.le_of_ble_eq_true rfl) ?_
    intro w27 b28 f29 a30 h31
    have z32 := f29.size
    have t33 := t21.trans0 f29
    have t34 := t22.trans0 f29
    have g35 := ob_one_ge (o := 0) (s := none) a30
    have l36 := h31.lt
    have := ob_one_lt l36
    refine ⟨(pres_all (by kernel_rfl)), ?_⟩
    refine f_one (i := 13) #[true, true, true, true, true, true, true, true, true, true, true, true, true, true, false] rfl (by kernel_rfl) rfl ?_
    have k44 := h8.keep0 f18
    have k45 := k44.keep0 f29
    have s46 := h31.sl
    refine d_appendN (news := [(.string x.id), (.int .i64 x.pipe)]) (nn := k + 1) (cs' := evs (xs.take (k + 1))) Proofs.Try.underlying31 F.inf130 rfl (Nat.le_of_ble_eq_true rfl) rfl k45 rfl s46 (by first | rfl | simp | omega) (by simp [Value.oneCell']) (by omega) (by simp only [maxLen]; omega) rfl (by exact evs_take_succ hx) ?_
    intro w37 a_40 c_41 f38 h39 g42 n43
    have z47 := f38.size
    have t48 := t33.step f38 (ob_new hge (by omega))
    have t49 := t34.step f38 (ob_new hge (by omega))
    have l50 := h39.lt
    have g51 := ob_age hge g42 (by omega)
    refine ⟨(pres_all (by kernel_rfl)), ?_⟩
    refine f_take (i := 14) (v := (.slice a_40 (k + 1) c_41)) #[true, true, true, true, true, true, true, true, true, true, true, true, true, true, true] r19 rfl (by kernel_rfl) (fun _ _ _ h => h) rfl (fs_none rfl) (fun w hF => r_assign rfl) ?_
    refine f_done (by kernel_rfl) ?_
    refine (x_blk (x_then ?_))
    refine c_region ?_
    refine l_v (v := (.int .i64 ((k : Nat) : Int))) (r_move s7) ?_
    refine l_v (v := (.int .i64 ((k + 1 : Nat) : Int))) (r_add rfl rfl (w64 (by omega) (by omega) (by omega))) ?_
    refine l_v (v := (.int .i64 ((k + 1 : Nat) : Int))) (r_assign rfl) ?_
    refine l_nil ?_
    refine (x_then ?_)
    exact ⟨_, _, (by omega), rfl, k + 1, a_40, c_41, rfl, s4, s5, rfl, rfl, t49, h39, (by omega), (ob_ge g51 (by omega))⟩
  ·
    refine c_exit ?_
    refine (x_then_x (x_then_x (x_blk_hit (x_then ?_))))
    refine c_seq ?_
    refine c_region ?_
    refine l_v (v := (.slice a3 k c3)) (r_move s6) ?_
    refine l_v (v := (.slice a3 k c3)) (r_assign rfl) ?_
    refine l_nil ?_
    refine (x_then ?_)
    refine c_ret ?_
    refine p_ret (v := (.slice a3 k c3)) (res1 rfl rfl) ?_
    have ek : k = xs.length := by omega
    subst ek
    exact ⟨a3, c3, rfl, t11, (by simpa using h8), (ob_ge hge (by omega))⟩

end Go.Sy
