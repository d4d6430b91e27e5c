/- Walks of package code. -/
import Derived.Test.YtnhpfhhpochgfaaFacts
import Derived.Test.YtnhpfhhpochgfaaPCode
namespace Go.Sy
set_option linter.unusedVariables false
set_option linter.unusedSimpArgs false

set_option maxHeartbeats 400000 in
set_option maxRecDepth 100000 in
theorem len64_c {w : World} {u : Nat} (h1 : u < 18446744073709551616) :
    Calls Proofs.Try.prog 174 #[(.int .u64 ((u : Nat) : Int))] w (Ret fun v w' => v = (.int .i64 ((blen u : Nat) : Int)) ∧ Fr [] w w') := by
  have t0 : Fr [] w w := Fr.refl _ _
  refine enter Proofs.Try.func174 rfl Proofs.Try.ntmps174 (Nat.le_of_ble_eq_true rfl) ?_
  refine c_seq ?_
  refine c_region ?_
  refine l_v (v := (.int .i64 0)) (r_assign rfl) ?_
  refine l_nil ?_
  refine (x_then ?_)
  refine c_seq ?_
  refine c_seq ?_
  refine c_region ?_
  refine l_v (v := (.int .u64 ((u : Nat) : Int))) (r_move rfl) ?_
  refine l_v (v := (.bool (decide (4294967296 ≤ ((u : Nat) : Int))))) (r_geq rfl rfl) ?_
  refine l_nil ?_
  refine (x_then ?_)
  refine c_if (p := 4294967296 ≤ ((u : Nat) : Int)) rfl (fun c1 => ?_) (fun c1 => ?_)
  ·
    refine c_seq ?_
    refine c_region ?_
    refine l_v (v := (.int .u64 ((u : Nat) : Int))) (r_move rfl) ?_
    refine l_v (v := (.int .u64 ((u / 4294967296 : Nat) : Int))) (r_shr rfl rfl (by decide) (by decide) (shr_nat _ 32)) ?_
    refine l_v (v := (.int .u64 ((u / 4294967296 : Nat) : Int))) (r_assign rfl) ?_
    refine l_nil ?_
    refine (x_then ?_)
    refine c_region ?_
    refine l_v (v := (.int .i64 32)) (r_assign rfl) ?_
    refine l_nil ?_
    refine (x_then ?_)
    refine c_seq ?_
    refine c_seq ?_
    refine c_region ?_
    refine l_v (v := (.int .u64 ((u / 4294967296 : Nat) : Int))) (r_move rfl) ?_
    refine l_v (v := (.bool (decide (65536 ≤ ((u / 4294967296 : Nat) : Int))))) (r_geq rfl rfl) ?_
    refine l_nil ?_
    refine (x_then ?_)
    refine c_if (p := 65536 ≤ ((u / 4294967296 : Nat) : Int)) rfl (fun c2 => ?_) (fun c2 => ?_)
    ·
      refine c_seq ?_
      refine c_region ?_
      refine l_v (v := (.int .u64 ((u / 4294967296 : Nat) : Int))) (r_move rfl) ?_
      refine l_v (v := (.int .u64 ((u / 4294967296 / 65536 : Nat) : Int))) (r_shr rfl rfl (by decide) (by decide) (shr_nat _ 16)) ?_
      refine l_v (v := (.int .u64 ((u / 4294967296 / 65536 : Nat) : Int))) (r_assign rfl) ?_
      refine l_nil ?_
      refine (x_then ?_)
      refine c_region ?_
      refine l_v (v := (.int .i64 32)) (r_move rfl) ?_
      refine l_v (v := (.int .i64 48)) (r_add rfl rfl (w64 (by omega) (by omega) (by omega))) ?_
      refine l_v (v := (.int .i64 48)) (r_assign rfl) ?_
      refine l_nil ?_
      refine (x_then ?_)
      refine c_seq ?_
      refine c_seq ?_
      refine c_region ?_
      refine l_v (v := (.int .u64 ((u / 4294967296 / 65536 : Nat) : Int))) (r_move rfl) ?_
      refine l_v (v := (.bool (decide (256 ≤ ((u / 4294967296 / 65536 : Nat) : Int))))) (r_geq rfl rfl) ?_
      refine l_nil ?_
      refine (x_then ?_)
      refine c_if (p := 256 ≤ ((u / 4294967296 / 65536 : Nat) : Int)) rfl (fun c3 => ?_) (fun c3 => ?_)
      ·
        refine c_seq ?_
        refine c_region ?_
        refine l_v (v := (.int .u64 ((u / 4294967296 / 65536 : Nat) : Int))) (r_move rfl) ?_
        refine l_v (v := (.int .u64 ((u / 4294967296 / 65536 / 256 : Nat) : Int))) (r_shr rfl rfl (by decide) (by decide) (shr_nat _ 8)) ?_
        refine l_v (v := (.int .u64 ((u / 4294967296 / 65536 / 256 : Nat) : Int))) (r_assign rfl) ?_
        refine l_nil ?_
        refine (x_then ?_)
        refine c_region ?_
        refine l_v (v := (.int .i64 48)) (r_move rfl) ?_
        refine l_v (v := (.int .i64 56)) (r_add rfl rfl (w64 (by omega) (by omega) (by omega))) ?_
        refine l_v (v := (.int .i64 56)) (r_assign rfl) ?_
        refine l_nil ?_
        refine (x_then ?_)
        refine c_seq ?_
        refine c_region ?_
        refine l_v (v := (.int .i64 56)) (r_move rfl) ?_
        refine l_v (v := (.int .u64 ((u / 4294967296 / 65536 / 256 : Nat) : Int))) (r_move rfl) ?_
        refine l_v (v := (.int .u8 ((u / 4294967296 / 65536 / 256 : Nat) : Int))) (r_convI F.und189 Proofs.Try.underlying5 rfl (wu8 (by omega) (by omega) rfl)) ?_
        refine l_v (v := (.int .u8 (((UInt8.ofNat (blen (u / 4294967296 / 65536 / 256))).toNat : Nat) : Int))) (r_indexS Proofs.Try.underlying9 rfl rfl (by omega) (len8_get (by omega))) ?_
        have e0 := len8_toNat (x := u / 4294967296 / 65536 / 256) (by omega)
        have e1 := (blen_lt_iff (u / 4294967296 / 65536 / 256) 8).2 (by omega)
        refine l_v (v := (.int .i64 (((UInt8.ofNat (blen (u / 4294967296 / 65536 / 256))).toNat : Nat) : Int))) (r_convI F.und5 Proofs.Try.underlying3 rfl (w64 (by omega) (by omega) rfl)) ?_
        refine l_v (v := (.int .i64 ((56 + ((UInt8.ofNat (blen (u / 4294967296 / 65536 / 256))).toNat) : Nat) : Int))) (r_add rfl rfl (w64 (by omega) (by omega) (by omega))) ?_
        refine l_v (v := (.int .i64 ((56 + ((UInt8.ofNat (blen (u / 4294967296 / 65536 / 256))).toNat) : Nat) : Int))) (r_assign rfl) ?_
        refine l_nil ?_
        refine (x_then ?_)
        refine c_ret ?_
        refine p_ret (v := (.int .i64 ((56 + ((UInt8.ofNat (blen (u / 4294967296 / 65536 / 256))).toNat) : Nat) : Int))) (res1 rfl rfl) ?_
        have e32 := blen32 (u := u) (by omega)
        have e16 := blen16 (u := u / 4294967296) (by omega)
        have e8 := blen8 (u := u / 4294967296 / 65536) (by omega)
        have e0 := len8_toNat (x := u / 4294967296 / 65536 / 256) (by omega)
        exact ⟨(by congr 1; omega), t0⟩
      ·
        refine c_skip ?_
        refine (x_then ?_)
        refine c_seq ?_
        refine c_region ?_
        refine l_v (v := (.int .i64 48)) (r_move rfl) ?_
        refine l_v (v := (.int .u64 ((u / 4294967296 / 65536 : Nat) : Int))) (r_move rfl) ?_
        refine l_v (v := (.int .u8 ((u / 4294967296 / 65536 : Nat) : Int))) (r_convI F.und189 Proofs.Try.underlying5 rfl (wu8 (by omega) (by omega) rfl)) ?_
        refine l_v (v := (.int .u8 (((UInt8.ofNat (blen (u / 4294967296 / 65536))).toNat : Nat) : Int))) (r_indexS Proofs.Try.underlying9 rfl rfl (by omega) (len8_get (by omega))) ?_
        have e0 := len8_toNat (x := u / 4294967296 / 65536) (by omega)
        have e1 := (blen_lt_iff (u / 4294967296 / 65536) 8).2 (by omega)
        refine l_v (v := (.int .i64 (((UInt8.ofNat (blen (u / 4294967296 / 65536))).toNat : Nat) : Int))) (r_convI F.und5 Proofs.Try.underlying3 rfl (w64 (by omega) (by omega) rfl)) ?_
        refine l_v (v := (.int .i64 ((48 + ((UInt8.ofNat (blen (u / 4294967296 / 65536))).toNat) : Nat) : Int))) (r_add rfl rfl (w64 (by omega) (by omega) (by omega))) ?_
        refine l_v (v := (.int .i64 ((48 + ((UInt8.ofNat (blen (u / 4294967296 / 65536))).toNat) : Nat) : Int))) (r_assign rfl) ?_
        refine l_nil ?_
        refine (x_then ?_)
        refine c_ret ?_
        refine p_ret (v := (.int .i64 ((48 + ((UInt8.ofNat (blen (u / 4294967296 / 65536))).toNat) : Nat) : Int))) (res1 rfl rfl) ?_
        have e32 := blen32 (u := u) (by omega)
        have e16 := blen16 (u := u / 4294967296) (by omega)
        have e0 := len8_toNat (x := u / 4294967296 / 65536) (by omega)
        exact ⟨(by congr 1; omega), t0⟩
    ·
      refine c_skip ?_
      refine (x_then ?_)
      refine c_seq ?_
      refine c_seq ?_
      refine c_region ?_
      refine l_v (v := (.int .u64 ((u / 4294967296 : Nat) : Int))) (r_move rfl) ?_
      refine l_v (v := (.bool (decide (256 ≤ ((u / 4294967296 : Nat) : Int))))) (r_geq rfl rfl) ?_
      refine l_nil ?_
      refine (x_then ?_)
      refine c_if (p := 256 ≤ ((u / 4294967296 : Nat) : Int)) rfl (fun c4 => ?_) (fun c4 => ?_)
      ·
        refine c_seq ?_
        refine c_region ?_
        refine l_v (v := (.int .u64 ((u / 4294967296 : Nat) : Int))) (r_move rfl) ?_
        refine l_v (v := (.int .u64 ((u / 4294967296 / 256 : Nat) : Int))) (r_shr rfl rfl (by decide) (by decide) (shr_nat _ 8)) ?_
        refine l_v (v := (.int .u64 ((u / 4294967296 / 256 : Nat) : Int))) (r_assign rfl) ?_
        refine l_nil ?_
        refine (x_then ?_)
        refine c_region ?_
        refine l_v (v := (.int .i64 32)) (r_move rfl) ?_
        refine l_v (v := (.int .i64 40)) (r_add rfl rfl (w64 (by omega) (by omega) (by omega))) ?_
        refine l_v (v := (.int .i64 40)) (r_assign rfl) ?_
        refine l_nil ?_
        refine (x_then ?_)
        refine c_seq ?_
        refine c_region ?_
        refine l_v (v := (.int .i64 40)) (r_move rfl) ?_
        refine l_v (v := (.int .u64 ((u / 4294967296 / 256 : Nat) : Int))) (r_move rfl) ?_
        refine l_v (v := (.int .u8 ((u / 4294967296 / 256 : Nat) : Int))) (r_convI F.und189 Proofs.Try.underlying5 rfl (wu8 (by omega) (by omega) rfl)) ?_
        refine l_v (v := (.int .u8 (((UInt8.ofNat (blen (u / 4294967296 / 256))).toNat : Nat) : Int))) (r_indexS Proofs.Try.underlying9 rfl rfl (by omega) (len8_get (by omega))) ?_
        have e0 := len8_toNat (x := u / 4294967296 / 256) (by omega)
        have e1 := (blen_lt_iff (u / 4294967296 / 256) 8).2 (by omega)
        refine l_v (v := (.int .i64 (((UInt8.ofNat (blen (u / 4294967296 / 256))).toNat : Nat) : Int))) (r_convI F.und5 Proofs.Try.underlying3 rfl (w64 (by omega) (by omega) rfl)) ?_
        refine l_v (v := (.int .i64 ((40 + ((UInt8.ofNat (blen (u / 4294967296 / 256))).toNat) : Nat) : Int))) (r_add rfl rfl (w64 (by omega) (by omega) (by omega))) ?_
        refine l_v (v := (.int .i64 ((40 + ((UInt8.ofNat (blen (u / 4294967296 / 256))).toNat) : Nat) : Int))) (r_assign rfl) ?_
        refine l_nil ?_
        refine (x_then ?_)
        refine c_ret ?_
        refine p_ret (v := (.int .i64 ((40 + ((UInt8.ofNat (blen (u / 4294967296 / 256))).toNat) : Nat) : Int))) (res1 rfl rfl) ?_
        have e32 := blen32 (u := u) (by omega)
        have e8 := blen8 (u := u / 4294967296) (by omega)
        have e0 := len8_toNat (x := u / 4294967296 / 256) (by omega)
        exact ⟨(by congr 1; omega), t0⟩
      ·
        refine c_skip ?_
        refine (x_then ?_)
        refine c_seq ?_
        refine c_region ?_
        refine l_v (v := (.int .i64 32)) (r_move rfl) ?_
        refine l_v (v := (.int .u64 ((u / 4294967296 : Nat) : Int))) (r_move rfl) ?_
        refine l_v (v := (.int .u8 ((u / 4294967296 : Nat) : Int))) (r_convI F.und189 Proofs.Try.underlying5 rfl (wu8 (by omega) (by omega) rfl)) ?_
        refine l_v (v := (.int .u8 (((UInt8.ofNat (blen (u / 4294967296))).toNat : Nat) : Int))) (r_indexS Proofs.Try.underlying9 rfl rfl (by omega) (len8_get (by omega))) ?_
        have e0 := len8_toNat (x := u / 4294967296) (by omega)
        have e1 := (blen_lt_iff (u / 4294967296) 8).2 (by omega)
        refine l_v (v := (.int .i64 (((UInt8.ofNat (blen (u / 4294967296))).toNat : Nat) : Int))) (r_convI F.und5 Proofs.Try.underlying3 rfl (w64 (by omega) (by omega) rfl)) ?_
        refine l_v (v := (.int .i64 ((32 + ((UInt8.ofNat (blen (u / 4294967296))).toNat) : Nat) : Int))) (r_add rfl rfl (w64 (by omega) (by omega) (by omega))) ?_
        refine l_v (v := (.int .i64 ((32 + ((UInt8.ofNat (blen (u / 4294967296))).toNat) : Nat) : Int))) (r_assign rfl) ?_
        refine l_nil ?_
        refine (x_then ?_)
        refine c_ret ?_
        refine p_ret (v := (.int .i64 ((32 + ((UInt8.ofNat (blen (u / 4294967296))).toNat) : Nat) : Int))) (res1 rfl rfl) ?_
        have e32 := blen32 (u := u) (by omega)
        have e0 := len8_toNat (x := u / 4294967296) (by omega)
        exact ⟨(by congr 1; omega), t0⟩
  ·
    refine c_skip ?_
    refine (x_then ?_)
    refine c_seq ?_
    refine c_seq ?_
    refine c_region ?_
    refine l_v (v := (.int .u64 ((u : Nat) : Int))) (r_move rfl) ?_
    refine l_v (v := (.bool (decide (65536 ≤ ((u : Nat) : Int))))) (r_geq rfl rfl) ?_
    refine l_nil ?_
    refine (x_then ?_)
    refine c_if (p := 65536 ≤ ((u : Nat) : Int)) rfl (fun c5 => ?_) (fun c5 => ?_)
    ·
      refine c_seq ?_
      refine c_region ?_
      refine l_v (v := (.int .u64 ((u : Nat) : Int))) (r_move rfl) ?_
      refine l_v (v := (.int .u64 ((u / 65536 : Nat) : Int))) (r_shr rfl rfl (by decide) (by decide) (shr_nat _ 16)) ?_
      refine l_v (v := (.int .u64 ((u / 65536 : Nat) : Int))) (r_assign rfl) ?_
      refine l_nil ?_
      refine (x_then ?_)
      refine c_region ?_
      refine l_v (v := (.int .i64 0)) (r_move rfl) ?_
      refine l_v (v := (.int .i64 16)) (r_add rfl rfl (w64 (by omega) (by omega) (by omega))) ?_
      refine l_v (v := (.int .i64 16)) (r_assign rfl) ?_
      refine l_nil ?_
      refine (x_then ?_)
      refine c_seq ?_
      refine c_seq ?_
      refine c_region ?_
      refine l_v (v := (.int .u64 ((u / 65536 : Nat) : Int))) (r_move rfl) ?_
      refine l_v (v := (.bool (decide (256 ≤ ((u / 65536 : Nat) : Int))))) (r_geq rfl rfl) ?_
      refine l_nil ?_
      refine (x_then ?_)
      refine c_if (p := 256 ≤ ((u / 65536 : Nat) : Int)) rfl (fun c6 => ?_) (fun c6 => ?_)
      ·
        refine c_seq ?_
        refine c_region ?_
        refine l_v (v := (.int .u64 ((u / 65536 : Nat) : Int))) (r_move rfl) ?_
        refine l_v (v := (.int .u64 ((u / 65536 / 256 : Nat) : Int))) (r_shr rfl rfl (by decide) (by decide) (shr_nat _ 8)) ?_
        refine l_v (v := (.int .u64 ((u / 65536 / 256 : Nat) : Int))) (r_assign rfl) ?_
        refine l_nil ?_
        refine (x_then ?_)
        refine c_region ?_
        refine l_v (v := (.int .i64 16)) (r_move rfl) ?_
        refine l_v (v := (.int .i64 24)) (r_add rfl rfl (w64 (by omega) (by omega) (by omega))) ?_
        refine l_v (v := (.int .i64 24)) (r_assign rfl) ?_
        refine l_nil ?_
        refine (x_then ?_)
        refine c_seq ?_
        refine c_region ?_
        refine l_v (v := (.int .i64 24)) (r_move rfl) ?_
        refine l_v (v := (.int .u64 ((u / 65536 / 256 : Nat) : Int))) (r_move rfl) ?_
        refine l_v (v := (.int .u8 ((u / 65536 / 256 : Nat) : Int))) (r_convI F.und189 Proofs.Try.underlying5 rfl (wu8 (by omega) (by omega) rfl)) ?_
        refine l_v (v := (.int .u8 (((UInt8.ofNat (blen (u / 65536 / 256))).toNat : Nat) : Int))) (r_indexS Proofs.Try.underlying9 rfl rfl (by omega) (len8_get (by omega))) ?_
        have e0 := len8_toNat (x := u / 65536 / 256) (by omega)
        have e1 := (blen_lt_iff (u / 65536 / 256) 8).2 (by omega)
        refine l_v (v := (.int .i64 (((UInt8.ofNat (blen (u / 65536 / 256))).toNat : Nat) : Int))) (r_convI F.und5 Proofs.Try.underlying3 rfl (w64 (by omega) (by omega) rfl)) ?_
        refine l_v (v := (.int .i64 ((24 + ((UInt8.ofNat (blen (u / 65536 / 256))).toNat) : Nat) : Int))) (r_add rfl rfl (w64 (by omega) (by omega) (by omega))) ?_
        refine l_v (v := (.int .i64 ((24 + ((UInt8.ofNat (blen (u / 65536 / 256))).toNat) : Nat) : Int))) (r_assign rfl) ?_
        refine l_nil ?_
        refine (x_then ?_)
        refine c_ret ?_
        refine p_ret (v := (.int .i64 ((24 + ((UInt8.ofNat (blen (u / 65536 / 256))).toNat) : Nat) : Int))) (res1 rfl rfl) ?_
        have e16 := blen16 (u := u) (by omega)
        have e8 := blen8 (u := u / 65536) (by omega)
        have e0 := len8_toNat (x := u / 65536 / 256) (by omega)
        exact ⟨(by congr 1; omega), t0⟩
      ·
        refine c_skip ?_
        refine (x_then ?_)
        refine c_seq ?_
        refine c_region ?_
        refine l_v (v := (.int .i64 16)) (r_move rfl) ?_
        refine l_v (v := (.int .u64 ((u / 65536 : Nat) : Int))) (r_move rfl) ?_
        refine l_v (v := (.int .u8 ((u / 65536 : Nat) : Int))) (r_convI F.und189 Proofs.Try.underlying5 rfl (wu8 (by omega) (by omega) rfl)) ?_
        refine l_v (v := (.int .u8 (((UInt8.ofNat (blen (u / 65536))).toNat : Nat) : Int))) (r_indexS Proofs.Try.underlying9 rfl rfl (by omega) (len8_get (by omega))) ?_
        have e0 := len8_toNat (x := u / 65536) (by omega)
        have e1 := (blen_lt_iff (u / 65536) 8).2 (by omega)
        refine l_v (v := (.int .i64 (((UInt8.ofNat (blen (u / 65536))).toNat : Nat) : Int))) (r_convI F.und5 Proofs.Try.underlying3 rfl (w64 (by omega) (by omega) rfl)) ?_
        refine l_v (v := (.int .i64 ((16 + ((UInt8.ofNat (blen (u / 65536))).toNat) : Nat) : Int))) (r_add rfl rfl (w64 (by omega) (by omega) (by omega))) ?_
        refine l_v (v := (.int .i64 ((16 + ((UInt8.ofNat (blen (u / 65536))).toNat) : Nat) : Int))) (r_assign rfl) ?_
        refine l_nil ?_
        refine (x_then ?_)
        refine c_ret ?_
        refine p_ret (v := (.int .i64 ((16 + ((UInt8.ofNat (blen (u / 65536))).toNat) : Nat) : Int))) (res1 rfl rfl) ?_
        have e16 := blen16 (u := u) (by omega)
        have e0 := len8_toNat (x := u / 65536) (by omega)
        exact ⟨(by congr 1; omega), t0⟩
    ·
      refine c_skip ?_
      refine (x_then ?_)
      refine c_seq ?_
      refine c_seq ?_
      refine c_region ?_
      refine l_v (v := (.int .u64 ((u : Nat) : Int))) (r_move rfl) ?_
      refine l_v (v := (.bool (decide (256 ≤ ((u : Nat) : Int))))) (r_geq rfl rfl) ?_
      refine l_nil ?_
      refine (x_then ?_)
      refine c_if (p := 256 ≤ ((u : Nat) : Int)) rfl (fun c7 => ?_) (fun c7 => ?_)
      ·
        refine c_seq ?_
        refine c_region ?_
        refine l_v (v := (.int .u64 ((u : Nat) : Int))) (r_move rfl) ?_
        refine l_v (v := (.int .u64 ((u / 256 : Nat) : Int))) (r_shr rfl rfl (by decide) (by decide) (shr_nat _ 8)) ?_
        refine l_v (v := (.int .u64 ((u / 256 : Nat) : Int))) (r_assign rfl) ?_
        refine l_nil ?_
        refine (x_then ?_)
        refine c_region ?_
        refine l_v (v := (.int .i64 0)) (r_move rfl) ?_
        refine l_v (v := (.int .i64 8)) (r_add rfl rfl (w64 (by omega) (by omega) (by omega))) ?_
        refine l_v (v := (.int .i64 8)) (r_assign rfl) ?_
        refine l_nil ?_
        refine (x_then ?_)
        refine c_seq ?_
        refine c_region ?_
        refine l_v (v := (.int .i64 8)) (r_move rfl) ?_
        refine l_v (v := (.int .u64 ((u / 256 : Nat) : Int))) (r_move rfl) ?_
        refine l_v (v := (.int .u8 ((u / 256 : Nat) : Int))) (r_convI F.und189 Proofs.Try.underlying5 rfl (wu8 (by omega) (by omega) rfl)) ?_
        refine l_v (v := (.int .u8 (((UInt8.ofNat (blen (u / 256))).toNat : Nat) : Int))) (r_indexS Proofs.Try.underlying9 rfl rfl (by omega) (len8_get (by omega))) ?_
        have e0 := len8_toNat (x := u / 256) (by omega)
        have e1 := (blen_lt_iff (u / 256) 8).2 (by omega)
        refine l_v (v := (.int .i64 (((UInt8.ofNat (blen (u / 256))).toNat : Nat) : Int))) (r_convI F.und5 Proofs.Try.underlying3 rfl (w64 (by omega) (by omega) rfl)) ?_
        refine l_v (v := (.int .i64 ((8 + ((UInt8.ofNat (blen (u / 256))).toNat) : Nat) : Int))) (r_add rfl rfl (w64 (by omega) (by omega) (by omega))) ?_
        refine l_v (v := (.int .i64 ((8 + ((UInt8.ofNat (blen (u / 256))).toNat) : Nat) : Int))) (r_assign rfl) ?_
        refine l_nil ?_
        refine (x_then ?_)
        refine c_ret ?_
        refine p_ret (v := (.int .i64 ((8 + ((UInt8.ofNat (blen (u / 256))).toNat) : Nat) : Int))) (res1 rfl rfl) ?_
        have e8 := blen8 (u := u) (by omega)
        have e0 := len8_toNat (x := u / 256) (by omega)
        exact ⟨(by congr 1; omega), t0⟩
      ·
        refine c_skip ?_
        refine (x_then ?_)
        refine c_seq ?_
        refine c_region ?_
        refine l_v (v := (.int .i64 0)) (r_move rfl) ?_
        refine l_v (v := (.int .u64 ((u : Nat) : Int))) (r_move rfl) ?_
        refine l_v (v := (.int .u8 ((u : Nat) : Int))) (r_convI F.und189 Proofs.Try.underlying5 rfl (wu8 (by omega) (by omega) rfl)) ?_
        refine l_v (v := (.int .u8 (((UInt8.ofNat (blen (u))).toNat : Nat) : Int))) (r_indexS Proofs.Try.underlying9 rfl rfl (by omega) (len8_get (by omega))) ?_
        have e0 := len8_toNat (x := u) (by omega)
        have e1 := (blen_lt_iff (u) 8).2 (by omega)
        refine l_v (v := (.int .i64 (((UInt8.ofNat (blen (u))).toNat : Nat) : Int))) (r_convI F.und5 Proofs.Try.underlying3 rfl (w64 (by omega) (by omega) rfl)) ?_
        refine l_v (v := (.int .i64 ((0 + ((UInt8.ofNat (blen (u))).toNat) : Nat) : Int))) (r_add rfl rfl (w64 (by omega) (by omega) (by omega))) ?_
        refine l_v (v := (.int .i64 ((0 + ((UInt8.ofNat (blen (u))).toNat) : Nat) : Int))) (r_assign rfl) ?_
        refine l_nil ?_
        refine (x_then ?_)
        refine c_ret ?_
        refine p_ret (v := (.int .i64 ((0 + ((UInt8.ofNat (blen (u))).toNat) : Nat) : Int))) (res1 rfl rfl) ?_
        have e0 := len8_toNat (x := u) (by omega)
        exact ⟨(by congr 1; omega), t0⟩

set_option maxHeartbeats 400000 in
set_option maxRecDepth 100000 in
theorem groups_c {w : World} {u : Nat} (h1 : u < 18446744073709551616) :
    Calls Proofs.Try.prog 168 #[(.int .u64 ((u : Nat) : Int))] w (Ret fun v w' => v = (.int .i64 ((ngr u : Nat) : Int)) ∧ Fr [] w w') := by
  have t0 : Fr [] w w := Fr.refl _ _
  refine enter Proofs.Try.func168 rfl Proofs.Try.ntmps168 (Nat.le_of_ble_eq_true rfl) ?_
  refine c_seq ?_
  refine c_region ?_
  refine l_v (v := (.int .i64 0)) (r_assign rfl) ?_
  refine l_nil ?_
  refine (x_then ?_)
  refine c_seq ?_
  refine c_region ?_
  refine l_v (v := (.int .u64 ((u : Nat) : Int))) (r_move rfl) ?_
  refine l_do rfl ?_
  refine d_call (fl := []) (cl := []) (A := [(.int .u64 ((u : Nat) : Int))]) (B := [(.int .u64 ((u : Nat) : Int))]) F.ok174 rfl (ac rfl an) rfl (len64_c (u := u) (by omega)) ?_
  rintro _ w1 ⟨rfl, f2⟩
  have z3 := f2.size
  have t4 := t0.trans0 f2
  have hb := blen_le64 h1
  refine l_v (v := (.int .i64 ((blen u + 7 : Nat) : Int))) (r_add rfl rfl (w64 (by omega) (by omega) (by omega))) ?_
  refine l_v (v := (.int .i64 ((blen u + 7 - 1 : Nat) : Int))) (r_sub rfl rfl (w64 (by omega) (by omega) (by omega))) ?_
  refine l_v (v := (.int .i64 (((blen u + 7 - 1) / 7 : Nat) : Int))) (r_quo rfl rfl (by decide) (quo_nat (y := 7) (by omega))) ?_
  refine l_v (v := (.int .i64 ((ngr u : Nat) : Int))) (r_max rfl rfl (by unfold ngr; split <;> split <;> omega)) ?_
  refine l_v (v := (.int .i64 ((ngr u : Nat) : Int))) (r_assign rfl) ?_
  refine l_nil ?_
  refine (x_then ?_)
  refine c_ret ?_
  refine p_ret (v := (.int .i64 ((ngr u : Nat) : Int))) (res1 rfl rfl) ?_
  exact ⟨rfl, t4⟩

set_option maxHeartbeats 400000 in
set_option maxRecDepth 100000 in
theorem none_c {w : World} {a : Option Addr} {c : Nat} {bs : List UInt8} (h1 : Sl w a (bv bs)) (h2 : bs.length ≤ 1000000000) :
    Calls Proofs.Try.prog 146 #[(.slice a bs.length c)] w (Ret fun v w' => ∃ a' : Option Addr, ∃ c' : Nat, v = (.slice a' bs.length c') ∧ Fr [] w w' ∧ Own w' 5 1 a' bs.length c' (bv bs) ∧ (∀ x ∈ ob a', w.heap.size ≤ x)) := by
  have t0 : Fr [] w w := Fr.refl _ _
  refine enter Proofs.Try.func146 rfl Proofs.Try.ntmps146 (Nat.le_of_ble_eq_true rfl) ?_
  refine c_seq ?_
  refine c_region ?_
  refine l_v (v := (.slice none 0 0)) (r_assign rfl) ?_
  refine l_nil ?_
  refine (x_then ?_)
  refine c_seq ?_
  refine c_region ?_
  refine l_do rfl ?_
  refine d_lit (el := 5) (k' := 1) (ps := []) (cells := #[]) pn (by kernel_rfl) rfl (Nat.le_of_ble_eq_true rfl) ?_
  intro w1 b2 f3 a4 h5
  have z6 := f3.size
  have t7 := t0.trans0 f3
  have g8 := ob_one_ge (o := 0) (s := none) a4
  have l9 := h5.lt
  have := ob_one_lt l9
  refine l_v (v := (.slice a bs.length c)) (r_move rfl) ?_
  refine l_do rfl ?_
  have k17 := h1.keep0 f3
  refine d_appendN (news := bv bs) (nn := bs.length) (cs' := bv bs) Proofs.Try.underlying22 F.inf5 rfl (Nat.le_of_ble_eq_true rfl) rfl h5 rfl k17 (by rw [bv_len]; omega) (bv_one bs) (by omega) (by simp only [maxLen]; omega) (by omega) (by simp) ?_
  intro w10 a_13 c_14 f11 h12 g15 n16
  have z18 := f11.size
  have t19 := t7.step f11 (ob_new g8 (by omega))
  have l20 := h12.lt
  have g21 := ob_age g8 g15 (by omega)
  refine l_v (v := (.slice a_13 bs.length c_14)) (r_assign rfl) ?_
  refine l_nil ?_
  refine (x_then ?_)
  refine c_ret ?_
  refine p_ret (v := (.slice a_13 bs.length c_14)) (res1 rfl rfl) ?_
  exact ⟨a_13, c_14, (by simp), t19, h12, (ob_ge g21 (by omega))⟩

set_option maxHeartbeats 400000 in
set_option maxRecDepth 100000 in
theorem lay_c {w : World} {a : Option Addr} {c u : Nat} {bs l : List UInt8} {s : ByteArray} (h1 : Sl w a (bv bs)) (h2 : bs.length ≤ 1000000000) (h3 : u < 18446744073709551616) (h4 : s.size ≤ 3000000000) (hl : l = bs ++ grp u ++ s.data.toList) :
    Calls Proofs.Try.prog 147 #[(.slice a bs.length c), (.int .u64 ((u : Nat) : Int)), (.string s)] w (Ret fun v w' => ∃ a' : Option Addr, ∃ c' : Nat, v = (.slice a' l.length c') ∧ Fr [] w w' ∧ Own w' 5 1 a' l.length c' (bv l) ∧ (∀ x ∈ ob a', w.heap.size ≤ x)) := by
  have hng := ngr_le h3
  have t0 : Fr [] w w := Fr.refl _ _
  refine enter Proofs.Try.func147 rfl Proofs.Try.ntmps147 (Nat.le_of_ble_eq_true rfl) ?_
  refine c_seq ?_
  refine c_region ?_
  refine l_v (v := (.slice none 0 0)) (r_assign rfl) ?_
  refine l_nil ?_
  refine (x_then ?_)
  refine c_seq ?_
  refine c_region ?_
  refine l_v (v := (.int .u64 ((u : Nat) : Int))) (r_move rfl) ?_
  refine l_do rfl ?_
  refine d_call (fl := []) (cl := []) (A := [(.int .u64 ((u : Nat) : Int))]) (B := [(.int .u64 ((u : Nat) : Int))]) F.ok168 rfl (ac rfl an) rfl (groups_c (u := u) (by omega)) ?_
  rintro _ w1 ⟨rfl, f2⟩
  have z3 := f2.size
  have t4 := t0.trans0 f2
  refine l_v (v := (.int .i64 ((ngr u : Nat) : Int))) (r_assign rfl) ?_
  refine l_nil ?_
  refine (x_then ?_)
  refine c_seq ?_
  refine c_region ?_
  refine l_v (v := (.slice a bs.length c)) (r_move rfl) ?_
  refine l_v (v := (.int .i64 ((bs.length : Nat) : Int))) (r_lenSl F.sl22 rfl) ?_
  refine l_v (v := (.int .i64 ((ngr u : Nat) : Int))) (r_move rfl) ?_
  refine l_v (v := (.int .i64 ((bs.length + (ngr u) : Nat) : Int))) (r_add rfl rfl (w64 (by omega) (by omega) (by omega))) ?_
  refine l_v (v := (.string s)) (r_move rfl) ?_
  refine l_v (v := (.int .i64 ((s.size : Nat) : Int))) (r_lenSn Proofs.Try.underlying9 rfl rfl) ?_
  refine l_v (v := (.int .i64 ((bs.length + (ngr u) + s.size : Nat) : Int))) (r_add rfl rfl (w64 (by omega) (by omega) (by omega))) ?_
  refine l_do rfl ?_
  refine d_make0 (c := bs.length + (ngr u) + s.size) Proofs.Try.underlying22 F.inf5 rfl rfl (by omega) (by simp only [maxLen]; omega) ?_
  intro w5 b6 f7 a8 h9
  have z10 := f7.size
  have t11 := t4.trans0 f7
  have g12 := ob_one_ge (o := 0) (s := none) a8
  have l13 := h9.lt
  have := ob_one_lt l13
  refine l_v (v := (.slice (some ⟨b6, 0, none⟩) 0 (bs.length + (ngr u) + s.size))) (r_assign rfl) ?_
  refine l_nil ?_
  refine (x_then ?_)
  refine c_seq ?_
  refine c_region ?_
  refine l_v (v := (.slice (some ⟨b6, 0, none⟩) 0 (bs.length + (ngr u) + s.size))) (r_move rfl) ?_
  refine l_v (v := (.slice a bs.length c)) (r_move rfl) ?_
  refine l_do rfl ?_
  have k21 := h1.keep0 f2
  have k22 := k21.keep0 f7
  refine d_appendFitN (news := bv bs) (nn := bs.length) (cs' := bv bs) Proofs.Try.underlying22 F.inf5 (Nat.le_of_ble_eq_true rfl) rfl h9 rfl k22 (by rw [bv_len]; omega) (bv_one bs) (by omega) (by omega) (by simp) ?_
  intro w14 f15 h16
  have z23 := f15.size
  have t24 := t11.step f15 (one_new (by omega))
  refine l_v (v := (.slice (some ⟨b6, 0, none⟩) bs.length (bs.length + (ngr u) + s.size))) (r_assign rfl) ?_
  refine l_nil ?_
  refine (x_then ?_)
  refine c_seq ?_
  refine c_seq ?_
  refine c_region ?_
  refine l_v (v := (.int .i64 ((ngr u : Nat) : Int))) (r_move rfl) ?_
  refine l_v (v := (.int .i64 0)) (r_move rfl) ?_
  refine l_nil ?_
  refine (x_then ?_)
  refine c_block ?_
  refine c_loop (fun (m : Nat) (e' : Nat → Value) (w' : World) => ∃ k : Nat, m = ngr u - k ∧ e' 0 = (.slice a bs.length c) ∧ e' 1 = (.int .u64 ((u : Nat) : Int)) ∧ e' 2 = (.string s) ∧ e' 6 = (.slice none 0 0) ∧ e' 7 = (.int .i64 ((ngr u : Nat) : Int)) ∧ e' 8 = (.slice (some ⟨b6, 0, none⟩) (bs.length + k) (bs.length + (ngr u) + s.size)) ∧ e' 11 = (.int .u64 ((u : Nat) : Int)) ∧ e' 12 = (.int .i64 ((ngr u : Nat) : Int)) ∧ e' 13 = (.slice a bs.length c) ∧ e' 14 = (.int .i64 ((bs.length : Nat) : Int)) ∧ e' 15 = (.int .i64 ((ngr u : Nat) : Int)) ∧ e' 16 = (.int .i64 ((bs.length + (ngr u) : Nat) : Int)) ∧ e' 17 = (.string s) ∧ e' 18 = (.int .i64 ((s.size : Nat) : Int)) ∧ e' 19 = (.int .i64 ((bs.length + (ngr u) + s.size : Nat) : Int)) ∧ e' 20 = (.slice (some ⟨b6, 0, none⟩) 0 (bs.length + (ngr u) + s.size)) ∧ e' 21 = (.slice (some ⟨b6, 0, none⟩) 0 (bs.length + (ngr u) + s.size)) ∧ e' 22 = (.slice a bs.length c) ∧ e' 23 = (.slice (some ⟨b6, 0, none⟩) bs.length (bs.length + (ngr u) + s.size)) ∧ e' 24 = (.int .i64 ((ngr u : Nat) : Int)) ∧ e' 25 = (.int .i64 ((k : Nat) : Int)) ∧ Fr [b6] w14 w' ∧ Own w' 5 1 (some ⟨b6, 0, none⟩) (bs.length + k) (bs.length + (ngr u) + s.size) (bv (bs ++ digs u (ngr u) k)) ∧ (k ≤ ngr u)) (ngr u - 0) ⟨0, rfl, rfl, rfl, rfl, rfl, rfl, (by first | rfl | (show Value.int _ _ = Value.int _ _; congr 1; omega)), rfl, rfl, rfl, rfl, rfl, rfl, rfl, rfl, rfl, rfl, rfl, rfl, rfl, rfl, rfl, Fr.refl _ _, (by simpa [digs] using h16), (by omega)⟩ ?_
  rintro m_f27 e25 w26 ⟨k, hm_f27, s28, s29, s30, s31, s32, s33, s34, s35, s36, s37, s38, s39, s40, s41, s42, s43, s44, s45, s46, s47, s48, f27, h49, p50⟩
  have z51 := f27.size
  have t52 := t24.step f27 (one_new (by omega))
  have t_f27 : Fr [b6] w14 w26 := f27
  refine c_seq ?_
  refine c_region ?_
  refine l_v (v := (.bool (decide (((k : Nat) : Int) < ((ngr u : Nat) : Int))))) (r_lss s48 s47) ?_
  refine l_nil ?_
  refine (x_then ?_)
  refine c_seq ?_
  refine c_if (p := ((k : Nat) : Int) < ((ngr u : Nat) : Int)) rfl (fun c53 => ?_) (fun c53 => ?_)
  ·
    refine c_skip ?_
    refine (x_then ?_)
    refine c_seq ?_
    refine c_block ?_
    refine c_seq ?_
    refine c_region ?_
    refine l_v (v := (.int .i64 ((k : Nat) : Int))) (r_move s48) ?_
    refine l_v (v := (.int .i64 ((k : Nat) : Int))) (r_assign rfl) ?_
    refine l_nil ?_
    refine (x_then ?_)
    refine c_seq ?_
    refine c_region ?_
    refine l_v (v := (.int .u64 ((u : Nat) : Int))) (r_move s29) ?_
    refine l_v (v := (.int .i64 ((k : Nat) : Int))) (r_move rfl) ?_
    refine l_v (v := (.int .i64 ((7 * k : Nat) : Int))) (r_mul rfl rfl (w64 (by omega) (by omega) (by omega))) ?_
    refine l_v (v := (.int .u64 ((u / 128 ^ k : Nat) : Int))) (r_shr rfl rfl (by omega) (by simp [IntKind.bits]; omega) (shr_grp u k)) ?_
    refine l_v (v := (.int .u8 ((u / 128 ^ k % 256 : Nat) : Int))) (r_convI F.und189 Proofs.Try.underlying5 rfl (wrap8_mod _)) ?_
    refine l_v (v := (.int .u8 ((128 + u / 128 ^ k % 128 : Nat) : Int))) (r_or rfl rfl (or128 _)) ?_
    refine l_v (v := (.int .u8 ((128 + u / 128 ^ k % 128 : Nat) : Int))) (r_assign rfl) ?_
    refine l_nil ?_
    refine (x_then ?_)
    refine c_seq ?_
    refine c_seq ?_
    refine c_region ?_
    refine l_v (v := (.int .i64 ((k : Nat) : Int))) (r_move rfl) ?_
    refine l_v (v := (.int .i64 ((ngr u : Nat) : Int))) (r_move s32) ?_
    refine l_v (v := (.int .i64 ((ngr u - 1 : Nat) : Int))) (r_sub rfl rfl (w64 (by omega) (by omega) (by omega))) ?_
    refine l_v (v := (.bool (decide (((k : Nat) : Int) = ((ngr u - 1 : Nat) : Int))))) (r_eql rfl rfl) ?_
    refine l_nil ?_
    refine (x_then ?_)
    refine c_if (p := ((k : Nat) : Int) = ((ngr u - 1 : Nat) : Int)) rfl (fun c54 => ?_) (fun c54 => ?_)
    ·
      refine c_region ?_
      refine l_v (v := (.int .u8 ((128 + u / 128 ^ k % 128 : Nat) : Int))) (r_move rfl) ?_
      refine l_v (v := (.int .u8 ((u / 128 ^ k % 128 : Nat) : Int))) (r_andNot rfl rfl (not128 _)) ?_
      refine l_v (v := (.int .u8 ((u / 128 ^ k % 128 : Nat) : Int))) (r_assign rfl) ?_
      refine l_nil ?_
      refine (x_then ?_)
      refine c_region ?_
      refine l_v (v := (.slice (some ⟨b6, 0, none⟩) (bs.length + k) (bs.length + (ngr u) + s.size))) (r_move s33) ?_
      refine l_v (v := (.int .u8 ((u / 128 ^ k % 128 : Nat) : Int))) (r_move rfl) ?_
      refine l_do rfl ?_
      refine d_lit (el := 5) (k' := 1) (ps := [(0, (.int .u8 ((u / 128 ^ k % 128 : Nat) : Int)))]) (cells := #[(.int .u8 ((u / 128 ^ k % 128 : Nat) : Int))]) (pc rfl pn) (by kernel_rfl) rfl (Nat.le_of_ble_eq_true rfl) ?_
      intro w55 b56 f57 a58 h59
      have z60 := f57.size
      have t61 := t52.trans0 f57
      have t62 := t_f27.trans0 f57
      have g63 := ob_one_ge (o := 0) (s := none) a58
      have l64 := h59.lt
      have := ob_one_lt l64
      refine l_do rfl ?_
      have k72 := h49.keep0 f57
      have s73 := h59.sl
      refine d_appendFitN (news := [(.int .u8 ((u / 128 ^ k % 128 : Nat) : Int))]) (nn := bs.length + (k + 1)) (cs' := bv (bs ++ digs u (ngr u) (k + 1))) Proofs.Try.underlying22 F.inf5 (Nat.le_of_ble_eq_true rfl) rfl k72 rfl s73 (by first | rfl | simp | omega) (by simp [Value.oneCell']) (by omega) (by omega) (by first | exact lay_last (by omega) | exact lay_more (by omega)) ?_
      intro w65 f66 h67
      have z74 := f66.size
      have t75 := t61.step f66 (one_new (by omega))
      have t76 := t62.step f66 (one_in (by simp))
      refine l_v (v := (.slice (some ⟨b6, 0, none⟩) (bs.length + (k + 1)) (bs.length + (ngr u) + s.size))) (r_assign rfl) ?_
      refine l_nil ?_
      refine (x_blk (x_then ?_))
      refine c_region ?_
      refine l_v (v := (.int .i64 ((k + 1 : Nat) : Int))) (r_add s48 rfl (w64 (by omega) (by omega) (by omega))) ?_
      refine l_v (v := (.int .i64 ((k + 1 : Nat) : Int))) (r_move rfl) ?_
      refine l_nil ?_
      refine (x_then ?_)
      exact ⟨_, _, (by omega), rfl, k + 1, rfl, s28, s29, s30, s31, s32, rfl, s34, s35, s36, s37, s38, s39, s40, s41, s42, s43, s44, s45, s46, s47, rfl, t76, h67, (by omega)⟩
    ·
      refine c_skip ?_
      refine (x_then ?_)
      refine c_region ?_
      refine l_v (v := (.slice (some ⟨b6, 0, none⟩) (bs.length + k) (bs.length + (ngr u) + s.size))) (r_move s33) ?_
      refine l_v (v := (.int .u8 ((128 + u / 128 ^ k % 128 : Nat) : Int))) (r_move rfl) ?_
      refine l_do rfl ?_
      refine d_lit (el := 5) (k' := 1) (ps := [(0, (.int .u8 ((128 + u / 128 ^ k % 128 : Nat) : Int)))]) (cells := #[(.int .u8 ((128 + u / 128 ^ k % 128 : Nat) : Int))]) (pc rfl pn) (by kernel_rfl) rfl (Nat.le_of_ble_eq_true rfl) ?_
      intro w77 b78 f79 a80 h81
      have z82 := f79.size
      have t83 := t52.trans0 f79
      have t84 := t_f27.trans0 f79
      have g85 := ob_one_ge (o := 0) (s := none) a80
      have l86 := h81.lt
      have := ob_one_lt l86
      refine l_do rfl ?_
      have k94 := h49.keep0 f79
      have s95 := h81.sl
      refine d_appendFitN (news := [(.int .u8 ((128 + u / 128 ^ k % 128 : Nat) : Int))]) (nn := bs.length + (k + 1)) (cs' := bv (bs ++ digs u (ngr u) (k + 1))) Proofs.Try.underlying22 F.inf5 (Nat.le_of_ble_eq_true rfl) rfl k94 rfl s95 (by first | rfl | simp | omega) (by simp [Value.oneCell']) (by omega) (by omega) (by first | exact lay_last (by omega) | exact lay_more (by omega)) ?_
      intro w87 f88 h89
      have z96 := f88.size
      have t97 := t83.step f88 (one_new (by omega))
      have t98 := t84.step f88 (one_in (by simp))
      refine l_v (v := (.slice (some ⟨b6, 0, none⟩) (bs.length + (k + 1)) (bs.length + (ngr u) + s.size))) (r_assign rfl) ?_
      refine l_nil ?_
      refine (x_blk (x_then ?_))
      refine c_region ?_
      refine l_v (v := (.int .i64 ((k + 1 : Nat) : Int))) (r_add s48 rfl (w64 (by omega) (by omega) (by omega))) ?_
      refine l_v (v := (.int .i64 ((k + 1 : Nat) : Int))) (r_move rfl) ?_
      refine l_nil ?_
      refine (x_then ?_)
      exact ⟨_, _, (by omega), rfl, k + 1, rfl, s28, s29, s30, s31, s32, rfl, s34, s35, s36, s37, s38, s39, s40, s41, s42, s43, s44, s45, s46, s47, rfl, t98, h89, (by omega)⟩
  ·
    refine c_exit ?_
    refine (x_then_x (x_then_x (x_blk_hit (x_then ?_))))
    refine c_seq ?_
    refine c_region ?_
    refine l_v (v := (.slice (some ⟨b6, 0, none⟩) (bs.length + k) (bs.length + (ngr u) + s.size))) (r_move s33) ?_
    refine l_v (v := (.string s)) (r_move s30) ?_
    refine l_do rfl ?_
    refine d_appendSFitN (nn := l.length) (cs' := bv l) Proofs.Try.underlying22 Proofs.Try.underlying9 F.inf5 rfl h49 rfl (by omega) (by subst hl; rw [lay_len]; omega) (by obtain rfl : k = ngr u := (by omega); subst hl; rw [digs_all, bv_str, ← bv_app]) ?_
    intro w99 f100 h101
    have z106 := f100.size
    have t107 := t52.step f100 (one_new (by omega))
    have t108 := t_f27.step f100 (one_in (by simp))
    refine l_v (v := (.slice (some ⟨b6, 0, none⟩) l.length (bs.length + (ngr u) + s.size))) (r_assign rfl) ?_
    refine l_nil ?_
    refine (x_then ?_)
    refine c_ret ?_
    refine p_ret (v := (.slice (some ⟨b6, 0, none⟩) l.length (bs.length + (ngr u) + s.size))) (res1 rfl rfl) ?_
    exact ⟨(some ⟨b6, 0, none⟩), bs.length + (ngr u) + s.size, rfl, t107, h101, (ob_ge g12 (by omega))⟩

set_option maxHeartbeats 400000 in
set_option maxRecDepth 100000 in
theorem count_c {w : World} {a : Option Addr} {c : Nat} {n : Int} {bs l : List UInt8} (h1 : Sl w a (bv bs)) (h2 : bs.length ≤ 1000000000) (hl : l = cntL bs n) :
    Calls Proofs.Try.prog 78 #[(.slice a bs.length c), (.int .i64 n)] w (Ret fun v w' => ∃ a' : Option Addr, ∃ c' : Nat, v = (.slice a' l.length c') ∧ Fr [] w w' ∧ Own w' 5 1 a' l.length c' (bv l) ∧ (∀ x ∈ ob a', w.heap.size ≤ x)) := by
  have t0 : Fr [] w w := Fr.refl _ _
  refine enter Proofs.Try.func78 rfl Proofs.Try.ntmps78 (Nat.le_of_ble_eq_true rfl) ?_
  refine c_seq ?_
  refine c_region ?_
  refine l_v (v := (.slice none 0 0)) (r_assign rfl) ?_
  refine l_nil ?_
  refine (x_then ?_)
  refine c_seq ?_
  refine c_seq ?_
  refine c_region ?_
  refine l_v (v := (.int .i64 n)) (r_move rfl) ?_
  refine l_v (v := (.bool (decide (n < 0)))) (r_lss rfl rfl) ?_
  refine l_v (v := (.bool (decide (n < 0)))) (r_move rfl) ?_
  refine l_em (p := n < 0) ?_ ?_
  · intro c1
    refine l_skip (wanted_not rfl rfl (bd rfl c1) (by decide)) ?_
    refine l_skip (wanted_not rfl rfl (bd rfl c1) (by decide)) ?_
    refine l_v (v := (.bool true)) (r_pick_t (bd rfl c1) rfl) ?_
    refine l_nil ?_
    refine (x_then ?_)
    refine c_true rfl ?_
    refine c_seq ?_
    refine c_region ?_
    refine l_v (v := (.slice a bs.length c)) (r_move rfl) ?_
    refine l_do rfl ?_
    refine d_call (fl := []) (cl := []) (A := [(.slice a bs.length c)]) (B := [(.slice a bs.length c)]) F.ok146 rfl (ac rfl an) rfl (none_c (a := a) (c := c) h1 (by omega)) ?_
    rintro _ w2 ⟨a_4, c_5, rfl, f3, h6, p7⟩
    have z8 := f3.size
    have t9 := t0.trans0 f3
    have l11 := h6.lt
    refine l_v (v := (.slice a_4 bs.length c_5)) (r_assign rfl) ?_
    refine l_nil ?_
    refine (x_then ?_)
    refine c_ret ?_
    refine (x_then_r ?_)
    refine p_ret (v := (.slice a_4 bs.length c_5)) (res1 rfl rfl) ?_
    obtain rfl : l = bs := by subst hl; unfold cntL; rw [if_pos (by omega)]
    exact ⟨a_4, c_5, rfl, t9, h6, (ob_ge p7 (by omega))⟩
  · intro c1
    refine l_gv (v := (.int .i64 n)) (wanted_run rfl rfl (bn rfl c1)) (r_move rfl) ?_
    refine l_gv (v := (.bool (decide (2147483647 < n)))) (wanted_run rfl rfl (bn rfl c1)) (r_gtr rfl rfl) ?_
    refine l_v (v := (.bool (decide (2147483647 < n)))) (r_pick_f (bn rfl c1) rfl) ?_
    refine l_nil ?_
    refine (x_then ?_)
    refine c_if (p := 2147483647 < n) rfl (fun c12 => ?_) (fun c12 => ?_)
    ·
      refine c_seq ?_
      refine c_region ?_
      refine l_v (v := (.slice a bs.length c)) (r_move rfl) ?_
      refine l_do rfl ?_
      refine d_call (fl := []) (cl := []) (A := [(.slice a bs.length c)]) (B := [(.slice a bs.length c)]) F.ok146 rfl (ac rfl an) rfl (none_c (a := a) (c := c) h1 (by omega)) ?_
      rintro _ w13 ⟨a_15, c_16, rfl, f14, h17, p18⟩
      have z19 := f14.size
      have t20 := t0.trans0 f14
      have l22 := h17.lt
      refine l_v (v := (.slice a_15 bs.length c_16)) (r_assign rfl) ?_
      refine l_nil ?_
      refine (x_then ?_)
      refine c_ret ?_
      refine (x_then_r ?_)
      refine p_ret (v := (.slice a_15 bs.length c_16)) (res1 rfl rfl) ?_
      obtain rfl : l = bs := by subst hl; unfold cntL; rw [if_pos (by omega)]
      exact ⟨a_15, c_16, rfl, t20, h17, (ob_ge p18 (by omega))⟩
    ·
      refine c_skip ?_
      refine (x_then ?_)
      refine c_seq ?_
      refine c_region ?_
      refine l_v (v := (.slice a bs.length c)) (r_move rfl) ?_
      refine l_v (v := (.int .i64 n)) (r_move rfl) ?_
      refine l_v (v := (.int .u64 ((n.toNat : Nat) : Int))) (r_convI F.und3 Proofs.Try.underlying189 rfl (by rw [wu64 (by omega) (by omega) rfl]; omega)) ?_
      refine l_do rfl ?_
      refine d_call (fl := []) (cl := []) (A := [(.slice a bs.length c), (.int .u64 ((n.toNat : Nat) : Int)), (.string ⟨#[]⟩)]) (B := [(.slice a bs.length c), (.int .u64 ((n.toNat : Nat) : Int)), (.string ⟨#[]⟩)]) F.ok147 rfl (ac rfl (ac rfl (ac rfl an))) rfl (lay_c (a := a) (c := c) (u := n.toNat) (s := ⟨#[]⟩) (l := l) h1 (by omega) (by omega) (by decide) (by subst hl; unfold cntL; rw [if_neg (by omega)]; simp)) ?_
      rintro _ w23 ⟨a_25, c_26, rfl, f24, h27, p28⟩
      have z29 := f24.size
      have t30 := t0.trans0 f24
      have l32 := h27.lt
      refine l_v (v := (.slice a_25 l.length c_26)) (r_assign rfl) ?_
      refine l_nil ?_
      refine (x_then ?_)
      refine c_ret ?_
      refine p_ret (v := (.slice a_25 l.length c_26)) (res1 rfl rfl) ?_
      exact ⟨a_25, c_26, rfl, t30, h27, (ob_ge p28 (by omega))⟩

set_option maxHeartbeats 400000 in
set_option maxRecDepth 100000 in
theorem str_c {w : World} {a : Option Addr} {c : Nat} {s : ByteArray} {bs l : List UInt8} (h1 : Sl w a (bv bs)) (h2 : bs.length ≤ 1000000000) (h3 : s.size ≤ 3000000000) (hl : l = strL bs s.data.toList) :
    Calls Proofs.Try.prog 79 #[(.slice a bs.length c), (.string s)] w (Ret fun v w' => ∃ a' : Option Addr, ∃ c' : Nat, v = (.slice a' l.length c') ∧ Fr [] w w' ∧ Own w' 5 1 a' l.length c' (bv l) ∧ (∀ x ∈ ob a', w.heap.size ≤ x)) := by
  have t0 : Fr [] w w := Fr.refl _ _
  refine enter Proofs.Try.func79 rfl Proofs.Try.ntmps79 (Nat.le_of_ble_eq_true rfl) ?_
  refine c_seq ?_
  refine c_region ?_
  refine l_v (v := (.slice none 0 0)) (r_assign rfl) ?_
  refine l_nil ?_
  refine (x_then ?_)
  refine c_seq ?_
  refine c_seq ?_
  refine c_region ?_
  refine l_v (v := (.string s)) (r_move rfl) ?_
  refine l_v (v := (.int .i64 ((s.size : Nat) : Int))) (r_lenSn Proofs.Try.underlying9 rfl rfl) ?_
  refine l_v (v := (.bool (decide (2147483647 < ((s.size : Nat) : Int))))) (r_gtr rfl rfl) ?_
  refine l_nil ?_
  refine (x_then ?_)
  refine c_if (p := 2147483647 < ((s.size : Nat) : Int)) rfl (fun c1 => ?_) (fun c1 => ?_)
  ·
    refine c_seq ?_
    refine c_region ?_
    refine l_v (v := (.slice a bs.length c)) (r_move rfl) ?_
    refine l_do rfl ?_
    refine d_call (fl := []) (cl := []) (A := [(.slice a bs.length c)]) (B := [(.slice a bs.length c)]) F.ok146 rfl (ac rfl an) rfl (none_c (a := a) (c := c) h1 (by omega)) ?_
    rintro _ w2 ⟨a_4, c_5, rfl, f3, h6, p7⟩
    have z8 := f3.size
    have t9 := t0.trans0 f3
    have l11 := h6.lt
    refine l_v (v := (.slice a_4 bs.length c_5)) (r_assign rfl) ?_
    refine l_nil ?_
    refine (x_then ?_)
    refine c_ret ?_
    refine (x_then_r ?_)
    refine p_ret (v := (.slice a_4 bs.length c_5)) (res1 rfl rfl) ?_
    obtain rfl : l = bs := by subst hl; unfold strL; rw [if_pos (by rw [← size_eq]; omega)]
    exact ⟨a_4, c_5, rfl, t9, h6, (ob_ge p7 (by omega))⟩
  ·
    refine c_skip ?_
    refine (x_then ?_)
    refine c_seq ?_
    refine c_region ?_
    refine l_v (v := (.slice a bs.length c)) (r_move rfl) ?_
    refine l_v (v := (.string s)) (r_move rfl) ?_
    refine l_v (v := (.int .i64 ((s.size : Nat) : Int))) (r_lenSn Proofs.Try.underlying9 rfl rfl) ?_
    refine l_v (v := (.int .u64 ((s.size : Nat) : Int))) (r_convI F.und3 Proofs.Try.underlying189 rfl (wu64 (by omega) (by omega) rfl)) ?_
    refine l_v (v := (.string s)) (r_move rfl) ?_
    refine l_do rfl ?_
    refine d_call (fl := []) (cl := []) (A := [(.slice a bs.length c), (.int .u64 ((s.size : Nat) : Int)), (.string s)]) (B := [(.slice a bs.length c), (.int .u64 ((s.size : Nat) : Int)), (.string s)]) F.ok147 rfl (ac rfl (ac rfl (ac rfl an))) rfl (lay_c (a := a) (c := c) (u := s.size) (s := s) (l := l) h1 (by omega) (by omega) (by omega) (by subst hl; unfold strL; rw [if_neg (by rw [← size_eq]; omega), size_eq])) ?_
    rintro _ w12 ⟨a_14, c_15, rfl, f13, h16, p17⟩
    have z18 := f13.size
    have t19 := t0.trans0 f13
    have l21 := h16.lt
    refine l_v (v := (.slice a_14 l.length c_15)) (r_assign rfl) ?_
    refine l_nil ?_
    refine (x_then ?_)
    refine c_ret ?_
    refine p_ret (v := (.slice a_14 l.length c_15)) (res1 rfl rfl) ?_
    exact ⟨a_14, c_15, rfl, t19, h16, (ob_ge p17 (by omega))⟩

set_option maxHeartbeats 400000 in
set_option maxRecDepth 100000 in
theorem flag_c {w : World} {a : Option Addr} {c : Nat} {v : Bool} {bs l : List UInt8} (h1 : Sl w a (bv bs)) (h2 : bs.length ≤ 1000000000) (hl : l = cntL bs (if v then 1 else 0)) :
    Calls Proofs.Try.prog 122 #[(.slice a bs.length c), (.bool v)] w (Ret fun v w' => ∃ a' : Option Addr, ∃ c' : Nat, v = (.slice a' l.length c') ∧ Fr [] w w' ∧ Own w' 5 1 a' l.length c' (bv l) ∧ (∀ x ∈ ob a', w.heap.size ≤ x)) := by
  have t0 : Fr [] w w := Fr.refl _ _
  refine enter Proofs.Try.func122 rfl Proofs.Try.ntmps122 (Nat.le_of_ble_eq_true rfl) ?_
  refine c_seq ?_
  refine c_region ?_
  refine l_v (v := (.slice none 0 0)) (r_assign rfl) ?_
  refine l_nil ?_
  refine (x_then ?_)
  refine c_seq ?_
  refine c_seq ?_
  refine c_region ?_
  refine l_v (v := (.bool v)) (r_move rfl) ?_
  refine l_nil ?_
  refine (x_then ?_)
  refine c_split (t := v) rfl (fun c1 => ?_) (fun c1 => ?_)
  ·
    refine c_seq ?_
    refine c_region ?_
    refine l_v (v := (.slice a bs.length c)) (r_move rfl) ?_
    refine l_do rfl ?_
    refine d_call (fl := []) (cl := []) (A := [(.slice a bs.length c), (.int .u64 1), (.string ⟨#[]⟩)]) (B := [(.slice a bs.length c), (.int .u64 1), (.string ⟨#[]⟩)]) F.ok147 rfl (ac rfl (ac rfl (ac rfl an))) rfl (lay_c (a := a) (c := c) (u := 1) (s := ⟨#[]⟩) (l := l) h1 (by omega) (by omega) (by decide) (by subst hl; simp [cntL, *])) ?_
    rintro _ w2 ⟨a_4, c_5, rfl, f3, h6, p7⟩
    have z8 := f3.size
    have t9 := t0.trans0 f3
    have l11 := h6.lt
    refine l_v (v := (.slice a_4 l.length c_5)) (r_assign rfl) ?_
    refine l_nil ?_
    refine (x_then ?_)
    refine c_ret ?_
    refine (x_then_r ?_)
    refine p_ret (v := (.slice a_4 l.length c_5)) (res1 rfl rfl) ?_
    exact ⟨a_4, c_5, rfl, t9, h6, (ob_ge p7 (by omega))⟩
  ·
    refine c_skip ?_
    refine (x_then ?_)
    refine c_seq ?_
    refine c_region ?_
    refine l_v (v := (.slice a bs.length c)) (r_move rfl) ?_
    refine l_do rfl ?_
    refine d_call (fl := []) (cl := []) (A := [(.slice a bs.length c), (.int .u64 0), (.string ⟨#[]⟩)]) (B := [(.slice a bs.length c), (.int .u64 0), (.string ⟨#[]⟩)]) F.ok147 rfl (ac rfl (ac rfl (ac rfl an))) rfl (lay_c (a := a) (c := c) (u := 0) (s := ⟨#[]⟩) (l := l) h1 (by omega) (by omega) (by decide) (by subst hl; simp [cntL, *])) ?_
    rintro _ w12 ⟨a_14, c_15, rfl, f13, h16, p17⟩
    have z18 := f13.size
    have t19 := t0.trans0 f13
    have l21 := h16.lt
    refine l_v (v := (.slice a_14 l.length c_15)) (r_assign rfl) ?_
    refine l_nil ?_
    refine (x_then ?_)
    refine c_ret ?_
    refine p_ret (v := (.slice a_14 l.length c_15)) (res1 rfl rfl) ?_
    exact ⟨a_14, c_15, rfl, t19, h16, (ob_ge p17 (by omega))⟩

end Go.Sy
