/- The arguments of a law, opened: what a slice that came in shows. No condition. -/
import Derived.Test.YtnhpfhhpochgfaaPCode
import Derived.WalkKit
import Derived.ProofKit
import Derived.OpenShut
import Derived.ShutString
import Derived.ChangeOld
import Derived.SizedLaws
import Derived.Carry
import Derived.ChangeSlices
namespace Go.Sy
open Go.ChangeShapes Go.WideShapes Go.ChangeAt Go.RowKit
set_option linter.unusedVariables false
set_option linter.unusedSectionVars false

section
variable {H : Type} {enc : TypeId × Value → H} {P : Program} {w : World} {base b0 : Nat} {spare : Nat → Bool} {held : Bool} {r : Reach}
theorem shape_lt {b : Nat} {x : TypeId × Nat} (h : w.shape? b = some x) : b < w.heap.size := by
  unfold World.shape? at h
  rcases Nat.lt_or_ge b w.heap.size with h' | h'
  · exact h'
  · simp [Array.getElem?_eq_none h'] at h
theorem okWide_slice_lt {t e : TypeId} {a : Addr} {n c : Nat} (ht : P.underlying t = some (.slice e)) (h : Value.okWide P w r b0 t (.slice (some a) n c)) : a.block < w.heap.size ∧ n ≤ c := by
  simp only [Value.okWide, ht, Cell.okWide, Cell.ok, World.has] at h
  obtain ⟨h1, _, _, _, row, cells, h2, _⟩ := h
  exact ⟨shape_lt h2, h1⟩
/-- bytes -/
theorem open_bytes {t e : TypeId} {v : Value} {d : DataW H} {p : List MemPlace} (ht : P.underlying t = some (.slice e)) (he : P.underlying e = some (.int .u8)) (hc : P.cellsOf e = 1)
    (hv : Value.okWide P w r b0 t v) (h : DataW.Trod enc P w base spare held t v d p) :
    ∃ (a : Option Addr) (bs : List UInt8) (c : Nat), v = .slice a bs.length c ∧ Ro w a bs.length c (bv bs) := by
  obtain ⟨a, n, c, rfl⟩ := okWide_slice ht hv
  obtain ⟨fuel, hf⟩ := h
  rcases open_ints ht he hc hf with ⟨hcs, _⟩ | ⟨x, l, k, zs, hcs, _, hl, hm, hz, _, hcell, hwz⟩
  · simp [Value.cells] at hcs
    obtain ⟨rfl, rfl, rfl⟩ := hcs
    exact ⟨none, [], 0, rfl, Ro.nil w⟩
  · simp [Value.cells] at hcs
    obtain ⟨rfl, rfl, rfl⟩ := hcs
    have hzn : n ≤ zs.length := by rw [hz]; split <;> omega
    have hlen : ((zs.take n).map fun z => UInt8.ofNat z.toNat).length = n := by simp; omega
    refine ⟨some x, (zs.take n).map fun z => UInt8.ofNat z.toNat, c, by rw [hlen], ?_⟩
    rw [hlen]
    refine ⟨?_, hl, fun y hy => by simp [ob] at hy; subst hy; exact (okWide_slice_lt ht hv).1⟩
    intro j u hu
    refine ⟨x, rfl, ?_⟩
    have hj : j < n := by have := (List.getElem?_eq_some_iff.1 hu).1; rw [bv_len, hlen] at this; exact this
    rw [hcell j (by omega)]
    have hzj : zs[j]? = some (zs[j]'(by omega)) := List.getElem?_eq_getElem (by omega)
    have hw := hwz (zs[j]'(by omega)) (List.getElem_mem _)
    have h0 : 0 ≤ zs[j]'(by omega) ∧ zs[j]'(by omega) ≤ 255 := by
      simpa [Lit.wf, IntKind.min, IntKind.max, IntKind.bits, IntKind.signed] using hw
    have e1 : (bv ((zs.take n).map fun z => UInt8.ofNat z.toNat))[j]? = some (Value.int .u8 (((UInt8.ofNat (zs[j]'(by omega)).toNat).toNat : Nat) : Int)) := by
      simp [bv, List.getElem?_take, hj, hzj]
    rw [e1] at hu
    rw [← Option.some.inj hu]
    rw [List.getD_eq_getElem?_getD, hzj, UInt8.toNat_ofNat']
    simp only [Option.getD_some]
    congr 2
    omega
end
end Go.Sy
