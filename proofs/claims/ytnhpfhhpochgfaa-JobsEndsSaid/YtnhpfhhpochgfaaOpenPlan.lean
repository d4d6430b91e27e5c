/- A plan that came in, opened: its jobs, and where what they need lies. No condition. -/
import Derived.Test.YtnhpfhhpochgfaaOpen
import Derived.Test.YtnhpfhhpochgfaaPJobs
namespace Go.Sy
open Go.ChangeShapes Go.WideShapes Go.ChangeAt Go.RowKit
set_option linter.unusedVariables false
set_option linter.unusedSectionVars false

section
variable {H : Type} {enc : TypeId × Value → H} {P : Program} {w : World} {base b0 : Nat} {spare : Nat → Bool} {held : Bool} {r : Reach}
/-- the elements of a slice of structs: cells, and what reads them -/
theorem fields_of {t e : TypeId} {fs : Array Field} {x : Addr} {n c fuel : Nat} {d : DataW H} {p : List MemPlace} (ht : P.underlying t = some (.slice e)) (he : P.underlying e = some (.struct fs)) (hone : Deep.oneCellFields P fs = true) (hC : P.cellsOf e = fs.size)
    (hW : ∀ q ∈ d.weights P t, q ≤ reachBytes) (hf : DataW.trod enc P w base spare held fuel t [.slice (some x) n c] = some (d, p)) :
    ∀ i, i < n → ∃ (cs' : List Value) (n' : Nat), cs'.length = fs.size ∧ (∀ j u, cs'[j]? = some u → w.cell? (x.add (i * fs.size + j)) = some u) ∧
      ∀ (j : Nat) f, fs[j]? = some f → ∃ u y, cs'[j]? = some u ∧ DataW.trod enc P w base spare held n' f.type [u] = some y ∧ ∀ q ∈ y.1.weights P f.type, q ≤ reachBytes := by
  rcases Deep.open_slice ht hf with ⟨hcs, hd⟩ | ⟨x', len, cap, m, nn, D, Pl, hcs, _, hl, hm, hmm, hx, hi⟩
  · simp at hcs
  · simp at hcs
    obtain ⟨rfl, rfl, rfl⟩ := hcs
    have hnm : n ≤ m := by rw [hmm]; split <;> omega
    have hdx : d = .slice ((List.range n).map D) ((List.range (m - n)).map fun j => D (n + j)) := (Prod.mk.inj hx).1
    intro i hin
    have hD : ∀ q ∈ (D i).weights P e, q ≤ reachBytes := by
      intro q hq
      refine hW q ?_
      rw [hdx]
      simp only [DataW.weights, ht, List.mem_cons, List.mem_append]
      exact .inr (.inl (weights_mem_all (List.mem_map.2 ⟨i, List.mem_range.2 hin, rfl⟩) q hq))
    obtain ⟨cs', hc, ht'⟩ := hi i (by omega)
    rw [hC] at hc
    obtain ⟨ys, n', hn', hy, hlen, hyl, hfd⟩ := DataW.trod_struct he ht'
    obtain ⟨_, hcl, hat⟩ := World.cells?_some hc
    refine ⟨cs', n', hcl, fun j u hu => ?_, fun j f hfj => ?_⟩
    · have hj : j < fs.size := by have := get_lt hu; omega
      have h5 := hat j hj
      rw [← Deep.add_add, h5, hu]
    · have hj : j < fs.size := (Array.getElem?_eq_some_iff.1 hfj).1
      obtain ⟨ho, hk1⟩ := Deep.hone_of hone j _ hfj
      have h4 := hfd j _ hfj
      rw [ho, hk1] at h4
      have hjl : j < cs'.length := by omega
      have e1 : (cs'.drop j).take 1 = [cs'[j]] := by rw [List.drop_eq_getElem_cons hjl]; rfl
      rw [e1] at h4
      have hys : ys[j]? = some (ys[j]'(by omega)) := List.getElem?_eq_getElem (by omega)
      refine ⟨cs'[j], ys[j]'(by omega), List.getElem?_eq_getElem hjl, h4.trans hys, fun q hq => hD q ?_⟩
      have e2 : D i = .agg (ys.map (·.1)) := (Prod.mk.inj hy).1
      rw [e2]
      simp only [DataW.weights, he]
      refine DataW.weights_mem_each (j := j) (t := f.type) (d := (ys[j]'(by omega)).1) ?_ ?_ q hq
      · simp [hfj]
      · simp [hys]
theorem trod_slice_shape {t e : TypeId} {fuel : Nat} {u : Value} {y : DataW H × List MemPlace} (ht : P.underlying t = some (.slice e)) (h : DataW.trod enc P w base spare held fuel t [u] = some y) : ∃ a n c, u = .slice a n c := by
  rcases DataW.trod_slice ht h with ⟨hc, _⟩ | ⟨a, len, cap, _, _, _, _, hc, _⟩
  · exact ⟨none, 0, 0, by simpa using hc⟩
  · exact ⟨some a, len, cap, by simpa using hc⟩
/-- whole numbers behind a slice's cell -/
theorem trod_ints {t e : TypeId} {fuel : Nat} {u : Value} {y : DataW H × List MemPlace} (ht : P.underlying t = some (.slice e)) (he : P.underlying e = some (.int .i64)) (hc : P.cellsOf e = 1) (hb : P.bytesOf e = 8)
    (h : DataW.trod enc P w base spare held fuel t [u] = some y) (hW : ∀ q ∈ y.1.weights P t, q ≤ reachBytes) :
    ∃ (a : Option Addr) (ns : List Int) (c : Nat), u = .slice a ns.length c ∧ Sl w a (iv ns) ∧ (ns ≠ [] → ∀ b ∈ ob a, b < w.heap.size) ∧ ns.length ≤ 17592186044416 := by
  rcases open_ints ht he hc h with ⟨hcs, _⟩ | ⟨x, l, k, zs, hcs, _, hl, hm, hz, hx, hcell, hwz⟩
  · simp at hcs
    exact ⟨none, [], 0, by simpa using hcs, Sl.nil _ _, fun h => absurd rfl h, by decide⟩
  · simp at hcs
    have hzn : l ≤ zs.length := by rw [hz]; split <;> omega
    have hlen : (zs.take l).length = l := by rw [List.length_take]; omega
    have hsl : Sl w (some x) (iv (zs.take l)) := by
      intro j v hv
      refine ⟨x, rfl, ?_⟩
      have hj : j < l := by have := get_lt hv; rw [iv_len, hlen] at this; exact this
      rw [hcell j (by omega)]
      have hzj : zs[j]? = some (zs[j]'(by omega)) := List.getElem?_eq_getElem (by omega)
      have e1 : (iv (zs.take l))[j]? = some (Value.int .i64 (zs[j]'(by omega))) := by simp [iv, hj, hzj]
      rw [e1] at hv
      rw [← Option.some.inj hv, List.getD_eq_getElem?_getD, hzj]
      rfl
    refine ⟨some x, zs.take l, k, by rw [hlen]; exact hcs, hsl, fun hne b hb => ?_, ?_⟩
    · simp [ob] at hb
      subst hb
      have h0 : (iv (zs.take l))[0]? = some (Value.int .i64 ((zs.take l)[0]'(List.length_pos_iff.2 hne))) := by
        rw [iv, List.getElem?_map, List.getElem?_eq_getElem (List.length_pos_iff.2 hne)]; rfl
      have := hsl.get h0
      simp only [adr, Option.getD_some] at this
      have hlt := World.block_lt_of_cell? w _ this
      rwa [add_block] at hlt
    · rw [hlen]
      have hq := hW (((ChangeShapes.lits (H := H) .i64 (zs.take l)).length + (ChangeShapes.lits (H := H) .i64 (zs.drop l)).length) * P.bytesOf e) (by rw [hx]; simp only [DataW.weights, ht]; exact List.mem_cons_self)
      rw [hb] at hq
      have e3 : (ChangeShapes.lits (H := H) .i64 (zs.take l)).length = l := by unfold ChangeShapes.lits; rw [List.length_map, hlen]
      have : reachBytes < 2 ^ 47 := reachBytes_lt
      rw [e3] at hq
      omega
/-- a plan -/
theorem open_plan {tp e ei s2 s3 s4 s5 : TypeId} {fp f0 f1 f2 f3 f4 f5 f6 f7 f8 : Field} {v : Value} {d : DataW H} {p : List MemPlace} {ts : List TypeId} {dd : List (DataW H)} {i0 : Nat}
    (hp : P.underlying tp = some (.struct #[fp])) (hfo : fp.offset = 0) (hfc : P.cellsOf fp.type = 1) (hct : P.cellTypes P.depth tp = some [fp.type]) (hcp : P.cellsOf tp = 1)
    (hs : P.underlying fp.type = some (.slice e)) (he : P.underlying e = some (.struct #[f0, f1, f2, f3, f4, f5, f6, f7, f8])) (hone : Deep.oneCellFields P #[f0, f1, f2, f3, f4, f5, f6, f7, f8] = true) (hC : P.cellsOf e = 9)
    (t0 : P.underlying f0.type = some .string) (t1 : P.underlying f1.type = some (.slice ei)) (ti : P.underlying ei = some (.int .i64)) (ci : P.cellsOf ei = 1) (bi : P.bytesOf ei = 8)
    (t2 : P.underlying f2.type = some (.slice s2)) (t3 : P.underlying f3.type = some (.slice s3)) (t4 : P.underlying f4.type = some (.slice s4)) (t5 : P.underlying f5.type = some (.slice s5))
    (t6 : P.underlying f6.type = some (.int .i64)) (t7 : P.underlying f7.type = some (.int .i64)) (t8 : P.underlying f8.type = some .bool)
    (hsz : (DataW.weightsEach P ts dd).all (· ≤ reachBytes) = true) (hts : ts[i0]? = some tp) (hdd : dd[i0]? = some d)
    (hv : Value.okWide P w r b0 tp v) (h : DataW.Trod enc P w base spare held tp v d p) :
    ∃ (ap : Option Addr) (ps : List PJob) (cp : Nat) (LP : List Nat), v = .agg #[.slice ap ps.length cp] ∧ Ro w ap ps.length cp (pjs ps) ∧ PNds w LP ps ∧ ∀ x ∈ ps, x.m.needs.length ≤ 1000000000000000000 := by
  simp only [Value.okWide, hp] at hv
  obtain ⟨cs, rfl, hcs, ts', hct', _, hrow⟩ := hv
  rw [hct] at hct'
  obtain rfl := Option.some.inj hct'
  rw [hcp] at hcs
  obtain ⟨u, rfl⟩ : ∃ u, cs = #[u] := ⟨cs[0], by apply Array.ext; simp [hcs]; intro i h1 h2; simp at h2; subst h2; simp⟩
  obtain ⟨t', ht', hok⟩ := hrow 0 u rfl
  simp at ht'
  subst ht'
  obtain ⟨fuel, hf⟩ := h
  obtain ⟨xs, n, _, hx, _, hxl, hg⟩ := DataW.trod_struct hp hf
  have h1 := hg 0 fp rfl
  rw [hfo, hfc] at h1
  obtain ⟨x0, hx0⟩ := get_some (l := xs) (k := 0) (by rw [hxl]; simp)
  have h2 : DataW.trod enc P w base spare held n fp.type [u] = some x0 := by rw [← hx0, ← h1]; rfl
  obtain ⟨a, m, c, rfl⟩ := trod_slice_shape hs h2
  have hd : d = .agg (xs.map (·.1)) := (Prod.mk.inj hx).1
  have hW : ∀ q ∈ x0.1.weights P fp.type, q ≤ reachBytes := by
    intro q hq
    have h3 : q ∈ d.weights P tp := by
      rw [hd]
      simp only [DataW.weights, hp]
      refine DataW.weights_mem_each (j := 0) (t := fp.type) (d := x0.1) (by simp) (by simp [hx0]) q hq
    have := List.all_eq_true.1 hsz _ (DataW.weights_mem_each hts hdd q h3)
    simpa using this
  cases a with
  | none =>
    rcases Deep.open_slice hs h2 with ⟨hcs', _⟩ | ⟨x', len, cap, _, _, _, _, hcs', _⟩
    · simp at hcs'
      obtain ⟨rfl, rfl⟩ := hcs'
      exact ⟨none, [], 0, [], rfl, Ro.nil w, PNds.nil w, by simp⟩
    · simp at hcs'
  | some x =>
    have hlt : x.block < w.heap.size ∧ m ≤ c := by
      simp only [Cell.okWide, hs, Cell.ok, World.has] at hok
      obtain ⟨q1, _, _, _, row, cells, q2, _⟩ := hok
      exact ⟨shape_lt q2, q1⟩
    have key : ∀ i, i < m → ∃ y : PJob, (∀ j u, (pjc y)[j]? = some u → w.cell? (x.add (i * 9 + j)) = some u) ∧ Sl w y.na (iv y.m.needs) ∧ (y.m.needs ≠ [] → ∀ b ∈ ob y.na, b < w.heap.size) ∧ y.m.needs.length ≤ 17592186044416 := by
      intro i hi
      obtain ⟨cs', n', hl', hcell, hfd⟩ := fields_of hs he hone hC hW h2 i hi
      obtain ⟨u0, y0, g0, k0, w0⟩ := hfd 0 f0 rfl
      obtain ⟨u1, y1, g1, k1, w1⟩ := hfd 1 f1 rfl
      obtain ⟨u2, y2, g2, k2, w2⟩ := hfd 2 f2 rfl
      obtain ⟨u3, y3, g3, k3, w3⟩ := hfd 3 f3 rfl
      obtain ⟨u4, y4, g4, k4, w4⟩ := hfd 4 f4 rfl
      obtain ⟨u5, y5, g5, k5, w5⟩ := hfd 5 f5 rfl
      obtain ⟨u6, y6, g6, k6, w6⟩ := hfd 6 f6 rfl
      obtain ⟨u7, y7, g7, k7, w7⟩ := hfd 7 f7 rfl
      obtain ⟨u8, y8, g8, k8, w8⟩ := hfd 8 f8 rfl
      obtain ⟨s, hs0, _⟩ := DataW.trod_string t0 k0
      obtain rfl : u0 = .string s := by simpa using hs0
      obtain ⟨na, ns, nc, rfl, hsl, hbl, hnl⟩ := trod_ints t1 ti ci bi k1 w1
      obtain ⟨a2, n2, c2, rfl⟩ := trod_slice_shape t2 k2
      obtain ⟨a3, n3, c3, rfl⟩ := trod_slice_shape t3 k3
      obtain ⟨a4, n4, c4, rfl⟩ := trod_slice_shape t4 k4
      obtain ⟨a5, n5, c5, rfl⟩ := trod_slice_shape t5 k5
      obtain ⟨z6, hs6, _⟩ := DataW.trod_int t6 k6
      obtain rfl : u6 = .int .i64 z6 := by simpa using hs6
      obtain ⟨z7, hs7, _⟩ := DataW.trod_int t7 k7
      obtain rfl : u7 = .int .i64 z7 := by simpa using hs7
      obtain ⟨z8, hs8, _⟩ := DataW.trod_bool t8 k8
      obtain rfl : u8 = .bool z8 := by simpa using hs8
      refine ⟨⟨s, na, nc, ⟨ns, z6, z7, z8⟩, a2, n2, c2, a3, n3, c3, a4, n4, c4, a5, n5, c5⟩, fun j u hu => hcell j u ?_, hsl, hbl, hnl⟩
      simp only [pjc] at hu
      match j, hu with
      | 0, hu => simp at hu; subst hu; exact g0
      | 1, hu => simp at hu; subst hu; exact g1
      | 2, hu => simp at hu; subst hu; exact g2
      | 3, hu => simp at hu; subst hu; exact g3
      | 4, hu => simp at hu; subst hu; exact g4
      | 5, hu => simp at hu; subst hu; exact g5
      | 6, hu => simp at hu; subst hu; exact g6
      | 7, hu => simp at hu; subst hu; exact g7
      | 8, hu => simp at hu; subst hu; exact g8
      | k + 9, hu => simp at hu
    obtain ⟨ps, hpl, hps⟩ := list_of m key
    refine ⟨some x, ps, c, ps.flatMap fun y => if y.m.needs = [] then [] else ob y.na, by rw [hpl], ?_, ⟨fun b hb => ?_, fun q hq => ?_⟩, fun y hy => ?_⟩
    · rw [hpl]
      refine ⟨?_, hlt.2, fun y hy => by simp [ob] at hy; subst hy; exact hlt.1⟩
      intro j u hu
      refine ⟨x, rfl, ?_⟩
      obtain ⟨y, hy, hyu⟩ := flat_some pjc_len (by decide) hu
      have := (hps _ y hy).1 _ u hyu
      rw [Nat.mul_comm, Nat.div_add_mod] at this
      exact this
    · obtain ⟨y, hy, hb⟩ := List.mem_flatMap.1 hb
      obtain ⟨i, hi⟩ := List.mem_iff_getElem?.1 hy
      split at hb
      · cases hb
      · rename_i hne; exact (hps i y hi).2.2.1 hne b hb
    · obtain ⟨y, hy, rfl⟩ := List.mem_map.1 hq
      obtain ⟨i, hi⟩ := List.mem_iff_getElem?.1 hy
      refine ⟨(hps i y hi).2.1, fun hne b hb => List.mem_flatMap.2 ⟨y, hy, ?_⟩⟩
      have hne' : y.m.needs ≠ [] := hne
      simpa [hne', ndP] using hb
    · obtain ⟨i, hi⟩ := List.mem_iff_getElem?.1 hy
      have := (hps i y hi).2.2.2
      omega
end
end Go.Sy
