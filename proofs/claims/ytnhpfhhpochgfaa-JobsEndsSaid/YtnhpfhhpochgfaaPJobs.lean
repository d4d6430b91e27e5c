/- Plain: plans, how their jobs stand, what is done to them. No program in sight; no condition. -/
import Derived.Test.YtnhpfhhpochgfaaPRead
namespace Go.Sy
set_option linter.unusedVariables false

/-- what a job asks for -/
structure JobM where
  needs : List Int
  tries : Int
  limit : Int
  manual : Bool
/-- a job of the program's own, and where what it needs lies -/
structure JobP where
  na : Option Addr
  nc : Nat
  m : JobM
/-- a job of a plan that came in -/
structure PJob where
  name : ByteArray
  na : Option Addr
  nc : Nat
  m : JobM
  a2 : Option Addr
  n2 : Nat
  c2 : Nat
  a3 : Option Addr
  n3 : Nat
  c3 : Nat
  a4 : Option Addr
  n4 : Nat
  c4 : Nat
  a5 : Option Addr
  n5 : Nat
  c5 : Nat
/-- how a job stands -/
structure St where
  state : Int
  tried : Int
  badge : Int
  since : Int
  code : Int
  played : Bool
deriving DecidableEq
def jobc (x : JobP) : List Value := [.slice x.na x.m.needs.length x.nc, .int .i64 x.m.tries, .int .i64 x.m.limit, .bool x.m.manual]
def jbs (l : List JobP) : List Value := l.flatMap jobc
theorem jobc_len (x : JobP) : (jobc x).length = 4 := rfl
theorem jbs_len (l : List JobP) : (jbs l).length = l.length * 4 := flat_len jobc jobc_len l
theorem jbs_vs {l : List JobP} {i : Nat} {x : JobP} (h : l[i]? = some x) : ∀ j v, [Value.slice x.na x.m.needs.length x.nc, Value.int .i64 x.m.tries, Value.int .i64 x.m.limit, Value.bool x.m.manual][j]? = some v → (jbs l)[i * 4 + j]? = some v := flat_vs (f := jobc) jobc_len h
theorem jbs_one (l : List JobP) : ∀ u ∈ jbs l, u.oneCell' = true := by
  intro u hu
  obtain ⟨e, _, he⟩ := List.mem_flatMap.1 hu
  simp only [jobc, List.mem_cons, List.not_mem_nil, or_false] at he
  rcases he with rfl | rfl | rfl | rfl <;> rfl
theorem jbs_app (l m : List JobP) : jbs (l ++ m) = jbs l ++ jbs m := List.flatMap_append
def pjc (x : PJob) : List Value := [.string x.name, .slice x.na x.m.needs.length x.nc, .slice x.a2 x.n2 x.c2, .slice x.a3 x.n3 x.c3, .slice x.a4 x.n4 x.c4, .slice x.a5 x.n5 x.c5, .int .i64 x.m.tries, .int .i64 x.m.limit, .bool x.m.manual]
def pjs (l : List PJob) : List Value := l.flatMap pjc
theorem pjc_len (x : PJob) : (pjc x).length = 9 := rfl
theorem pjs_len (l : List PJob) : (pjs l).length = l.length * 9 := flat_len pjc pjc_len l
theorem pjs_vs {l : List PJob} {i : Nat} {x : PJob} (h : l[i]? = some x) : ∀ j v, [Value.string x.name, Value.slice x.na x.m.needs.length x.nc, Value.slice x.a2 x.n2 x.c2, Value.slice x.a3 x.n3 x.c3, Value.slice x.a4 x.n4 x.c4, Value.slice x.a5 x.n5 x.c5, Value.int .i64 x.m.tries, Value.int .i64 x.m.limit, Value.bool x.m.manual][j]? = some v → (pjs l)[i * 9 + j]? = some v := flat_vs (f := pjc) pjc_len h
theorem pjs_one (l : List PJob) : ∀ u ∈ pjs l, u.oneCell' = true := by
  intro u hu
  obtain ⟨e, _, he⟩ := List.mem_flatMap.1 hu
  simp only [pjc, List.mem_cons, List.not_mem_nil, or_false] at he
  rcases he with rfl | rfl | rfl | rfl | rfl | rfl | rfl | rfl | rfl <;> rfl
theorem pjs_app (l m : List PJob) : pjs (l ++ m) = pjs l ++ pjs m := List.flatMap_append
def stc (s : St) : List Value := [.int .u8 s.state, .int .i64 s.tried, .int .i64 s.badge, .int .i64 s.since, .int .i64 s.code, .bool s.played]
def sts (l : List St) : List Value := l.flatMap stc
theorem stc_len (x : St) : (stc x).length = 6 := rfl
theorem sts_len (l : List St) : (sts l).length = l.length * 6 := flat_len stc stc_len l
theorem sts_vs {l : List St} {i : Nat} {x : St} (h : l[i]? = some x) : ∀ j v, [Value.int .u8 x.state, Value.int .i64 x.tried, Value.int .i64 x.badge, Value.int .i64 x.since, Value.int .i64 x.code, Value.bool x.played][j]? = some v → (sts l)[i * 6 + j]? = some v := flat_vs (f := stc) stc_len h
theorem sts_one (l : List St) : ∀ u ∈ sts l, u.oneCell' = true := by
  intro u hu
  obtain ⟨e, _, he⟩ := List.mem_flatMap.1 hu
  simp only [stc, List.mem_cons, List.not_mem_nil, or_false] at he
  rcases he with rfl | rfl | rfl | rfl | rfl | rfl <;> rfl
theorem sts_app (l m : List St) : sts (l ++ m) = sts l ++ sts m := List.flatMap_append
theorem sts_set {l : List St} {k : Nat} (y : St) (h : k < l.length) : spl (sts l) (k * 6) [.int .u8 y.state, .int .i64 y.tried, .int .i64 y.badge, .int .i64 y.since, .int .i64 y.code, .bool y.played] = sts (l.set k y) := flat_set stc stc_len l k y h
theorem flat_part {α β : Type} {k : Nat} {f : α → List β} (hf : ∀ x, (f x).length = k) {l : List α} {n off : Nat} {x y : α} {vs : List β} (hx : l[n]? = some x) (hy : f y = (f x).take off ++ vs ++ (f x).drop (off + vs.length)) (ho : off + vs.length ≤ k) :
    (l.flatMap f).take (n * k + off) ++ vs ++ (l.flatMap f).drop (n * k + off + vs.length) = (l.set n y).flatMap f := by
  rw [← flat_set f hf l n y (get_lt hx), hy]
  have e0 : l.flatMap f = (l.take n).flatMap f ++ (f x ++ (l.drop (n + 1)).flatMap f) := by
    obtain ⟨h1, h2⟩ := List.getElem?_eq_some_iff.1 hx
    conv => lhs; rw [← List.take_append_drop n l, List.drop_eq_getElem_cons h1, h2]
    rw [List.flatMap_append, List.flatMap_cons]
  have e1 : ((l.take n).flatMap f).length = n * k := by rw [flat_len f hf, List.length_take, Nat.min_eq_left (by have := get_lt hx; omega)]
  have ht : (l.flatMap f).take (n * k + off) = (l.take n).flatMap f ++ (f x).take off := by
    rw [e0, ← e1, List.take_length_add_append, List.take_append_of_le_length (by rw [hf]; omega)]
  have hd : (l.flatMap f).drop (n * k + off + vs.length) = (f x).drop (off + vs.length) ++ (l.drop (n + 1)).flatMap f := by
    rw [e0, Nat.add_assoc, ← e1, List.drop_length_add_append, List.drop_append_of_le_length (by rw [hf]; omega)]
  have ht0 : (l.flatMap f).take (n * k) = (l.take n).flatMap f := by rw [e0, ← e1, List.take_left]
  have hd0 : (l.flatMap f).drop (n * k + k) = (l.drop (n + 1)).flatMap f := by
    rw [e0, ← e1, List.drop_length_add_append]
    have := hf x
    rw [← this, List.drop_left]
  rw [ht, hd, ht0, hd0]
  simp
theorem sts_part {l : List St} {k : Nat} {x y : St} (off : Nat) {vs : List Value} (hx : l[k]? = some x) (hy : stc y = (stc x).take off ++ vs ++ (stc x).drop (off + vs.length)) (ho : off + vs.length ≤ 6) :
    spl (sts l) (k * 6 + off) vs = sts (l.set k y) := flat_part stc_len hx hy ho
theorem sts_part0 {l : List St} {k : Nat} {x y : St} {vs : List Value} (hx : l[k]? = some x) (hy : stc y = (stc x).take 0 ++ vs ++ (stc x).drop (0 + vs.length)) (ho : 0 + vs.length ≤ 6) :
    spl (sts l) (k * 6) vs = sts (l.set k y) := flat_part stc_len hx hy ho
theorem set_get {α : Type} {l : List α} {k : Nat} {x y : α} (hx : l[k]? = some x) : (l.set k y)[k]? = some y := by have := get_lt hx; simp [this]

/-! what they need: rows that are only read; L: their blocks -/
def Nds (w : World) (L : List Nat) (l : List (Option Addr × List Int)) : Prop :=
  (∀ b ∈ L, b < w.heap.size) ∧ ∀ p ∈ l, Sl w p.1 (iv p.2) ∧ (p.2 ≠ [] → ∀ b ∈ ob p.1, b ∈ L)
theorem Nds.lt {w : World} {L : List Nat} {l : List (Option Addr × List Int)} (h : Nds w L l) : ∀ b ∈ L, b < w.heap.size := h.1
theorem Nds.keep {w w' : World} {S L : List Nat} {l : List (Option Addr × List Int)} (h : Nds w L l) (f : Fr S w w') (hn : ∀ x ∈ L, x ∉ S) : Nds w' L l := by
  refine ⟨fun b hb => Nat.lt_of_lt_of_le (h.1 b hb) f.size, fun p hp => ⟨?_, (h.2 p hp).2⟩⟩
  by_cases he : p.2 = []
  · rw [he]; exact Sl.nil _ _
  · exact (h.2 p hp).1.keep f (fun x hx => hn x ((h.2 p hp).2 he x hx))
theorem Nds.keep0 {w w' : World} {L : List Nat} {l : List (Option Addr × List Int)} (h : Nds w L l) (f : Fr [] w w') : Nds w' L l := h.keep f (fun _ _ => by simp)
theorem Nds.snoc {w : World} {L : List Nat} {l : List (Option Addr × List Int)} {a : Option Addr} {n c : Nat} {ns : List Int} (h : Nds w L l) (ha : Ro w a n c (iv ns)) : Nds w (L ++ ob a) (l ++ [(a, ns)]) := by
  refine ⟨fun b hb => (List.mem_append.1 hb).elim (h.1 b) (ha.lt b), fun p hp => ?_⟩
  rcases List.mem_append.1 hp with hp | hp
  · exact ⟨(h.2 p hp).1, fun he b hb => List.mem_append_left _ ((h.2 p hp).2 he b hb)⟩
  · simp at hp
    subst hp
    exact ⟨ha.sl, fun _ b hb => List.mem_append_right _ hb⟩
def ndJ (x : JobP) : Option Addr × List Int := (x.na, x.m.needs)
def ndP (x : PJob) : Option Addr × List Int := (x.na, x.m.needs)
def JNds (w : World) (L : List Nat) (js : List JobP) : Prop := Nds w L (js.map ndJ)
def PNds (w : World) (L : List Nat) (ps : List PJob) : Prop := Nds w L (ps.map ndP)
theorem JNds.lt {w : World} {L : List Nat} {l : List JobP} (h : JNds w L l) : ∀ b ∈ L, b < w.heap.size := h.1
theorem JNds.keep {w w' : World} {S L : List Nat} {l : List JobP} (h : JNds w L l) (f : Fr S w w') (hn : ∀ x ∈ L, x ∉ S) : JNds w' L l := Nds.keep h f hn
theorem JNds.keep0 {w w' : World} {L : List Nat} {l : List JobP} (h : JNds w L l) (f : Fr [] w w') : JNds w' L l := Nds.keep0 h f
theorem JNds.nil (w : World) : JNds w [] [] := by
  unfold JNds Nds
  simp
theorem JNds.snoc {w : World} {L : List Nat} {l : List JobP} {a : Option Addr} {n c : Nat} {x : JobM} (h : JNds w L l) (ha : Ro w a n c (iv x.needs)) : JNds w (L ++ ob a) (l ++ [⟨a, c, x⟩]) := by
  have := Nds.snoc h ha
  simpa [JNds, ndJ] using this
theorem JNds.get {w : World} {L : List Nat} {l : List JobP} {i : Nat} {x : JobP} (h : JNds w L l) (hx : l[i]? = some x) : Sl w x.na (iv x.m.needs) := (h.2 (ndJ x) (List.mem_map.2 ⟨x, mem_of_get hx, rfl⟩)).1
theorem PNds.lt {w : World} {L : List Nat} {l : List PJob} (h : PNds w L l) : ∀ b ∈ L, b < w.heap.size := h.1
theorem PNds.keep {w w' : World} {S L : List Nat} {l : List PJob} (h : PNds w L l) (f : Fr S w w') (hn : ∀ x ∈ L, x ∉ S) : PNds w' L l := Nds.keep h f hn
theorem PNds.keep0 {w w' : World} {L : List Nat} {l : List PJob} (h : PNds w L l) (f : Fr [] w w') : PNds w' L l := Nds.keep0 h f
theorem PNds.nil (w : World) : PNds w [] [] := by
  unfold PNds Nds
  simp
theorem PNds.get {w : World} {L : List Nat} {l : List PJob} {i : Nat} {x : PJob} (h : PNds w L l) (hx : l[i]? = some x) : Sl w x.na (iv x.m.needs) := (h.2 (ndP x) (List.mem_map.2 ⟨x, mem_of_get hx, rfl⟩)).1
theorem PNds.snoc {w : World} {L : List Nat} {l : List PJob} {x : PJob} {n c : Nat} (h : PNds w L l) (ha : Ro w x.na n c (iv x.m.needs)) : PNds w (L ++ ob x.na) (l ++ [x]) := by
  have := Nds.snoc h ha
  simpa [PNds, ndP] using this

/-! ### may a plan be? -/
def riseB (i : Int) : Int → List Int → Bool
  | _, [] => true
  | last, n :: r => if n ≤ last ∨ i ≤ n then false else riseB i n r
theorem rise_step {i last n : Int} {ns : List Int} {q : Nat} (hn : ns[q]? = some n) : riseB i last (ns.drop q) = if n ≤ last ∨ i ≤ n then false else riseB i n (ns.drop (q + 1)) := by
  obtain ⟨h1, h2⟩ := List.getElem?_eq_some_iff.1 hn
  rw [List.drop_eq_getElem_cons h1, h2, riseB]
theorem rise_end {i last : Int} {ns : List Int} {q : Nat} (h : ns.length ≤ q) : riseB i last (ns.drop q) = true := by
  rw [List.drop_eq_nil_of_le h]; rfl
theorem rise_spec {i : Int} : ∀ {ns : List Int} {last : Int}, riseB i last ns = true → (∀ n ∈ ns, last < n ∧ n < i) ∧ ns.Pairwise (· < ·)
  | [], _, _ => ⟨fun _ h => (List.not_mem_nil h).elim, List.Pairwise.nil⟩
  | n :: r, last, h => by
    rw [riseB] at h
    split at h
    · cases h
    · obtain ⟨h1, h2⟩ := rise_spec h
      refine ⟨fun m hm => ?_, List.Pairwise.cons (fun m hm => (h1 m hm).1) h2⟩
      rcases List.mem_cons.1 hm with rfl | hm
      · omega
      · have := h1 m hm; omega
def jobB (i : Nat) (m : JobM) : Bool := decide (1 ≤ m.tries) && decide (m.tries ≤ 5) && decide (0 ≤ m.limit) && decide (m.limit ≤ 1000) && riseB (i : Int) (-1) m.needs
def mayB (M : List JobM) : Bool := decide (M.length ≤ 24) && (List.range M.length).all fun i => match M[i]? with | some m => jobB i m | none => true
theorem may_big {M : List JobM} (h : 24 < M.length) : mayB M = false := by
  unfold mayB
  rw [decide_eq_false (by omega)]; rfl
theorem may_bad {M : List JobM} {i : Nat} {m : JobM} (hm : M[i]? = some m) (h : jobB i m = false) : mayB M = false := by
  unfold mayB
  rw [Bool.and_eq_false_iff]
  right
  rw [Bool.eq_false_iff]
  intro ha
  rw [List.all_eq_true] at ha
  have := ha i (List.mem_range.2 (get_lt hm))
  rw [hm] at this
  simp only [] at this
  rw [h] at this; cases this
theorem may_all {M : List JobM} {k : Nat} (hl : M.length ≤ 24) (hk : M.length ≤ k) (h : ∀ i, i < k → ∀ m, M[i]? = some m → jobB i m = true) : mayB M = true := by
  unfold mayB
  rw [decide_eq_true hl, Bool.true_and, List.all_eq_true]
  intro i hi
  rw [List.mem_range] at hi
  cases hm : M[i]? with
  | none => rfl
  | some m => exact h i (by omega) m hm
theorem may_spec {M : List JobM} (h : mayB M = true) : M.length ≤ 24 ∧ ∀ (i : Nat) m, M[i]? = some m → jobB i m = true := by
  unfold mayB at h
  rw [Bool.and_eq_true, List.all_eq_true] at h
  refine ⟨of_decide_eq_true h.1, fun i m hm => ?_⟩
  have := h.2 i (List.mem_range.2 (get_lt hm))
  rwa [hm] at this
theorem jobB_spec {i : Nat} {m : JobM} (h : jobB i m = true) : 1 ≤ m.tries ∧ m.tries ≤ 5 ∧ 0 ≤ m.limit ∧ m.limit ≤ 1000 ∧ (∀ n ∈ m.needs, 0 ≤ n ∧ n < (i : Int)) := by
  simp only [jobB, Bool.and_eq_true, decide_eq_true_eq] at h
  obtain ⟨⟨⟨⟨h1, h2⟩, h3⟩, h4⟩, h5⟩ := h
  refine ⟨h1, h2, h3, h4, fun n hn => ?_⟩
  have := (rise_spec h5).1 n hn
  omega
theorem rise_len {i : Int} : ∀ {ns : List Int} {last : Int}, riseB i last ns = true → (ns.length : Int) ≤ max 0 (i - 1 - last)
  | [], last, _ => by simp only [List.length_nil]; omega
  | n :: r, last, h => by
    rw [riseB] at h
    split at h
    · cases h
    · have := rise_len h
      simp only [List.length_cons]
      omega
theorem jobB_len {i : Nat} {m : JobM} (h : jobB i m = true) : m.needs.length ≤ i := by
  simp only [jobB, Bool.and_eq_true, decide_eq_true_eq] at h
  have := rise_len h.2
  omega
theorem jobB_bad {i : Nat} {m : JobM} (h : m.tries < 1 ∨ 5 < m.tries ∨ m.limit < 0 ∨ 1000 < m.limit ∨ riseB (i : Int) (-1) m.needs = false) : jobB i m = false := by
  rw [Bool.eq_false_iff]
  intro h'
  simp only [jobB, Bool.and_eq_true, decide_eq_true_eq] at h'
  obtain ⟨⟨⟨⟨h1, h2⟩, h3⟩, h4⟩, h5⟩ := h'
  rcases h with h | h | h | h | h
  · omega
  · omega
  · omega
  · omega
  · rw [h] at h5; cases h5
theorem jobB_ok {i : Nat} {m : JobM} (h1 : ¬ m.tries < 1) (h2 : ¬ 5 < m.tries) (h3 : ¬ m.limit < 0) (h4 : ¬ 1000 < m.limit) (h5 : riseB (i : Int) (-1) m.needs = true) : jobB i m = true := by
  simp only [jobB, Bool.and_eq_true, decide_eq_true_eq]
  exact ⟨⟨⟨⟨by omega, by omega⟩, by omega⟩, by omega⟩, h5⟩

/-! ### how they stand -/
def endd (s : Int) : Bool := decide (5 ≤ s) && decide (s ≤ 11)
def stAt (ss : List St) (n : Int) : Int := match ss[n.toNat]? with | some s => s.state | none => 0
theorem stAt_get {ss : List St} {n : Int} {s : St} (h : ss[n.toNat]? = some s) : stAt ss n = s.state := by unfold stAt; rw [h]
def psd (ss : List St) (n : Int) : Bool := decide (stAt ss n = 5)
def brk (ss : List St) (n : Int) : Bool := decide (stAt ss n ≠ 5) && endd (stAt ss n)
def needsOf (M : List JobM) (i : Nat) : List Int := match M[i]? with | some m => m.needs | none => []
def manualOf (M : List JobM) (i : Nat) : Bool := match M[i]? with | some m => m.manual | none => false
def triesOf (M : List JobM) (i : Nat) : Int := match M[i]? with | some m => m.tries | none => 0
def limitOf (M : List JobM) (i : Nat) : Int := match M[i]? with | some m => m.limit | none => 0
def passedB (M : List JobM) (ss : List St) (i : Nat) : Bool := (needsOf M i).all (psd ss)
def brokenB (M : List JobM) (ss : List St) (i : Nat) : Bool := (needsOf M i).any (brk ss)
def playedOf (ss : List St) (i : Nat) : Bool := match ss[i]? with | some s => s.played | none => false
def settledS (M : List JobM) (ss : List St) (i : Nat) (played : Bool) : Int :=
  if brokenB M ss i = true then 10 else if passedB M ss i = false then 1 else if manualOf M i = true ∧ played = false then 2 else 3
def nxtS (M : List JobM) (ss : List St) (i : Nat) : Int := settledS M ss i (playedOf ss i)
def settleTo (M : List JobM) (ss : List St) : Nat → List St
  | 0 => ss
  | k + 1 => match (settleTo M ss k)[k]? with
    | some s => if s.state = 1 then (settleTo M ss k).set k { s with state := nxtS M (settleTo M ss k) k } else settleTo M ss k
    | none => settleTo M ss k
def settle (M : List JobM) (ss : List St) : List St := settleTo M ss ss.length
theorem settleTo_len (M : List JobM) (ss : List St) : ∀ k, (settleTo M ss k).length = ss.length
  | 0 => rfl
  | k + 1 => by
    rw [settleTo]
    split
    · split
      · rw [List.length_set, settleTo_len M ss k]
      · exact settleTo_len M ss k
    · exact settleTo_len M ss k
theorem settle_len (M : List JobM) (ss : List St) : (settle M ss).length = ss.length := settleTo_len M ss _
theorem settleTo_one {M : List JobM} {ss : List St} {k : Nat} {s : St} (hs : (settleTo M ss k)[k]? = some s) (h : s.state = 1) : settleTo M ss (k + 1) = (settleTo M ss k).set k { s with state := nxtS M (settleTo M ss k) k } := by
  rw [settleTo, hs]; simp only []; rw [if_pos h]
theorem settleTo_not {M : List JobM} {ss : List St} {k : Nat} {s : St} (hs : (settleTo M ss k)[k]? = some s) (h : ¬ s.state = 1) : settleTo M ss (k + 1) = settleTo M ss k := by
  rw [settleTo, hs]; simp only []; rw [if_neg h]
theorem needsOf_get {M : List JobM} {i : Nat} {m : JobM} (h : M[i]? = some m) : needsOf M i = m.needs := by unfold needsOf; rw [h]
theorem manualOf_get {M : List JobM} {i : Nat} {m : JobM} (h : M[i]? = some m) : manualOf M i = m.manual := by unfold manualOf; rw [h]
theorem triesOf_get {M : List JobM} {i : Nat} {m : JobM} (h : M[i]? = some m) : triesOf M i = m.tries := by unfold triesOf; rw [h]
theorem limitOf_get {M : List JobM} {i : Nat} {m : JobM} (h : M[i]? = some m) : limitOf M i = m.limit := by unfold limitOf; rw [h]
theorem playedOf_get {ss : List St} {i : Nat} {s : St} (h : ss[i]? = some s) : playedOf ss i = s.played := by unfold playedOf; rw [h]
theorem all_next {α : Type} {ns : List α} {q : Nat} {n : α} {p : α → Bool} (hn : ns[q]? = some n) : (ns.take (q + 1)).all p = ((ns.take q).all p && p n) := by
  obtain ⟨h1, h2⟩ := List.getElem?_eq_some_iff.1 hn
  rw [List.take_succ_eq_append_getElem h1, h2]
  simp
theorem any_next {α : Type} {ns : List α} {q : Nat} {n : α} {p : α → Bool} (hn : ns[q]? = some n) : (ns.take (q + 1)).any p = ((ns.take q).any p || p n) := by
  obtain ⟨h1, h2⟩ := List.getElem?_eq_some_iff.1 hn
  rw [List.take_succ_eq_append_getElem h1, h2]
  simp
theorem jm_get {js : List JobP} {i : Nat} {x : JobP} (h : js[i]? = some x) : (js.map JobP.m)[i]? = some x.m := by simp [h]
theorem pm_get {js : List PJob} {i : Nat} {x : PJob} (h : js[i]? = some x) : (js.map PJob.m)[i]? = some x.m := by simp [h]

/-! ### what is done -/
def rng (ss : List St) (i : Int) : Bool := decide (0 ≤ i) && decide (i < (ss.length : Int))
def getS (ss : List St) (i : Int) : St := match ss[i.toNat]? with | some s => s | none => ⟨0, 0, 0, 0, 0, false⟩
theorem getS_get {ss : List St} {i : Int} {s : St} (h : ss[i.toNat]? = some s) : getS ss i = s := by unfold getS; rw [h]
def thereC (ss : List St) (i : Int) : Int := if i < 0 ∨ (ss.length : Int) ≤ i then 1 else 0
def startC (ss : List St) (i badge now : Int) : Int :=
  if i < 0 ∨ (ss.length : Int) ≤ i then 1 else if badge < 1 ∨ 2147483647 < badge ∨ now < 0 ∨ 2147483647 < now then 1 else if (getS ss i).state ≠ 3 then 50 else 0
def startL (ss : List St) (i badge now : Int) : List St :=
  if startC ss i badge now = 0 then ss.set i.toNat ⟨4, (getS ss i).tried + 1, badge, now, 0, (getS ss i).played⟩ else ss
def runsC (ss : List St) (i badge : Int) : Int :=
  if i < 0 ∨ (ss.length : Int) ≤ i then 1 else if (getS ss i).state ≠ 4 ∨ (getS ss i).badge ≠ badge then 60 else 0
def endS (M : List JobM) (s : St) (i : Nat) (badge state number : Int) : St :=
  if (state = 6 ∨ state = 7) ∧ s.tried < triesOf M i then ⟨3, s.tried, 0, 0, 0, s.played⟩ else ⟨state, s.tried, badge, 0, number, s.played⟩
def endsL (M : List JobM) (ss : List St) (i badge state number : Int) : List St :=
  if runsC ss i badge = 0 then settle M (ss.set i.toNat (endS M (getS ss i) i.toNat badge state number)) else ss
def endC (ss : List St) (i badge number : Int) : Int :=
  if i < 0 ∨ (ss.length : Int) ≤ i then 1 else if number < 0 ∨ 999 < number then 1 else runsC ss i badge
def endL (M : List JobM) (ss : List St) (i badge number : Int) : List St :=
  if endC ss i badge number = 0 then endsL M ss i badge (if number = 0 then 5 else 6) number else ss
def cancelC (ss : List St) (i : Int) : Int := if i < 0 ∨ (ss.length : Int) ≤ i then 1 else if endd (getS ss i).state = true then 50 else 0
def cancelL (M : List JobM) (ss : List St) (i : Int) : List St :=
  if cancelC ss i = 0 then settle M (ss.set i.toNat ⟨9, (getS ss i).tried, 0, 0, 0, (getS ss i).played⟩) else ss
def playC (ss : List St) (i : Int) : Int := if i < 0 ∨ (ss.length : Int) ≤ i then 1 else if (getS ss i).state ≠ 2 then 50 else 0
def playL (M : List JobM) (ss : List St) (i : Int) : List St :=
  if playC ss i = 0 then settle M (ss.set i.toNat { getS ss i with played := true, state := 1 }) else ss
def newS : St := ⟨1, 0, 0, 0, 0, false⟩
def newL (M : List JobM) : List St := settle M (M.map fun _ => newS)
theorem startL_len (ss : List St) (i badge now : Int) : (startL ss i badge now).length = ss.length := by unfold startL; split <;> simp
theorem endsL_len (M : List JobM) (ss : List St) (i badge state number : Int) : (endsL M ss i badge state number).length = ss.length := by unfold endsL; split <;> simp [settle_len]
theorem endL_len (M : List JobM) (ss : List St) (i badge number : Int) : (endL M ss i badge number).length = ss.length := by unfold endL; split <;> simp [endsL_len]
theorem cancelL_len (M : List JobM) (ss : List St) (i : Int) : (cancelL M ss i).length = ss.length := by unfold cancelL; split <;> simp [settle_len]
theorem playL_len (M : List JobM) (ss : List St) (i : Int) : (playL M ss i).length = ss.length := by unfold playL; split <;> simp [settle_len]
theorem newL_len (M : List JobM) : (newL M).length = M.length := by unfold newL; simp [settle_len]
/-! what is picked -/
def picksTo (p : Nat → St → Bool) (ss : List St) : Nat → List Int
  | 0 => []
  | k + 1 => match ss[k]? with
    | some s => if p k s = true then picksTo p ss k ++ [(k : Int)] else picksTo p ss k
    | none => picksTo p ss k
def picks (p : Nat → St → Bool) (ss : List St) : List Int := picksTo p ss ss.length
theorem picks_yes {p : Nat → St → Bool} {ss : List St} {k : Nat} {s : St} (hs : ss[k]? = some s) (h : p k s = true) : picksTo p ss (k + 1) = picksTo p ss k ++ [(k : Int)] := by
  rw [picksTo, hs]; simp only []; rw [if_pos h]
theorem picks_no {p : Nat → St → Bool} {ss : List St} {k : Nat} {s : St} (hs : ss[k]? = some s) (h : p k s = false) : picksTo p ss (k + 1) = picksTo p ss k := by
  rw [picksTo, hs]; simp only []; rw [if_neg (by rw [h]; decide)]
theorem picks_le (p : Nat → St → Bool) (ss : List St) : ∀ k, (picksTo p ss k).length ≤ k
  | 0 => Nat.le_refl _
  | k + 1 => by
    have := picks_le p ss k
    rw [picksTo]
    split
    · split
      · rw [List.length_append]; simpa using this
      · omega
    · omega
theorem there_spec (ss : List St) (i : Int) : (thereC ss i = 1 ∧ (i < 0 ∨ (ss.length : Int) ≤ i)) ∨ (thereC ss i = 0 ∧ 0 ≤ i ∧ i < (ss.length : Int)) := by
  unfold thereC; split <;> omega
theorem runs_spec (ss : List St) (i badge : Int) : (runsC ss i badge = 1 ∧ (i < 0 ∨ (ss.length : Int) ≤ i)) ∨ (runsC ss i badge = 60 ∧ 0 ≤ i ∧ i < (ss.length : Int)) ∨ (runsC ss i badge = 0 ∧ 0 ≤ i ∧ i < (ss.length : Int) ∧ (getS ss i).state = 4 ∧ (getS ss i).badge = badge) := by
  unfold runsC; split
  · omega
  · split <;> omega
theorem endsL_no {M : List JobM} {ss : List St} {i badge state number : Int} (h : runsC ss i badge ≠ 0) : endsL M ss i badge state number = ss := by unfold endsL; rw [if_neg h]
theorem endsL_yes {M : List JobM} {ss : List St} {i badge state number : Int} (h : runsC ss i badge = 0) : endsL M ss i badge state number = settle M (ss.set i.toNat (endS M (getS ss i) i.toNat badge state number)) := by unfold endsL; rw [if_pos h]
theorem sl_none {w : World} {cs : List Value} (h : Sl w none cs) : cs = [] := by
  cases cs with
  | nil => rfl
  | cons v r => obtain ⟨ad, h1, _⟩ := h 0 v rfl; cases h1
theorem job_succ {M : List JobM} {k : Nat} {m : JobM} (h : ∀ j, j < k → ∀ m, M[j]? = some m → jobB j m = true) (hm : M[k]? = some m) (hj : jobB k m = true) : ∀ j, j < k + 1 → ∀ m, M[j]? = some m → jobB j m = true := by
  intro j hjk m' hm'
  by_cases e : j = k
  · subst e; rw [hm] at hm'; cases hm'; exact hj
  · exact h j (by omega) m' hm'
theorem rep_snoc {k : Nat} : sts (List.replicate k newS) ++ [.int .u8 1, .int .i64 0, .int .i64 0, .int .i64 0, .int .i64 0, .bool false] = sts (List.replicate (k + 1) newS) := by
  rw [List.replicate_succ', sts_app]; rfl
theorem newL_eq {js : List JobP} : newL (js.map JobP.m) = settle (js.map JobP.m) (List.replicate js.length newS) := by
  unfold newL
  congr 1
  rw [List.map_map]
  induction js with
  | nil => rfl
  | cons x l ih => rw [List.map_cons, ih, List.length_cons, List.replicate_succ]; rfl
theorem take_map_succ {ps : List PJob} {k : Nat} {x : PJob} {js : List JobP} {a : Option Addr} {c : Nat} (h : js.map JobP.m = (ps.map PJob.m).take k) (hx : ps[k]? = some x) : (js ++ [(⟨a, c, x.m⟩ : JobP)]).map JobP.m = (ps.map PJob.m).take (k + 1) := by
  obtain ⟨h1, h2⟩ := List.getElem?_eq_some_iff.1 hx
  rw [List.map_append, h, List.take_succ_eq_append_getElem (by simpa using h1)]
  simp [h2]
theorem large_succ {ps : List PJob} {i n : Nat} {x : PJob} (h : ∀ j, j < i → ∀ x, ps[j]? = some x → x.m.needs.length ≤ n) (hx : ps[i]? = some x) : ∀ j, j < i + 1 → ∀ y, ps[j]? = some y → y.m.needs.length ≤ n + 1 + x.m.needs.length := by
  intro j hj y hy
  by_cases e : j = i
  · subst e; rw [hx] at hy; cases hy; omega
  · have := h j (by omega) y hy; omega
theorem large_all {ps : List PJob} {i n : Nat} (h : ∀ j, j < i → ∀ x, ps[j]? = some x → x.m.needs.length ≤ n) (hi : ps.length ≤ i) (hn : n ≤ 2000) : ∀ x ∈ ps, x.m.needs.length ≤ 2000 := by
  intro x hx
  obtain ⟨j, hj⟩ := List.mem_iff_getElem?.1 hx
  have := h j (by have := get_lt hj; omega) x hj
  omega
/-- a step that is done -/
structure JStep where
  kind : Int
  i : Int
  badge : Int
  n : Int
def jstc (s : JStep) : List Value := [.int .u8 s.kind, .int .i64 s.i, .int .i64 s.badge, .int .i64 s.n]
def jsts (l : List JStep) : List Value := l.flatMap jstc
theorem jstc_len (e : JStep) : (jstc e).length = 4 := rfl
theorem jsts_vs {l : List JStep} {i : Nat} {x : JStep} (h : l[i]? = some x) : ∀ j v, [Value.int .u8 x.kind, Value.int .i64 x.i, Value.int .i64 x.badge, Value.int .i64 x.n][j]? = some v → (jsts l)[i * 4 + j]? = some v := flat_vs (f := jstc) jstc_len h
theorem jsts_len (l : List JStep) : (jsts l).length = l.length * 4 := flat_len jstc jstc_len l
def doC (ss : List St) (x : JStep) : Int :=
  if x.kind = 0 then startC ss x.i x.badge x.n else if x.kind = 1 then endC ss x.i x.badge x.n else if x.kind = 2 ∨ x.kind = 3 ∨ x.kind = 4 then runsC ss x.i x.badge else if x.kind = 5 then cancelC ss x.i else playC ss x.i
def doL (M : List JobM) (ss : List St) (x : JStep) : List St :=
  if x.kind = 0 then startL ss x.i x.badge x.n else if x.kind = 1 then endL M ss x.i x.badge x.n else if x.kind = 2 then endsL M ss x.i x.badge 7 0 else if x.kind = 3 then endsL M ss x.i x.badge 8 0 else if x.kind = 4 then endsL M ss x.i x.badge 11 0 else if x.kind = 5 then cancelL M ss x.i else playL M ss x.i
theorem doL_len (M : List JobM) (ss : List St) (x : JStep) : (doL M ss x).length = ss.length := by
  unfold doL
  split; exact startL_len ..
  split; exact endL_len ..
  split; exact endsL_len ..
  split; exact endsL_len ..
  split; exact endsL_len ..
  split; exact cancelL_len ..
  exact playL_len ..
/-- tried is a count -/
def Tr (ss : List St) : Prop := ∀ s ∈ ss, 0 ≤ s.tried ∧ s.tried ≤ 1000000
end Go.Sy
