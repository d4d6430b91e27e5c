/- Plain: events that were taken load again, out of their bytes. No program in sight; no condition. -/
import Derived.Test.YtnhpfhhpochgfaaPRef1
namespace Go.Sy
set_option linter.unusedVariables false

theorem mCount_grp {u : Nat} {a : Int} {t : List UInt8} (hu : u ≤ 2147483647) (ha : (u : Int) ≤ a) : mCount (some (grp u ++ t)) a = (u, some t) := by
  obtain ⟨h1, h2⟩ := num_some (u := u) (l := grp u ++ t) (by omega) (List.prefix_append _ _)
  obtain ⟨h3, h4⟩ := cnt_some (l := grp u ++ t) (a := a) (by omega) (by omega)
  have hp := ngr_pos u
  have h5 : ¬ cntN (grp u ++ t) a = 0 := by omega
  simp only [mCount, if_neg h5]
  rw [h3, h1, h4, h2, ← grp_len, List.drop_left]
theorem mStr_grp {s t : List UInt8} {a : Int} (hs : s.length ≤ 2147483647) (ha : (s.length : Int) ≤ a) : mStr (some (grp s.length ++ (s ++ t))) a = (s, some t) := by
  obtain ⟨h1, h2⟩ := num_some (u := s.length) (l := grp s.length ++ (s ++ t)) (by omega) (List.prefix_append _ _)
  obtain ⟨h3, h4⟩ := cnt_some (l := grp s.length ++ (s ++ t)) (a := a) (by omega) (by omega)
  have hp := ngr_pos s.length
  have hl : (grp s.length ++ (s ++ t)).length = ngr s.length + (s.length + t.length) := by simp [grp_len]
  obtain ⟨e1, e2⟩ := str_some' (l := grp s.length ++ (s ++ t)) (a := a) (by omega) (by omega)
  have h5 : ¬ strN (grp s.length ++ (s ++ t)) a = 0 := by omega
  simp only [mStr, if_neg h5]
  have eN : cntN (grp s.length ++ (s ++ t)) a = (grp s.length).length := by rw [h4, h2, grp_len]
  have eU : cntU (grp s.length ++ (s ++ t)) a = s.length := by rw [h3, h1]
  rw [e2, e1, ← List.drop_drop, eN, eU, List.drop_left, List.take_left, List.drop_left]
def ids (xs : List Ev) : List ByteArray := xs.map Ev.id
/-- events that may be taken one behind the other -/
def Fair (xs : List Ev) : Prop := Good xs ∧ (ids xs).Nodup
theorem fair_nil : Fair [] := ⟨good_nil, List.nodup_nil⟩
theorem fidx_lt {xs : List Ev} {id : ByteArray} : fidx (sameId id) xs < 0 ↔ id ∉ ids xs := by
  constructor
  · intro h hm
    obtain ⟨e, he, rfl⟩ := List.mem_map.1 hm
    have : (fidx (sameId e.id) xs) = -1 := by rcases fidx_range (p := sameId e.id) (l := xs) with h' | ⟨k, x, hk, _⟩ <;> omega
    unfold fidx at this
    split at this
    · omega
    · rename_i hn
      rw [List.findIdx?_eq_none_iff] at hn
      have := hn e he
      simp [sameId] at this
  · intro h
    rcases fidx_range (p := sameId id) (l := xs) with h' | ⟨k, x, hk, hx, hp⟩
    · omega
    · exfalso
      apply h
      unfold sameId at hp
      rw [toList_beq] at hp
      have := of_decide_eq_true hp
      subst this
      exact List.mem_map.2 ⟨x, mem_of_get hx, rfl⟩
theorem takeC_fair {xs : List Ev} {e : Ev} (h : isWord e.id = true ∧ 0 ≤ e.pipe ∧ e.pipe ≤ 2147483647) (hn : e.id ∉ ids xs) : takeC xs e.id e.pipe = 0 := by
  have := fidx_lt.2 hn
  unfold takeC
  rw [if_neg (by rw [h.1]; decide), if_neg (by omega), if_neg (by omega)]
theorem fair_take {xs : List Ev} {id : ByteArray} {p : Int} (h : Fair xs) : Fair (takeL xs id p) := by
  refine ⟨good_take h.1, ?_⟩
  unfold takeL
  split
  · rename_i hc
    obtain ⟨_, _, _, h4⟩ := take_zero hc
    have hn := fidx_lt.1 h4
    have key : ∀ l : List Ev, (ids l).Nodup → id ∉ ids l → (ids (l ++ [⟨id, p⟩])).Nodup := by
      intro l h1 h2
      simp only [ids, List.map_append, List.map_cons, List.map_nil] at *
      rw [List.nodup_append]
      refine ⟨h1, by simp, ?_⟩
      intro a ha b hb
      simp at hb
      subst hb
      exact fun e => h2 (e ▸ ha)
    split
    · refine key _ ?_ ?_
      · exact (List.Nodup.sublist (List.Sublist.map _ (List.drop_sublist 1 xs)) h.2)
      · intro hm
        apply hn
        exact (List.Sublist.map Ev.id (List.drop_sublist 1 xs)).subset hm
    · exact key _ h.2 hn
  · exact h.2
theorem ldP_ok : ∀ (es xs : List Ev) (t : List UInt8), Fair (xs ++ es) → ldP es.length (some (es.flatMap evSer ++ t)) xs = some (some t, xs ++ es)
  | [], xs, t, h => by simp [ldP]
  | e :: es, xs, t, h => by
    obtain ⟨⟨hl, hg⟩, hd⟩ := h
    obtain ⟨g1, g2, g3⟩ := hg e (by simp)
    have hw := word_size g1
    have e1 : mStr (some ((e :: es).flatMap evSer ++ t)) 64 = (e.id.data.toList, some (grp e.pipe.toNat ++ (es.flatMap evSer ++ t))) := by
      rw [size_eq] at hw
      have := mStr_grp (s := e.id.data.toList) (t := grp e.pipe.toNat ++ (es.flatMap evSer ++ t)) (a := 64) (by omega) (by omega)
      rw [← this]
      have ee : (e :: es).flatMap evSer ++ t = grp e.id.data.toList.length ++ (e.id.data.toList ++ (grp e.pipe.toNat ++ (es.flatMap evSer ++ t))) := by
        rw [List.flatMap_cons]; unfold evSer; rw [size_eq]; simp only [List.append_assoc]
      rw [ee]
    have e2 : mCount (some (grp e.pipe.toNat ++ (es.flatMap evSer ++ t))) 2147483647 = (e.pipe.toNat, some (es.flatMap evSer ++ t)) := mCount_grp (by omega) (by omega)
    have ep : ((e.pipe.toNat : Nat) : Int) = e.pipe := by omega
    have hn : e.id ∉ ids xs := by
      intro hm
      simp only [ids, List.map_append, List.map_cons, List.nodup_append] at hd hm
      exact hd.2.2 _ hm e.id (by simp) rfl
    have hc := takeC_fair (xs := xs) ⟨g1, g2, g3⟩ hn
    simp only [List.length_append, List.length_cons] at hl
    rw [List.length_cons, ldP, e1, e2]
    simp only [mkS_eta, ep]
    rw [if_pos hc, takeL_room hc (by omega), ldP_ok es _ t (by simpa using ⟨⟨by simpa using hl, hg⟩, hd⟩)]
    simp
theorem load_fair {xs : List Ev} (h : Fair xs) : loadE (evBytes xs) = some xs := by
  have hl := h.1.1
  have hf : ∀ e ∈ xs, Fine e := by
    intro e he
    obtain ⟨g1, g2, g3⟩ := h.1.2 e he
    have := word_size g1
    exact ⟨by omega, g2, g3⟩
  have e0 : evBytes xs = grp xs.length ++ (xs.flatMap evSer ++ []) := by rw [evBytes_ser (by omega) hf]; simp
  have e1 : mCount (rdR false (evBytes xs)) 8 = (xs.length, some (xs.flatMap evSer ++ [])) := by
    rw [e0]
    exact mCount_grp (by omega) (by omega)
  rw [loadR, e1]
  simp only []
  rw [ldP_ok xs [] [] (by simpa using h)]
  simp
theorem evBytes_len {xs : List Ev} (h : Good xs) : (evBytes xs).length ≤ 1000 := by
  have := evB_len h xs.length (Nat.le_refl _)
  have := h.1
  unfold evBytes
  omega
/-! steps -/
structure TStep where
  kind : Int
  id : ByteArray
  pipe : Int
def tstc (s : TStep) : List Value := [.int .u8 s.kind, .string s.id, .int .i64 s.pipe]
def tsts (l : List TStep) : List Value := l.flatMap tstc
theorem tstc_len (e : TStep) : (tstc e).length = 3 := rfl
theorem tsts_vs {l : List TStep} {i : Nat} {x : TStep} (h : l[i]? = some x) : ∀ j v, [Value.int .u8 x.kind, Value.string x.id, Value.int .i64 x.pipe][j]? = some v → (tsts l)[i * 3 + j]? = some v := flat_vs (f := tstc) tstc_len h
theorem tsts_len (l : List TStep) : (tsts l).length = l.length * 3 := flat_len tstc tstc_len l
def zid (s : ByteArray) : ByteArray := (⟨#[122]⟩ : ByteArray) ++ s
theorem zid_size (s : ByteArray) : (zid s).size = 1 + s.size := by unfold zid; rw [ByteArray.size_append]; rfl
end Go.Sy
