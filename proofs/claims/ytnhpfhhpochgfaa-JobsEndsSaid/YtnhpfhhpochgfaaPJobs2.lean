/- Plain: what stays true of jobs, whatever is done. No program in sight; no condition. -/
import Derived.Test.YtnhpfhhpochgfaaPJobs
namespace Go.Sy
set_option linter.unusedVariables false

/-! ### what settling turns -/
/-- ss' is ss, but that some that waited do so no more -/
def Upd (M : List JobM) (ss ss' : List St) : Prop := ss'.length = ss.length ∧ ∀ (i : Nat) s, ss[i]? = some s → ∃ s', ss'[i]? = some s' ∧ (s.state ≠ 1 → s' = s) ∧
  (s.state = 1 → s' = { s with state := s'.state } ∧ (s'.state = 1 ∨ s'.state = 10 ∨ ((s'.state = 2 ∨ s'.state = 3) ∧ passedB M ss i = true)))
theorem psd_mono_passed {M : List JobM} {ss ss' : List St} {i : Nat} (h : ∀ n, psd ss n = true → psd ss' n = true) (hp : passedB M ss i = true) : passedB M ss' i = true := by
  unfold passedB at *
  rw [List.all_eq_true] at *
  exact fun n hn => h n (hp n hn)
theorem upd_psd {M : List JobM} {ss ss' : List St} (h : Upd M ss ss') (n : Int) : psd ss' n = psd ss n := by
  unfold psd stAt
  cases hs : ss[n.toNat]? with
  | none =>
    have : ss'[n.toNat]? = none := by rw [List.getElem?_eq_none_iff] at *; rw [h.1]; exact hs
    rw [this]
  | some s =>
    obtain ⟨s', h1, h2, h3⟩ := h.2 _ s hs
    rw [h1]
    by_cases h0 : s.state = 1
    · have := (h3 h0).2
      apply decide_eq_decide.2
      show s'.state = 5 ↔ s.state = 5
      omega
    · rw [h2 h0]
theorem upd_passed {M : List JobM} {ss ss' : List St} (h : Upd M ss ss') (i : Nat) : passedB M ss' i = passedB M ss i := by
  unfold passedB
  have : psd ss' = psd ss := funext (upd_psd h)
  rw [this]
theorem settled_cases (M : List JobM) (ss : List St) (i : Nat) (p : Bool) : settledS M ss i p = 1 ∨ settledS M ss i p = 10 ∨ ((settledS M ss i p = 2 ∨ settledS M ss i p = 3) ∧ passedB M ss i = true) := by
  unfold settledS
  split
  · exact .inr (.inl rfl)
  · split
    · exact .inl rfl
    · rename_i h
      have hp : passedB M ss i = true := by simpa using h
      split
      · exact .inr (.inr ⟨.inl rfl, hp⟩)
      · exact .inr (.inr ⟨.inr rfl, hp⟩)
theorem upd_refl (M : List JobM) (ss : List St) : Upd M ss ss := ⟨rfl, fun i s hs => ⟨s, hs, fun _ => rfl, fun h => ⟨rfl, .inl h⟩⟩⟩
theorem upd_to (M : List JobM) (ss : List St) : ∀ k, Upd M ss (settleTo M ss k)
  | 0 => upd_refl M ss
  | k + 1 => by
    have ih := upd_to M ss k
    cases hk : (settleTo M ss k)[k]? with
    | none => rw [settleTo, hk]; exact ih
    | some t =>
      by_cases h1 : t.state = 1
      · rw [settleTo_one hk h1]
        refine ⟨by rw [List.length_set]; exact ih.1, fun i s hs => ?_⟩
        obtain ⟨s', a, b, c⟩ := ih.2 i s hs
        by_cases hi : i = k
        · subst hi
          rw [hk] at a
          obtain rfl := Option.some.inj a
          have hs1 : s.state = 1 := by
            by_cases hh : s.state = 1
            · exact hh
            · rw [b hh] at h1; exact absurd h1 hh
          refine ⟨_, set_get hk, fun hh => absurd hs1 hh, fun _ => ?_⟩
          obtain ⟨c1, c2⟩ := c hs1
          refine ⟨by rw [c1], ?_⟩
          show nxtS M (settleTo M ss i) i = 1 ∨ nxtS M (settleTo M ss i) i = 10 ∨ _
          have := settled_cases M (settleTo M ss i) i (playedOf (settleTo M ss i) i)
          rw [upd_passed ih] at this
          exact this
        · refine ⟨s', ?_, b, c⟩
          rw [List.getElem?_set_ne (by omega)]; exact a
      · rw [settleTo_not hk h1]; exact ih
theorem upd_settle (M : List JobM) (ss : List St) : Upd M ss (settle M ss) := upd_to M ss _

/-! ### what stays true -/
structure Inv (M : List JobM) (ss : List St) (cs : List Int) : Prop where
  len : ss.length = M.length
  clen : cs.length = M.length
  tr : ∀ (i : Nat) s m, ss[i]? = some s → M[i]? = some m → cs[i]? = some s.tried ∧ 0 ≤ s.tried ∧ s.tried ≤ m.tries ∧ (s.state = 3 → s.tried < m.tries) ∧ (s.state = 1 ∨ s.state = 2 → s.tried = 0)
  ps : ∀ (i : Nat) s, ss[i]? = some s → (s.state = 2 ∨ s.state = 3 ∨ s.state = 4 ∨ s.state = 5 ∨ s.state = 6) → passedB M ss i = true
  rg : ∀ (i : Nat) s, ss[i]? = some s → 1 ≤ s.state ∧ s.state ≤ 11
theorem get_of_len {α β : Type} {l : List α} {m : List β} {i : Nat} {x : α} (h : l[i]? = some x) (hl : l.length = m.length) : ∃ y, m[i]? = some y := ⟨m[i]'(by have := get_lt h; omega), List.getElem?_eq_getElem _⟩
theorem inv_upd {M : List JobM} {ss ss' : List St} {cs : List Int} (hm : mayB M = true) (h : Inv M ss cs) (u : Upd M ss ss') : Inv M ss' cs := by
  have key : ∀ (i : Nat) s', ss'[i]? = some s' → ∃ s, ss[i]? = some s ∧ (s.state ≠ 1 → s' = s) ∧ (s.state = 1 → s' = { s with state := s'.state } ∧ (s'.state = 1 ∨ s'.state = 10 ∨ ((s'.state = 2 ∨ s'.state = 3) ∧ passedB M ss i = true))) := by
    intro i s' hs'
    obtain ⟨s, hs⟩ := get_of_len hs' u.1
    obtain ⟨s2, a, b, c⟩ := u.2 i s hs
    rw [hs'] at a
    obtain rfl := Option.some.inj a
    exact ⟨s, hs, b, c⟩
  refine ⟨u.1.trans h.len, h.clen, fun i s' m hs' hmm => ?_, fun i s' hs' hst => ?_, fun i s' hs' => ?_⟩
  · obtain ⟨s, hs, b, c⟩ := key i s' hs'
    obtain ⟨t1, t2, t3, t4, t5⟩ := h.tr i s m hs hmm
    by_cases h1 : s.state = 1
    · obtain ⟨c1, c2⟩ := c h1
      have et : s'.tried = s.tried := by rw [c1]
      have hj := jobB_spec ((may_spec hm).2 i m hmm)
      have := t5 (.inl h1)
      rw [et]
      exact ⟨t1, t2, t3, fun _ => by omega, fun _ => this⟩
    · rw [b h1]; exact ⟨t1, t2, t3, t4, t5⟩
  · obtain ⟨s, hs, b, c⟩ := key i s' hs'
    rw [upd_passed u]
    by_cases h1 : s.state = 1
    · obtain ⟨c1, c2⟩ := c h1
      rcases c2 with c2 | c2 | c2
      · omega
      · omega
      · exact c2.2
    · rw [b h1] at hst; exact h.ps i s hs hst
  · obtain ⟨s, hs, b, c⟩ := key i s' hs'
    by_cases h1 : s.state = 1
    · have := (c h1).2; omega
    · rw [b h1]; exact h.rg i s hs
theorem inv_set {M : List JobM} {ss : List St} {cs : List Int} {i : Nat} {s s' : St} {m : JobM} (h : Inv M ss cs) (hs : ss[i]? = some s) (hm : M[i]? = some m) (h5 : s.state ≠ 5)
    (h0 : 0 ≤ s'.tried) (ht : s'.tried ≤ m.tries) (h3 : s'.state = 3 → s'.tried < m.tries) (h12 : s'.state = 1 ∨ s'.state = 2 → s'.tried = 0) (hp : (s'.state = 2 ∨ s'.state = 3 ∨ s'.state = 4 ∨ s'.state = 5 ∨ s'.state = 6) → passedB M ss i = true) (hr : 1 ≤ s'.state ∧ s'.state ≤ 11) :
    Inv M (ss.set i s') (cs.set i s'.tried) := by
  have mono : ∀ n, psd ss n = true → psd (ss.set i s') n = true := by
    intro n hn
    unfold psd stAt at *
    by_cases e : n.toNat = i
    · rw [e, hs] at hn
      simp at hn
      exact absurd hn h5
    · rw [List.getElem?_set_ne (by omega)]; exact hn
  refine ⟨by rw [List.length_set]; exact h.len, by rw [List.length_set]; exact h.clen, fun j t m' ht' hm' => ?_, fun j t ht' hst => ?_, fun j t ht' => ?_⟩
  · by_cases e : j = i
    · subst e
      rw [set_get hs] at ht'
      obtain rfl := Option.some.inj ht'
      rw [hm] at hm'
      obtain rfl := Option.some.inj hm'
      obtain ⟨c, hc⟩ := get_of_len hm h.clen.symm
      exact ⟨set_get hc, h0, ht, h3, h12⟩
    · rw [List.getElem?_set_ne (by omega)] at ht' ⊢
      exact h.tr j t m' ht' hm'
  · by_cases e : j = i
    · subst e
      rw [set_get hs] at ht'
      obtain rfl := Option.some.inj ht'
      exact psd_mono_passed mono (hp hst)
    · rw [List.getElem?_set_ne (by omega)] at ht'
      exact psd_mono_passed mono (h.ps j t ht' hst)
  · by_cases e : j = i
    · subst e
      rw [set_get hs] at ht'
      obtain rfl := Option.some.inj ht'
      exact hr
    · rw [List.getElem?_set_ne (by omega)] at ht'
      exact h.rg j t ht'
theorem set_same {α : Type} {l : List α} {i : Nat} {x : α} (h : l[i]? = some x) : l.set i x = l := by
  obtain ⟨h1, h2⟩ := List.getElem?_eq_some_iff.1 h
  rw [← h2, List.set_getElem_self]
theorem inv_set0 {M : List JobM} {ss : List St} {cs : List Int} {i : Nat} {s s' : St} {m : JobM} (h : Inv M ss cs) (hs : ss[i]? = some s) (hm : M[i]? = some m) (h5 : s.state ≠ 5) (he : s'.tried = s.tried)
    (h3 : s'.state = 3 → s'.tried < m.tries) (h12 : s'.state = 1 ∨ s'.state = 2 → s'.tried = 0) (hp : (s'.state = 2 ∨ s'.state = 3 ∨ s'.state = 4 ∨ s'.state = 5 ∨ s'.state = 6) → passedB M ss i = true) (hr : 1 ≤ s'.state ∧ s'.state ≤ 11) : Inv M (ss.set i s') cs := by
  obtain ⟨t1, t2, t3, t4, t5⟩ := h.tr i s m hs hm
  have := inv_set h hs hm h5 (s' := s') (by omega) (by omega) h3 h12 hp hr
  rwa [he, set_same t1] at this
theorem inv_new {M : List JobM} (hm : mayB M = true) : Inv M (newL M) (List.replicate M.length 0) := by
  refine inv_upd hm ?_ (upd_settle M _)
  have key : ∀ (i : Nat) s, (M.map fun _ => newS)[i]? = some s → s = newS := by
    intro i s h
    rw [List.getElem?_map] at h
    obtain ⟨_, _, h2⟩ := Option.map_eq_some_iff.1 h
    exact h2.symm
  refine ⟨by simp, by simp, fun i s m hs hmm => ?_, fun i s hs hst => ?_, fun i s hs => ?_⟩
  · rw [key i s hs]
    have hj := jobB_spec ((may_spec hm).2 i m hmm)
    refine ⟨by rw [List.getElem?_replicate, if_pos (get_lt hmm)]; rfl, by decide, by show (0 : Int) ≤ m.tries; omega, fun h3 => by simp [newS] at h3, fun _ => rfl⟩
  · rw [key i s hs] at hst; simp [newS] at hst
  · rw [key i s hs]; decide
theorem inv_tr {M : List JobM} {ss : List St} {cs : List Int} (hm : mayB M = true) (h : Inv M ss cs) : Tr ss := by
  intro s hs
  obtain ⟨i, hi⟩ := List.mem_iff_getElem?.1 hs
  obtain ⟨m, hmm⟩ := get_of_len hi h.len
  obtain ⟨_, t2, t3, _⟩ := h.tr i s m hi hmm
  have hj := jobB_spec ((may_spec hm).2 i m hmm)
  omega
theorem inv_cs {M : List JobM} {ss : List St} {cs : List Int} {n : Nat} {v : Int} (hm : mayB M = true) (h : Inv M ss cs) (hv : cs[n]? = some v) : 0 ≤ v ∧ v ≤ 5 := by
  obtain ⟨m, hmm⟩ := get_of_len hv h.clen
  obtain ⟨s, hs⟩ := get_of_len hmm h.len.symm
  obtain ⟨t1, t2, t3, _⟩ := h.tr n s m hs hmm
  have hj := jobB_spec ((may_spec hm).2 n m hmm)
  rw [hv] at t1
  have := Option.some.inj t1
  omega
/-! ### one step -/
def csAt (cs : List Int) (n : Nat) : Int := match cs[n]? with | some v => v | none => 0
theorem csAt_get {cs : List Int} {n : Nat} {v : Int} (h : cs[n]? = some v) : csAt cs n = v := by unfold csAt; rw [h]
def bump (cs : List Int) (x : JStep) (c : Int) : List Int := if x.kind = 0 ∧ c = 0 then cs.set x.i.toNat (csAt cs x.i.toNat + 1) else cs
theorem getS_some {ss : List St} {i : Int} (h : 0 ≤ i ∧ i < (ss.length : Int)) : ss[i.toNat]? = some (getS ss i) := by
  obtain ⟨s, hs⟩ := get_some (l := ss) (k := i.toNat) (by omega)
  rw [hs, getS_get hs]
theorem start_ok {ss : List St} {i badge now : Int} (h : startC ss i badge now = 0) : (0 ≤ i ∧ i < (ss.length : Int)) ∧ (getS ss i).state = 3 := by
  unfold startC at h
  split at h
  · omega
  · split at h
    · omega
    · split at h <;> omega
theorem cancel_ok {ss : List St} {i : Int} (h : cancelC ss i = 0) : (0 ≤ i ∧ i < (ss.length : Int)) ∧ endd (getS ss i).state = false := by
  unfold cancelC at h
  split at h
  · omega
  · split at h
    · omega
    · exact ⟨by omega, by simpa using ‹¬ endd (getS ss i).state = true›⟩
theorem play_ok {ss : List St} {i : Int} (h : playC ss i = 0) : (0 ≤ i ∧ i < (ss.length : Int)) ∧ (getS ss i).state = 2 := by
  unfold playC at h
  split at h
  · omega
  · split at h <;> omega
theorem runs_ok {ss : List St} {i badge : Int} (h : runsC ss i badge = 0) : (0 ≤ i ∧ i < (ss.length : Int)) ∧ (getS ss i).state = 4 ∧ (getS ss i).badge = badge := by
  have := runs_spec ss i badge; omega
theorem end_runs {ss : List St} {i badge number : Int} (h : endC ss i badge number = 0) : runsC ss i badge = 0 := by
  unfold endC at h
  split at h
  · omega
  · split at h
    · omega
    · exact h
theorem endS_tried (M : List JobM) (s : St) (i : Nat) (badge state number : Int) : (endS M s i badge state number).tried = s.tried := by unfold endS; split <;> rfl
theorem inv_ends {M : List JobM} {ss : List St} {cs : List Int} {i badge state number : Int} (hm : mayB M = true) (h : Inv M ss cs) (hs : state = 5 ∨ state = 6 ∨ state = 7 ∨ state = 8 ∨ state = 11) : Inv M (endsL M ss i badge state number) cs := by
  by_cases hc : runsC ss i badge = 0
  · obtain ⟨h1, h4, _⟩ := runs_ok hc
    have hg := getS_some h1
    obtain ⟨m, hmm⟩ := get_of_len hg h.len
    rw [endsL_yes hc]
    refine inv_upd hm ?_ (upd_settle M _)
    have hp := h.ps _ _ hg (by omega)
    refine inv_set0 h hg hmm (by omega) (endS_tried ..) ?_ ?_ (fun _ => hp) ?_
    · rw [endS_tried]
      unfold endS
      split
      · rename_i hh; intro _; rw [triesOf_get hmm] at hh; exact hh.2
      · intro h3; simp at h3; omega
    · unfold endS; split <;> (intro h3; simp at h3; try omega)
    · unfold endS; split <;> simp <;> omega
  · rw [endsL_no hc]; exact h
theorem inv_do {M : List JobM} {ss : List St} {cs : List Int} {x : JStep} (hm : mayB M = true) (h : Inv M ss cs) : Inv M (doL M ss x) (bump cs x (doC ss x)) := by
  unfold doL
  by_cases k0 : x.kind = 0
  · rw [if_pos k0]
    have ec : doC ss x = startC ss x.i x.badge x.n := by unfold doC; rw [if_pos k0]
    unfold startL bump
    rw [ec]
    by_cases hc : startC ss x.i x.badge x.n = 0
    · rw [if_pos hc, if_pos ⟨k0, hc⟩]
      obtain ⟨h1, h3⟩ := start_ok hc
      have hg := getS_some h1
      obtain ⟨m, hmm⟩ := get_of_len hg h.len
      obtain ⟨t1, t2, t3, t4, t5⟩ := h.tr _ _ m hg hmm
      have hp := h.ps _ _ hg (by omega)
      have := t4 h3
      rw [csAt_get t1]
      exact inv_set (s' := ⟨4, (getS ss x.i).tried + 1, x.badge, x.n, 0, (getS ss x.i).played⟩) h hg hmm (by omega) (by show 0 ≤ (getS ss x.i).tried + 1; omega) (by show (getS ss x.i).tried + 1 ≤ m.tries; omega) (by intro hh; simp at hh) (by intro hh; simp at hh) (fun _ => hp) ⟨by simp, by simp⟩
    · rw [if_neg hc, if_neg (fun hh => hc hh.2)]; exact h
  · have eb : bump cs x (doC ss x) = cs := by unfold bump; rw [if_neg (fun hh => k0 hh.1)]
    rw [if_neg k0, eb]
    split
    · unfold endL
      split
      · exact inv_ends hm h (by split <;> omega)
      · exact h
    · split
      · exact inv_ends hm h (by omega)
      · split
        · exact inv_ends hm h (by omega)
        · split
          · exact inv_ends hm h (by omega)
          · split
            · unfold cancelL
              split
              · rename_i hc
                obtain ⟨h1, h3⟩ := cancel_ok hc
                have hg := getS_some h1
                obtain ⟨m, hmm⟩ := get_of_len hg h.len
                refine inv_upd hm ?_ (upd_settle M _)
                refine inv_set0 h hg hmm ?_ rfl (by intro hh; simp at hh) (by intro hh; simp at hh) (by intro hh; simp at hh) ⟨by simp, by simp⟩
                intro h5
                rw [h5] at h3
                simp [endd] at h3
              · exact h
            · unfold playL
              split
              · rename_i hc
                obtain ⟨h1, h3⟩ := play_ok hc
                have hg := getS_some h1
                obtain ⟨m, hmm⟩ := get_of_len hg h.len
                obtain ⟨t1, t2, t3, t4, t5⟩ := h.tr _ _ m hg hmm
                refine inv_upd hm ?_ (upd_settle M _)
                exact inv_set0 h hg hmm (by omega) rfl (by intro hh; simp at hh) (fun _ => t5 (.inr h3)) (by intro hh; simp at hh) ⟨by simp, by simp⟩
              · exact h
theorem do_no {M : List JobM} {ss : List St} {x : JStep} (h : doC ss x ≠ 0) : doL M ss x = ss := by
  unfold doC at h
  unfold doL
  split
  · rename_i k; rw [if_pos k] at h; unfold startL; rw [if_neg h]
  · rename_i k; rw [if_neg k] at h
    split
    · rename_i k; rw [if_pos k] at h; unfold endL; rw [if_neg h]
    · rename_i k; rw [if_neg k] at h
      split
      · rw [if_pos (by omega)] at h; exact endsL_no h
      · split
        · rw [if_pos (by omega)] at h; exact endsL_no h
        · split
          · rw [if_pos (by omega)] at h; exact endsL_no h
          · rw [if_neg (by omega)] at h
            split
            · rename_i k; rw [if_pos k] at h; unfold cancelL; rw [if_neg h]
            · rename_i k; rw [if_neg k] at h; unfold playL; rw [if_neg h]
/-- what stands there and waits not, and is not at its turn, stays -/
theorem settle_keep {M : List JobM} {ss : List St} {k : Nat} {s : St} (hs : ss[k]? = some s) (h : s.state ≠ 1) : (settle M ss)[k]? = some s := by
  obtain ⟨s', a, b, _⟩ := (upd_settle M ss).2 k s hs
  rw [a, b h]
theorem ends_keep {M : List JobM} {ss : List St} {i badge state number : Int} {k : Nat} {s : St} (hs : ss[k]? = some s) (h1 : s.state ≠ 1) (h : (k : Int) ≠ i ∨ s.state ≠ 4) : (endsL M ss i badge state number)[k]? = some s := by
  by_cases hc : runsC ss i badge = 0
  · obtain ⟨h2, h4, _⟩ := runs_ok hc
    rw [endsL_yes hc]
    refine settle_keep ?_ h1
    by_cases e : k = i.toNat
    · have : getS ss i = s := getS_get (by rw [← e]; exact hs)
      rw [this] at h4
      omega
    · rw [List.getElem?_set_ne (by omega)]; exact hs
  · rw [endsL_no hc]; exact hs
theorem do_ended {M : List JobM} {ss : List St} {x : JStep} {k : Nat} {s : St} (hs : ss[k]? = some s) (he : endd s.state = true) : (doL M ss x)[k]? = some s := by
  simp only [endd, Bool.and_eq_true, decide_eq_true_eq] at he
  have hends : ∀ state number, (endsL M ss x.i x.badge state number)[k]? = some s := fun state number => ends_keep hs (by omega) (.inr (by omega))
  unfold doL
  split
  · unfold startL
    split
    · rename_i hc
      obtain ⟨h1, h3⟩ := start_ok hc
      by_cases e : k = x.i.toNat
      · have : getS ss x.i = s := getS_get (by rw [← e]; exact hs)
        rw [this] at h3; omega
      · rw [List.getElem?_set_ne (by omega)]; exact hs
    · exact hs
  · split
    · unfold endL
      split
      · exact hends _ _
      · exact hs
    · split; exact hends _ _
      split; exact hends _ _
      split; exact hends _ _
      split
      · unfold cancelL
        split
        · rename_i hc
          obtain ⟨h1, h3⟩ := cancel_ok hc
          refine settle_keep ?_ (by omega)
          by_cases e : k = x.i.toNat
          · have : getS ss x.i = s := getS_get (by rw [← e]; exact hs)
            rw [this] at h3
            simp [endd, he] at h3
          · rw [List.getElem?_set_ne (by omega)]; exact hs
        · exact hs
      · unfold playL
        split
        · rename_i hc
          obtain ⟨h1, h3⟩ := play_ok hc
          refine settle_keep ?_ (by omega)
          by_cases e : k = x.i.toNat
          · have : getS ss x.i = s := getS_get (by rw [← e]; exact hs)
            rw [this] at h3; omega
          · rw [List.getElem?_set_ne (by omega)]; exact hs
        · exact hs
theorem made_iv (n : Nat) : (madeCells #[.int .i64 0] (n * 1)).toList = iv (List.replicate n 0) := by
  unfold madeCells iv
  rw [Nat.mul_one, Array.toList_map, List.map_replicate]
  apply List.ext_getElem
  · simp
  · intro i h1 h2
    simp [Nat.mod_one]
theorem passed_get {M : List JobM} {ss : List St} {i : Nat} {m : JobM} {n : Int} {u : St} (h : passedB M ss i = true) (hm : M[i]? = some m) (hn : n ∈ m.needs) (hu : ss[n.toNat]? = some u) : u.state = 5 := by
  unfold passedB at h
  rw [needsOf_get hm, List.all_eq_true] at h
  have := h n hn
  unfold psd at this
  rw [stAt_get hu] at this
  exact of_decide_eq_true this
theorem allEq_st {x y : St} : allEq [.int .u8 x.state, .int .i64 x.tried, .int .i64 x.badge, .int .i64 x.since, .int .i64 x.code, .bool x.played] [.int .u8 y.state, .int .i64 y.tried, .int .i64 y.badge, .int .i64 y.since, .int .i64 y.code, .bool y.played] = decide (x = y) := by
  obtain ⟨a, b, c, d, e, f⟩ := x
  obtain ⟨a', b', c', d', e', f'⟩ := y
  rw [Bool.eq_iff_iff]
  simp [allEq, ceq]
theorem map_get {α β : Type} {f : α → β} {l : List α} {k : Nat} {x : α} (h : l[k]? = some x) : (l.map f)[k]? = some (f x) := by simp [h]
def u8i (b : UInt8) : Int := ((b.toNat : Nat) : Int)
/-! the example -/
def exM : List JobM := [⟨[], 1, 0, false⟩, ⟨[0], 2, 0, false⟩, ⟨[1], 1, 0, true⟩]
def exP (b1 b2 : Nat) : List PJob := [⟨⟨#[]⟩, none, 0, ⟨[], 1, 0, false⟩, none, 0, 0, none, 0, 0, none, 0, 0, none, 0, 0⟩, ⟨⟨#[]⟩, some ⟨b1, 0, none⟩, 1, ⟨[0], 2, 0, false⟩, none, 0, 0, none, 0, 0, none, 0, 0, none, 0, 0⟩,
  ⟨⟨#[]⟩, some ⟨b2, 0, none⟩, 1, ⟨[1], 1, 0, true⟩, none, 0, 0, none, 0, 0, none, 0, 0, none, 0, 0⟩]
theorem exP_m (b1 b2 : Nat) : (exP b1 b2).map PJob.m = exM := rfl
theorem exP_may (b1 b2 : Nat) : mayB ((exP b1 b2).map PJob.m) = true := by rw [exP_m]; decide
theorem exP_needs (b1 b2 : Nat) : ∀ x ∈ exP b1 b2, x.m.needs.length ≤ 2000 := by
  intro x hx
  simp only [exP, List.mem_cons, List.not_mem_nil, or_false] at hx
  rcases hx with rfl | rfl | rfl <;> simp
theorem exP_nds {w : World} {b1 b2 : Nat} (h1 : Ro w (some ⟨b1, 0, none⟩) 1 1 [.int .i64 0]) (h2 : Ro w (some ⟨b2, 0, none⟩) 1 1 [.int .i64 1]) : PNds w [b1, b2] (exP b1 b2) := by
  refine ⟨fun b hb => ?_, fun p hp => ?_⟩
  · simp at hb
    rcases hb with rfl | rfl
    · exact h1.lt b (by simp [ob])
    · exact h2.lt b (by simp [ob])
  · simp only [exP, List.map_cons, List.map_nil, ndP, List.mem_cons, List.not_mem_nil, or_false] at hp
    rcases hp with rfl | rfl | rfl
    · exact ⟨Sl.nil _ _, fun h => absurd rfl h⟩
    · exact ⟨h1.sl, fun _ b hb => by simp [ob] at hb; simp [hb]⟩
    · exact ⟨h2.sl, fun _ b hb => by simp [ob] at hb; simp [hb]⟩
def sx0 : List St := [⟨3, 0, 0, 0, 0, false⟩, ⟨1, 0, 0, 0, 0, false⟩, ⟨1, 0, 0, 0, 0, false⟩]
def sx1 : List St := [⟨4, 1, 7, 3, 0, false⟩, ⟨1, 0, 0, 0, 0, false⟩, ⟨1, 0, 0, 0, 0, false⟩]
def sx2 : List St := [⟨5, 1, 7, 0, 0, false⟩, ⟨3, 0, 0, 0, 0, false⟩, ⟨1, 0, 0, 0, 0, false⟩]
def sx3 : List St := [⟨5, 1, 7, 0, 0, false⟩, ⟨4, 1, 8, 4, 0, false⟩, ⟨1, 0, 0, 0, 0, false⟩]
def sx4 : List St := [⟨5, 1, 7, 0, 0, false⟩, ⟨3, 1, 0, 0, 0, false⟩, ⟨1, 0, 0, 0, 0, false⟩]
def sx5 : List St := [⟨5, 1, 7, 0, 0, false⟩, ⟨4, 2, 9, 5, 0, false⟩, ⟨1, 0, 0, 0, 0, false⟩]
def sx6 : List St := [⟨5, 1, 7, 0, 0, false⟩, ⟨7, 2, 9, 0, 0, false⟩, ⟨10, 0, 0, 0, 0, false⟩]
theorem sx_0 : newL exM = sx0 := by decide
theorem sx_1 : startC sx0 0 7 3 = 0 ∧ startL sx0 0 7 3 = sx1 := by decide
theorem sx_2 : endC sx1 0 7 0 = 0 ∧ endL exM sx1 0 7 0 = sx2 := by decide
theorem sx_3 : endC sx2 0 7 0 = 60 ∧ endL exM sx2 0 7 0 = sx2 := by decide
theorem sx_4 : startC sx2 1 8 4 = 0 ∧ startL sx2 1 8 4 = sx3 := by decide
theorem sx_5 : endC sx3 1 8 2 = 0 ∧ endL exM sx3 1 8 2 = sx4 := by decide
theorem sx_6 : startC sx4 1 9 5 = 0 ∧ startL sx4 1 9 5 = sx5 := by decide
theorem sx_7 : runsC sx5 1 9 = 0 ∧ endsL exM sx5 1 9 7 0 = sx6 := by decide
theorem sx_over : (((picks (fun _ s => !(endd s.state)) sx6).length : Nat) : Int) = 0 := by decide
theorem trx : Tr sx0 ∧ Tr sx2 ∧ Tr sx4 := by unfold Tr; decide
end Go.Sy
