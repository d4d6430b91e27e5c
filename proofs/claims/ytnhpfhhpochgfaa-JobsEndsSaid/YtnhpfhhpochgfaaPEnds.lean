/- Plain: jobs come to their end. No program in sight; no condition. -/
import Derived.Test.YtnhpfhhpochgfaaPJobs2
namespace Go.Sy
set_option linter.unusedVariables false

/-! ### settling, place by place -/
theorem settleTo_stay {M : List JobM} {ss : List St} {k : Nat} : ∀ j, k < j → (settleTo M ss j)[k]? = (settleTo M ss (k + 1))[k]?
  | 0, h => by omega
  | j + 1, h => by
    by_cases e : j = k
    · subst e; rfl
    · rw [← settleTo_stay (M := M) (ss := ss) j (by omega)]
      cases hj : (settleTo M ss j)[j]? with
      | none => rw [settleTo, hj]
      | some s =>
        by_cases h1 : s.state = 1
        · rw [settleTo_one hj h1, List.getElem?_set_ne (by omega)]
        · rw [settleTo_not hj h1]
theorem settleTo_before {M : List JobM} {ss : List St} {k : Nat} : ∀ j, j ≤ k → (settleTo M ss j)[k]? = ss[k]?
  | 0, _ => rfl
  | j + 1, h => by
    rw [← settleTo_before (M := M) (ss := ss) (k := k) j (by omega)]
    cases hj : (settleTo M ss j)[j]? with
    | none => rw [settleTo, hj]
    | some s =>
      by_cases h1 : s.state = 1
      · rw [settleTo_one hj h1, List.getElem?_set_ne (by omega)]
      · rw [settleTo_not hj h1]
theorem settle_at {M : List JobM} {ss : List St} {k : Nat} {s : St} (hs : ss[k]? = some s) (h : s.state = 1) : (settle M ss)[k]? = some { s with state := nxtS M (settleTo M ss k) k } := by
  have hk : (settleTo M ss k)[k]? = some s := by rw [settleTo_before k (Nat.le_refl _)]; exact hs
  have hl := get_lt hs
  unfold settle
  rw [settleTo_stay ss.length hl, settleTo_one hk h]
  exact set_get hk
theorem nxt_congr {M : List JobM} {ss ss' : List St} {k : Nat} (h : ∀ n ∈ needsOf M k, stAt ss n = stAt ss' n) (hp : playedOf ss k = playedOf ss' k) : nxtS M ss k = nxtS M ss' k := by
  have h1 : passedB M ss k = passedB M ss' k := by
    unfold passedB
    rw [Bool.eq_iff_iff, List.all_eq_true, List.all_eq_true]
    constructor <;> intro q n hn <;> have := q n hn <;> unfold psd at * <;> simpa [h n hn] using this
  have h2 : brokenB M ss k = brokenB M ss' k := by
    unfold brokenB
    rw [Bool.eq_iff_iff, List.any_eq_true, List.any_eq_true]
    constructor <;> rintro ⟨n, hn, q⟩ <;> refine ⟨n, hn, ?_⟩ <;> unfold brk at * <;> simpa [h n hn] using q
  unfold nxtS settledS
  rw [h1, h2, hp]
/-- each that waits does so rightly -/
def Settled (M : List JobM) (ss : List St) : Prop := ∀ (k : Nat) s, ss[k]? = some s → s.state = 1 → nxtS M ss k = 1
theorem needs_lt {M : List JobM} (hm : mayB M = true) {k : Nat} {n : Int} (hn : n ∈ needsOf M k) : 0 ≤ n ∧ n.toNat < k := by
  unfold needsOf at hn
  split at hn
  · rename_i m hmm
    have := (jobB_spec ((may_spec hm).2 k m hmm)).2.2.2.2 n hn
    omega
  · cases hn
theorem settled_settle {M : List JobM} (hm : mayB M = true) (ss : List St) : Settled M (settle M ss) := by
  intro k s' hs' h1
  obtain ⟨s, hs⟩ := get_of_len hs' (settle_len M ss)
  by_cases h : s.state = 1
  · have he := settle_at (M := M) hs h
    rw [hs'] at he
    have he2 := Option.some.inj he
    have hn : nxtS M (settleTo M ss k) k = 1 := by rw [he2] at h1; exact h1
    rw [← hn]
    refine (nxt_congr (fun n hn => ?_) ?_).symm
    · obtain ⟨h0, hlt⟩ := needs_lt hm hn
      have hl := get_lt hs
      unfold stAt settle
      rw [settleTo_stay (k := n.toNat) ss.length (by omega), settleTo_stay (k := n.toNat) k hlt]
    · have a1 : playedOf (settleTo M ss k) k = s.played := playedOf_get (by rw [settleTo_before k (Nat.le_refl _)]; exact hs)
      have a2 : playedOf (settle M ss) k = s'.played := playedOf_get hs'
      rw [a1, a2, he2]
  · rw [settle_keep hs h] at hs'
    have := Option.some.inj hs'
    rw [← this] at h1
    exact absurd h1 h
theorem settled_set {M : List JobM} {ss : List St} {i : Nat} {s s' : St} (h : Settled M ss) (hs : ss[i]? = some s) (h3 : s.state = 3) (h4 : s'.state = 4) : Settled M (ss.set i s') := by
  intro k t ht h1
  by_cases e : k = i
  · subst e
    rw [set_get hs] at ht
    have := Option.some.inj ht
    rw [← this] at h1; omega
  · rw [List.getElem?_set_ne (by omega)] at ht
    have hk := h k t ht h1
    have hst : ∀ n : Int, n.toNat = i → stAt ss n = 3 ∧ stAt (ss.set i s') n = 4 := by
      intro n hn
      refine ⟨by rw [stAt_get (by rw [hn]; exact hs), h3], by rw [stAt_get (by rw [hn]; exact set_get hs), h4]⟩
    have hne : ∀ n : Int, n.toNat ≠ i → stAt (ss.set i s') n = stAt ss n := by
      intro n hn
      unfold stAt
      rw [List.getElem?_set_ne (by omega)]
    have hpsd : psd (ss.set i s') = psd ss := by
      funext n
      unfold psd
      by_cases hn : n.toNat = i
      · obtain ⟨a, b⟩ := hst n hn; rw [a, b]; decide
      · rw [hne n hn]
    have hbrk : brk (ss.set i s') = brk ss := by
      funext n
      unfold brk
      by_cases hn : n.toNat = i
      · obtain ⟨a, b⟩ := hst n hn; rw [a, b]; decide
      · rw [hne n hn]
    have hpl : playedOf (ss.set i s') k = playedOf ss k := by unfold playedOf; rw [List.getElem?_set_ne (by omega)]
    unfold nxtS settledS passedB brokenB at *
    rw [hpsd, hbrk, hpl]; exact hk
theorem settled_do {M : List JobM} {ss : List St} {x : JStep} (hm : mayB M = true) (h : Settled M ss) : Settled M (doL M ss x) := by
  have he : ∀ state number, Settled M (endsL M ss x.i x.badge state number) := by
    intro state number
    by_cases hc : runsC ss x.i x.badge = 0
    · rw [endsL_yes hc]; exact settled_settle hm _
    · rw [endsL_no hc]; exact h
  unfold doL
  split
  · unfold startL
    split
    · rename_i hc
      obtain ⟨h1, h3⟩ := start_ok hc
      exact settled_set h (getS_some h1) h3 rfl
    · exact h
  · split
    · unfold endL
      split
      · exact he _ _
      · exact h
    · split; exact he _ _
      split; exact he _ _
      split; exact he _ _
      split
      · unfold cancelL
        split
        · exact settled_settle hm _
        · exact h
      · unfold playL
        split
        · exact settled_settle hm _
        · exact h
theorem settled_new {M : List JobM} (hm : mayB M = true) : Settled M (newL M) := settled_settle hm _
/-- where not all are at their end, one may be moved -/
theorem progress {M : List JobM} {ss : List St} {cs : List Int} (hm : mayB M = true) (hI : Inv M ss cs) (h : Settled M ss) : ∀ (k : Nat) s, ss[k]? = some s → endd s.state = false → ∃ (j : Nat) (t : St), ss[j]? = some t ∧ (t.state = 2 ∨ t.state = 3 ∨ t.state = 4) := by
  intro k
  induction k using Nat.strongRecOn with
  | _ k ih =>
    intro s hs he
    have hr := hI.rg k s hs
    by_cases h1 : s.state = 1
    · have hn := h k s hs h1
      unfold nxtS settledS at hn
      split at hn
      · cases hn
      · rename_i hb
        split at hn
        · rename_i hp
          unfold passedB at hp
          rw [List.all_eq_false] at hp
          obtain ⟨n, hnn, hpn⟩ := hp
          have hbn : brk ss n = false := by
            cases hq : brk ss n with
            | false => rfl
            | true => exact absurd (List.any_eq_true.2 ⟨n, hnn, hq⟩) hb
          obtain ⟨h0, hlt⟩ := needs_lt hm hnn
          have hl := get_lt hs
          obtain ⟨t, ht⟩ := get_some (l := ss) (k := n.toNat) (by omega)
          have hst := stAt_get (n := n) ht
          unfold psd at hpn
          unfold brk at hbn
          rw [hst] at hpn hbn
          have h5 : t.state ≠ 5 := fun e => hpn (by simp [e])
          refine ih n.toNat hlt t ht ?_
          simpa [h5] using hbn
        · split at hn <;> omega
    · refine ⟨k, s, hs, ?_⟩
      simp only [endd, Bool.and_eq_false_iff, decide_eq_false_iff_not] at he
      omega

/-! ### what grows less -/
def phi (m : JobM) (s : St) : Int :=
  if endd s.state = true then 0 else if s.state = 1 then 2 * (m.tries - s.tried) + 2 else if s.state = 2 ∨ s.state = 4 then 2 * (m.tries - s.tried) + 1 else 2 * (m.tries - s.tried)
def Phi : List JobM → List St → Int
  | m :: M, s :: ss => phi m s + Phi M ss
  | _, _ => 0
theorem phi_le : ∀ {M : List JobM} {ss ss' : List St}, ss.length = M.length → ss'.length = M.length → (∀ (i : Nat) m s s', M[i]? = some m → ss[i]? = some s → ss'[i]? = some s' → phi m s' ≤ phi m s) → Phi M ss' ≤ Phi M ss
  | [], ss, ss', _, _, _ => by simp [Phi]
  | m :: M, s :: ss, s' :: ss', h1, h2, h => by
    have a := h 0 m s s' rfl rfl rfl
    have b := phi_le (M := M) (ss := ss) (ss' := ss') (by simpa using h1) (by simpa using h2) (fun i m s s' x y z => h (i + 1) m s s' (by simpa using x) (by simpa using y) (by simpa using z))
    simp only [Phi]; omega
  | m :: M, [], ss', h1, _, _ => by simp at h1
  | m :: M, s :: ss, [], _, h2, _ => by simp at h2
theorem phi_lt : ∀ {M : List JobM} {ss ss' : List St} {k : Nat}, ss.length = M.length → ss'.length = M.length → (∀ (i : Nat) m s s', M[i]? = some m → ss[i]? = some s → ss'[i]? = some s' → phi m s' ≤ phi m s) →
    (∃ m s s', M[k]? = some m ∧ ss[k]? = some s ∧ ss'[k]? = some s' ∧ phi m s' + 1 ≤ phi m s) → Phi M ss' + 1 ≤ Phi M ss
  | [], ss, ss', k, _, _, _, ⟨m, s, s', h, _⟩ => by simp at h
  | m :: M, s :: ss, s' :: ss', 0, h1, h2, h, ⟨m0, s0, s0', g1, g2, g3, g4⟩ => by
    simp at g1 g2 g3
    subst g1; subst g2; subst g3
    have b := phi_le (M := M) (ss := ss) (ss' := ss') (by simpa using h1) (by simpa using h2) (fun i m s s' x y z => h (i + 1) m s s' (by simpa using x) (by simpa using y) (by simpa using z))
    simp only [Phi]; omega
  | m :: M, s :: ss, s' :: ss', k + 1, h1, h2, h, ⟨m0, s0, s0', g1, g2, g3, g4⟩ => by
    have a := h 0 m s s' rfl rfl rfl
    have b := phi_lt (M := M) (ss := ss) (ss' := ss') (k := k) (by simpa using h1) (by simpa using h2) (fun i m s s' x y z => h (i + 1) m s s' (by simpa using x) (by simpa using y) (by simpa using z)) ⟨m0, s0, s0', by simpa using g1, by simpa using g2, by simpa using g3, g4⟩
    simp only [Phi]; omega
  | m :: M, [], ss', k, h1, _, _, _ => by simp at h1
  | m :: M, s :: ss, [], k, _, h2, _, _ => by simp at h2
theorem Phi_nonneg {M : List JobM} {ss : List St} {cs : List Int} (hI : Inv M ss cs) : 0 ≤ Phi M ss := by
  have key : ∀ (M : List JobM) (ss : List St), (∀ (i : Nat) m s, M[i]? = some m → ss[i]? = some s → s.tried ≤ m.tries) → 0 ≤ Phi M ss := by
    intro M
    induction M with
    | nil => intro ss _; simp [Phi]
    | cons m M ih =>
      intro ss h
      cases ss with
      | nil => simp [Phi]
      | cons s ss =>
        have a := h 0 m s rfl rfl
        have b := ih ss (fun i m s x y => h (i + 1) m s (by simpa using x) (by simpa using y))
        have c : 0 ≤ phi m s := by unfold phi; split; omega; split; omega; split <;> omega
        simp only [Phi]; omega
  exact key M ss (fun i m s hm hs => (hI.tr i s m hs hm).2.2.1)
def tsum (M : List JobM) : Int := (M.map JobM.tries).sum
theorem Phi_top {M : List JobM} {ss : List St} {cs : List Int} (hI : Inv M ss cs) : Phi M ss ≤ 2 * tsum M + 2 * (M.length : Int) := by
  have key : ∀ (M : List JobM) (ss : List St), (∀ (i : Nat) m s, M[i]? = some m → ss[i]? = some s → 0 ≤ s.tried ∧ s.tried ≤ m.tries) → ss.length = M.length → Phi M ss ≤ 2 * tsum M + 2 * (M.length : Int) := by
    intro M
    induction M with
    | nil => intro ss _ _; simp [Phi, tsum]
    | cons m M ih =>
      intro ss h hl
      cases ss with
      | nil => simp at hl
      | cons s ss =>
        have a := h 0 m s rfl rfl
        have b := ih ss (fun i m s x y => h (i + 1) m s (by simpa using x) (by simpa using y)) (by simpa using hl)
        have c : phi m s ≤ 2 * m.tries + 2 := by unfold phi; split; omega; split; omega; split <;> omega
        simp only [Phi, tsum, List.map_cons, List.sum_cons, List.length_cons] at *
        omega
  exact key M ss (fun i m s hm hs => by have := hI.tr i s m hs hm; omega) hI.len
theorem cs_sum {M : List JobM} {ss : List St} {cs : List Int} (hI : Inv M ss cs) : cs.sum ≤ tsum M := by
  have key : ∀ (M : List JobM) (cs : List Int), (∀ (i : Nat) m c, M[i]? = some m → cs[i]? = some c → c ≤ m.tries) → cs.length = M.length → cs.sum ≤ tsum M := by
    intro M
    induction M with
    | nil => intro cs _ hl; cases cs with | nil => simp [tsum] | cons => simp at hl
    | cons m M ih =>
      intro cs h hl
      cases cs with
      | nil => simp at hl
      | cons c cs =>
        have a := h 0 m c rfl rfl
        have b := ih cs (fun i m s x y => h (i + 1) m s (by simpa using x) (by simpa using y)) (by simpa using hl)
        simp only [tsum, List.map_cons, List.sum_cons] at *
        omega
  refine key M cs (fun i m c hm hc => ?_) hI.clen
  obtain ⟨s, hs⟩ := get_of_len hm hI.len.symm
  have := hI.tr i s m hs hm
  rw [hc] at this
  have := Option.some.inj this.1
  omega
theorem sum_nonneg {M : List JobM} {ss : List St} {cs : List Int} (hI : Inv M ss cs) : ((0 : Nat) : Int) ≤ cs.sum := by
  have key : ∀ (cs : List Int), (∀ c ∈ cs, 0 ≤ c) → 0 ≤ cs.sum := by
    intro cs
    induction cs with
    | nil => intro _; simp
    | cons c cs ih =>
      intro h
      have a := h c (by simp)
      have b := ih (fun x hx => h x (by simp [hx]))
      simp only [List.sum_cons]; omega
  refine key cs (fun c hc => ?_)
  obtain ⟨i, hi⟩ := List.mem_iff_getElem?.1 hc
  obtain ⟨m, hm⟩ := get_of_len hi hI.clen
  obtain ⟨s, hs⟩ := get_of_len hm hI.len.symm
  have := hI.tr i s m hs hm
  rw [hi] at this
  have := Option.some.inj this.1
  omega
theorem tsum_le {M : List JobM} (hm : mayB M = true) (k : Nat) : 0 ≤ tsum (M.take k) ∧ tsum (M.take k) ≤ 5 * (k : Int) := by
  have key : ∀ (M : List JobM) (k : Nat), (∀ m ∈ M, 0 ≤ m.tries ∧ m.tries ≤ 5) → 0 ≤ tsum (M.take k) ∧ tsum (M.take k) ≤ 5 * (k : Int) := by
    intro M
    induction M with
    | nil => intro k _; simp [tsum]; omega
    | cons m M ih =>
      intro k h
      cases k with
      | zero => simp [tsum]
      | succ k =>
        have a := h m (by simp)
        have b := ih k (fun m hm => h m (by simp [hm]))
        simp only [tsum, List.take_succ_cons, List.map_cons, List.sum_cons] at *
        omega
  refine key M k (fun m hmm => ?_)
  obtain ⟨i, hi⟩ := List.mem_iff_getElem?.1 hmm
  have := jobB_spec ((may_spec hm).2 i m hi)
  omega
theorem tsum_succ {M : List JobM} {k : Nat} {m : JobM} (hm : M[k]? = some m) : tsum (M.take (k + 1)) = tsum (M.take k) + m.tries := by
  obtain ⟨h1, h2⟩ := List.getElem?_eq_some_iff.1 hm
  rw [List.take_succ_eq_append_getElem h1, h2]
  simp [tsum]
theorem sum_set {cs : List Int} {i : Nat} {v w : Int} (h : cs[i]? = some v) : (cs.set i w).sum = cs.sum - v + w := by
  induction cs generalizing i with
  | nil => simp at h
  | cons c cs ih =>
    cases i with
    | zero => simp at h; subst h; simp; omega
    | succ i => simp at h; simp [ih h]; omega

/-! ### one move of a round -/
theorem upd_phi {M : List JobM} {ss ss' : List St} {cs : List Int} (hI : Inv M ss cs) (u : Upd M ss ss') : ∀ (i : Nat) m s s', M[i]? = some m → ss[i]? = some s → ss'[i]? = some s' → phi m s' ≤ phi m s := by
  intro i m s s' hm hs hs'
  obtain ⟨s2, a, b, c⟩ := u.2 i s hs
  rw [hs'] at a
  obtain rfl := Option.some.inj a
  by_cases h1 : s.state = 1
  · obtain ⟨c1, c2⟩ := c h1
    have ht : s'.tried = s.tried := by rw [c1]
    have := hI.tr i s m hs hm
    have e1 : phi m s = 2 * (m.tries - s.tried) + 2 := by unfold phi; rw [h1]; rfl
    rw [e1]
    unfold phi
    split
    · omega
    · split
      · omega
      · split <;> omega
  · rw [b h1]; exact Int.le_refl _
theorem phi_set {M : List JobM} {ss : List St} {k : Nat} {m : JobM} {s s' : St} (hl : ss.length = M.length) (hm : M[k]? = some m) (hs : ss[k]? = some s) (h : phi m s' + 1 ≤ phi m s) : Phi M (ss.set k s') + 1 ≤ Phi M ss := by
  refine phi_lt (k := k) hl (by rw [List.length_set]; exact hl) (fun i m2 t t' hm2 ht ht' => ?_) ⟨m, s, s', hm, hs, set_get hs, h⟩
  by_cases e : i = k
  · subst e
    rw [set_get hs] at ht'
    rw [hm] at hm2; rw [hs] at ht
    cases hm2; cases ht; cases ht'
    omega
  · rw [List.getElem?_set_ne (by omega), ht] at ht'
    cases ht'; exact Int.le_refl _
theorem end_phi {M : List JobM} {ss : List St} {cs : List Int} {i badge number : Int} (hm : mayB M = true) (hI : Inv M ss cs) (hc : endC ss i badge number = 0) : Phi M (endL M ss i badge number) + 1 ≤ Phi M ss := by
  have hr := end_runs hc
  obtain ⟨h1, h4, _⟩ := runs_ok hr
  have hg := getS_some h1
  obtain ⟨m, hmm⟩ := get_of_len hg hI.len
  have htr := hI.tr _ _ m hg hmm
  have e0 : phi m (getS ss i) = 2 * (m.tries - (getS ss i).tried) + 1 := by unfold phi; rw [h4]; rfl
  have key : ∀ state number', (state = 5 ∨ state = 6) → Phi M (endsL M ss i badge state number') + 1 ≤ Phi M ss := by
    intro state number' hst
    rw [endsL_yes hr]
    have hp := hI.ps _ _ hg (by omega)
    have hI2 : Inv M (ss.set i.toNat (endS M (getS ss i) i.toNat badge state number')) cs := by
      refine inv_set0 hI hg hmm (by omega) (endS_tried ..) ?_ ?_ (fun _ => hp) ?_
      · rw [endS_tried]
        unfold endS
        split
        · rename_i hh; intro _; rw [triesOf_get hmm] at hh; exact hh.2
        · intro h3; simp at h3; omega
      · unfold endS; split <;> (intro h3; simp at h3; try omega)
      · unfold endS; split <;> simp <;> omega
    have a : Phi M (settle M (ss.set i.toNat (endS M (getS ss i) i.toNat badge state number'))) ≤ Phi M (ss.set i.toNat (endS M (getS ss i) i.toNat badge state number')) :=
      phi_le hI2.len ((settle_len M _).trans hI2.len) (upd_phi hI2 (upd_settle M _))
    have b : Phi M (ss.set i.toNat (endS M (getS ss i) i.toNat badge state number')) + 1 ≤ Phi M ss := by
      refine phi_set hI.len hmm hg ?_
      rw [e0]
      unfold endS
      split
      · unfold phi; simp [endd]
      · rcases hst with rfl | rfl <;> (unfold phi; simp [endd]; omega)
    omega
  unfold endL
  rw [if_pos hc]
  split
  · exact key 5 number (.inl rfl)
  · exact key 6 number (.inr rfl)
theorem start_phi {M : List JobM} {ss : List St} {cs : List Int} {i badge now : Int} (hI : Inv M ss cs) (hc : startC ss i badge now = 0) : Phi M (startL ss i badge now) + 1 ≤ Phi M ss := by
  obtain ⟨h1, h3⟩ := start_ok hc
  have hg := getS_some h1
  obtain ⟨m, hmm⟩ := get_of_len hg hI.len
  have htr := hI.tr _ _ m hg hmm
  unfold startL
  rw [if_pos hc]
  refine phi_set hI.len hmm hg ?_
  have e0 : phi m (getS ss i) = 2 * (m.tries - (getS ss i).tried) := by unfold phi; rw [h3]; rfl
  rw [e0]
  unfold phi; simp [endd]; omega
theorem play_phi {M : List JobM} {ss : List St} {cs : List Int} {i : Int} (hm : mayB M = true) (hI : Inv M ss cs) (hc : playC ss i = 0) : Phi M (playL M ss i) + 1 ≤ Phi M ss := by
  obtain ⟨h1, h2⟩ := play_ok hc
  have hg := getS_some h1
  obtain ⟨m, hmm⟩ := get_of_len hg hI.len
  have htr := hI.tr _ _ m hg hmm
  have hp := hI.ps _ _ hg (by omega)
  unfold playL
  rw [if_pos hc]
  generalize hs' : ({ getS ss i with played := true, state := 1 } : St) = s'
  have hs1 : s'.state = 1 := by rw [← hs']
  have hst : s'.tried = (getS ss i).tried := by rw [← hs']
  have hspl : s'.played = true := by rw [← hs']
  have hset : (ss.set i.toNat s')[i.toNat]? = some s' := set_get hg
  have hI2 : Inv M (ss.set i.toNat s') cs := inv_set0 hI hg hmm (by omega) hst (by omega) (fun _ => by have := htr.2.2.2.2 (.inr h2); omega) (by omega) (by omega)
  have mono : ∀ n, psd ss n = true → psd (ss.set i.toNat s') n = true := by
    intro n hn
    unfold psd stAt at *
    by_cases e : n.toNat = i.toNat
    · rw [e, hg] at hn
      have := of_decide_eq_true hn
      simp only [] at this
      omega
    · rw [List.getElem?_set_ne (by omega)]; exact hn
  have hp2 : passedB M (settleTo M (ss.set i.toNat s') i.toNat) i.toNat = true := by rw [upd_passed (upd_to M _ _)]; exact psd_mono_passed mono hp
  have hnb : brokenB M (settleTo M (ss.set i.toNat s') i.toNat) i.toNat = false := by
    unfold brokenB
    rw [List.any_eq_false]
    intro n hn
    unfold passedB at hp2
    rw [List.all_eq_true] at hp2
    have := hp2 n hn
    unfold psd at this
    unfold brk
    simp [of_decide_eq_true this]
  have hpl : playedOf (settleTo M (ss.set i.toNat s') i.toNat) i.toNat = true := by rw [playedOf_get (by rw [settleTo_before _ (Nat.le_refl _)]; exact hset), hspl]
  have hn3 : nxtS M (settleTo M (ss.set i.toNat s') i.toNat) i.toNat = 3 := by unfold nxtS settledS; simp [hp2, hnb, hpl]
  have hat := settle_at (M := M) hset hs1
  rw [hn3] at hat
  have e0 : phi m (getS ss i) = 2 * (m.tries - (getS ss i).tried) + 1 := by unfold phi; rw [h2]; rfl
  refine phi_lt (k := i.toNat) hI.len ((settle_len M _).trans hI2.len) (fun j m2 t t' hm2 ht ht' => ?_) ⟨m, getS ss i, _, hmm, hg, hat, ?_⟩
  · by_cases e : j = i.toNat
    · subst e
      rw [hat] at ht'
      rw [hmm] at hm2; rw [hg] at ht
      cases hm2; cases ht; cases ht'
      rw [e0]; unfold phi; simp [endd]; omega
    · exact upd_phi hI2 (upd_settle M _) j m2 t t' hm2 (by rw [List.getElem?_set_ne (by omega)]; exact ht) ht'
  · rw [e0]; unfold phi; simp [endd]; omega
/-- a job that waits not, and is not moved, stays -/
theorem do_other {M : List JobM} {ss : List St} {x : JStep} {k : Nat} {s : St} (hs : ss[k]? = some s) (h1 : s.state ≠ 1) (hk : (k : Int) ≠ x.i) : (doL M ss x)[k]? = some s := by
  have hends : ∀ state number, (endsL M ss x.i x.badge state number)[k]? = some s := fun state number => ends_keep hs h1 (.inl hk)
  have hset : ∀ s', 0 ≤ x.i → (ss.set x.i.toNat s')[k]? = some s := fun s' h0 => by rw [List.getElem?_set_ne (by omega)]; exact hs
  unfold doL
  split
  · unfold startL
    split
    · rename_i hc; exact hset _ (start_ok hc).1.1
    · exact hs
  · split
    · unfold endL
      split
      · exact hends _ _
      · exact hs
    · split; exact hends _ _
      split; exact hends _ _
      split; exact hends _ _
      split
      · unfold cancelL
        split
        · rename_i hc; exact settle_keep (hset _ (cancel_ok hc).1.1) h1
        · exact hs
      · unfold playL
        split
        · rename_i hc; exact settle_keep (hset _ (play_ok hc).1.1) h1
        · exact hs
theorem play_zero {ss : List St} {k : Nat} {s : St} (hs : ss[k]? = some s) (h : s.state = 2) : playC ss (k : Int) = 0 := by
  have hl := get_lt hs
  unfold playC
  rw [if_neg (by omega), getS_get (by simpa using hs), if_neg (by omega)]
theorem end_zero {ss : List St} {k : Nat} {s : St} {code : Int} (hs : ss[k]? = some s) (h : s.state = 4) (h0 : 0 ≤ code) (h1 : code ≤ 999) : endC ss (k : Int) s.badge code = 0 := by
  have hl := get_lt hs
  unfold endC runsC
  rw [if_neg (by omega), if_neg (by omega), if_neg (by omega), getS_get (by simpa using hs), if_neg (by simp [h])]
theorem start_zero {ss : List St} {k : Nat} {s : St} {badge now : Int} (hs : ss[k]? = some s) (h : s.state = 3) (h0 : 1 ≤ badge) (h1 : badge ≤ 2147483647) (h2 : 0 ≤ now) (h3 : now ≤ 2147483647) : startC ss (k : Int) badge now = 0 := by
  have hl := get_lt hs
  unfold startC
  rw [if_neg (by omega), if_neg (by omega), getS_get (by simpa using hs), if_neg (by omega)]
theorem start_get {ss : List St} {k : Nat} {s : St} {badge now : Int} (hs : ss[k]? = some s) (hc : startC ss (k : Int) badge now = 0) : (startL ss (k : Int) badge now)[k]? = some ⟨4, s.tried + 1, badge, now, 0, s.played⟩ := by
  unfold startL
  rw [if_pos hc, getS_get (by simpa using hs)]
  simpa using set_get (y := (⟨4, s.tried + 1, badge, now, 0, s.played⟩ : St)) hs
/-! picks -/
theorem picks_zero {p : Nat → St → Bool} {ss : List St} : (picks p ss).length = 0 ↔ ∀ (k : Nat) s, ss[k]? = some s → p k s = false := by
  have key : ∀ j, j ≤ ss.length → ((picksTo p ss j).length = 0 ↔ ∀ (k : Nat) s, k < j → ss[k]? = some s → p k s = false) := by
    intro j
    induction j with
    | zero => intro _; simp [picksTo]
    | succ j ih =>
      intro hj
      obtain ⟨t, ht⟩ := get_some (l := ss) (k := j) (by omega)
      cases hp : p j t with
      | true =>
        rw [picks_yes ht hp]
        constructor
        · intro h; simp at h
        · intro h; have := h j t (by omega) ht; rw [hp] at this; cases this
      | false =>
        rw [picks_no ht hp, ih (by omega)]
        constructor
        · intro h k s hk hs
          by_cases e : k = j
          · subst e; rw [ht] at hs; cases hs; exact hp
          · exact h k s (by omega) hs
        · intro h k s hk hs; exact h k s (by omega) hs
  unfold picks
  rw [key ss.length (Nat.le_refl _)]
  constructor
  · intro h k s hs; exact h k s (get_lt hs) hs
  · intro h k s _ hs; exact h k s hs
theorem over_ready {ss : List St} (h : (((picks (fun _ s => !(endd s.state)) ss).length : Nat) : Int) = 0) : (((picks (fun _ s => decide (s.state = 3)) ss).length : Nat) : Int) = 0 := by
  have h1 := picks_zero.1 (by omega : (picks (fun _ s => !(endd s.state)) ss).length = 0)
  have h2 : (picks (fun _ s => decide (s.state = 3)) ss).length = 0 := picks_zero.2 (fun k s hs => by
    have := h1 k s hs
    simp only [Bool.not_eq_false'] at this
    apply decide_eq_false
    intro h3
    rw [h3] at this
    simp [endd] at this)
  omega
theorem not_over {ss : List St} (h : ¬ (((picks (fun _ s => !(endd s.state)) ss).length : Nat) : Int) = 0) : ∃ (k : Nat) (s : St), ss[k]? = some s ∧ endd s.state = false := by
  apply Classical.byContradiction
  intro hn
  apply h
  have : (picks (fun _ s => !(endd s.state)) ss).length = 0 := picks_zero.2 (fun k s hs => by
    cases he : endd s.state with
    | true => rfl
    | false => exact absurd ⟨k, s, hs, he⟩ hn)
  omega
/-- how a round goes: sn is how they stood at its begin, cur how they stand ahead of job q -/
structure Round (M : List JobM) (sn cur : List St) (cs : List Int) (q : Nat) (st : Nat) : Prop where
  inv : Inv M cur cs
  set : Settled M cur
  keep : ∀ (j : Nat) s, q ≤ j → sn[j]? = some s → s.state ≠ 1 → cur[j]? = some s
  le : Phi M cur ≤ Phi M sn
  lt : (∃ (j : Nat) (s : St), j < q ∧ sn[j]? = some s ∧ (s.state = 2 ∨ s.state = 3 ∨ s.state = 4)) → Phi M cur + 1 ≤ Phi M sn
  sum : (st : Int) ≤ cs.sum
theorem round_start {M : List JobM} {sn : List St} {cs : List Int} {st : Nat} (hI : Inv M sn cs) (hs : Settled M sn) (h : (st : Int) ≤ cs.sum) : Round M sn sn cs 0 st :=
  ⟨hI, hs, fun _ _ _ h _ => h, Int.le_refl _, fun ⟨j, _, hj, _⟩ => absurd hj (by omega), h⟩
theorem round_skip {M : List JobM} {sn cur : List St} {cs : List Int} {q st : Nat} {s : St} (h : Round M sn cur cs q st) (hs : sn[q]? = some s) (hn : ¬ (s.state = 2 ∨ s.state = 3 ∨ s.state = 4)) : Round M sn cur cs (q + 1) st :=
  ⟨h.inv, h.set, fun j t hj => h.keep j t (by omega), h.le, fun ⟨j, t, hj, ht, h3⟩ => h.lt ⟨j, t, by
    by_cases e : j = q
    · subst e; rw [hs] at ht; cases ht; exact absurd h3 hn
    · omega, ht, h3⟩, h.sum⟩
theorem round_play {M : List JobM} {sn cur : List St} {cs : List Int} {q st : Nat} {s : St} (hm : mayB M = true) (h : Round M sn cur cs q st) (hs : sn[q]? = some s) (h2 : s.state = 2) : Round M sn (playL M cur (q : Int)) cs (q + 1) st := by
  have hc := h.keep q s (Nat.le_refl _) hs (by omega)
  have hz := play_zero hc h2
  have ed : doL M cur ⟨6, (q : Int), 0, 0⟩ = playL M cur (q : Int) := by simp [doL]
  have eb : bump cs ⟨6, (q : Int), 0, 0⟩ (doC cur ⟨6, (q : Int), 0, 0⟩) = cs := by simp [bump]
  have hi := inv_do (x := ⟨6, (q : Int), 0, 0⟩) hm h.inv
  have hst := settled_do (x := ⟨6, (q : Int), 0, 0⟩) hm h.set
  rw [ed, eb] at hi
  rw [ed] at hst
  have hp := play_phi hm h.inv hz
  refine ⟨hi, hst, fun j t hj ht h1 => ?_, by have := h.le; omega, fun _ => by have := h.le; omega, h.sum⟩
  rw [← ed]
  exact do_other (h.keep j t (by omega) ht h1) h1 (by show (j : Int) ≠ (q : Int); omega)
theorem round_end {M : List JobM} {sn cur : List St} {cs : List Int} {q st : Nat} {s : St} {code : Int} (hm : mayB M = true) (h : Round M sn cur cs q st) (hs : sn[q]? = some s) (h4 : s.state = 4) (h0 : 0 ≤ code) (h9 : code ≤ 999) : Round M sn (endL M cur (q : Int) s.badge code) cs (q + 1) st := by
  have hc := h.keep q s (Nat.le_refl _) hs (by omega)
  have hz := end_zero (code := code) hc h4 h0 h9
  have ed : doL M cur ⟨1, (q : Int), s.badge, code⟩ = endL M cur (q : Int) s.badge code := by simp [doL]
  have eb : bump cs ⟨1, (q : Int), s.badge, code⟩ (doC cur ⟨1, (q : Int), s.badge, code⟩) = cs := by simp [bump]
  have hi := inv_do (x := ⟨1, (q : Int), s.badge, code⟩) hm h.inv
  have hst := settled_do (x := ⟨1, (q : Int), s.badge, code⟩) hm h.set
  rw [ed, eb] at hi
  rw [ed] at hst
  have hp := end_phi hm h.inv hz
  refine ⟨hi, hst, fun j t hj ht h1 => ?_, by have := h.le; omega, fun _ => by have := h.le; omega, h.sum⟩
  rw [← ed]
  exact do_other (h.keep j t (by omega) ht h1) h1 (by show (j : Int) ≠ (q : Int); omega)
theorem round_run {M : List JobM} {sn cur : List St} {cs : List Int} {q st : Nat} {s : St} {badge now code : Int} (hm : mayB M = true) (h : Round M sn cur cs q st) (hs : sn[q]? = some s) (h3 : s.state = 3) (hb0 : 1 ≤ badge) (hb1 : badge ≤ 2147483647) (hn0 : 0 ≤ now) (hn1 : now ≤ 2147483647) (h0 : 0 ≤ code) (h9 : code ≤ 999) :
    startC cur (q : Int) badge now = 0 ∧ endC (startL cur (q : Int) badge now) (q : Int) badge code = 0 ∧ Tr cur ∧ ∃ cs', Round M sn (endL M (startL cur (q : Int) badge now) (q : Int) badge code) cs' (q + 1) (st + 1) := by
  have hc := h.keep q s (Nat.le_refl _) hs (by omega)
  have hz := start_zero hc h3 hb0 hb1 hn0 hn1
  have hg := start_get hc hz
  have hz2 : endC (startL cur (q : Int) badge now) (q : Int) badge code = 0 := end_zero (code := code) hg rfl h0 h9
  refine ⟨hz, hz2, inv_tr hm h.inv, ?_⟩
  have ed : doL M cur ⟨0, (q : Int), badge, now⟩ = startL cur (q : Int) badge now := by simp [doL]
  have ec : doC cur ⟨0, (q : Int), badge, now⟩ = 0 := by simpa [doC] using hz
  have hi := inv_do (x := ⟨0, (q : Int), badge, now⟩) hm h.inv
  have hst := settled_do (x := ⟨0, (q : Int), badge, now⟩) hm h.set
  rw [ed, ec] at hi
  rw [ed] at hst
  have eb : bump cs ⟨0, (q : Int), badge, now⟩ 0 = cs.set q (csAt cs q + 1) := by simp [bump]
  rw [eb] at hi
  obtain ⟨m, hmm⟩ := get_of_len hc h.inv.len
  have ht := (h.inv.tr q s m hc hmm).1
  rw [csAt_get ht] at hi
  have hsum := sum_set (w := s.tried + 1) ht
  have hp1 := start_phi h.inv hz
  have hk1 : ∀ (j : Nat) t, q + 1 ≤ j → sn[j]? = some t → t.state ≠ 1 → (startL cur (q : Int) badge now)[j]? = some t := by
    intro j t hj ht' h1
    rw [← ed]
    exact do_other (h.keep j t (by omega) ht' h1) h1 (by show (j : Int) ≠ (q : Int); omega)
  have ed2 : doL M (startL cur (q : Int) badge now) ⟨1, (q : Int), badge, code⟩ = endL M (startL cur (q : Int) badge now) (q : Int) badge code := by simp [doL]
  have eb2 : ∀ c, bump (cs.set q (s.tried + 1)) ⟨1, (q : Int), badge, code⟩ c = cs.set q (s.tried + 1) := by intro c; simp [bump]
  have hi2 := inv_do (x := ⟨1, (q : Int), badge, code⟩) hm hi
  have hst2 := settled_do (x := ⟨1, (q : Int), badge, code⟩) hm hst
  rw [ed2, eb2] at hi2
  rw [ed2] at hst2
  have hp2 := end_phi hm hi hz2
  refine ⟨cs.set q (s.tried + 1), hi2, hst2, fun j t hj ht' h1 => ?_, by have := h.le; omega, fun _ => by have := h.le; omega, by rw [hsum]; have := h.sum; omega⟩
  rw [← ed2]
  exact do_other (hk1 j t hj ht' h1) h1 (by show (j : Int) ≠ (q : Int); omega)
theorem round_done {M : List JobM} {sn cur : List St} {cs cs0 : List Int} {q st : Nat} (hm : mayB M = true) (h0 : Inv M sn cs0) (hs : Settled M sn) (hn : ¬ (((picks (fun _ s => !(endd s.state)) sn).length : Nat) : Int) = 0) (h : Round M sn cur cs q st) (hq : sn.length ≤ q) : Phi M cur + 1 ≤ Phi M sn := by
  obtain ⟨k, s, hk, he⟩ := not_over hn
  obtain ⟨j, t, ht, h3⟩ := progress hm h0 hs k s hk he
  exact h.lt ⟨j, t, by have := get_lt ht; omega, ht, h3⟩
end Go.Sy
