/- The plain side of retro: the spans hold just the times at which two lines differ; they increase and lie apart. No program in sight. -/
import Derived.Test.YtkoeplbkeboklaaM8
set_option linter.unusedVariables false
namespace Go.Proofs.Ytkoeplbkeboklaa
theorem runP_congr {k t t' : Int} {l : List Step} (h : ∀ s ∈ l, s.at_ ≤ t ↔ s.at_ ≤ t') : runP k t l = runP k t' l := by
  unfold runP
  suffices ∀ th, l.foldl (stepT k t) th = l.foldl (stepT k t') th from this []
  induction l with
  | nil => intro th; rfl
  | cons s l ih =>
    intro th
    have e : stepT k t th s = stepT k t' th s := by
      unfold stepT
      have := h s (by simp)
      by_cases hs : s.at_ ≤ t
      · rw [if_pos hs, if_pos (this.1 hs)]
      · rw [if_neg hs, if_neg fun h2 => hs (this.2 h2)]
    rw [List.foldl_cons, List.foldl_cons, e]
    exact ih (fun s hs => h s (by simp [hs])) _
theorem thereP_congr {k t t' : Int} {l : List Step} (h : ∀ s ∈ l, s.at_ ≤ t ↔ s.at_ ≤ t') : thereP k l t = thereP k l t' := by
  unfold thereP; rw [runP_congr h]
theorem runP_before {k t : Int} {l : List Step} (h : ∀ s ∈ l, t < s.at_) : runP k t l = [] := by
  unfold runP
  induction l with
  | nil => rfl
  | cons s l ih =>
    have : stepT k t [] s = [] := by unfold stepT; rw [if_neg]; have := h s (by simp); omega
    rw [List.foldl_cons, this]
    exact ih fun s hs => h s (by simp [hs])
/-- What the spans are to be, up to a time: D is 'they differ'. -/
structure SpansTo (D : Int → Prop) (out : List Span) (T : Int) : Prop where
  form : ∀ d ∈ out, 0 ≤ d.from_ ∧ d.from_ ≤ d.to_ ∧ d.to_ < T
  apart : out.Pairwise fun d e => d.to_ + 1 < e.from_
  cover : ∀ t, 0 ≤ t → t < T → ((∃ d ∈ out, d.from_ ≤ t ∧ t ≤ d.to_) ↔ D t)
theorem addSpan_cases (out : List Span) (t1 t2 : Int) : (∃ l x, out = l ++ [x] ∧ x.to_ = t1 - 1 ∧ addSpan out t1 t2 = l ++ [{ x with to_ := t2 - 1 }]) ∨ ((∀ l x, out = l ++ [x] → x.to_ ≠ t1 - 1) ∧ addSpan out t1 t2 = out ++ [⟨t1, t2 - 1⟩]) := by
  rcases List.eq_nil_or_concat out with rfl | ⟨l, x, rfl⟩
  · exact .inr ⟨fun l x h => by simp at h, rfl⟩
  · rw [List.concat_eq_append]
    by_cases h : x.to_ = t1 - 1
    · exact .inl ⟨l, x, rfl, h, by simp [addSpan, h]⟩
    · refine .inr ⟨fun l' x' he => ?_, by simp [addSpan, h]⟩
      have := List.append_inj' he rfl
      simp at this
      rw [← this.2]; exact h
theorem SpansTo.skip {D : Int → Prop} {out : List Span} {t1 t2 : Int} (h : SpansTo D out t1) (h12 : t1 < t2) (hD : ∀ t, t1 ≤ t → t < t2 → ¬ D t) : SpansTo D out t2 := by
  refine ⟨fun d hd => by have := h.form d hd; omega, h.apart, fun t h0 ht => ?_⟩
  by_cases hlt : t < t1
  · exact h.cover t h0 hlt
  · refine ⟨fun ⟨d, hd, h1, h2⟩ => ?_, fun hd => absurd hd (hD t (by omega) ht)⟩
    have := h.form d hd
    omega
theorem SpansTo.add {D : Int → Prop} {out : List Span} {t1 t2 : Int} (h : SpansTo D out t1) (h0 : 0 ≤ t1) (h12 : t1 < t2) (hD : ∀ t, t1 ≤ t → t < t2 → D t) : SpansTo D (addSpan out t1 t2) t2 := by
  rcases addSpan_cases out t1 t2 with ⟨l, x, rfl, hx, he⟩ | ⟨hne, he⟩
  · rw [he]
    have hp := List.pairwise_append.1 h.apart
    refine ⟨fun d hd => ?_, List.pairwise_append.2 ⟨hp.1, by simp, fun a ha b hb => ?_⟩, fun t ht0 ht => ?_⟩
    · rcases List.mem_append.1 hd with hd | hd
      · have := h.form d (by simp [hd]); omega
      · simp at hd; subst hd
        have := h.form x (by simp)
        exact ⟨this.1, by show x.from_ ≤ t2 - 1; omega, by show t2 - 1 < t2; omega⟩
    · simp at hb; subst hb
      exact hp.2.2 a ha x (by simp)
    · by_cases hlt : t < t1
      · rw [← h.cover t ht0 hlt]
        constructor
        · rintro ⟨d, hd, h1, h2⟩
          rcases List.mem_append.1 hd with hd | hd
          · exact ⟨d, by simp [hd], h1, h2⟩
          · simp at hd; subst hd
            exact ⟨x, by simp, h1, by omega⟩
        · rintro ⟨d, hd, h1, h2⟩
          rcases List.mem_append.1 hd with hd | hd
          · exact ⟨d, by simp [hd], h1, h2⟩
          · simp at hd; subst hd
            exact ⟨{ d with to_ := t2 - 1 }, List.mem_append.2 (.inr (List.mem_singleton.2 rfl)), h1, by show t ≤ t2 - 1; omega⟩
      · refine ⟨fun _ => hD t (by omega) ht, fun _ => ⟨_, List.mem_append.2 (.inr (List.mem_singleton.2 rfl)), ?_, ?_⟩⟩
        · have := h.form x (by simp); show x.from_ ≤ t; omega
        · show t ≤ t2 - 1; omega
  · rw [he]
    refine ⟨fun d hd => ?_, List.pairwise_append.2 ⟨h.apart, by simp, fun a ha b hb => ?_⟩, fun t ht0 ht => ?_⟩
    · rcases List.mem_append.1 hd with hd | hd
      · have := h.form d hd; omega
      · simp at hd; subst hd
        exact ⟨h0, by show t1 ≤ t2 - 1; omega, by show t2 - 1 < t2; omega⟩
    · simp at hb; subst hb
      show a.to_ + 1 < t1
      have ha2 := h.form a ha
      rcases List.eq_nil_or_concat out with rfl | ⟨l, x, rfl⟩
      · simp at ha
      · rw [List.concat_eq_append] at *
        have hx := hne l x rfl
        have hxf := h.form x (by simp)
        rcases List.mem_append.1 ha with ha | ha
        · have := (List.pairwise_append.1 h.apart).2.2 a ha x (by simp)
          omega
        · simp at ha; subst ha; omega
    · by_cases hlt : t < t1
      · rw [← h.cover t ht0 hlt]
        constructor
        · rintro ⟨d, hd, h1, h2⟩
          rcases List.mem_append.1 hd with hd | hd
          · exact ⟨d, hd, h1, h2⟩
          · simp at hd; subst hd
            exact absurd h1 (by show ¬ t1 ≤ t; omega)
        · rintro ⟨d, hd, h1, h2⟩
          exact ⟨d, by simp [hd], h1, h2⟩
      · exact ⟨fun _ => hD t (by omega) ht, fun _ => ⟨⟨t1, t2 - 1⟩, by simp, by show t1 ≤ t; omega, by show t ≤ t2 - 1; omega⟩⟩
theorem diffFrom_spans {k : Int} {a b : List Step} : ∀ {ts : List Int} {out : List Span} {t1 : Int}, ((t1 :: ts).Pairwise fun x y => x < y) → 0 ≤ t1 → (∀ s ∈ a ++ b, t1 ≤ s.at_ → s.at_ ∈ t1 :: ts) → SpansTo (fun t => thereP k a t ≠ thereP k b t) out t1 →
    ∃ T, T = (t1 :: ts).getLast (by simp) ∧ SpansTo (fun t => thereP k a t ≠ thereP k b t) (diffFrom k a b (t1 :: ts) out) T
  | [], out, t1, _, _, _, h => ⟨t1, rfl, by rw [diffFrom]; exact h; rintro _ _ _ h; simp at h⟩
  | t2 :: ts, out, t1, hp, h0, hm, h => by
    obtain ⟨hp1, hp2⟩ := List.pairwise_cons.1 hp
    have h12 := hp1 t2 (by simp)
    have hno : ∀ s ∈ a ++ b, ∀ t, t1 ≤ t → t < t2 → (s.at_ ≤ t ↔ s.at_ ≤ t1) := fun s hs t h1 h2 => by
      refine ⟨fun h3 => ?_, fun h3 => by omega⟩
      by_cases h4 : s.at_ ≤ t1
      · exact h4
      · exfalso
        have := hm s hs (by omega)
        rcases List.mem_cons.1 this with h5 | h5
        · omega
        · rcases List.mem_cons.1 h5 with h6 | h6
          · omega
          · have := (List.pairwise_cons.1 hp2).1 _ h6; omega
    have hsame : ∀ t, t1 ≤ t → t < t2 → thereP k a t = thereP k a t1 ∧ thereP k b t = thereP k b t1 := fun t h1 h2 =>
      ⟨thereP_congr fun s hs => hno s (by simp [hs]) t h1 h2, thereP_congr fun s hs => hno s (by simp [hs]) t h1 h2⟩
    have hm2 : ∀ s ∈ a ++ b, t2 ≤ s.at_ → s.at_ ∈ t2 :: ts := fun s hs hle => by
      rcases List.mem_cons.1 (hm s hs (by omega)) with h5 | h5
      · omega
      · exact h5
    rw [diffFrom]
    have hnext : SpansTo (fun t => thereP k a t ≠ thereP k b t) (if thereP k a t1 = thereP k b t1 then out else addSpan out t1 t2) t2 := by
      split
      · rename_i he
        exact h.skip h12 fun t h1 h2 => by rw [(hsame t h1 h2).1, (hsame t h1 h2).2]; simpa using he
      · rename_i he
        exact h.add h0 h12 fun t h1 h2 => by rw [(hsame t h1 h2).1, (hsame t h1 h2).2]; exact he
    obtain ⟨T, hT, hS⟩ := diffFrom_spans hp2 (by omega) hm2 hnext
    exact ⟨T, by rw [hT]; simp, hS⟩
theorem diffOf_spans {k : Int} {a b : List Step} (ht : ∀ s ∈ a ++ b, 0 ≤ s.at_ ∧ s.at_ ≤ 1000) : SpansTo (fun t => thereP k a t ≠ thereP k b t) (diffOf k a b) 1001 := by
  unfold diffOf
  have hr := timesP_range ht
  have hs := timesP_strict (a ++ b)
  have hm : ∀ s ∈ a ++ b, s.at_ ∈ timesP (a ++ b) := fun s hs => (timesP_members _).2 (.inr (List.mem_map_of_mem hs))
  have hl : (1001 : Int) ∈ timesP (a ++ b) := (timesP_members _).2 (.inl rfl)
  generalize timesP (a ++ b) = ts at *
  match ts, hl with
  | t1 :: ts, hl =>
    have h0 := (hr t1 (by simp)).1
    have hfirst : ∀ t, t < t1 → ¬ (thereP k a t ≠ thereP k b t) := fun t hlt h => h (by
      have hb : ∀ s ∈ a ++ b, t < s.at_ := fun s hs' => by
        rcases List.mem_cons.1 (hm s hs') with h5 | h5
        · omega
        · have := (List.pairwise_cons.1 hs).1 _ h5; omega
      unfold thereP
      rw [runP_before fun s hs' => hb s (by simp [hs']), runP_before fun s hs' => hb s (by simp [hs'])])
    obtain ⟨T, hT, hS⟩ := diffFrom_spans (k := k) (a := a) (b := b) (out := []) hs h0 (fun s hs' _ => hm s hs') ⟨fun d hd => by simp at hd, .nil, fun t _ hlt => ⟨fun ⟨d, hd, _⟩ => by simp at hd, fun hd => absurd hd (hfirst t hlt)⟩⟩
    have hTl : T = 1001 := by
      have h1 : T ≤ 1001 := by rw [hT]; exact (hr _ (List.getLast_mem _)).2
      have h2 : 1001 ≤ T := by
        rw [hT]
        rcases List.eq_nil_or_concat (t1 :: ts) with h | ⟨l, x, h⟩
        · simp at h
        · rw [List.concat_eq_append] at h
          have hg : (t1 :: ts).getLast (by simp) = x := by simp [h]
          rw [hg]
          rw [h] at hl hs
          rcases List.mem_append.1 hl with hl | hl
          · have := (List.pairwise_append.1 hs).2.2 _ hl x (by simp); omega
          · simp at hl; omega
      omega
    rw [hTl] at hS
    exact hS
theorem diffFrom_same {k : Int} {a : List Step} : ∀ (ts : List Int) (out : List Span), diffFrom k a a ts out = out
  | [], out => by rw [diffFrom]; rintro _ _ _ h; simp at h
  | [t], out => by rw [diffFrom]; rintro _ _ _ h; simp at h
  | t1 :: t2 :: ts, out => by rw [diffFrom, if_pos rfl]; exact diffFrom_same (t2 :: ts) out
theorem diffOf_same (k : Int) (a : List Step) : diffOf k a a = [] := diffFrom_same _ _
theorem diffFrom_comm {k : Int} {a b : List Step} : ∀ (ts : List Int) (out : List Span), diffFrom k a b ts out = diffFrom k b a ts out
  | [], out => by rw [diffFrom, diffFrom]; all_goals (rintro _ _ _ h; simp at h)
  | [t], out => by rw [diffFrom, diffFrom]; all_goals (rintro _ _ _ h; simp at h)
  | t1 :: t2 :: ts, out => by
    rw [diffFrom, diffFrom, diffFrom_comm (t2 :: ts)]
    by_cases h : thereP k a t1 = thereP k b t1
    · rw [if_pos h, if_pos h.symm]
    · rw [if_neg h, if_neg fun h2 => h h2.symm]
theorem diffOf_comm (k : Int) (a b : List Step) : diffOf k a b = diffOf k b a := by
  unfold diffOf
  rw [diffFrom_comm, strict_ext (timesP_strict (a ++ b)) (timesP_strict (b ++ a)) fun x => by rw [timesP_members, timesP_members]; simp [or_comm]]
end Go.Proofs.Ytkoeplbkeboklaa
