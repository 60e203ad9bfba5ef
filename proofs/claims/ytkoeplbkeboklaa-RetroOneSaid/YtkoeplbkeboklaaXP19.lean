/- The plain side of RetroOne: maps. No program in sight. -/
import Derived.Test.YtkoeplbkeboklaaXP18
set_option linter.unusedVariables false
set_option linter.unusedSimpArgs false
namespace Go.Proofs.Ytkoeplbkeboklaa
theorem insH_front {h : Held} : ∀ {m : List Held}, (∀ y ∈ m, h.key < y.key) → insH h m = h :: m
  | [], _ => rfl
  | y :: m, hy => by rw [insH, if_pos (hy y (by simp))]
theorem filter_insH {h : Held} {p : Held → Bool} : ∀ {l : List Held}, sortH l → (insH h l).filter p = if p h then insH h (l.filter p) else l.filter p
  | [], _ => by cases hp : p h <;> simp [insH, hp]
  | x :: l, hs => by
    obtain ⟨h1, h2⟩ := List.pairwise_cons.1 hs
    rw [insH]
    by_cases hlt : h.key < x.key
    · rw [if_pos hlt, List.filter_cons]
      by_cases hp : p h = true
      · rw [if_pos hp, if_pos hp, insH_front fun y hy => ?_]
        rcases List.mem_cons.1 (List.mem_filter.1 hy).1 with rfl | hy'
        · exact hlt
        · have := h1 y hy'; omega
      · rw [if_neg hp, if_neg hp]
    · rw [if_neg hlt, List.filter_cons, filter_insH h2, List.filter_cons]
      by_cases hx : p x = true
      · rw [if_pos hx, if_pos hx]
        by_cases hp : p h = true
        · rw [if_pos hp, if_pos hp, insH, if_neg hlt]
        · rw [if_neg hp, if_neg hp]
      · rw [if_neg hx, if_neg hx]
def offKey (K : Int) (th : List Held) : List Held := th.filter fun h => h.key != K
def atKey (K : Int) (th : List Held) : List Held := th.filter fun h => h.key == K
theorem filter_sort {p : Held → Bool} {th : List Held} (h : sortH th) : sortH (th.filter p) := List.Pairwise.filter _ h
theorem filter_swap {α : Type} (p q : α → Bool) (l : List α) : (l.filter p).filter q = (l.filter q).filter p := by
  rw [List.filter_filter, List.filter_filter]
  exact List.filter_congr fun x _ => Bool.and_comm _ _
theorem mapDo_filter {p : Held → Bool} {a b : List Held} (ha : sortH a) (hb : sortH b) (h : a.filter p = b.filter p) (s : Step) : (mapDo a s).1.filter p = (mapDo b s).1.filter p := by
  have hc : (a.filter fun h => h.key != s.key).filter p = (b.filter fun h => h.key != s.key).filter p := by
    rw [filter_swap, h, filter_swap]
  unfold mapDo
  by_cases hd : s.do_ = 1
  · rw [if_pos hd, if_pos hd]
    show (insH _ _).filter p = (insH _ _).filter p
    rw [filter_insH (filter_sort ha), filter_insH (filter_sort hb), hc]
  · rw [if_neg hd, if_neg hd]
    exact hc
theorem mapDo_off {K : Int} {a : List Held} (ha : sortH a) {s : Step} (hk : s.key = K) : offKey K (mapDo a s).1 = offKey K a := by
  subst hk
  have h0 : (a.filter fun h => h.key != s.key).filter (fun h => h.key != s.key) = a.filter fun h => h.key != s.key := by rw [List.filter_filter]; simp
  unfold mapDo offKey
  by_cases hd : s.do_ = 1
  · rw [if_pos hd]
    show (insH _ _).filter _ = _
    rw [filter_insH (filter_sort ha), if_neg (by simp [heldOf]), h0]
  · rw [if_neg hd]
    exact h0
theorem mapDo_at {K : Int} {a : List Held} (ha : sortH a) (s : Step) : atKey K (mapDo a s).1 = if s.key = K then (if s.do_ = 1 then [heldOf s] else []) else atKey K a := by
  have h0 : s.key = K → (a.filter fun h => h.key != s.key).filter (fun h => h.key == K) = [] := fun hk => by
    rw [List.filter_filter, List.filter_eq_nil_iff]; intro x _; simp [hk]; 
  have h1 : s.key ≠ K → (a.filter fun h => h.key != s.key).filter (fun h => h.key == K) = a.filter fun h => h.key == K := fun hk => by
    rw [List.filter_filter]
    refine List.filter_congr fun x _ => ?_
    by_cases hx : x.key = K
    · simp [hx, fun h => hk (Eq.symm h)]; exact fun h => hk h.symm
    · simp [hx]
  unfold mapDo atKey
  by_cases hk : s.key = K
  · rw [if_pos hk]
    by_cases hd : s.do_ = 1
    · rw [if_pos hd, if_pos hd]
      show (insH _ _).filter _ = _
      rw [filter_insH (filter_sort ha), if_pos (by simp [heldOf, hk]), h0 hk]; rfl
    · rw [if_neg hd, if_neg hd]; exact h0 hk
  · rw [if_neg hk]
    by_cases hd : s.do_ = 1
    · rw [if_pos hd]
      show (insH _ _).filter _ = _
      rw [filter_insH (filter_sort ha), if_neg (by simp [heldOf, hk]), h1 hk]
    · rw [if_neg hd]; exact h1 hk
theorem stepT_sort {t : Int} {th : List Held} (h : sortH th) (s : Step) : sortH (stepT 3 t th s) := by
  unfold stepT
  split
  · exact mapDo_sort s h
  · exact h
theorem steps_sort {t : Int} : ∀ (l : List Step) {th : List Held}, sortH th → sortH (l.foldl (stepT 3 t) th)
  | [], _, h => h
  | s :: l, _, h => steps_sort l (stepT_sort h s)
theorem stepT_filter {t : Int} {p : Held → Bool} {a b : List Held} (ha : sortH a) (hb : sortH b) (h : a.filter p = b.filter p) (s : Step) : (stepT 3 t a s).filter p = (stepT 3 t b s).filter p := by
  unfold stepT
  split
  · exact mapDo_filter ha hb h s
  · exact h
theorem steps_filter {t : Int} {p : Held → Bool} : ∀ (l : List Step) {a b : List Held}, sortH a → sortH b → a.filter p = b.filter p → (l.foldl (stepT 3 t) a).filter p = (l.foldl (stepT 3 t) b).filter p
  | [], _, _, _, _, h => h
  | s :: l, _, _, ha, hb, h => steps_filter l (stepT_sort ha s) (stepT_sort hb s) (stepT_filter ha hb h s)
theorem nil_sort : sortH [] := List.Pairwise.nil
/-- Off the step's key nothing changes. -/
theorem one_off {t : Int} (l : List Step) (s : Step) : offKey s.key (runP 3 t (withP l s)) = offKey s.key (runP 3 t l) := by
  rw [run_with, run_split 3 t l (placeAt s.at_ l)]
  have hs := steps_sort (t := t) (l.take (placeAt s.at_ l)) nil_sort
  refine steps_filter _ (stepT_sort hs s) hs ?_
  unfold stepT
  split
  · exact mapDo_off hs rfl
  · rfl
theorem steps_at_none {t K : Int} : ∀ {l : List Step} {a : List Held}, sortH a → (∀ z ∈ l, z.key = K → t < z.at_) → atKey K (l.foldl (stepT 3 t) a) = atKey K a
  | [], _, _, _ => rfl
  | z :: l, a, ha, h => by
    rw [List.foldl_cons, steps_at_none (stepT_sort ha z) fun y hy => h y (List.mem_cons_of_mem _ hy)]
    unfold stepT
    split
    · rw [show (doP 3 a z).1 = (mapDo a z).1 from rfl, mapDo_at ha, if_neg fun hk => by have := h z (by simp) hk; omega]
    · rfl
theorem steps_at_some {t K : Int} : ∀ {l : List Step} {a b : List Held}, sortH a → sortH b → (∃ z ∈ l, z.key = K ∧ z.at_ ≤ t) → atKey K (l.foldl (stepT 3 t) a) = atKey K (l.foldl (stepT 3 t) b)
  | [], _, _, _, _, h => by obtain ⟨z, hz, _⟩ := h; simp at hz
  | z :: l, a, b, ha, hb, h => by
    rw [List.foldl_cons, List.foldl_cons]
    by_cases hz : z.key = K ∧ z.at_ ≤ t
    · refine steps_filter l (stepT_sort ha z) (stepT_sort hb z) ?_
      show atKey K _ = atKey K _
      rw [stepT, stepT, if_pos hz.2, if_pos hz.2, show (doP 3 a z).1 = (mapDo a z).1 from rfl, show (doP 3 b z).1 = (mapDo b z).1 from rfl, mapDo_at ha, mapDo_at hb, if_pos hz.1, if_pos hz.1]
    · refine steps_at_some (stepT_sort ha z) (stepT_sort hb z) ?_
      obtain ⟨y, hy, hk⟩ := h
      rcases List.mem_cons.1 hy with rfl | hy
      · exact absurd hk hz
      · exact ⟨y, hy, hk⟩
end Go.Proofs.Ytkoeplbkeboklaa
