/- The plain side of retro: a line does not remember in which order its steps were inserted. No program in sight. -/
import Derived.Test.YtkoeplbkeboklaaXP14
set_option linter.unusedVariables false
namespace Go.Proofs.Ytkoeplbkeboklaa
theorem strict_eq : ∀ {a b : List Step}, strictL a → strictL b → (∀ x, x ∈ a ↔ x ∈ b) → a = b
  | [], [], _, _, _ => rfl
  | [], y :: b, _, _, h => by have := (h y).2 (by simp); simp at this
  | x :: a, [], _, _, h => by have := (h x).1 (by simp); simp at this
  | x :: a, y :: b, ha, hb, h => by
    obtain ⟨ha1, ha2⟩ := List.pairwise_cons.1 ha
    obtain ⟨hb1, hb2⟩ := List.pairwise_cons.1 hb
    have hxy : x = y := by
      rcases List.mem_cons.1 ((h x).1 (by simp)) with h1 | h1
      · exact h1
      · rcases List.mem_cons.1 ((h y).2 (by simp)) with h2 | h2
        · exact h2.symm
        · have := hb1 x h1; have := ha1 y h2; omega
    subst hxy
    congr 1
    refine strict_eq ha2 hb2 fun z => ⟨fun hz => ?_, fun hz => ?_⟩
    · rcases List.mem_cons.1 ((h z).1 (by simp [hz])) with h1 | h1
      · subst h1; have := ha1 z hz; omega
      · exact h1
    · rcases List.mem_cons.1 ((h z).2 (by simp [hz])) with h1 | h1
      · subst h1; have := hb1 z hz; omega
      · exact h1
theorem has_mem {l : List Step} {t : Int} (h : hasP l t = true) : ∃ x ∈ l, x.at_ = t := by
  unfold hasP at h
  split at h
  · rename_i s hs
    exact ⟨s, List.mem_of_getElem? hs, by simpa using h⟩
  · cases h
theorem has_of {l : List Step} {s : Step} (hs : strictL l) (h : s ∈ l) : hasP l s.at_ = true ∧ l[placeAt s.at_ l]? = some s := by
  obtain ⟨i, hi, rfl⟩ := List.getElem_of_mem h
  have h1 := placeAt_iff (t := l[i].at_) hs (List.getElem?_eq_getElem hi)
  have hp : placeAt l[i].at_ l = i := by
    rcases Nat.lt_trichotomy (placeAt l[i].at_ l) i with h2 | h2 | h2
    · have h3 := placeAt_iff (t := l[i].at_) hs (List.getElem?_eq_getElem (show placeAt l[i].at_ l < l.length by omega))
      have h4 := List.pairwise_iff_getElem.1 hs _ _ (by omega) hi h2
      have := h3.1 h4
      omega
    · exact h2
    · have := h1.2 h2; omega
  refine ⟨?_, by rw [hp]; exact List.getElem?_eq_getElem hi⟩
  unfold hasP
  rw [hp, List.getElem?_eq_getElem hi]
  simp
theorem without_perm {l : List Step} {i : Nat} {s : Step} (h : l[i]? = some s) : l.Perm (s :: withoutP l i) := by
  obtain ⟨hlt, rfl⟩ := List.getElem?_eq_some_iff.1 h
  unfold withoutP
  have e : l = l.take i ++ l[i] :: l.drop (i + 1) := by rw [List.getElem_cons_drop, List.take_append_drop]
  have := (List.perm_middle (a := l[i]) (l₁ := l.take i) (l₂ := l.drop (i + 1)))
  rwa [← e] at this
theorem with_perm (l : List Step) (s : Step) : (withP l s).Perm (s :: l) := by
  unfold withP
  have := (List.perm_middle (a := s) (l₁ := l.take (placeAt s.at_ l)) (l₂ := l.drop (placeAt s.at_ l)))
  rwa [List.take_append_drop] at this
theorem without_strict {l : List Step} (i : Nat) (h : strictL l) : strictL (withoutP l i) := h.sublist (without_sub l i)
/-- Insert and delete of one step: the line is what it was, and the spans are the same. -/
theorem there_and_back {k : Int} {l : List Step} {s : Step} (hl : isLineP k l = true) (hs : s ∈ l) :
    ∃ less ds, deleteP k l s.at_ = ((k, less), ds, 0) ∧ insertP k less s = ((k, l), ds, 0) := by
  have hst := line_strict hl
  obtain ⟨hh, hx⟩ := has_of hst hs
  have hperm := without_perm hx
  have hws := without_strict (placeAt s.at_ l) hst
  have hwl := isLineP_without (placeAt s.at_ l) hl
  have hne : hasP (withoutP l (placeAt s.at_ l)) s.at_ = false := by
    cases h : hasP (withoutP l (placeAt s.at_ l)) s.at_ with
    | false => rfl
    | true =>
      obtain ⟨x, hx1, hx2⟩ := has_mem h
      have hn : (l.map Step.at_).Nodup := List.nodup_iff_pairwise_ne.2 (List.pairwise_map.2 (hst.imp fun h => by omega))
      have := (hperm.map Step.at_).nodup_iff.1 hn
      rw [List.map_cons, List.nodup_cons] at this
      have hm := List.mem_map_of_mem (f := Step.at_) hx1
      rw [hx2] at hm
      exact absurd hm this.1
  have hback : withP (withoutP l (placeAt s.at_ l)) s = l :=
    strict_eq (with_strict hws hne) hst fun x => by rw [(with_perm _ s).mem_iff, hperm.mem_iff]
  have hlen := hperm.length_eq
  have h60 := (isLineP_spec hl).2.2.1
  rw [List.length_cons] at hlen
  refine ⟨_, _, by unfold deleteP; rw [if_pos hl, if_pos hh], ?_⟩
  unfold insertP
  rw [if_pos (by rw [hwl, (isLineP_spec hl).2.2.2.1 s hs]; rfl), if_neg (by rw [hne]; simp), if_neg (by omega), hback, diffOf_comm]
/-- What is inserted, and what is left: together they are the line. -/
structure Part (k : Int) (l out left : List Step) : Prop where
  perm : (out ++ left).Perm l
  strict : strictL out
theorem Part.line {k : Int} {l out left : List Step} (h : Part k l out left) (hl : isLineP k l = true) : isLineP k out = true := by
  have hs := isLineP_spec hl
  have := h.perm.length_eq
  rw [List.length_append] at this
  exact isLineP_mk hs.1 hs.2.1 (by omega) (fun x hx => hs.2.2.2.1 x (h.perm.mem_iff.1 (List.mem_append.2 (.inl hx)))) h.strict
theorem Part.step {k : Int} {l out left : List Step} (h : Part k l out left) (hl : isLineP k l = true) {i : Nat} {s : Step} (hs : left[i]? = some s) :
    (∃ ds, insertP k out s = ((k, withP out s), ds, 0)) ∧ Part k l (withP out s) (withoutP left i) := by
  have hsp := isLineP_spec hl
  have hmem := List.mem_of_getElem? hs
  have hlen := h.perm.length_eq
  rw [List.length_append] at hlen
  have hpos : 0 < left.length := by have := (List.getElem?_eq_some_iff.1 hs).1; omega
  have hne : hasP out s.at_ = false := by
    cases hh : hasP out s.at_ with
    | false => rfl
    | true =>
      obtain ⟨x, hx1, hx2⟩ := has_mem hh
      have hn : (l.map Step.at_).Nodup := List.nodup_iff_pairwise_ne.2 (List.pairwise_map.2 ((line_strict hl).imp fun h => by omega))
      have := (h.perm.map Step.at_).nodup_iff.2 hn
      rw [List.map_append, List.nodup_append] at this
      exact absurd hx2 (this.2.2 _ (List.mem_map_of_mem hx1) _ (List.mem_map_of_mem hmem))
  refine ⟨⟨diffOf k out (withP out s), ?_⟩, ?_, with_strict h.strict hne⟩
  · unfold insertP
    rw [if_pos (by rw [h.line hl, hsp.2.2.2.1 s (h.perm.mem_iff.1 (List.mem_append.2 (.inr hmem)))]; rfl), if_neg (by rw [hne]; simp), if_neg (by omega)]
  · refine List.Perm.trans ?_ h.perm
    have h1 := (with_perm out s).append_right (withoutP left i)
    have h2 := ((without_perm hs).symm).append_left out
    exact h1.trans ((List.perm_middle (a := s) (l₁ := out) (l₂ := withoutP left i)).symm.trans h2)
theorem Part.done {k : Int} {l out : List Step} (h : Part k l out []) (hl : isLineP k l = true) : out = l :=
  strict_eq h.strict (line_strict hl) fun x => by have := h.perm.mem_iff (a := x); rwa [List.append_nil] at this
end Go.Proofs.Ytkoeplbkeboklaa
