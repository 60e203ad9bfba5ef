/- The plain side of RetroOne: one step more changes one thing. No program in sight. -/
import Derived.Test.YtkoeplbkeboklaaXP15
import Derived.Test.YtkoeplbkeboklaaXP14
import Derived.Test.YtkoeplbkeboklaaXP16
set_option linter.unusedVariables false
set_option linter.unusedSimpArgs false
namespace Go.Proofs.Ytkoeplbkeboklaa
def putH (a b : List Held) : Prop := a = b ∨ ∃ p x q, b = p ++ x :: q ∧ a = p ++ q
theorem stack_fst (th : List Held) (s : Step) : (stackDo th s).1 = if s.do_ = 1 then th ++ [heldOf s] else th.dropLast := by
  unfold stackDo
  split
  · rfl
  · split
    · rw [List.dropLast_eq_take]
    · rename_i h
      rw [List.getLast?_eq_none_iff] at h
      rw [h]; rfl
theorem queue_fst (th : List Held) (s : Step) : (queueDo th s).1 = if s.do_ = 1 then th ++ [heldOf s] else th.tail := by
  unfold queueDo
  split
  · rfl
  · split <;> rfl
theorem putH_dropLast (a : List Held) : putH a.dropLast a := by
  rcases List.eq_nil_or_concat a with rfl | ⟨l, x, rfl⟩
  · exact .inl rfl
  · exact .inr ⟨l, x, [], by simp, by simp⟩
theorem putH_tail (a : List Held) : putH a.tail a := by
  cases a with
  | nil => exact .inl rfl
  | cons x l => exact .inr ⟨[], x, l, rfl, rfl⟩
theorem putH.step {k t : Int} (hk : k = 1 ∨ k = 2) {a b : List Held} (h : putH a b) (s : Step) : putH (stepT k t a s) (stepT k t b s) := by
  unfold stepT
  split
  · rcases h with rfl | ⟨p, x, q, rfl, rfl⟩
    · exact .inl rfl
    · rcases hk with rfl | rfl
      · simp only [doP, if_pos, stack_fst]
        by_cases hd : s.do_ = 1
        · rw [if_pos hd, if_pos hd]; exact .inr ⟨p, x, q ++ [heldOf s], by simp, by simp⟩
        · rw [if_neg hd, if_neg hd]
          rcases List.eq_nil_or_concat q with rfl | ⟨q', y, rfl⟩
          · have : (p ++ [x]).dropLast = p := by simp
            rw [this, List.append_nil]
            exact putH_dropLast p
          · refine .inr ⟨p, x, q', ?_, ?_⟩
            · rw [List.concat_eq_append, ← List.cons_append, ← List.append_assoc, List.dropLast_concat]
            · rw [List.concat_eq_append, ← List.append_assoc, List.dropLast_concat]
      · simp only [doP, if_pos, queue_fst, show (2 : Int) = 1 ↔ False by decide, if_false]
        by_cases hd : s.do_ = 1
        · rw [if_pos hd, if_pos hd]; exact .inr ⟨p, x, q ++ [heldOf s], by simp, by simp⟩
        · rw [if_neg hd, if_neg hd]
          cases p with
          | nil => exact putH_tail q
          | cons y p => exact .inr ⟨p, x, q, rfl, rfl⟩
  · exact h
theorem putH.steps {k t : Int} (hk : k = 1 ∨ k = 2) : ∀ (l : List Step) {a b : List Held}, putH a b → putH (l.foldl (stepT k t) a) (l.foldl (stepT k t) b)
  | [], _, _, h => h
  | s :: l, _, _, h => putH.steps hk l (h.step hk s)
theorem run_with (k t : Int) (l : List Step) (s : Step) : runP k t (withP l s) = (l.drop (placeAt s.at_ l)).foldl (stepT k t) (stepT k t ((l.take (placeAt s.at_ l)).foldl (stepT k t) []) s) := by
  rw [runP, withP, List.foldl_append, List.foldl_cons]
theorem run_split (k t : Int) (l : List Step) (n : Nat) : runP k t l = (l.drop n).foldl (stepT k t) ((l.take n).foldl (stepT k t) []) := by
  rw [← List.foldl_append, List.take_append_drop, runP]
theorem one_before {k t : Int} {l : List Step} {s : Step} (h : t < s.at_) : thereP k (withP l s) t = thereP k l t := by
  rw [thereP, thereP, run_with, run_split k t l (placeAt s.at_ l)]
  congr 1
  congr 1
  rw [stepT, if_neg (by omega)]
theorem putP_of {a b : List Held} (h : putH a b) : (a.map pairH) = (b.map pairH) ∨ ((b.map pairH).length = (a.map pairH).length + 1 ∧ ∃ i, i < (b.map pairH).length ∧ (b.map pairH).take i ++ (b.map pairH).drop (i + 1) = a.map pairH) := by
  rcases h with rfl | ⟨p, x, q, rfl, rfl⟩
  · exact .inl rfl
  · refine .inr ⟨by simp; omega, p.length, by simp, ?_⟩
    have h1 : ((p ++ x :: q).map pairH).take p.length = p.map pairH := by
      rw [List.map_append, List.take_left' (by simp)]
    have h2 : ((p ++ x :: q).map pairH).drop (p.length + 1) = q.map pairH := by
      rw [List.map_append, List.map_cons, ← List.drop_drop, List.drop_left' (by simp)]; rfl
    rw [h1, h2, List.map_append]
theorem one_put {k t : Int} (hk : k = 1 ∨ k = 2) {l : List Step} {s : Step} : (s.do_ = 1 → putH (runP k t l) (runP k t (withP l s))) ∧ (s.do_ ≠ 1 → putH (runP k t (withP l s)) (runP k t l)) := by
  rw [run_with, run_split k t l (placeAt s.at_ l)]
  generalize (l.take (placeAt s.at_ l)).foldl (stepT k t) [] = th
  constructor
  · intro hd
    refine putH.steps hk _ ?_
    unfold stepT
    split
    · rcases hk with rfl | rfl
      · simp only [doP, if_pos, stack_fst, hd]; exact .inr ⟨th, heldOf s, [], rfl, by simp⟩
      · simp only [doP, if_pos, queue_fst, hd, show (2 : Int) = 1 ↔ False by decide, if_false]; exact .inr ⟨th, heldOf s, [], rfl, by simp⟩
    · exact .inl rfl
  · intro hd
    refine putH.steps hk _ ?_
    unfold stepT
    split
    · rcases hk with rfl | rfl
      · simp only [doP, if_pos, stack_fst, if_neg hd]; exact putH_dropLast th
      · simp only [doP, if_pos, queue_fst, if_neg hd, show (2 : Int) = 1 ↔ False by decide, if_false]; exact putH_tail th
    · exact .inl rfl
end Go.Proofs.Ytkoeplbkeboklaa
