/- The plain side of RetroOne: maps, where they differ. No program in sight. -/
import Derived.Test.YtkoeplbkeboklaaXP19
import Derived.Test.YtkoeplbkeboklaaM8
set_option linter.unusedVariables false
set_option linter.unusedSimpArgs false
namespace Go.Proofs.Ytkoeplbkeboklaa
def zeroH (p : Pair) : Held := ⟨p.key, p.val, 0⟩
theorem same_pairs {K : Int} {a b : List Held} (ha : sortH a) (hb : sortH b) (ho : offKey K a = offKey K b) (h : (atKey K a).map pairH = (atKey K b).map pairH) : a.map pairH = b.map pairH := by
  have perm : ∀ l : List Held, (atKey K l ++ offKey K l).Perm l := fun l => List.filter_append_perm (fun h : Held => h.key == K) l
  have hz : ∀ l : List Held, sortH l → sortH ((l.map pairH).map zeroH) := fun l hl => by
    rw [List.map_map]
    exact List.pairwise_map.2 (hl.imp fun h => h)
  have hp : ((a.map pairH).map zeroH).Perm ((b.map pairH).map zeroH) := by
    refine List.Perm.map _ ?_
    have h1 := (perm a).map pairH
    have h2 := (perm b).map pairH
    rw [List.map_append, h, ho, ← List.map_append] at h1
    exact h1.symm.trans h2
  have he := sortH_unique (hz _ hb) hp ((hz _ ha).imp fun h => by omega)
  have := congrArg (List.map pairH) he
  have hid : ∀ l : List Pair, (l.map zeroH).map pairH = l := fun l => by
    rw [List.map_map]
    exact List.map_id l
  rw [hid, hid] at this
  exact this
theorem at_pairs {K : Int} {a b : List Held} (h : a.map pairH = b.map pairH) : (atKey K a).map pairH = (atKey K b).map pairH := by
  have := congrArg (List.filter fun p : Pair => p.key == K) h
  rw [List.filter_map, List.filter_map] at this
  exact this
def nextP (K t : Int) : List Step → Int
  | [] => 1001
  | z :: l => if z.key = K ∧ t < z.at_ then z.at_ else nextP K t l
theorem next_le {K t : Int} : ∀ {l : List Step}, strictL l → ∀ z ∈ l, z.key = K → t < z.at_ → nextP K t l ≤ z.at_
  | x :: l, hs, z, hz, hk, ht => by
    obtain ⟨h1, h2⟩ := List.pairwise_cons.1 hs
    rw [nextP]
    split
    · rcases List.mem_cons.1 hz with rfl | hz
      · exact Int.le_refl _
      · exact Int.le_of_lt (h1 z hz)
    · rename_i hx
      rcases List.mem_cons.1 hz with rfl | hz
      · exact absurd ⟨hk, ht⟩ hx
      · exact next_le h2 z hz hk ht
theorem next_or {K t : Int} : ∀ l : List Step, nextP K t l = 1001 ∨ ∃ z ∈ l, z.key = K ∧ t < z.at_ ∧ nextP K t l = z.at_
  | [] => .inl rfl
  | x :: l => by
    rw [nextP]
    split
    · rename_i hx; exact .inr ⟨x, by simp, hx.1, hx.2, rfl⟩
    · rcases next_or l with h | ⟨z, hz, h⟩
      · exact .inl h
      · exact .inr ⟨z, List.mem_cons_of_mem _ hz, h⟩
theorem nextP_drop {K t : Int} {l : List Step} {i : Nat} {z : Step} (h : l[i]? = some z) : nextP K t (l.drop i) = if z.key = K ∧ t < z.at_ then z.at_ else nextP K t (l.drop (i + 1)) := by
  obtain ⟨hlt, rfl⟩ := List.getElem?_eq_some_iff.1 h
  rw [List.drop_eq_getElem_cons hlt, nextP]
section
variable {l : List Step} {s : Step} (hs : strictL l) (hh : hasP l s.at_ = false)
include hs hh
theorem next_post {u : Int} (hu : u ≤ 1000) : (∃ z ∈ l.drop (placeAt s.at_ l), z.key = s.key ∧ z.at_ ≤ u) ↔ nextP s.key s.at_ l ≤ u := by
  constructor
  · rintro ⟨z, hz, hk, hle⟩
    have h1 := drop_gt hs hh z hz
    have := next_le hs z (List.mem_of_mem_drop hz) hk h1
    omega
  · intro h
    rcases next_or (K := s.key) (t := s.at_) l with h1 | ⟨z, hz, hk, ht, he⟩
    · omega
    · refine ⟨z, ?_, hk, by omega⟩
      have := List.take_append_drop (placeAt s.at_ l) l
      rw [← this] at hz
      rcases List.mem_append.1 hz with h2 | h2
      · have := take_lt hs z h2; omega
      · exact h2
theorem one_map {u : Int} (hu : u ≤ 1000) : thereP 3 l u ≠ thereP 3 (withP l s) u ↔ s.at_ ≤ u ∧ u < nextP s.key s.at_ l ∧ (atKey s.key (runP 3 s.at_ (l.take (placeAt s.at_ l)))).map pairH ≠ (if s.do_ = 1 then [heldOf s] else []).map pairH := by
  by_cases h1 : u < s.at_
  · rw [one_before h1]
    simp; omega
  have hoff := one_off (t := u) l s
  have sl := runP_sort (k := 3) (t := u) (by decide) (by decide) l
  have sw := runP_sort (k := 3) (t := u) (by decide) (by decide) (withP l s)
  have hs0 := steps_sort (t := u) (l.take (placeAt s.at_ l)) nil_sort
  by_cases h2 : nextP s.key s.at_ l ≤ u
  · have hex := (next_post hs hh hu).2 h2
    have hat := steps_at_some (stepT_sort (t := u) hs0 s) hs0 hex
    rw [← run_with, ← run_split 3 u l (placeAt s.at_ l)] at hat
    have := same_pairs sl sw hoff.symm (by rw [hat])
    constructor
    · intro h; exact absurd this h
    · intro h; omega
  · have hno : ∀ z ∈ l.drop (placeAt s.at_ l), z.key = s.key → u < z.at_ := fun z hz hk => by
      rcases Int.lt_or_le u z.at_ with h | h
      · exact h
      · exact absurd ((next_post hs hh hu).1 ⟨z, hz, hk, h⟩) h2
    have e1 : atKey s.key (runP 3 u l) = atKey s.key (runP 3 s.at_ (l.take (placeAt s.at_ l))) := by
      rw [run_split 3 u l (placeAt s.at_ l), steps_at_none hs0 hno]
      congr 1
      exact runP_congr fun x hx => by have := take_lt hs x hx; omega
    have e2 : atKey s.key (runP 3 u (withP l s)) = if s.do_ = 1 then [heldOf s] else [] := by
      rw [run_with, steps_at_none (stepT_sort hs0 s) hno, stepT, if_pos (by omega), show ∀ a, (doP 3 a s).1 = (mapDo a s).1 from fun _ => rfl, mapDo_at hs0, if_pos rfl]
    rw [← e1, ← e2]
    constructor
    · intro h
      refine ⟨by omega, by omega, fun he => h ?_⟩
      exact same_pairs sl sw hoff.symm he
    · rintro ⟨_, _, h⟩ he
      exact h (at_pairs he)
end
theorem one_span {D : Int → Prop} {out : List Span} {a b : Int} {δ : Prop} (h : SpansTo D out 1001) (ha : 0 ≤ a) (hb : b ≤ 1001) (hD : ∀ u, 0 ≤ u → u < 1001 → (D u ↔ a ≤ u ∧ u < b ∧ δ)) : out = [] ∨ out = [⟨a, b - 1⟩] := by
  have cov : ∀ d ∈ out, ∀ u, d.from_ ≤ u → u ≤ d.to_ → a ≤ u ∧ u < b ∧ δ := fun d hd u h1 h2 => by
    have := h.form d hd
    exact (hD u (by omega) (by omega)).1 ((h.cover u (by omega) (by omega)).1 ⟨d, hd, h1, h2⟩)
  have inn : δ → ∀ u, a ≤ u → u < b → ∃ d ∈ out, d.from_ ≤ u ∧ u ≤ d.to_ := fun hδ u h1 h2 => (h.cover u (by omega) (by omega)).2 ((hD u (by omega) (by omega)).2 ⟨h1, h2, hδ⟩)
  cases out with
  | nil => exact .inl rfl
  | cons d ds =>
    right
    obtain ⟨hp1, hp2⟩ := List.pairwise_cons.1 h.apart
    have hf := h.form d (by simp)
    have c1 := cov d (by simp) d.from_ (by omega) (by omega)
    have c2 := cov d (by simp) d.to_ (by omega) (by omega)
    cases ds with
    | nil =>
      obtain ⟨x, hx, hx1⟩ := inn c1.2.2 a (by omega) (by omega)
      simp at hx; subst hx
      obtain ⟨y, hy, hy1⟩ := inn c1.2.2 (b - 1) (by omega) (by omega)
      simp at hy; subst hy
      have e1 : y.from_ = a := by omega
      have e2 : y.to_ = b - 1 := by omega
      cases y; simp at e1 e2; simp [e1, e2]
    | cons e es =>
      exfalso
      have hde := hp1 e (by simp)
      have c3 := cov e (by simp) e.from_ (by have := h.form e (by simp); omega) (by have := h.form e (by simp); omega)
      obtain ⟨y, hy, hy1⟩ := inn c1.2.2 (d.to_ + 1) (by omega) (by omega)
      rcases List.mem_cons.1 hy with rfl | hy
      · omega
      · have := hp1 y hy; omega
theorem one_spans {l : List Step} {s : Step} (hl : isLineP 3 l = true) (hst : isStepP 3 s = true) (hh : hasP l s.at_ = false) : diffOf 3 l (withP l s) = [] ∨ diffOf 3 l (withP l s) = [⟨s.at_, nextP s.key s.at_ l - 1⟩] := by
  have hs := line_strict hl
  have hsp := isLineP_spec hl
  have h0 := (isStep_do hst).2
  refine one_span (D := fun t => thereP 3 l t ≠ thereP 3 (withP l s) t) (diffOf_spans fun x hx => ?_) h0.1 ?_ fun u h1 h2 => one_map hs hh (by omega)
  · rcases List.mem_append.1 hx with hx | hx
    · exact (isStep_do (hsp.2.2.2.1 x hx)).2
    · rcases with_mem.1 hx with rfl | hx
      · exact h0
      · exact (isStep_do (hsp.2.2.2.1 x hx)).2
  · rcases next_or (K := s.key) (t := s.at_) l with h | ⟨z, hz, _, _, he⟩
    · omega
    · have := (isStep_do (hsp.2.2.2.1 z hz)).2; omega
/-- Off the key the pairs are alike. -/
theorem one_others {t : Int} (l : List Step) (s : Step) : (thereP 3 l t).filter (fun p => !(p.key == s.key)) = (thereP 3 (withP l s) t).filter (fun p => !(p.key == s.key)) := by
  have h := congrArg (List.map pairH) (one_off (t := t) l s)
  rw [thereP, thereP, List.filter_map, List.filter_map]
  exact h.symm
end Go.Proofs.Ytkoeplbkeboklaa
