/- The plain side of retro: slim lines. No program in sight. -/
import Derived.Test.YtkoeplbkeboklaaXP16
import Derived.Test.YtkoeplbkeboklaaM8
set_option linter.unusedVariables false
namespace Go.Proofs.Ytkoeplbkeboklaa
def fullRun (k : Int) (th : List Held) (l : List Step) : List Held := l.foldl (fun th s => (doP k th s).1) th
theorem run_full (k t : Int) : ∀ (l : List Step) (th : List Held), l.foldl (stepT k t) th = fullRun k th (l.filter fun s => decide (s.at_ ≤ t))
  | [], th => rfl
  | s :: l, th => by
    rw [List.foldl_cons, List.filter_cons, run_full k t l]
    unfold stepT
    by_cases h : s.at_ ≤ t
    · rw [if_pos h, if_pos (decide_eq_true h)]; rfl
    · rw [if_neg h, if_neg (by simpa using h)]
theorem runP_full (k t : Int) (l : List Step) : runP k t l = fullRun k [] (l.filter fun s => decide (s.at_ ≤ t)) := run_full k t l []
theorem split_strict {l : List Step} (h : strictL l) (t : Int) : l = l.filter (fun s => decide (s.at_ ≤ t)) ++ l.filter (fun s => decide (t < s.at_)) := by
  induction l with
  | nil => rfl
  | cons s l ih =>
    obtain ⟨h1, h2⟩ := List.pairwise_cons.1 h
    by_cases hs : s.at_ ≤ t
    · have hn : ¬ t < s.at_ := by omega
      rw [List.filter_cons, List.filter_cons, if_pos (decide_eq_true hs), if_neg (by simpa using hn), List.cons_append]
      congr 1
      exact ih h2
    · have e1 : (s :: l).filter (fun s => decide (s.at_ ≤ t)) = [] := List.filter_eq_nil_iff.2 fun x hx => by
        rcases List.mem_cons.1 hx with rfl | hx
        · simpa using hs
        · have := h1 x hx; simp; omega
      have e2 : (s :: l).filter (fun s => decide (t < s.at_)) = s :: l := List.filter_eq_self.2 fun x hx => by
        rcases List.mem_cons.1 hx with rfl | hx
        · simp; omega
        · have := h1 x hx; simp; omega
      rw [e1, e2]; rfl
theorem lives_held (k : Int) : ∀ (l : List Step) (th : List Held) (out : List Life), (livesFrom k th out l).map heldL = out.map heldL ++ (l.filter fun s => s.do_ == 1).map heldOf
  | [], th, out => by simp [livesFrom]
  | s :: l, th, out => by
    rw [livesFrom, lives_held k l, List.map_append, List.map_map]
    have : (heldL ∘ closeL (doP k th s).2.from_ s.at_) = heldL := by
      funext x; simp only [Function.comp, closeL]; split <;> rfl
    rw [this]
    by_cases h : s.do_ = 1 <;> simp [h, heldL, heldOf]
theorem lives_mem {k : Int} {l : List Step} {y : Life} (h : y ∈ livesOf k l) : ∃ s ∈ l, s.do_ = 1 ∧ heldOf s = heldL y := by
  have : heldL y ∈ (livesOf k l).map heldL := List.mem_map_of_mem h
  rw [livesOf, lives_held] at this
  simp at this
  obtain ⟨s, ⟨h1, h2⟩, h3⟩ := this
  exact ⟨s, h1, h2, h3⟩
theorem strict_unique {l : List Step} (h : strictL l) {x y : Step} (hx : x ∈ l) (hy : y ∈ l) (he : x.at_ = y.at_) : x = y := by
  obtain ⟨i, hi, rfl⟩ := List.getElem_of_mem hx
  obtain ⟨j, hj, rfl⟩ := List.getElem_of_mem hy
  have := List.pairwise_iff_getElem.1 h
  rcases Nat.lt_trichotomy i j with h1 | h1 | h1
  · have := this i j hi hj h1; omega
  · subst h1; rfl
  · have := this j i hj hi h1; omega
theorem held_inc_eq : ∀ {a b : List Held}, (a.Pairwise fun x y => x.from_ < y.from_) → (b.Pairwise fun x y => x.from_ < y.from_) → (∀ x, x ∈ a ↔ x ∈ b) → a = b
  | [], [], _, _, _ => rfl
  | [], y :: b, _, _, h => by have := (h y).2 (by simp); simp at this
  | x :: a, [], _, _, h => by have := (h x).1 (by simp); simp at this
  | x :: a, y :: b, ha, hb, h => by
    obtain ⟨ha1, ha2⟩ := List.pairwise_cons.1 ha
    obtain ⟨hb1, hb2⟩ := List.pairwise_cons.1 hb
    have hxy : x = y := by
      rcases List.mem_cons.1 ((h x).1 (by simp)) with h1 | h1
      · exact h1
      · rcases List.mem_cons.1 ((h y).2 (by simp)) with h2 | h2
        · exact h2.symm
        · have := hb1 x h1; have := ha1 y h2; omega
    subst hxy
    congr 1
    refine held_inc_eq ha2 hb2 fun z => ⟨fun hz => ?_, fun hz => ?_⟩
    · rcases List.mem_cons.1 ((h z).1 (by simp [hz])) with h1 | h1
      · subst h1; have := ha1 z hz; omega
      · exact h1
    · rcases List.mem_cons.1 ((h z).2 (by simp [hz])) with h1 | h1
      · subst h1; have := hb1 z hz; omega
      · exact h1
theorem Alike.mem {k : Int} {th ls : List Held} (h : Alike k th ls) {x : Held} : x ∈ th ↔ x ∈ ls := by
  by_cases hk : k = 3
  · exact (h.2 hk).1.mem_iff
  · rw [h.1 hk]
theorem Alike.length {k : Int} {th ls : List Held} (h : Alike k th ls) : th.length = ls.length := by
  by_cases hk : k = 3
  · exact (h.2 hk).1.length_eq
  · rw [h.1 hk]
theorem Alike.unique {k : Int} {a b ls : List Held} (ha : Alike k a ls) (hb : Alike k b ls) : a = b := by
  by_cases hk : k = 3
  · exact sortH_unique (hb.2 hk).2 ((ha.2 hk).1.trans (hb.2 hk).1.symm) ((ha.2 hk).2.imp fun h => by omega)
  · rw [ha.1 hk, hb.1 hk]
/-- What Ins alone make. -/
theorem ins_full {k : Int} (hk : 1 ≤ k ∧ k ≤ 3) : ∀ (q : List Step) (th : List Held), (∀ s ∈ q, s.do_ = 1) → (k = 3 → sortH th ∧ ((th ++ q.map heldOf).map Held.key).Nodup) → Alike k (fullRun k th q) (th ++ q.map heldOf)
  | [], th, _, h => ⟨fun _ => by simp [fullRun], fun h3 => ⟨by simp [fullRun], (h h3).1⟩⟩
  | s :: q, th, hq, h => by
    have hs := hq s (by simp)
    have hq' := fun x hx => hq x (List.mem_cons_of_mem _ hx)
    by_cases h3 : k = 3
    · subst h3
      obtain ⟨h1, h2⟩ := h rfl
      have hfresh : ∀ x ∈ th, x.key ≠ (heldOf s).key := by
        rw [List.map_append, List.nodup_append] at h2
        exact fun x hx => h2.2.2 _ (List.mem_map_of_mem hx) _ (by simp)
      have e : (doP 3 th s).1 = insH (heldOf s) th := by
        have : th.filter (fun h => h.key != s.key) = th := List.filter_eq_self.2 fun x hx => bne_iff_ne.2 (hfresh x hx)
        simp [doP, mapDo, hs, this]
      have hp := insH_perm2 (heldOf s) th
      have h2' : (((insH (heldOf s) th) ++ q.map heldOf).map Held.key).Nodup := by
        refine ((List.Perm.map Held.key ?_).nodup_iff).2 h2
        exact (hp.append_right _).trans (List.perm_middle (a := heldOf s) (l₁ := th) (l₂ := q.map heldOf)).symm
      have ih := ins_full hk q (insH (heldOf s) th) hq' fun _ => ⟨insH_sort h1 hfresh, h2'⟩
      refine ⟨fun h => absurd rfl h, fun _ => ?_⟩
      have hI := ih.2 rfl
      rw [fullRun, List.foldl_cons, e]
      exact ⟨hI.1.trans ((hp.append_right _).trans (List.perm_middle (a := heldOf s) (l₁ := th) (l₂ := q.map heldOf)).symm), hI.2⟩
    · have e : (doP k th s).1 = th ++ [heldOf s] := by
        by_cases h1 : k = 1
        · simp [doP, h1, stackDo, hs]
        · have h2 : k = 2 := by omega
          simp [doP, h2, queueDo, hs]
      have ih := ins_full hk q (th ++ [heldOf s]) hq' fun h => absurd h h3
      refine ⟨fun _ => ?_, fun h => absurd h h3⟩
      rw [fullRun, List.foldl_cons, e]
      have := ih.1 h3
      rw [fullRun] at this
      rw [this]
      simp
section
variable {k : Int} {l : List Step} (hl : isLineP k l = true) {t : Int}
include hl
theorem slim_mem {s : Step} (hs : s ∈ slimOf k l t) : s ∈ l ∧ (s.at_ ≤ t → s.do_ = 1 ∧ ∃ y ∈ livesOf k l, liveAt t y = true ∧ heldL y = heldOf s) := by
  obtain ⟨h1, h2⟩ := List.mem_filter.1 hs
  refine ⟨h1, fun hle => ?_⟩
  simp only [keepP, aliveP, Bool.or_eq_true, decide_eq_true_eq, List.any_eq_true, Bool.and_eq_true, beq_iff_eq] at h2
  rcases h2 with h2 | ⟨y, hy, hy1, hy2⟩
  · omega
  · obtain ⟨s', hs', hd, he⟩ := lives_mem hy
    have hat : s'.at_ = s.at_ := by have : (heldOf s').from_ = (heldL y).from_ := by rw [he]
                                    show (heldOf s').from_ = _; rw [this]; exact hy1
    have := strict_unique (line_strict hl) hs' h1 hat
    subst this
    exact ⟨hd, y, hy, by simp [liveAt, hy1, hy2]; omega, he.symm⟩
theorem slim_line : isLineP k (slimOf k l t) = true := by
  have hs := isLineP_spec hl
  have hsub : (slimOf k l t).Sublist l := List.filter_sublist
  exact isLineP_mk hs.1 hs.2.1 (Nat.le_trans hsub.length_le hs.2.2.1) (fun x hx => hs.2.2.2.1 x (hsub.subset hx)) ((line_strict hl).sublist hsub)
theorem slim_pre : ((slimOf k l t).filter fun s => decide (s.at_ ≤ t)).map heldOf = ((livesOf k l).filter (liveAt t)).map heldL := by
  have hst := line_strict (slim_line hl (t := t))
  have hinc := livesOf_inc (k := k) (isLineP_spec hl).2.2.2.2
  refine held_inc_eq (List.pairwise_map.2 ((hst.filter _).imp fun h => h)) (List.pairwise_map.2 ((List.pairwise_map.1 hinc).filter _)) fun x => ?_
  constructor
  · intro hx
    obtain ⟨s, hs, rfl⟩ := List.mem_map.1 hx
    obtain ⟨h1, h2⟩ := List.mem_filter.1 hs
    obtain ⟨_, y, hy, hy1, hy2⟩ := (slim_mem hl h1).2 (by simpa using h2)
    rw [← hy2]
    exact List.mem_map_of_mem (List.mem_filter.2 ⟨hy, hy1⟩)
  · intro hx
    obtain ⟨y, hy, rfl⟩ := List.mem_map.1 hx
    obtain ⟨h1, h2⟩ := List.mem_filter.1 hy
    obtain ⟨s, hs, hd, he⟩ := lives_mem h1
    have hat : s.at_ = y.from_ := by have : (heldOf s).from_ = (heldL y).from_ := by rw [he]
                                     exact this
    simp only [liveAt, Bool.and_eq_true, decide_eq_true_eq] at h2
    rw [← he]
    refine List.mem_map_of_mem (List.mem_filter.2 ⟨List.mem_filter.2 ⟨hs, ?_⟩, by simp; omega⟩)
    simp only [keepP, aliveP, Bool.or_eq_true, decide_eq_true_eq, List.any_eq_true, Bool.and_eq_true, beq_iff_eq]
    exact .inr ⟨y, h1, hat.symm, h2.2⟩
end
section
variable {k : Int} {l : List Step} (hl : isLineP k l = true) {t : Int} (ht : t ≤ 1000)
include hl ht
theorem pre_keys : k = 3 → ((((slimOf k l t).filter fun s => decide (s.at_ ≤ t)).map heldOf).map Held.key).Nodup := fun h3 => by
  rw [slim_pre hl (t := t)]
  have h := (state_lives hl ht).2 h3
  refine ((h.1.map Held.key).nodup_iff).1 (List.nodup_iff_pairwise_ne.2 (List.pairwise_map.2 (h.2.imp fun h => by omega)))
theorem sub_alike {q : List Step} (hq : q.Sublist (slimOf k l t)) : Alike k (runP k t q) ((q.filter fun s => decide (s.at_ ≤ t)).map heldOf) := by
  rw [runP_full]
  have hsub := hq.filter fun s => decide (s.at_ ≤ t)
  have h := ins_full ⟨(isLineP_spec hl).1, (isLineP_spec hl).2.1⟩ (q.filter fun s => decide (s.at_ ≤ t)) [] (fun s hs => ((slim_mem hl (List.mem_filter.1 (hsub.subset hs)).1).2 (by simpa using (List.mem_filter.1 hs).2)).1)
    fun h3 => ⟨.nil, by rw [List.nil_append]; exact ((hsub.map heldOf).map Held.key).nodup (pre_keys hl ht h3)⟩
  rwa [List.nil_append] at h
theorem slim_run : runP k t (slimOf k l t) = runP k t l := by
  have h1 := sub_alike hl ht (List.Sublist.refl _)
  rw [slim_pre hl (t := t)] at h1
  exact h1.unique (state_lives hl ht)
theorem slim_there {a : Int} (ha : t ≤ a) : thereP k (slimOf k l t) a = thereP k l a := by
  have key : ∀ {q : List Step}, strictL q → runP k a q = fullRun k (runP k t q) ((q.filter fun s => decide (t < s.at_)).filter fun s => decide (s.at_ ≤ a)) := fun {q} hq => by
    rw [runP_full, runP_full]
    conv => lhs; rw [split_strict hq t, List.filter_append]
    have e : (q.filter fun s => decide (s.at_ ≤ t)).filter (fun s => decide (s.at_ ≤ a)) = q.filter fun s => decide (s.at_ ≤ t) := List.filter_eq_self.2 fun x hx => by
      have := (List.mem_filter.1 hx).2
      simp at this ⊢; omega
    rw [e]
    simp [fullRun, List.foldl_append]
  unfold thereP
  rw [key (line_strict (slim_line hl)), key (line_strict hl), slim_run hl ht]
  congr 3
  unfold slimOf
  rw [List.filter_filter]
  refine List.filter_congr fun x hx => ?_
  by_cases h : t < x.at_ <;> simp [h, keepP]
theorem slim_slim : slimOf k (slimOf k l t) t = slimOf k l t := by
  have hx := slim_line hl (t := t)
  refine List.filter_eq_self.2 fun s hs => ?_
  by_cases h : t < s.at_
  · simp [keepP, h]
  · have h1 := sub_alike hl ht (List.Sublist.refl _)
    have h2 := state_lives hx ht
    have hm : heldOf s ∈ ((slimOf k l t).filter fun s => decide (s.at_ ≤ t)).map heldOf := List.mem_map_of_mem (List.mem_filter.2 ⟨hs, by simp; omega⟩)
    have hm2 := h2.mem.1 (h1.mem.2 hm)
    obtain ⟨y, hy, he⟩ := List.mem_map.1 hm2
    obtain ⟨hy1, hy2⟩ := List.mem_filter.1 hy
    have hat : y.from_ = s.at_ := by have : (heldL y).from_ = (heldOf s).from_ := by rw [he]
                                     exact this
    simp only [liveAt, Bool.and_eq_true, decide_eq_true_eq] at hy2
    simp only [keepP, aliveP, Bool.or_eq_true, decide_eq_true_eq, List.any_eq_true, Bool.and_eq_true, beq_iff_eq]
    exact .inr ⟨y, hy1, hat, hy2.2⟩
end
theorem first_gone {α : Type} : ∀ {v u : List α}, v.Sublist u → v.length < u.length → ∃ p s u' v', u = p ++ s :: u' ∧ v = p ++ v' ∧ v'.Sublist u'
  | _, _, .slnil, h => by simp at h
  | v, _, .cons a hs, _ => ⟨[], a, _, v, rfl, rfl, hs⟩
  | _, _, .cons_cons a hs, h => by
    obtain ⟨p, s, u', v', h1, h2, h3⟩ := first_gone hs (by simpa using h)
    exact ⟨a :: p, s, u', v', by rw [h1]; rfl, by rw [h2]; rfl, h3⟩
/-- A slim line has no step in vain. -/
theorem slim_needs {k : Int} {l : List Step} (hl : isLineP k l = true) {t : Int} {less : List Step} (hsub : less.Sublist (slimOf k l (capT t))) (hlen : less.length < (slimOf k l (capT t)).length)
    (hidle : ∀ s ∈ slimOf k l (capT t), t < s.at_ → thereP k (slimOf k l (capT t)) (s.at_ - 1) ≠ thereP k (slimOf k l (capT t)) s.at_) :
    (1000 < t → thereP k less t ≠ thereP k (slimOf k l (capT t)) t) ∧ (t ≤ 1000 → ∃ d ∈ diffOf k less (slimOf k l (capT t)), t ≤ d.to_) := by
  have hc : capT t ≤ 1000 := by unfold capT; split <;> omega
  have hx := slim_line hl (t := capT t)
  have hst := line_strict hx
  have hsp := isLineP_spec hx
  have htime : ∀ s ∈ slimOf k l (capT t), 0 ≤ s.at_ ∧ s.at_ ≤ 1000 := fun s hs => (isStep_do (hsp.2.2.2.1 s hs)).2
  have htb : ∀ s ∈ less ++ slimOf k l (capT t), 0 ≤ s.at_ ∧ s.at_ ≤ 1000 := fun s hs => (List.mem_append.1 hs).elim (fun h => htime s (hsub.subset h)) (htime s)
  have hA := sub_alike hl hc hsub
  have hB := sub_alike hl hc (List.Sublist.refl (slimOf k l (capT t)))
  have hcover := (diffOf_spans (k := k) htb).cover
  generalize hxs : slimOf k l (capT t) = x at *
  have hless := hst.sublist hsub
  have hs1 := split_strict hst (capT t)
  have hs2 := split_strict hless (capT t)
  have hsub1 := hsub.filter fun s => decide (s.at_ ≤ capT t)
  have hsub2 := hsub.filter fun s => decide (capT t < s.at_)
  by_cases hlt : (less.filter fun s => decide (s.at_ ≤ capT t)).length < (x.filter fun s => decide (s.at_ ≤ capT t)).length
  · have hne : thereP k less (capT t) ≠ thereP k x (capT t) := fun he => by
      have := congrArg List.length he
      simp only [thereP, List.length_map] at this
      rw [hA.length, hB.length, List.length_map, List.length_map] at this
      omega
    constructor
    · intro h1
      have hcap : capT t = 1000 := by simp [capT, h1]
      rw [hcap] at hne
      have e1 : thereP k less t = thereP k less 1000 := thereP_congr fun s hs => by have := htime s (hsub.subset hs); omega
      have e2 : thereP k x t = thereP k x 1000 := thereP_congr fun s hs => by have := htime s hs; omega
      rw [e1, e2]; exact hne
    · intro h1
      have hcap : capT t = t := by unfold capT; rw [if_neg (by omega)]
      rw [hcap] at hne hlt
      have hpos : 0 < (x.filter fun s => decide (s.at_ ≤ t)).length := by omega
      obtain ⟨s, hs⟩ := List.exists_mem_of_length_pos hpos
      obtain ⟨hs1, hs2⟩ := List.mem_filter.1 hs
      have h0 := htime s hs1
      obtain ⟨d, hd, hd1, hd2⟩ := (hcover t (by simp at hs2; omega) (by omega)).2 hne
      exact ⟨d, hd, hd2⟩
  · have heq : (less.filter fun s => decide (s.at_ ≤ capT t)) = x.filter fun s => decide (s.at_ ≤ capT t) := hsub1.eq_of_length_le (by omega)
    have hl2 : (less.filter fun s => decide (capT t < s.at_)).length < (x.filter fun s => decide (capT t < s.at_)).length := by
      have e1 := congrArg List.length hs1
      have e2 := congrArg List.length hs2
      rw [List.length_append] at e1 e2
      rw [heq] at e2
      omega
    obtain ⟨p, s, u', v', hu, hv, hvu⟩ := first_gone hsub2 hl2
    have hsx : s ∈ x.filter fun s => decide (capT t < s.at_) := by rw [hu]; simp
    obtain ⟨hsx1, hsx2⟩ := List.mem_filter.1 hsx
    have hst2 := htime s hsx1
    simp only [decide_eq_true_eq] at hsx2
    have hle : t ≤ 1000 := by
      by_cases h1 : 1000 < t
      · have : capT t = 1000 := by simp [capT, h1]
        omega
      · omega
    have hcap : capT t = t := by unfold capT; rw [if_neg (by omega)]
    refine ⟨fun h => by omega, fun _ => ?_⟩
    have hus : strictL (p ++ s :: u') := by rw [← hu]; exact hst.filter _
    have hp := List.pairwise_append.1 hus
    have hpc := List.pairwise_cons.1 hp.2.1
    have f1 : less.filter (fun z => decide (z.at_ ≤ s.at_)) = (x.filter fun s => decide (s.at_ ≤ capT t)) ++ p := by
      conv => lhs; rw [hs2, heq, hv, List.filter_append, List.filter_append]
      have g1 : (x.filter fun s => decide (s.at_ ≤ capT t)).filter (fun z => decide (z.at_ ≤ s.at_)) = x.filter fun s => decide (s.at_ ≤ capT t) := List.filter_eq_self.2 fun z hz => by
        have := (List.mem_filter.1 hz).2
        simp at this ⊢; omega
      have g2 : p.filter (fun z => decide (z.at_ ≤ s.at_)) = p := List.filter_eq_self.2 fun z hz => by
        have := hp.2.2 z hz s (by simp)
        simp; omega
      have g3 : v'.filter (fun z => decide (z.at_ ≤ s.at_)) = [] := List.filter_eq_nil_iff.2 fun z hz => by
        have := hpc.1 z (hvu.subset hz)
        simp; omega
      rw [g1, g2, g3, List.append_nil]
    have f2 : x.filter (fun z => decide (z.at_ ≤ s.at_ - 1)) = (x.filter fun s => decide (s.at_ ≤ capT t)) ++ p := by
      conv => lhs; rw [hs1, hu, List.filter_append, List.filter_append]
      have g1 : (x.filter fun s => decide (s.at_ ≤ capT t)).filter (fun z => decide (z.at_ ≤ s.at_ - 1)) = x.filter fun s => decide (s.at_ ≤ capT t) := List.filter_eq_self.2 fun z hz => by
        have := (List.mem_filter.1 hz).2
        simp at this ⊢; omega
      have g2 : p.filter (fun z => decide (z.at_ ≤ s.at_ - 1)) = p := List.filter_eq_self.2 fun z hz => by
        have := hp.2.2 z hz s (by simp)
        simp; omega
      have g3 : (s :: u').filter (fun z => decide (z.at_ ≤ s.at_ - 1)) = [] := List.filter_eq_nil_iff.2 fun z hz => by
        rcases List.mem_cons.1 hz with rfl | hz
        · simp; omega
        · have := hpc.1 z hz
          simp; omega
      rw [g1, g2, g3, List.append_nil]
    have hsame : thereP k less s.at_ = thereP k x (s.at_ - 1) := by unfold thereP; rw [runP_full, runP_full, f1, f2]
    have hne : thereP k less s.at_ ≠ thereP k x s.at_ := by rw [hsame]; exact hidle s hsx1 (by omega)
    obtain ⟨d, hd, hd1, hd2⟩ := (hcover s.at_ hst2.1 (by omega)).2 hne
    exact ⟨d, hd, by omega⟩
end Go.Proofs.Ytkoeplbkeboklaa
