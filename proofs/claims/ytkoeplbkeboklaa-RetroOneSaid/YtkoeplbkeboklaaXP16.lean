/- The plain side of retro: what is there at a time is what lives then. No program in sight. -/
import Derived.Test.YtkoeplbkeboklaaXP15
import Derived.Test.YtkoeplbkeboklaaM8
set_option linter.unusedVariables false
set_option linter.unusedSimpArgs false
namespace Go.Proofs.Ytkoeplbkeboklaa
def heldL (x : Life) : Held := ⟨x.key, x.val, x.from_⟩
def liveAt (t : Int) (x : Life) : Bool := decide (x.from_ ≤ t) && decide (t < x.to_)
def open_ (x : Life) : Bool := x.to_ == 1001
/-- What holds between what is there and the lives so far, behind all steps up to b. -/
structure Inv (k : Int) (th : List Held) (out : List Life) (b : Int) : Prop where
  each : ∀ x ∈ out, 0 ≤ x.from_ ∧ x.from_ ≤ b ∧ x.from_ ≤ 1000 ∧ (x.to_ = 1001 ∨ (x.from_ < x.to_ ∧ x.to_ ≤ b ∧ x.to_ ≤ 1000))
  inc : out.Pairwise fun x y => x.from_ < y.from_
  same : k ≠ 3 → th = (out.filter open_).map heldL
  perm : k = 3 → th.Perm ((out.filter open_).map heldL) ∧ sortH th
theorem Inv.start (k b : Int) : Inv k [] [] b := ⟨fun x h => by simp at h, .nil, fun _ => rfl, fun _ => ⟨.refl _, .nil⟩⟩
theorem Inv.later {k : Int} {th : List Held} {out : List Life} {b c : Int} (h : Inv k th out b) (hb : b ≤ c) : Inv k th out c :=
  ⟨fun x hx => by have := h.each x hx; omega, h.inc, h.same, h.perm⟩
theorem Inv.mem {k : Int} {th : List Held} {out : List Life} {b : Int} (h : Inv k th out b) {y : Held} : y ∈ th ↔ ∃ x ∈ out, x.to_ = 1001 ∧ heldL x = y := by
  have e : y ∈ th ↔ y ∈ (out.filter open_).map heldL := by
    by_cases hk : k = 3
    · exact (h.perm hk).1.mem_iff
    · rw [h.same hk]
  rw [e]
  simp [open_, and_assoc]
theorem inc_unique {out : List Life} (h : out.Pairwise fun x y => x.from_ < y.from_) {x y : Life} (hx : x ∈ out) (hy : y ∈ out) (he : x.from_ = y.from_) : x = y := by
  obtain ⟨i, hi, rfl⟩ := List.getElem_of_mem hx
  obtain ⟨j, hj, rfl⟩ := List.getElem_of_mem hy
  have := List.pairwise_iff_getElem.1 h
  rcases Nat.lt_trichotomy i j with h1 | h1 | h1
  · have := this i j hi hj h1; omega
  · subst h1; rfl
  · have := this j i hj hi h1; omega
theorem Inv.nodup {k : Int} {th : List Held} {out : List Life} {b : Int} (h : Inv k th out b) : (th.map Held.from_).Nodup := by
  have hp : (((out.filter open_).map heldL).map Held.from_).Nodup := by
    rw [List.map_map]
    exact List.nodup_iff_pairwise_ne.2 (List.pairwise_map.2 ((h.inc.filter _).imp fun h => by simp only [Function.comp, heldL]; omega))
  by_cases hk : k = 3
  · exact ((h.perm hk).1.map Held.from_).nodup_iff.2 hp
  · rw [h.same hk]; exact hp
theorem Inv.from_ {k : Int} {th : List Held} {out : List Life} {b : Int} (h : Inv k th out b) {y : Held} (hy : y ∈ th) : 0 ≤ y.from_ ∧ y.from_ ≤ b := by
  obtain ⟨x, hx, _, rfl⟩ := h.mem.1 hy
  have := h.each x hx
  exact ⟨this.1, this.2.1⟩
theorem filter_last {th : List Held} {y : Held} (h : ((th ++ [y]).map Held.from_).Nodup) : (th ++ [y]).filter (fun x => x.from_ != y.from_) = th := by
  rw [List.filter_append]
  have : [y].filter (fun x => x.from_ != y.from_) = [] := by simp
  rw [this, List.append_nil]
  refine List.filter_eq_self.2 fun x hx => ?_
  rw [List.map_append, List.nodup_append] at h
  exact bne_iff_ne.2 (h.2.2 _ (List.mem_map_of_mem hx) _ (by simp))
theorem filter_head {th : List Held} {y : Held} (h : ((y :: th).map Held.from_).Nodup) : (y :: th).filter (fun x => x.from_ != y.from_) = th := by
  rw [List.filter_cons]
  simp only [bne_self_eq_false, Bool.false_eq_true, if_false]
  rw [List.map_cons, List.nodup_cons] at h
  exact List.filter_eq_self.2 fun x hx => bne_iff_ne.2 fun e => h.1 (e ▸ List.mem_map_of_mem hx)
/-- What a step leaves: all but the one that it takes. -/
theorem doP_rest {k : Int} {th : List Held} {s : Step} (hk : 1 ≤ k ∧ k ≤ 3) (hd : s.do_ = 1 ∨ s.do_ = 2) (hn : (th.map Held.from_).Nodup) (h0 : ∀ y ∈ th, 0 ≤ y.from_) (hs : k = 3 → sortH th) :
    (doP k th s).1 = (if s.do_ = 1 then (if k = 3 then insH (heldOf s) (th.filter fun x => x.from_ != (doP k th s).2.from_) else (th.filter fun x => x.from_ != (doP k th s).2.from_) ++ [heldOf s]) else th.filter fun x => x.from_ != (doP k th s).2.from_) ∧
    ((doP k th s).2 = noneH ∨ (doP k th s).2 ∈ th) := by
  have hall : th.filter (fun x => x.from_ != noneH.from_) = th := List.filter_eq_self.2 fun x hx => bne_iff_ne.2 (by have := h0 x hx; show x.from_ ≠ -1; omega)
  by_cases h1 : k = 1
  · subst h1
    have e : doP 1 th s = stackDo th s := by simp [doP]
    rw [e]
    unfold stackDo
    by_cases hdo : s.do_ = 1
    · rw [if_pos hdo]
      dsimp only
      rw [if_pos hdo, if_neg (by decide), hall]
      exact ⟨rfl, .inl rfl⟩
    · rw [if_neg hdo]
      rcases List.eq_nil_or_concat th with rfl | ⟨l, y, rfl⟩
      · dsimp only [List.getLast?_nil]
        rw [if_neg hdo]
        exact ⟨rfl, .inl rfl⟩
      · rw [List.concat_eq_append] at *
        have hl : (l ++ [y]).getLast? = some y := by simp
        rw [hl]
        dsimp only
        rw [if_neg hdo, filter_last hn]
        refine ⟨?_, .inr (by simp)⟩
        rw [List.length_append, List.length_singleton, Nat.add_sub_cancel, List.take_left]
  · by_cases h2 : k = 2
    · subst h2
      have e : doP 2 th s = queueDo th s := by simp [doP]
      rw [e]
      unfold queueDo
      by_cases hdo : s.do_ = 1
      · rw [if_pos hdo]
        dsimp only
        rw [if_pos hdo, if_neg (by decide), hall]
        exact ⟨rfl, .inl rfl⟩
      · rw [if_neg hdo]
        cases th with
        | nil => dsimp only; rw [if_neg hdo]; exact ⟨rfl, .inl rfl⟩
        | cons y l =>
          dsimp only
          rw [if_neg hdo, filter_head hn]
          exact ⟨rfl, .inr (by simp)⟩
    · have h3 : k = 3 := by omega
      subst h3
      have e : doP 3 th s = mapDo th s := by simp [doP]
      rw [e]
      unfold mapDo
      dsimp only
      have hf : (th.filter fun h => h.key != s.key) = th.filter (fun x => x.from_ != ((th.find? fun h => h.key == s.key).getD noneH).from_) := by
        cases hfind : th.find? fun h => h.key == s.key with
        | none =>
          rw [Option.getD_none, hall]
          refine List.filter_eq_self.2 fun x hx => ?_
          have := List.find?_eq_none.1 hfind x hx
          simpa using this
        | some y =>
          rw [Option.getD_some]
          have hy := List.mem_of_find?_eq_some hfind
          have hyk : y.key = s.key := by have := List.find?_some hfind; simpa using this
          refine List.filter_congr fun x hx => ?_
          rw [← hyk, Bool.eq_iff_iff, bne_iff_ne, bne_iff_ne]
          have uk : x.key = y.key → x = y := fun he => by
            have hp := hs rfl
            obtain ⟨i, hi, rfl⟩ := List.getElem_of_mem hx
            obtain ⟨j, hj, rfl⟩ := List.getElem_of_mem hy
            have := List.pairwise_iff_getElem.1 hp
            rcases Nat.lt_trichotomy i j with q | q | q
            · have := this i j hi hj q; omega
            · subst q; rfl
            · have := this j i hj hi q; omega
          have uf : x.from_ = y.from_ → x = y := fun he => by
            obtain ⟨i, hi, rfl⟩ := List.getElem_of_mem hx
            obtain ⟨j, hj, rfl⟩ := List.getElem_of_mem hy
            have := List.pairwise_iff_getElem.1 (List.nodup_iff_pairwise_ne.1 hn)
            simp only [List.getElem_map, List.length_map] at this
            rcases Nat.lt_trichotomy i j with q | q | q
            · exact absurd he (this i j hi hj q)
            · subst q; rfl
            · exact absurd he.symm (this j i hj hi q)
          exact ⟨fun h h2 => h (by rw [uf h2]), fun h h2 => h (by rw [uk h2])⟩
      refine ⟨?_, ?_⟩
      · rw [← hf]; simp
      · cases hfind : th.find? fun h => h.key == s.key with
        | none => exact .inl rfl
        | some y => exact .inr (List.mem_of_find?_eq_some hfind)
theorem closed_open {out : List Life} {f a : Int} (ha : a ≠ 1001) : (out.map (closeL f a)).filter open_ = (out.filter open_).filter fun x => x.from_ != f := by
  induction out with
  | nil => rfl
  | cons x l ih =>
    rw [List.map_cons, List.filter_cons, List.filter_cons, ih]
    by_cases hf : x.from_ = f
    · have e : closeL f a x = { x with to_ := a } := by simp [closeL, hf]
      have e2 : open_ (closeL f a x) = false := by rw [e]; simp [open_, ha]
      rw [e2]
      cases h : open_ x with
      | true => simp [List.filter_cons, hf]
      | false => simp
    · have e : closeL f a x = x := by simp [closeL, hf]
      rw [e]
      cases h : open_ x with
      | true => simp [List.filter_cons, hf]
      | false => simp
theorem insH_perm2 (h : Held) : ∀ l : List Held, (insH h l).Perm (h :: l)
  | [] => .refl _
  | x :: l => by
    simp only [insH]
    split
    · exact .refl _
    · exact ((insH_perm2 h l).cons x).trans (.swap _ _ _)
/-- The lives behind a step. -/
def nextOut (k : Int) (th : List Held) (out : List Life) (s : Step) : List Life := out.map (closeL (doP k th s).2.from_ s.at_) ++ if s.do_ = 1 then [⟨s.at_, 1001, s.key, s.val⟩] else []
theorem Inv.taken {k : Int} {th : List Held} {out : List Life} {b : Int} (h : Inv k th out b) {s : Step} (hk : 1 ≤ k ∧ k ≤ 3) (hd : s.do_ = 1 ∨ s.do_ = 2) : ∀ x ∈ out, x.from_ = (doP k th s).2.from_ → x.to_ = 1001 ∧ heldL x = (doP k th s).2 := fun x hx he => by
  rcases (doP_rest hk hd h.nodup (fun y hy => (h.from_ hy).1) fun h3 => (h.perm h3).2).2 with h1 | h1
  · rw [h1] at he
    have := (h.each x hx).1
    have e : noneH.from_ = -1 := rfl
    omega
  · obtain ⟨y, hy, hy1, hy2⟩ := h.mem.1 h1
    have := inc_unique h.inc hx hy (by rw [he, ← hy2]; rfl)
    subst this
    exact ⟨hy1, hy2⟩
theorem Inv.step {k : Int} {th : List Held} {out : List Life} {b : Int} (h : Inv k th out b) {s : Step} (hk : 1 ≤ k ∧ k ≤ 3) (hd : s.do_ = 1 ∨ s.do_ = 2) (hb : b < s.at_) (h0 : 0 ≤ s.at_) (ht : s.at_ ≤ 1000) : Inv k (doP k th s).1 (nextOut k th out s) s.at_ := by
  obtain ⟨hr, _⟩ := doP_rest hk hd h.nodup (fun y hy => (h.from_ hy).1) fun h3 => (h.perm h3).2
  have hop : (nextOut k th out s).filter open_ = ((out.filter open_).filter fun x => x.from_ != (doP k th s).2.from_) ++ if s.do_ = 1 then [⟨s.at_, 1001, s.key, s.val⟩] else [] := by
    unfold nextOut
    rw [List.filter_append, closed_open (by omega)]
    congr 1
    split <;> simp [open_]
  have hmap : (((out.filter open_).filter fun x => x.from_ != (doP k th s).2.from_) ++ if s.do_ = 1 then [(⟨s.at_, 1001, s.key, s.val⟩ : Life)] else []).map heldL = (((out.filter open_).map heldL).filter fun x => x.from_ != (doP k th s).2.from_) ++ if s.do_ = 1 then [heldOf s] else [] := by
    rw [List.map_append, List.filter_map]
    congr 1
    split <;> rfl
  refine ⟨fun x hx => ?_, ?_, fun h3 => ?_, fun h3 => ⟨?_, doP_sort s (fun h3 => (h.perm h3).2) hk h3⟩⟩
  · unfold nextOut at hx
    rcases List.mem_append.1 hx with hx | hx
    · obtain ⟨y, hy, rfl⟩ := List.mem_map.1 hx
      have := h.each y hy
      unfold closeL
      split
      · exact ⟨this.1, by show y.from_ ≤ s.at_; omega, this.2.2.1, .inr ⟨by show y.from_ < s.at_; omega, by show s.at_ ≤ s.at_; omega, ht⟩⟩
      · exact ⟨this.1, by omega, this.2.2.1, by omega⟩
    · split at hx
      · simp at hx; subst hx; exact ⟨h0, by show s.at_ ≤ s.at_; omega, ht, .inl rfl⟩
      · simp at hx
  · unfold nextOut
    refine List.pairwise_append.2 ⟨List.pairwise_map.2 (h.inc.imp fun h => by unfold closeL; split <;> split <;> exact h), by split <;> simp, fun x hx y hy => ?_⟩
    obtain ⟨z, hz, rfl⟩ := List.mem_map.1 hx
    split at hy
    · simp at hy; subst hy
      have := (h.each z hz).2.1
      unfold closeL
      split <;> (show z.from_ < s.at_; omega)
    · simp at hy
  · rw [hop, hmap, hr, ← h.same h3]
    split
    · first | rfl | rw [if_neg h3]
    · simp
  · rw [hop, hmap, hr]
    have hp := (h.perm h3).1.filter fun x => x.from_ != (doP k th s).2.from_
    split
    · try rw [if_pos h3]
      exact (insH_perm2 _ _).trans (((hp.cons _)).trans (List.perm_append_comm (l₁ := [heldOf s])))
    · rw [List.append_nil]; exact hp
theorem nextOut_live {k : Int} {th : List Held} {out : List Life} {b t : Int} (h : Inv k th out b) {s : Step} (hk : 1 ≤ k ∧ k ≤ 3) (hd : s.do_ = 1 ∨ s.do_ = 2) (ht : t < s.at_) (ht2 : t ≤ 1000) :
    ((nextOut k th out s).filter (liveAt t)).map heldL = (out.filter (liveAt t)).map heldL := by
  unfold nextOut
  rw [List.filter_append]
  have e1 : (if s.do_ = 1 then [(⟨s.at_, 1001, s.key, s.val⟩ : Life)] else []).filter (liveAt t) = [] := by
    split
    · have : liveAt t ⟨s.at_, 1001, s.key, s.val⟩ = false := by simp [liveAt]; omega
      simp [List.filter_cons, this]
    · rfl
  rw [e1, List.append_nil]
  have hc := fun x hx => h.taken (s := s) hk hd x hx
  generalize (doP k th s).2.from_ = f at *
  clear h e1
  induction out with
  | nil => rfl
  | cons x l ih =>
    have ih := ih fun y hy => hc y (by simp [hy])
    have e : liveAt t (closeL f s.at_ x) = liveAt t x ∧ heldL (closeL f s.at_ x) = heldL x := by
      unfold closeL
      split
      · rename_i hf
        have := (hc x (by simp) hf).1
        refine ⟨?_, rfl⟩
        simp only [liveAt, this]
        rw [decide_eq_true (show t < s.at_ from ht), decide_eq_true (show t < 1001 by omega)]
      · exact ⟨rfl, rfl⟩
    rw [List.map_cons, List.filter_cons, List.filter_cons, e.1]
    split
    · rw [List.map_cons, List.map_cons, ih, e.2]
    · exact ih
theorem later_live {k : Int} (hk : 1 ≤ k ∧ k ≤ 3) {t : Int} (ht2 : t ≤ 1000) : ∀ (l : List Step) {th : List Held} {out : List Life} {b : Int}, Inv k th out b → (∀ s ∈ l, (s.do_ = 1 ∨ s.do_ = 2) ∧ 0 ≤ s.at_ ∧ s.at_ ≤ 1000) → strictL l → (∀ s ∈ l, b < s.at_ ∧ t < s.at_) →
    ((livesFrom k th out l).filter (liveAt t)).map heldL = (out.filter (liveAt t)).map heldL
  | [], th, out, b, h, _, _, _ => rfl
  | s :: l, th, out, b, h, hf, hs, hb => by
    have h1 := hf s (by simp)
    have h2 := hb s (by simp)
    have hs' := List.pairwise_cons.1 hs
    rw [livesFrom]
    have := later_live hk ht2 l (h.step hk h1.1 h2.1 h1.2.1 h1.2.2) (fun x hx => hf x (by simp [hx])) hs'.2 fun x hx => ⟨hs'.1 x hx, (hb x (by simp [hx])).2⟩
    exact this.trans (nextOut_live h hk h1.1 h2.2 ht2)
/-- What is there at t, and the lives that last then. -/
def Alike (k : Int) (th : List Held) (ls : List Held) : Prop := (k ≠ 3 → th = ls) ∧ (k = 3 → th.Perm ls ∧ sortH th)
theorem run_lives0 {k : Int} {t : Int} (ht2 : t ≤ 1000) {th : List Held} {out : List Life} {b : Int} (h : Inv k th out b) (hbt : b ≤ t) : Alike k th ((out.filter (liveAt t)).map heldL) := by
  have e : out.filter (liveAt t) = out.filter open_ := List.filter_congr fun x hx => by
    have := h.each x hx
    rw [Bool.eq_iff_iff]
    simp only [liveAt, open_, Bool.and_eq_true, decide_eq_true_eq, beq_iff_eq]
    omega
  rw [e]
  exact ⟨h.same, h.perm⟩
theorem run_lives {k : Int} (hk : 1 ≤ k ∧ k ≤ 3) {t : Int} (ht2 : t ≤ 1000) : ∀ (l : List Step) {th : List Held} {out : List Life} {b : Int}, Inv k th out b → (∀ s ∈ l, (s.do_ = 1 ∨ s.do_ = 2) ∧ 0 ≤ s.at_ ∧ s.at_ ≤ 1000) → strictL l → (∀ s ∈ l, b < s.at_) → b ≤ t →
    Alike k (l.foldl (stepT k t) th) (((livesFrom k th out l).filter (liveAt t)).map heldL)
  | [], th, out, b, h, _, _, _, hbt => run_lives0 ht2 h hbt
  | s :: l, th, out, b, h, hf, hs, hb, hbt => by
    have h1 := hf s (by simp)
    have h2 := hb s (by simp)
    have hs' := List.pairwise_cons.1 hs
    by_cases hle : s.at_ ≤ t
    · have := run_lives hk ht2 l (h.step hk h1.1 h2 h1.2.1 h1.2.2) (fun x hx => hf x (by simp [hx])) hs'.2 (fun x hx => hs'.1 x hx) hle
      rw [List.foldl_cons, livesFrom, show stepT k t th s = (doP k th s).1 by unfold stepT; rw [if_pos hle]]
      exact this
    · have hno : ∀ (m : List Step), (∀ x ∈ m, t < x.at_) → m.foldl (stepT k t) th = th := by
        intro m
        induction m with
        | nil => intro _; rfl
        | cons x m ih => intro hm; rw [List.foldl_cons, show stepT k t th x = th by unfold stepT; rw [if_neg (by have := hm x (by simp); omega)]]; exact ih fun y hy => hm y (by simp [hy])
      have hall : ∀ x ∈ s :: l, t < x.at_ := fun x hx => by
        rcases List.mem_cons.1 hx with rfl | hx
        · omega
        · have := hs'.1 x hx; omega
      rw [hno _ hall, later_live hk ht2 (s :: l) h hf hs fun x hx => ⟨hb x hx, hall x hx⟩]
      exact run_lives0 ht2 h hbt
theorem isStep_do {k : Int} {s : Step} (h : isStepP k s = true) : (s.do_ = 1 ∨ s.do_ = 2) ∧ 0 ≤ s.at_ ∧ s.at_ ≤ 1000 := by
  unfold isStepP at h
  split at h
  · rename_i hw
    simp only [withinP, Bool.and_eq_true, decide_eq_true_eq] at hw
    split at h
    · cases h
    · simp only [Bool.or_eq_true, beq_iff_eq, Bool.and_eq_true] at h
      exact ⟨h.elim .inl fun h => .inr h.1, hw.1.1⟩
  · cases h
theorem state_lives {k : Int} {l : List Step} (hl : isLineP k l = true) {t : Int} (ht : t ≤ 1000) : Alike k (runP k t l) (((livesOf k l).filter (liveAt t)).map heldL) := by
  have hs := isLineP_spec hl
  have hf := fun s hx => isStep_do (hs.2.2.2.1 s hx)
  exact run_lives ⟨hs.1, hs.2.1⟩ ht l (Inv.start k (min t (-1))) hf (line_strict hl) (fun s hx => by have := (hf s hx).2.1; omega) (by omega)
end Go.Proofs.Ytkoeplbkeboklaa
