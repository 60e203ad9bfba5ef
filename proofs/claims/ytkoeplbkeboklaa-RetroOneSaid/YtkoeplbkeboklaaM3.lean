/- My texts of layer 14, joined: R11, P5, R12, R13, R15, R18, P6, P7, P8, P9, P10, Base4, R16, R24, P13. -/
import Derived.Test.YtkoeplbkeboklaaM2
import Derived.Deep.RegionHeld3
/- The reference's AtOf: what is there in a line at a time. -/
set_option linter.unusedVariables false
set_option linter.unusedSimpArgs false
namespace Go.Proofs.Ytkoeplbkeboklaa
open Go.RowKit
theorem stepR_eq {k : Int} {th : List Held} {s : Step} (hk : 1 ≤ k ∧ k ≤ 3) (hd : s.do_ = 1 ∨ s.do_ = 2) (hs : k = 3 → sortH th) : stepR (goneP k th s) k th s = (doP k th s).1 ∧ fromP (goneP k th s) th = (doP k th s).2.from_ := by
  obtain ⟨h1, h2⟩ := doP_ref (k := k) (th := th) (s := s) hk hd hs
  exact ⟨h2.symm, h1.symm⟩
/-- The reference's step on what is there, as the program's. -/
theorem refStep_is2 {k : Int} {v : Value} {th : List Held} {s : Step} {S : Nat → Prop} (hk : 1 ≤ k ∧ k ≤ 3) (hd : s.do_ = 1 ∨ s.do_ = 2) (hs : k = 3 → sortH th) (w : World) (hw : Win Held.thing 3 115 w v S th) (hth : th.length < 1000000) :
    Calls Try.prog 58 #[.int .i64 k, v, .agg #[.int .i64 s.at_, .int .i64 s.do_, .int .i64 s.key, .int .i64 s.val]] w fun e w' =>
      ∃ v', e = .returned (.tuple #[v', .int .i64 (doP k th s).2.from_]) ∧ Win Held.thing 3 115 w' v' (fun i => S i ∨ w.heap.size ≤ i) (doP k th s).1 ∧ Below w.heap.size w w' := by
  have := refStep_do k v th s S w hw hth
  rwa [(stepR_eq hk hd hs).1, (stepR_eq hk hd hs).2] at this
/-- A line whose kind and whose steps' deeds are formed: all that the reference's walks ask. -/
def okLine (k : Int) (l : List Step) : Prop := (1 ≤ k ∧ k ≤ 3) ∧ (∀ s ∈ l, s.do_ = 1 ∨ s.do_ = 2) ∧ l.length ≤ 100000
theorem okLine_of {k : Int} {l : List Step} (h : isLineP k l = true) : okLine k l := by
  obtain ⟨h1, h2, h3, h4, _⟩ := isLineP_spec h
  refine ⟨⟨h1, h2⟩, fun s hs => ?_, by omega⟩
  have := h4 s hs
  simp only [isStepP] at this
  split at this
  · split at this
    · cases this
    · simp at this; omega
  · cases this
set_option maxHeartbeats 4000000 in
theorem atOf_any (k : Int) (v : Value) (l : List Step) (t : Int) (w : World) (hr : Rd Step.cells 4 w v l) (hok : okLine k l) :
    Calls Try.prog 72 #[.agg #[.int .i64 k, v], .int .i64 t] w fun e w' => ∃ v, e = .returned v ∧ Win Pair.cells 2 60 w' v (fun i => w.heap.size ≤ i) (thereP k l t) ∧ Below w.heap.size w w' := by
  obtain ⟨a, c, rfl⟩ : ∃ a c, v = .slice a l.length c := by obtain ⟨_, a, c, rfl, _⟩ := hr; exact ⟨a, c, rfl⟩
  have HR := Lib.hid hr
  have HO := Lib.hid hok
  have HBL := Lib.hid (fun o => (Below.refl w.heap.size w).alloc (Nat.le_refl _) o)
  have hll := hok.2.2
  clear hr hok
  go_enter Try.func72, Try.ntmps72
  go_wp2
  go_loopw [14, 5] (fun i v W => ∃ (n : Nat) (a1 : Option Addr) (n1 c1 : Nat), i = .int .i64 n ∧ v = .slice a1 n1 c1 ∧ n ≤ l.length ∧ Win Held.thing 3 115 W (.slice a1 n1 c1) (fun j => w.heap.size < j) (runP k t (l.take n)) ∧ Below w.heap.size w W ∧ w.heap.size < W.heap.size ∧ W.cell? ⟨w.heap.size, 0, none⟩ = some (.int .i64 k)) (fun i _ _ => l.length - (intOf i).toNat)
  case atStart => exact ⟨0, none, 0, 0, rfl, rfl, by omega, winC_nil _ _ _ _, HBL.out _, by simp, by simp⟩
  case round =>
    obtain ⟨n, a1, n1, c1, rfl, rfl, hnl, hwin, hB, hlt, hc0⟩ := hrel
    by_cases hlt' : n < l.length
    · have hx := List.getElem?_eq_getElem hlt'
      have hmem : l[n] ∈ l := List.getElem_mem hlt'
      generalize l[n] = s at hx hmem
      obtain ⟨b, off, rfl, hbl, hc⟩ := rd_at (HR.out.below hB) hx
      have q0 : wr.cell? ⟨b, off + n * 4, none⟩ = some (.int .i64 s.at_) := hc 0 _ rfl
      have q1 := hc 1 _ rfl
      have q2 := hc 2 _ rfl
      have q3 := hc 3 _ rfl
      have hlen := runP_length k t l n
      have hwin2 := fun o => winC_move (winC_block hwin) (fr_alloc (fun _ => False) wr o) (fun _ _ h => h)
      have hcall := fun o => refStep_is2 (k := k) (v := .slice a1 n1 c1) (th := runP k t (l.take n)) (s := s) HO.out.1 (HO.out.2.1 s hmem) (fun h => runP_sort (by omega) (by omega) _) _ (hwin2 o) (by omega)
      have HX := Lib.hid (And.intro hx (And.intro hwin hcall))
      clear hc hx hwin hwin2 hcall hlen hmem
      by_cases hat : s.at_ ≤ t
      · go_wp2_with (go_at_call 58; refine (HX.out.2.2 _).mono ?_; rintro e w2 ⟨v2, rfl, hw2, hb2⟩; obtain ⟨a2, c2, rfl, hn2, hm2⟩ := winC_slice hw2)
        have hsz : wr.heap.size + 1 ≤ w2.heap.size := by have := hb2.size; simpa using this
        go_roundw
        case rel =>
          refine ⟨n + 1, a2, _, c2, by go_num, rfl, by omega, ?_, (hB.alloc hB.size _).trans (hb2.mono (by have := hB.size; simp; omega)), by omega, below_cell hb2 (below_cell ((Below.refl _ _).alloc (Nat.le_refl _) _) hc0)⟩
          rw [runP_take HX.out.1, stepT, if_pos hat]
          exact winC_mono hw2 fun i hi => by
            rcases hi with h | h
            · exact h.2.1
            · simp at h; omega
        case measure => simp [intOf]; omega
      · go_wp2
        go_roundw
        case rel => exact ⟨n + 1, a1, n1, c1, by go_num, rfl, by omega, by rw [runP_take HX.out.1, stepT, if_neg hat]; exact winC_move HX.out.2.1 (fr_alloc (fun _ => False) wr _) (fun _ _ h => h), hB.alloc hB.size _, by simp; omega, below_cell ((Below.refl _ _).alloc (Nat.le_refl _) _) hc0⟩
        case measure => simp [intOf]; omega
    · obtain rfl : n = l.length := by omega
      rw [List.take_length] at hwin
      have hlen := runP_length k t l l.length
      rw [List.take_length] at hlen
      obtain ⟨th, hth⟩ : ∃ th, runP k t l = th := ⟨_, rfl⟩
      rw [hth] at hwin hlen
      have hv : n1 = th.length := by obtain ⟨_, _, h, _⟩ := winC_slice hwin; injection h
      subst hv
      have HT := Lib.hid (show thereP k l t = th.map pairH by rw [thereP, hth])
      clear hth
      have HRD := Lib.hid (win_rd thing_len hwin)
      have HB := Lib.hid hB
      have hob := winC_ob hwin
      have hz := hB.size
      clear hwin hB hc0 hob
      generalize wr = w5 at *
      go_wp2_with fail
      go_loopw [33, 8] (fun i v W => ∃ (n : Nat) (a2 : Option Addr) (c2 : Nat), i = .int .i64 n ∧ v = .slice a2 n c2 ∧ n ≤ th.length ∧ Win Pair.cells 2 60 W (.slice a2 n c2) (fun j => w5.heap.size ≤ j) ((th.take n).map pairH) ∧ Below w5.heap.size w5 W) (fun i _ _ => th.length - (intOf i).toNat)
      case atStart => exact ⟨0, none, 0, rfl, rfl, by omega, winC_nil 2 60 _ _, Below.refl _ _⟩
      case round =>
        obtain ⟨n, a2, c2, rfl, rfl, hnl, hwin, hB2⟩ := hrel
        by_cases hlt2 : n < th.length
        · have hx := List.getElem?_eq_getElem hlt2
          generalize th[n] = h at hx
          obtain ⟨b, off, rfl, hbl, hc⟩ := rd_at (HRD.out.below hB2) hx
          have q0 : wr.cell? ⟨b, off + n * 3, none⟩ = some (.int .i64 h.from_) := hc 0 _ rfl
          have q1 := hc 1 _ rfl
          have q2 := hc 2 _ rfl
          have hn1 : ((th.take n).map pairH).length = n := by simp; omega
          have hW1 := winC_mono (winC_block hwin) (T := fun j => w5.heap.size ≤ j ∧ j < wr.heap.size) fun i hi => hi.2
          rw [hn1] at hW1
          have hW2 := fun o1 o2 => winC_move hW1 (fr_of_below (S := fun _ => False) (((Below.refl wr.heap.size wr).alloc (Nat.le_refl _) o1).alloc (by simp) o2)) (fun _ _ h => h)
          have HX := Lib.hid (And.intro hx (And.intro hn1 (And.intro hW1 hwin)))
          have HW2 := Lib.hid hW2
          clear hx hn1 hW1 hwin hW2 hc
          go_wp2_with (at_builtin; (refine wpList_append_win _ (by rfl) _ _ _ (by rfl) 60 2 16 _ Try.underlying49 info_pair rfl (by decide) _ _ n _ (by rfl) (HW2.out _ _) _ _ _ [.int .i64 h.key, .int .i64 h.val] (by rfl) (by rfl) (news2 wr _ _ _) (by simp [Value.oneCell']) (by decide) (by unfold maxLen; omega) (by omega) ?_); intro v1 w1 hwin1 hfr1 hsz1; obtain ⟨a3, c3, rfl, hc2, hm2⟩ := winC_slice hwin1)
          have hb1 : Below wr.heap.size wr ((wr.alloc (.cells #[.int .i64 h.from_, .int .i64 h.key, .int .i64 h.val] 115)).alloc (.cells #[.int .i64 h.key, .int .i64 h.val] 60)) := ((Below.refl wr.heap.size wr).alloc (Nat.le_refl _) _).alloc (by simp) _
          have hob : ∀ i, some i = (Value.slice a2 n c2).ownBlock → w5.heap.size ≤ i := fun i hi => (winC_ob HX.out.2.2.1 i hi).1.1
          have hF : Fr (fun i => some i = (Value.slice a2 n c2).ownBlock) wr w1 := fr_trans (fr_of_below hb1) hfr1 fun _ _ h => h
          go_roundw
          case rel =>
            refine ⟨n + 1, a3, c3, by go_num, rfl, by omega, ?_, hB2.trans (below_of_fr hF hB2.size hob)⟩
            have e1 : ((th.take (n + 1)).map pairH) = (th.take n).map pairH ++ [pairH h] := by rw [List.take_add_one, HX.out.1]; simp
            refine (?_ : WinC _ _ _ _ _ _ _)
            rw [e1, List.length_append, HX.out.2.1, List.flatMap_append]
            exact winC_mono hwin1 fun i hi => by
              have hs := hB2.size
              rcases hi with hi | hi
              · exact hi.1.1
              · simp at hi; omega
          case measure => simp [intOf]; omega
        · obtain rfl : n = th.length := by omega
          go_wp2
          go_ret
          rw [List.take_length] at hwin
          exact ⟨_, rfl, by rw [HT.out]; refine (?_ : WinC _ _ _ _ _ _ _); rw [List.length_map]; exact winC_mono (by simpa [Win] using hwin) fun i hi => by omega, HB.out.trans (hB2.mono hz)⟩
set_option maxHeartbeats 1000000 in
theorem refAt_any (k : Int) (v : Value) (l : List Step) (t : Int) (w : World) (hr : Rd Step.cells 4 w v l) :
    Calls Try.prog 30 #[.agg #[.int .i64 k, v], .int .i64 t] w fun e w' => ∃ v, e = .returned (.tuple #[v, .int .i64 (atP k l t).2]) ∧ Win Pair.cells 2 60 w' v (fun i => w.heap.size ≤ i) (atP k l t).1 ∧ Below w.heap.size w w' := by
  obtain ⟨a, c, rfl⟩ : ∃ a c, v = .slice a l.length c := by obtain ⟨_, a, c, rfl, _⟩ := hr; exact ⟨a, c, rfl⟩
  have HR := Lib.hid hr
  clear hr
  cases hi : isLineP k l with
  | false =>
    have hat : atP k l t = ([], 2) := by simp [atP, hi]
    rw [hat]
    have hcon := (good_any k _ l _ (HR.out.below ((Below.refl w.heap.size w).alloc (Nat.le_refl _) (.cells #[.int .i64 k, .slice a l.length c] 25))))
    rw [hi] at hcon
    have HC := Lib.hid hcon
    clear hat hi hcon
    go_enter Try.func30, Try.ntmps30
    go_wp2_with (go_at_call 42; refine HC.out.mono ?_; rintro e w1 ⟨rfl, hb1⟩)
    go_ret2
    exact ⟨_, rfl, winC_nil _ _ _ _, ((Below.refl w.heap.size w).alloc (Nat.le_refl _) _).trans (hb1.mono (by simp))⟩
  | true =>
    have hat : atP k l t = (thereP k l t, 0) := by simp [atP, hi]
    rw [hat]
    have hcon := (good_any k _ l _ (HR.out.below ((Below.refl w.heap.size w).alloc (Nat.le_refl _) (.cells #[.int .i64 k, .slice a l.length c] 25))))
    rw [hi] at hcon
    have HC := Lib.hid hcon
    have hlen := okLine_of hi
    clear hat hi hcon
    have hbx : ∀ o, Below w.heap.size w (w.alloc o) := fun o => (Below.refl w.heap.size w).alloc (Nat.le_refl _) o
    have HB := Lib.hid hbx
    clear hbx
    go_enter Try.func30, Try.ntmps30
    go_wp2_with (first | (go_at_call 42; refine HC.out.mono ?_; rintro e w1 ⟨rfl, hb1⟩; have c0 := below_cell hb1 (World.cell?_alloc_new w #[.int .i64 k, .slice a l.length c] 25 0); have c1 := below_cell hb1 (World.cell?_alloc_new w #[.int .i64 k, .slice a l.length c] 25 1)) | (go_at_call 72; refine (atOf_any k _ l t _ (HR.out.below ((HB.out _).trans (hb1.mono (by simp)))) hlen).mono ?_; rintro e w2 ⟨v2, rfl, hw2, hb2⟩))
    go_ret2
    have hb0 : Below w.heap.size w w1 := (HB.out _).trans (hb1.mono (by simp))
    exact ⟨_, rfl, winC_mono hw2 fun i hi => Nat.le_trans hb0.size hi, hb0.trans (hb2.mono hb0.size)⟩

end Go.Proofs.Ytkoeplbkeboklaa
/- The plain side of retro: lines with a step more, or less. No program in sight. -/
set_option linter.unusedVariables false
set_option linter.unusedSimpArgs false
namespace Go.Proofs.Ytkoeplbkeboklaa
/-- Where a time stands in a line: how many steps, from the front, are ahead of it. -/
def placeAt (t : Int) : List Step → Nat
  | [] => 0
  | s :: l => if s.at_ < t then placeAt t l + 1 else 0
theorem placeAt_le (t : Int) : ∀ l : List Step, placeAt t l ≤ l.length
  | [] => by simp [placeAt]
  | h :: l => by simp only [placeAt]; split <;> simp; exact placeAt_le t l
def hasP (l : List Step) (t : Int) : Bool := match l[placeAt t l]? with | some s => s.at_ == t | none => false
def withP (l : List Step) (s : Step) : List Step := l.take (placeAt s.at_ l) ++ s :: l.drop (placeAt s.at_ l)
def withoutP (l : List Step) (i : Nat) : List Step := l.take i ++ l.drop (i + 1)
theorem placeAt_drop {t : Int} {l : List Step} {n : Nat} {s : Step} (h : l[n]? = some s) : placeAt t (l.drop n) = if s.at_ < t then placeAt t (l.drop (n + 1)) + 1 else 0 := by
  obtain ⟨hlt, rfl⟩ := List.getElem?_eq_some_iff.1 h
  rw [List.drop_eq_getElem_cons hlt, placeAt]
end Go.Proofs.Ytkoeplbkeboklaa
/- The reference's place and has. -/
set_option linter.unusedVariables false
set_option linter.unusedSimpArgs false
namespace Go.Proofs.Ytkoeplbkeboklaa
open Go.RowKit
set_option maxHeartbeats 2000000 in
theorem place_any (k : Int) (v : Value) (l : List Step) (t : Int) (w : World) (hr : Rd Step.cells 4 w v l) (hl : l.length ≤ 100000) :
    Calls Try.prog 70 #[.agg #[.int .i64 k, v], .int .i64 t] w fun e w' => e = .returned (.int .i64 (placeAt t l : Nat)) ∧ Below w.heap.size w w' := by
  obtain ⟨a, c, rfl⟩ : ∃ a c, v = .slice a l.length c := by obtain ⟨_, a, c, rfl, _⟩ := hr; exact ⟨a, c, rfl⟩
  have HR := Lib.hid hr
  clear hr
  go_enter Try.func70, Try.ntmps70
  go_wp2
  go_loopw [5] (fun i W => ∃ n : Nat, i = .int .i64 n ∧ n ≤ l.length ∧ placeAt t (l.drop n) + n = placeAt t l ∧ Below w.heap.size w W ∧ w.heap.size < W.heap.size ∧ W.cell? ⟨w.heap.size, 1, none⟩ = some (.slice a l.length c)) (fun i _ => l.length - (intOf i).toNat)
  case atStart => exact ⟨0, rfl, by omega, rfl, (Below.refl _ _).alloc (Nat.le_refl _) _, by simp, by simp⟩
  case round =>
    obtain ⟨n, rfl, hnl, hp, hB, hlt, hc0⟩ := hrel
    by_cases hlt' : n < l.length
    · have hlb : decide ((n : Int) < (l.length : Int)) = true := by simp; omega
      have hx := List.getElem?_eq_getElem hlt'
      generalize l[n] = s at hx
      obtain ⟨b, off, rfl, hbl, hc⟩ := rd_at (HR.out.below hB) hx
      have q0 : wr.cell? ⟨b, off + n * 4, none⟩ = some (.int .i64 s.at_) := hc 0 _ rfl
      have hpd := placeAt_drop (t := t) hx
      rw [hpd] at hp
      have HP := Lib.hid hp
      clear hc hx hpd hp
      by_cases hst : s.at_ < t
      · have hsb : decide (s.at_ < t) = true := decide_eq_true hst
        have HS := Lib.hid hst
        clear hst
        go_wp2
        go_roundw
        case rel => exact ⟨n + 1, by go_num, by omega, by have := HP.out; rw [if_pos HS.out] at this; omega, hB, hlt, hc0⟩
        case measure => simp [intOf]; omega
      · have hsb : decide (s.at_ < t) = false := decide_eq_false hst
        have HS := Lib.hid hst
        clear hst
        go_wp2
        go_ret
        exact ⟨ret_int (by have := HP.out; rw [if_neg (by have := HS.out; omega)] at this; omega), hB⟩
    · obtain rfl : n = l.length := by omega
      have hlb : decide ((l.length : Int) < (l.length : Int)) = false := by simp
      have HP := Lib.hid hp
      clear hp
      go_wp2
      go_ret
      exact ⟨ret_int (by have := HP.out; simp [placeAt] at this; omega), hB⟩
set_option maxHeartbeats 2000000 in
theorem has_any (k : Int) (v : Value) (l : List Step) (t : Int) (w : World) (hr : Rd Step.cells 4 w v l) (hl : l.length ≤ 100000) :
    Calls Try.prog 66 #[.agg #[.int .i64 k, v], .int .i64 t] w fun e w' => e = .returned (.bool (hasP l t)) ∧ Below w.heap.size w w' := by
  obtain ⟨a, c, rfl⟩ : ∃ a c, v = .slice a l.length c := by obtain ⟨_, a, c, rfl, _⟩ := hr; exact ⟨a, c, rfl⟩
  have HR := Lib.hid hr
  clear hr
  have HB := Lib.hid (fun o => (Below.refl w.heap.size w).alloc (Nat.le_refl _) o)
  have HC := Lib.hid (fun W (h : Rd Step.cells 4 W (.slice a l.length c) l) => place_any k _ l t W h hl)
  have hle := placeAt_le t l
  have hh : hasP l t = match l[placeAt t l]? with | some s => s.at_ == t | none => false := rfl
  have HH := Lib.hid hh
  clear hh
  generalize placeAt t l = n at *
  by_cases hlt : n < l.length
  · have hlb : decide ((n : Int) < (l.length : Int)) = true := by simp; omega
    have hx := List.getElem?_eq_getElem hlt
    generalize l[n] = s at hx
    obtain ⟨b, off, rfl, hbl, hc⟩ := rd_at HR.out hx
    have q0 : w.cell? ⟨b, off + n * 4, none⟩ = some (.int .i64 s.at_) := hc 0 _ rfl
    have HX := Lib.hid (And.intro hx q0)
    clear hx hc q0
    go_enter Try.func66, Try.ntmps66
    go_wp2_with (go_at_call 70; refine (HC.out _ (HR.out.below (HB.out _))).mono ?_; rintro e w1 ⟨rfl, hb1⟩; have c1 := below_cell hb1 (World.cell?_alloc_new w #[.int .i64 k, .slice (some ⟨b, off, none⟩) l.length c] 25 1); have q1 := below_cell hb1 (below_cell (HB.out _) HX.out.2))
    go_ret
    exact ⟨ret_bool (by rw [HH.out, HX.out.1]), (HB.out _).trans (hb1.mono (by simp))⟩
  · have hlb : decide ((n : Int) < (l.length : Int)) = false := by simp; omega
    go_enter Try.func66, Try.ntmps66
    go_wp2_with (go_at_call 70; refine (HC.out _ (HR.out.below (HB.out _))).mono ?_; rintro e w1 ⟨rfl, hb1⟩; have c1 := below_cell hb1 (World.cell?_alloc_new w #[.int .i64 k, .slice a l.length c] 25 1))
    go_ret
    exact ⟨ret_bool (by rw [HH.out, List.getElem?_eq_none (by omega)]), (HB.out _).trans (hb1.mono (by simp))⟩
end Go.Proofs.Ytkoeplbkeboklaa
/- The reference's Copy, With and Without. -/
set_option linter.unusedVariables false
set_option linter.unusedSimpArgs false
namespace Go.Proofs.Ytkoeplbkeboklaa
open Go.RowKit
theorem step_len (x : Step) : x.cells.length = 4 := rfl
theorem step_one (x : Step) : ∀ u ∈ x.cells, u.oneCell' = true := by simp [Step.cells, Value.oneCell']
theorem info_step : (Try.prog.info? 39).map (fun i => (i.zero, i.size, i.bytes)) = some (some (.agg #[.int .i64 0, .int .i64 0, .int .i64 0, .int .i64 0]), 4, 32) := by kernel_rfl
theorem stored2 (w : World) (r : Nat) (a b : Value) : Fr (fun i => i = r) w ((w.setCell ⟨r, 0, none⟩ a).setCell ⟨r, 1, none⟩ b) :=
  fr_trans (fr_setCell w ⟨r, 0, none⟩ a) (fr_setCell _ ⟨r, 1, none⟩ b) fun i _ h => h
theorem stored2_blk {w : World} {r T : Nat} {u0 u1 : Value} (h : w.heap[r]? = some (.cells #[u0, u1] T (0, 0))) (a b : Value) : ((w.setCell ⟨r, 0, none⟩ a).setCell ⟨r, 1, none⟩ b).heap[r]? = some (.cells #[a, b] T (0, 0)) := by
  simp [World.setCell, Array.getElem?_modify, h]
/-- A line written into its variable. -/
theorem line_end {w w2 : World} {r : Nat} {k : Int} {v2 u0 u1 : Value} {S2 : Nat → Prop} {l : List Step} (hB : w.heap.size ≤ w2.heap.size) (hb : Below w.heap.size w w2) (hr : w2.heap[r]? = some (.cells #[u0, u1] 25 (0, 0))) (hw : w.heap.size ≤ r) (hwin : Win Step.cells 4 39 w2 v2 S2 l) (hS : ∀ i, S2 i → i ≠ r ∧ w.heap.size ≤ i) :
    ∀ W3, (w2.setCell ⟨r, 0, none⟩ (.int .i64 k)).setCell ⟨r, 1, none⟩ v2 = W3 → W3.cell? ⟨r, 0, none⟩ = some (.int .i64 k) ∧ W3.cell? ⟨r, 1, none⟩ = some v2 ∧ Win Step.cells 4 39 W3 v2 (fun i => w.heap.size ≤ i) l ∧ Below w.heap.size w W3 := by
  rintro W3 rfl
  have h := stored2_blk hr (.int .i64 k) v2
  refine ⟨cell_blk h 0, cell_blk h 1, winC_mono (winC_move hwin (stored2 w2 r _ _) fun i hi e => (hS i hi).1 e) fun i hi => (hS i hi).2, hb.trans (below_of_fr (stored2 w2 r _ _) hB fun i hi => hi ▸ hw)⟩
set_option maxHeartbeats 2000000 in
theorem copy_any (k : Int) (v : Value) (l : List Step) (w : World) (hr : Rd Step.cells 4 w v l) (hl : l.length ≤ 100000) :
    Calls Try.prog 21 #[.agg #[.int .i64 k, v]] w fun e w' => ∃ v', e = .returned (.agg #[.int .i64 k, v']) ∧ Win Step.cells 4 39 w' v' (fun i => w.heap.size ≤ i) l ∧ Below w.heap.size w w' := by
  obtain ⟨a, c, rfl⟩ : ∃ a c, v = .slice a l.length c := by obtain ⟨_, a, c, rfl, _⟩ := hr; exact ⟨a, c, rfl⟩
  have HR := Lib.hid (rdC_of_rd step_len (by decide) step_one hr)
  clear hr
  go_enter Try.func21, Try.ntmps21
  go_wp2
  refine named_box2 w _ _ _ _ fun W0 hb0 hz0 hx0 hx1 => ?_
  have d0 := cell_blk hx0 0
  have d1 := cell_blk hx0 1
  have d2 := cell_blk hx1 0
  have d3 := cell_blk hx1 1
  have f2 := free_blk hx1 0
  have f3 := free_blk hx1 1
  have HB := Lib.hid (And.intro hb0 hx1)
  clear hx0 hx1 hb0
  set_option maxRecDepth 10000 in
  go_region_law ((first | (refine step_append_rd _ (by rfl) _ _ _ (by rfl) 39 4 32 _ Try.underlying23 info_step rfl (by decide) _ (fun _ => False) 0 [] (by go_simp <;> rfl) _ (by go_simp <;> rfl) (winC_nil _ _ _ _) l.length _ (rdC_below HR.out (HB.out.1.drew)) (by unfold maxLen; omega) (by omega) ?_; intro v2 w2 hwin2 hfr2 hsz2; simp only [Nat.zero_add, List.nil_append] at hwin2; obtain ⟨a2, c2, rfl, hn2, hm2⟩ := winC_slice hwin2; have hb2 : Below W0.heap.size W0 w2 := (Below.refl W0.heap.size W0).drew.trans (below_of_fr hfr2 (Nat.le_refl _) fun i hi => nomatch hi); have g0 := below_cell hb2 d0; have g2 := below_cell hb2 d2; have g3 := below_cell hb2 d3; have k2 := below_frozen hb2 (a := ⟨w.heap.size + 1, 0, none⟩) (by show w.heap.size + 1 < _; omega) f2; have k3 := below_frozen hb2 (a := ⟨w.heap.size + 1, 1, none⟩) (by show w.heap.size + 1 < _; omega) f3) | fail))
  all_goals
    have hb := HB.out.1.trans (hb2.mono HB.out.1.size)
    have hr2 := (hb2.block (w.heap.size + 1) (by omega)).trans HB.out.2
    have hE := line_end (k := k) hb.size hb hr2 (by omega) (show Win Step.cells 4 39 w2 (.slice a2 l.length c2) _ l from hwin2) (fun i hi => by simp [drew_size] at hi; omega)
    have HE := Lib.hid (hE _ rfl)
    clear hwin2 hfr2 hb hr2 hE g0 g2 g3 k2 k3 hb2 d0 d1 d2 d3 f2 f3
    generalize (w2.setCell ⟨w.heap.size + 1, 0, none⟩ (.int .i64 k)).setCell ⟨w.heap.size + 1, 1, none⟩ (.slice a2 l.length c2) = W3 at *
    have g0 := HE.out.1
    have g1 := HE.out.2.1
    go_wp2
    exact bodyPost_ret (v := .agg #[.int .i64 k, .slice a2 l.length c2]) (by simp [results, Try.results21, go_sem, g0, g1]) rfl ⟨_, rfl, HE.out.2.2.1, HE.out.2.2.2⟩
end Go.Proofs.Ytkoeplbkeboklaa
/- The reference's With. -/
set_option linter.unusedVariables false
set_option linter.unusedSimpArgs false
namespace Go.Proofs.Ytkoeplbkeboklaa
open Go.RowKit
/-- nil, or a slice with room for what it has. -/
def SlOk (v : Value) : Prop := v = .slice none 0 0 ∨ ∃ b off n c, v = .slice (some ⟨b, off, none⟩) n c ∧ n ≤ c
theorem with_len {l : List Step} {s : Step} {q : Nat} (hq : placeAt s.at_ l = q) (h : q ≤ l.length) : (withP l s).length = q + 1 + (l.length - q) := by simp [withP, hq]; omega
theorem with_flat {l : List Step} {s : Step} {q : Nat} (hq : placeAt s.at_ l = q) (enc : Step → List Value) : (withP l s).flatMap enc = ((l.drop 0).take q).flatMap enc ++ enc s ++ ((l.drop q).take (l.length - q)).flatMap enc := by
  rw [withP, hq, List.flatMap_append, List.flatMap_cons, List.drop_zero, List.take_of_length_le (l := l.drop q) (by simp), List.append_assoc]
theorem line_boxes {w w1 : World} {cs ds es : Array Value} {T U V : TypeId} (h : Below (((w.alloc (.cells cs T)).alloc (.cells ds U)).alloc (.cells es V)).heap.size (((w.alloc (.cells cs T)).alloc (.cells ds U)).alloc (.cells es V)) w1) :
    Below w.heap.size w w1 ∧ w.heap.size + 3 ≤ w1.heap.size ∧ w1.heap[w.heap.size]? = some (.cells cs T (0, 0)) ∧ w1.heap[w.heap.size + 1]? = some (.cells ds U (0, 0)) ∧ w1.heap[w.heap.size + 1 + 1]? = some (.cells es V (0, 0)) := by
  refine named_box3 (G := fun W0 => Below W0.heap.size W0 w1 → Below w.heap.size w w1 ∧ w.heap.size + 3 ≤ w1.heap.size ∧ w1.heap[w.heap.size]? = some (.cells cs T (0, 0)) ∧ w1.heap[w.heap.size + 1]? = some (.cells ds U (0, 0)) ∧ w1.heap[w.heap.size + 1 + 1]? = some (.cells es V (0, 0))) w cs ds es T U V (fun W0 h1 h2 h3 h4 h5 h => ?_) h
  have hs := h.size
  exact ⟨h1.trans (h.mono (by omega)), by omega, (h.block _ (by omega)).trans h3, (h.block _ (by omega)).trans h4, (h.block _ (by omega)).trans h5⟩
set_option maxHeartbeats 4000000 in
theorem with_any (k : Int) (v : Value) (l : List Step) (s : Step) (w : World) (hr : Rd Step.cells 4 w v l) (hl : l.length ≤ 100000) (hcap : SlOk v) :
    Calls Try.prog 47 #[.agg #[.int .i64 k, v], .agg #[.int .i64 s.at_, .int .i64 s.do_, .int .i64 s.key, .int .i64 s.val]] w fun e w' => ∃ v', e = .returned (.agg #[.int .i64 k, v']) ∧ Win Step.cells 4 39 w' v' (fun i => w.heap.size ≤ i) (withP l s) ∧ Below w.heap.size w w' := by
  obtain ⟨a, c, rfl⟩ : ∃ a c, v = .slice a l.length c := by obtain ⟨_, a, c, rfl, _⟩ := hr; exact ⟨a, c, rfl⟩
  have hnc : l.length ≤ c := by
    rcases hcap with h | ⟨b, off, n, c', h, hc⟩
    · injection h with h1 h2 h3; omega
    · injection h with h1 h2 h3; omega
  have hnil : (a = none ∧ c = 0) ∨ ∃ b off, a = some ⟨b, off, none⟩ := by
    rcases hcap with h | ⟨b, off, n, c', h, hc⟩
    · injection h with h1 h2 h3; exact .inl ⟨h1, h3⟩
    · injection h with h1 h2 h3; exact .inr ⟨b, off, h1⟩
  clear hcap
  have HN := Lib.hid hnil
  clear hnil
  have HR := Lib.hid hr
  clear hr
  obtain ⟨q, hq⟩ : ∃ q, placeAt s.at_ l = q := ⟨_, rfl⟩
  have hql : q ≤ l.length := hq ▸ placeAt_le s.at_ l
  have HPL := Lib.hid (fun W (h : Rd Step.cells 4 W (.slice a l.length c) l) => (place_any k _ l s.at_ W h hl).mono (R' := fun e w' => e = .returned (.int .i64 (q : Nat)) ∧ Below W.heap.size W w') fun e w' h' => ⟨by rw [h'.1, hq], h'.2⟩)
  have HQ := Lib.hid hq
  clear hq
  have HB3 := Lib.hid (fun o1 o2 o3 => three_below w o1 o2 o3)
  have n6 : (q : Int) ≤ (c : Int) := by omega
  have n7 : (0 : Int) ≤ (q : Int) := by omega
  have n8 : (q : Int) ≤ (l.length : Int) := by omega
  go_enter Try.func47, Try.ntmps47
  go_wp2_with (go_at_call 70; refine (HPL.out _ (HR.out.below (HB3.out _ _ _))).mono ?_; rintro e w1 ⟨rfl, hb1⟩; have hx := Lib.hid (line_boxes hb1))
  obtain ⟨hb0, hz0, hx0, hx1, hx2⟩ := hx.out
  have d0 : w1.cell? ⟨w.heap.size, 0, none⟩ = some (.int .i64 k) := cell_blk hx0 0
  have d1 : w1.cell? ⟨w.heap.size, 1, none⟩ = some (.slice a l.length c) := cell_blk hx0 1
  have e0 : w1.cell? ⟨w.heap.size + 1, 0, none⟩ = some (.int .i64 s.at_) := cell_blk hx1 0
  have e1 : w1.cell? ⟨w.heap.size + 1, 1, none⟩ = some (.int .i64 s.do_) := cell_blk hx1 1
  have e2 : w1.cell? ⟨w.heap.size + 1, 2, none⟩ = some (.int .i64 s.key) := cell_blk hx1 2
  have e3 : w1.cell? ⟨w.heap.size + 1, 3, none⟩ = some (.int .i64 s.val) := cell_blk hx1 3
  have f0 : w1.cell? ⟨w.heap.size + 1 + 1, 0, none⟩ = some (.int .i64 0) := cell_blk hx2 0
  have f1 : w1.cell? ⟨w.heap.size + 1 + 1, 1, none⟩ = some (.slice none 0 0) := cell_blk hx2 1
  have k0 := free_blk hx2 0
  have k1 := free_blk hx2 1
  have HB := Lib.hid (And.intro hb0 hx2)
  clear hx hb0 hx0 hx1 hx2 hb1 HPL HB3
  rcases HN.out with ⟨rfl, rfl⟩ | ⟨b, off, rfl⟩
  · obtain rfl : l = [] := List.eq_nil_of_length_eq_zero (by omega)
    obtain rfl : q = 0 := by simpa using hql
    clear n6 n7 n8 HN
    all_goals
      have hll : ([] : List Step).length = 0 := rfl
      set_option maxRecDepth 10000 in
      go_region_held3 (fun W => W.cell? ⟨w.heap.size, 0, none⟩ = some (.int .i64 k) ∧ W.cell? ⟨w.heap.size, 1, none⟩ = some (.slice none 0 0) ∧ W.cell? ⟨w.heap.size + 1, 0, none⟩ = some (.int .i64 s.at_) ∧ W.cell? ⟨w.heap.size + 1, 1, none⟩ = some (.int .i64 s.do_) ∧ W.cell? ⟨w.heap.size + 1, 2, none⟩ = some (.int .i64 s.key) ∧ W.cell? ⟨w.heap.size + 1, 3, none⟩ = some (.int .i64 s.val)) (first | exact ⟨d0, d1, e0, e1, e2, e3⟩ | exact ⟨p0, p1, p2, p3, p4, p5⟩ | exact ⟨r0, r1, r2, r3, r4, r5⟩ | exact ⟨t0, t1, t2, t3, t4, t5⟩ | exact ⟨fr_cell (stored2 w4 (w.heap.size + 1 + 1) _ _) t0 (fun h => by have h2 : w.heap.size = w.heap.size + 1 + 1 := h; omega), fr_cell (stored2 w4 (w.heap.size + 1 + 1) _ _) t1 (fun h => by have h2 : w.heap.size = w.heap.size + 1 + 1 := h; omega), fr_cell (stored2 w4 (w.heap.size + 1 + 1) _ _) t2 (fun h => by have h2 : w.heap.size + 1 = w.heap.size + 1 + 1 := h; omega), fr_cell (stored2 w4 (w.heap.size + 1 + 1) _ _) t3 (fun h => by have h2 : w.heap.size + 1 = w.heap.size + 1 + 1 := h; omega), fr_cell (stored2 w4 (w.heap.size + 1 + 1) _ _) t4 (fun h => by have h2 : w.heap.size + 1 = w.heap.size + 1 + 1 := h; omega), fr_cell (stored2 w4 (w.heap.size + 1 + 1) _ _) t5 (fun h => by have h2 : w.heap.size + 1 = w.heap.size + 1 + 1 := h; omega)⟩ | go_keep) ((first | (refine step_append_rd _ (by rfl) _ _ _ (by rfl) 39 4 32 _ Try.underlying23 info_step rfl (by decide) _ _ (0 + 1) _ (by go_simp <;> rfl) _ (by go_simp <;> rfl) hwin3 0 [] (rdC_zero _ _ none 0) (by unfold maxLen; omega) (by omega) ?_; intro v4 w4 hwin4 hfr4 hsz4; simp only [Nat.add_zero, List.append_nil] at hwin4;obtain ⟨a4, c4, rfl, hn4, hm4⟩ := winC_slice hwin4; have hb4 : Below w1.heap.size w1 w4 := hb3.trans (below_of_fr hfr4 hb3.size fun i hi => by have := (winC_ob hwin3 i hi).1; simp [drew_size] at this; omega); have t0 := below_cell hb4 d0; have t1 := below_cell hb4 d1; have t2 := below_cell hb4 e0; have t3 := below_cell hb4 e1; have t4 := below_cell hb4 e2; have t5 := below_cell hb4 e3; have t6 := below_cell hb4 f0; have t7 := below_cell hb4 f1; have k2 := below_frozen hb4 (a := ⟨w.heap.size + 1 + 1, 0, none⟩) (by show w.heap.size + 1 + 1 < _; omega) k0; have k3 := below_frozen hb4 (a := ⟨w.heap.size + 1 + 1, 1, none⟩) (by show w.heap.size + 1 + 1 < _; omega) k1) | (refine step_append_rd _ (by rfl) _ _ _ (by rfl) 39 4 32 _ Try.underlying23 info_step rfl (by decide) _ _ 0 _ (by go_simp <;> rfl) _ (by go_simp <;> rfl) (winC_move hwin2 (fr_alloc (fun _ => False) w2 _) fun _ _ h => h) 1 s.cells (rdC_new w2 #[.int .i64 s.at_, .int .i64 s.do_, .int .i64 s.key, .int .i64 s.val] 39 1 rfl (step_one s)) (by unfold maxLen; omega) (by omega) ?_; intro v3 w3 hwin3 hfr3 hsz3; obtain ⟨a3, c3, rfl, hn3, hm3⟩ := winC_slice hwin3; have z1 := hfr2.size; have z2 := hb2.size; simp only [World.size_alloc, drew_size] at z1; have hb3 : Below w1.heap.size w1 w3 := (hb2.alloc hb2.size _).trans (below_of_fr hfr3 (by simp; omega) fun i hi => by have := (winC_ob hwin2 i hi).1; simp [drew_size] at this; omega); have r0 := below_cell hb3 d0; have r1 := below_cell hb3 d1; have r2 := below_cell hb3 e0; have r3 := below_cell hb3 e1; have r4 := below_cell hb3 e2; have r5 := below_cell hb3 e3) | (refine step_append_rd _ (by rfl) _ _ _ (by rfl) 39 4 32 _ Try.underlying23 info_step rfl (by decide) _ _ 0 _ (by go_simp <;> rfl) _ (by go_simp <;> rfl) hwin2 1 s.cells (rdC_move (rdC_new w1.drew #[.int .i64 s.at_, .int .i64 s.do_, .int .i64 s.key, .int .i64 s.val] 39 1 rfl (step_one s)) hfr2 fun i hi h => nomatch h) (by unfold maxLen; omega) (by omega) ?_; intro v3 w3 hwin3 hfr3 hsz3; obtain ⟨a3, c3, rfl, hn3, hm3⟩ := winC_slice hwin3; have z1 := hfr2.size; have z2 := hb2.size; simp only [World.size_alloc, drew_size] at z1; have hb3 : Below w1.heap.size w1 w3 := hb2.trans (below_of_fr hfr3 hb2.size fun i hi => by have := (winC_ob hwin2 i hi).1; simp [drew_size] at this; omega); have r0 := below_cell hb3 d0; have r1 := below_cell hb3 d1; have r2 := below_cell hb3 e0; have r3 := below_cell hb3 e1; have r4 := below_cell hb3 e2; have r5 := below_cell hb3 e3) | (refine step_append_rd _ (by rfl) _ _ _ (by rfl) 39 4 32 _ Try.underlying23 info_step rfl (by decide) _ (fun _ => False) 0 [] (by go_simp <;> rfl) _ (by go_simp <;> rfl) (winC_nil _ _ _ _) 0 [] (rdC_below (rdC_zero _ _ none 0) (by first | exact (Below.refl w1.heap.size w1).drew | exact (Below.refl w1.heap.size w1).drew.alloc (Nat.le_refl _) _)) (by unfold maxLen; omega) (by omega) ?_; intro v2 w2 hwin2 hfr2 hsz2; simp only [Nat.zero_add, List.nil_append] at hwin2; obtain ⟨a2, c2, rfl, hn2, hm2⟩ := winC_slice hwin2; have hb2 : Below w1.heap.size w1 w2 := (by first | exact (Below.refl w1.heap.size w1).drew.trans (below_of_fr hfr2 (Nat.le_refl _) fun i hi => nomatch hi) | exact ((Below.refl w1.heap.size w1).drew.alloc (Nat.le_refl _) _).trans (below_of_fr hfr2 (by simp [drew_size]) fun i hi => nomatch hi)); have p0 := below_cell hb2 d0; have p1 := below_cell hb2 d1; have p2 := below_cell hb2 e0; have p3 := below_cell hb2 e1; have p4 := below_cell hb2 e2; have p5 := below_cell hb2 e3) | fail))
      all_goals
        have hb := HB.out.1.trans (hb4.mono HB.out.1.size)
        have hr2 := (hb4.block (w.heap.size + 1 + 1) (by omega)).trans HB.out.2
        have z3 := hfr2.size
        have z4 := hfr3.size
        simp only [World.size_alloc, drew_size] at z3 z4
        have hW4 : Win Step.cells 4 39 w4 (.slice a4 (0 + 1) c4) (fun i => i ≠ w.heap.size + 1 + 1 ∧ w.heap.size ≤ i) (withP [] s) := by
          refine (?_ : WinC _ _ _ _ _ _ _)
          rw [with_len HQ.out hql, with_flat HQ.out]
          exact winC_mono hwin4 fun i hi => by simp [drew_size] at hi; omega
        have hE := line_end (k := k) hb.size hb hr2 (by omega) hW4 (fun i hi => hi)
        have HE := Lib.hid (hE _ rfl)
        have g0 := (hE _ rfl).1
        have g1 := (hE _ rfl).2.1
        generalize (w4.setCell ⟨w.heap.size + 1 + 1, 0, none⟩ (.int .i64 k)).setCell ⟨w.heap.size + 1 + 1, 1, none⟩ (.slice a4 (0 + 1) c4) = W4 at *
        clear hE hW4 z3 z4 hr2 hb hwin4 hfr4 hb4 hwin3 hfr3 hb3 hwin2 hfr2 hb2
        go_wp2
        exact bodyPost_ret (v := .agg #[.int .i64 k, .slice a4 (0 + 1) c4]) (by simp [results, Try.results47, go_sem, g0, g1]) rfl ⟨_, rfl, HE.out.2.2.1, HE.out.2.2.2⟩

  · clear HN
    have R1 := rdC_cut step_len (by decide) step_one (HR.out.below HB.out.1) 0 q (by omega) off c (by omega)
    have R2 := rdC_cut step_len (by decide) step_one (HR.out.below HB.out.1) q (l.length - q) (by omega) (off + q * 4) (c - q) (fun _ => rfl)
    have HF := Lib.hid (And.intro R1 R2)
    clear R1 R2
    by_cases hcq : q = c
    · subst hcq
      have hz : l.length - q = 0 := by omega
      have HZ := Lib.hid hz
      clear hz
      set_option maxRecDepth 10000 in
      go_region_held3 (fun W => W.cell? ⟨w.heap.size, 0, none⟩ = some (.int .i64 k) ∧ W.cell? ⟨w.heap.size, 1, none⟩ = some (.slice (some ⟨b, off, none⟩) l.length q) ∧ W.cell? ⟨w.heap.size + 1, 0, none⟩ = some (.int .i64 s.at_) ∧ W.cell? ⟨w.heap.size + 1, 1, none⟩ = some (.int .i64 s.do_) ∧ W.cell? ⟨w.heap.size + 1, 2, none⟩ = some (.int .i64 s.key) ∧ W.cell? ⟨w.heap.size + 1, 3, none⟩ = some (.int .i64 s.val)) (first | exact ⟨d0, d1, e0, e1, e2, e3⟩ | exact ⟨p0, p1, p2, p3, p4, p5⟩ | exact ⟨r0, r1, r2, r3, r4, r5⟩ | exact ⟨t0, t1, t2, t3, t4, t5⟩ | exact ⟨fr_cell (stored2 w4 (w.heap.size + 1 + 1) _ _) t0 (fun h => by have h2 : w.heap.size = w.heap.size + 1 + 1 := h; omega), fr_cell (stored2 w4 (w.heap.size + 1 + 1) _ _) t1 (fun h => by have h2 : w.heap.size = w.heap.size + 1 + 1 := h; omega), fr_cell (stored2 w4 (w.heap.size + 1 + 1) _ _) t2 (fun h => by have h2 : w.heap.size + 1 = w.heap.size + 1 + 1 := h; omega), fr_cell (stored2 w4 (w.heap.size + 1 + 1) _ _) t3 (fun h => by have h2 : w.heap.size + 1 = w.heap.size + 1 + 1 := h; omega), fr_cell (stored2 w4 (w.heap.size + 1 + 1) _ _) t4 (fun h => by have h2 : w.heap.size + 1 = w.heap.size + 1 + 1 := h; omega), fr_cell (stored2 w4 (w.heap.size + 1 + 1) _ _) t5 (fun h => by have h2 : w.heap.size + 1 = w.heap.size + 1 + 1 := h; omega)⟩ | go_keep) ((first | (refine step_append_rd _ (by rfl) _ _ _ (by rfl) 39 4 32 _ Try.underlying23 info_step rfl (by decide) _ _ (q + 1) _ (by go_simp <;> rfl) _ (by go_simp <;> rfl) hwin3 0 [] (rdC_zero _ _ (some ⟨b, off, none⟩) 0) (by unfold maxLen; omega) (by omega) ?_; intro v4 w4 hwin4 hfr4 hsz4; simp only [Nat.add_zero, List.append_nil] at hwin4;obtain ⟨a4, c4, rfl, hn4, hm4⟩ := winC_slice hwin4; have hb4 : Below w1.heap.size w1 w4 := hb3.trans (below_of_fr hfr4 hb3.size fun i hi => by have := (winC_ob hwin3 i hi).1; simp [drew_size] at this; omega); have t0 := below_cell hb4 d0; have t1 := below_cell hb4 d1; have t2 := below_cell hb4 e0; have t3 := below_cell hb4 e1; have t4 := below_cell hb4 e2; have t5 := below_cell hb4 e3; have t6 := below_cell hb4 f0; have t7 := below_cell hb4 f1; have k2 := below_frozen hb4 (a := ⟨w.heap.size + 1 + 1, 0, none⟩) (by show w.heap.size + 1 + 1 < _; omega) k0; have k3 := below_frozen hb4 (a := ⟨w.heap.size + 1 + 1, 1, none⟩) (by show w.heap.size + 1 + 1 < _; omega) k1) | (refine step_append_rd _ (by rfl) _ _ _ (by rfl) 39 4 32 _ Try.underlying23 info_step rfl (by decide) _ _ q _ (by go_simp <;> rfl) _ (by go_simp <;> rfl) (winC_move hwin2 (fr_alloc (fun _ => False) w2 _) fun _ _ h => h) 1 s.cells (rdC_new w2 #[.int .i64 s.at_, .int .i64 s.do_, .int .i64 s.key, .int .i64 s.val] 39 1 rfl (step_one s)) (by unfold maxLen; omega) (by omega) ?_; intro v3 w3 hwin3 hfr3 hsz3; obtain ⟨a3, c3, rfl, hn3, hm3⟩ := winC_slice hwin3; have z1 := hfr2.size; have z2 := hb2.size; simp only [World.size_alloc, drew_size] at z1; have hb3 : Below w1.heap.size w1 w3 := (hb2.alloc hb2.size _).trans (below_of_fr hfr3 (by simp; omega) fun i hi => by have := (winC_ob hwin2 i hi).1; simp [drew_size] at this; omega); have r0 := below_cell hb3 d0; have r1 := below_cell hb3 d1; have r2 := below_cell hb3 e0; have r3 := below_cell hb3 e1; have r4 := below_cell hb3 e2; have r5 := below_cell hb3 e3) | (refine step_append_rd _ (by rfl) _ _ _ (by rfl) 39 4 32 _ Try.underlying23 info_step rfl (by decide) _ _ q _ (by go_simp <;> rfl) _ (by go_simp <;> rfl) hwin2 1 s.cells (rdC_move (rdC_new w1.drew #[.int .i64 s.at_, .int .i64 s.do_, .int .i64 s.key, .int .i64 s.val] 39 1 rfl (step_one s)) hfr2 fun i hi h => nomatch h) (by unfold maxLen; omega) (by omega) ?_; intro v3 w3 hwin3 hfr3 hsz3; obtain ⟨a3, c3, rfl, hn3, hm3⟩ := winC_slice hwin3; have z1 := hfr2.size; have z2 := hb2.size; simp only [World.size_alloc, drew_size] at z1; have hb3 : Below w1.heap.size w1 w3 := hb2.trans (below_of_fr hfr3 hb2.size fun i hi => by have := (winC_ob hwin2 i hi).1; simp [drew_size] at this; omega); have r0 := below_cell hb3 d0; have r1 := below_cell hb3 d1; have r2 := below_cell hb3 e0; have r3 := below_cell hb3 e1; have r4 := below_cell hb3 e2; have r5 := below_cell hb3 e3) | (refine step_append_rd _ (by rfl) _ _ _ (by rfl) 39 4 32 _ Try.underlying23 info_step rfl (by decide) _ (fun _ => False) 0 [] (by go_simp <;> rfl) _ (by go_simp <;> rfl) (winC_nil _ _ _ _) q _ (rdC_below HF.out.1 (by first | exact (Below.refl w1.heap.size w1).drew | exact (Below.refl w1.heap.size w1).drew.alloc (Nat.le_refl _) _)) (by unfold maxLen; omega) (by omega) ?_; intro v2 w2 hwin2 hfr2 hsz2; simp only [Nat.zero_add, List.nil_append] at hwin2; obtain ⟨a2, c2, rfl, hn2, hm2⟩ := winC_slice hwin2; have hb2 : Below w1.heap.size w1 w2 := (by first | exact (Below.refl w1.heap.size w1).drew.trans (below_of_fr hfr2 (Nat.le_refl _) fun i hi => nomatch hi) | exact ((Below.refl w1.heap.size w1).drew.alloc (Nat.le_refl _) _).trans (below_of_fr hfr2 (by simp [drew_size]) fun i hi => nomatch hi)); have p0 := below_cell hb2 d0; have p1 := below_cell hb2 d1; have p2 := below_cell hb2 e0; have p3 := below_cell hb2 e1; have p4 := below_cell hb2 e2; have p5 := below_cell hb2 e3) | fail))
      all_goals
        have hb := HB.out.1.trans (hb4.mono HB.out.1.size)
        have hr2 := (hb4.block (w.heap.size + 1 + 1) (by omega)).trans HB.out.2
        have z3 := hfr2.size
        have z4 := hfr3.size
        simp only [World.size_alloc, drew_size] at z3 z4
        have hW4 : Win Step.cells 4 39 w4 (.slice a4 (q + 1) c4) (fun i => i ≠ w.heap.size + 1 + 1 ∧ w.heap.size ≤ i) (withP l s) := by
          refine (?_ : WinC _ _ _ _ _ _ _)
          rw [with_len HQ.out hql, with_flat HQ.out, HZ.out, Nat.add_zero, List.take_zero, List.flatMap_nil, List.append_nil]
          exact winC_mono hwin4 fun i hi => by simp [drew_size] at hi; omega
        have hE := line_end (k := k) hb.size hb hr2 (by omega) hW4 (fun i hi => hi)
        have HE := Lib.hid (hE _ rfl)
        have g0 := (hE _ rfl).1
        have g1 := (hE _ rfl).2.1
        generalize (w4.setCell ⟨w.heap.size + 1 + 1, 0, none⟩ (.int .i64 k)).setCell ⟨w.heap.size + 1 + 1, 1, none⟩ (.slice a4 (q + 1) c4) = W4 at *
        clear hE hW4 z3 z4 hr2 hb hwin4 hfr4 hb4 hwin3 hfr3 hb3 hwin2 hfr2 hb2
        go_wp2
        exact bodyPost_ret (v := .agg #[.int .i64 k, .slice a4 (q + 1) c4]) (by simp [results, Try.results47, go_sem, g0, g1]) rfl ⟨_, rfl, HE.out.2.2.1, HE.out.2.2.2⟩

    · have hcq2 : ¬ c = q := fun h => hcq h.symm
      set_option maxRecDepth 10000 in
      go_region_held3 (fun W => W.cell? ⟨w.heap.size, 0, none⟩ = some (.int .i64 k) ∧ W.cell? ⟨w.heap.size, 1, none⟩ = some (.slice (some ⟨b, off, none⟩) l.length c) ∧ W.cell? ⟨w.heap.size + 1, 0, none⟩ = some (.int .i64 s.at_) ∧ W.cell? ⟨w.heap.size + 1, 1, none⟩ = some (.int .i64 s.do_) ∧ W.cell? ⟨w.heap.size + 1, 2, none⟩ = some (.int .i64 s.key) ∧ W.cell? ⟨w.heap.size + 1, 3, none⟩ = some (.int .i64 s.val)) (first | exact ⟨d0, d1, e0, e1, e2, e3⟩ | exact ⟨p0, p1, p2, p3, p4, p5⟩ | exact ⟨r0, r1, r2, r3, r4, r5⟩ | exact ⟨t0, t1, t2, t3, t4, t5⟩ | exact ⟨fr_cell (stored2 w4 (w.heap.size + 1 + 1) _ _) t0 (fun h => by have h2 : w.heap.size = w.heap.size + 1 + 1 := h; omega), fr_cell (stored2 w4 (w.heap.size + 1 + 1) _ _) t1 (fun h => by have h2 : w.heap.size = w.heap.size + 1 + 1 := h; omega), fr_cell (stored2 w4 (w.heap.size + 1 + 1) _ _) t2 (fun h => by have h2 : w.heap.size + 1 = w.heap.size + 1 + 1 := h; omega), fr_cell (stored2 w4 (w.heap.size + 1 + 1) _ _) t3 (fun h => by have h2 : w.heap.size + 1 = w.heap.size + 1 + 1 := h; omega), fr_cell (stored2 w4 (w.heap.size + 1 + 1) _ _) t4 (fun h => by have h2 : w.heap.size + 1 = w.heap.size + 1 + 1 := h; omega), fr_cell (stored2 w4 (w.heap.size + 1 + 1) _ _) t5 (fun h => by have h2 : w.heap.size + 1 = w.heap.size + 1 + 1 := h; omega)⟩ | go_keep) ((first | (refine step_append_rd _ (by rfl) _ _ _ (by rfl) 39 4 32 _ Try.underlying23 info_step rfl (by decide) _ _ (q + 1) _ (by go_simp <;> rfl) _ (by go_simp <;> rfl) hwin3 (l.length - q) _ (rdC_below HF.out.2 hb3) (by unfold maxLen; omega) (by omega) ?_; intro v4 w4 hwin4 hfr4 hsz4; obtain ⟨a4, c4, rfl, hn4, hm4⟩ := winC_slice hwin4; have hb4 : Below w1.heap.size w1 w4 := hb3.trans (below_of_fr hfr4 hb3.size fun i hi => by have := (winC_ob hwin3 i hi).1; simp [drew_size] at this; omega); have t0 := below_cell hb4 d0; have t1 := below_cell hb4 d1; have t2 := below_cell hb4 e0; have t3 := below_cell hb4 e1; have t4 := below_cell hb4 e2; have t5 := below_cell hb4 e3; have t6 := below_cell hb4 f0; have t7 := below_cell hb4 f1; have k2 := below_frozen hb4 (a := ⟨w.heap.size + 1 + 1, 0, none⟩) (by show w.heap.size + 1 + 1 < _; omega) k0; have k3 := below_frozen hb4 (a := ⟨w.heap.size + 1 + 1, 1, none⟩) (by show w.heap.size + 1 + 1 < _; omega) k1) | (refine step_append_rd _ (by rfl) _ _ _ (by rfl) 39 4 32 _ Try.underlying23 info_step rfl (by decide) _ _ q _ (by go_simp <;> rfl) _ (by go_simp <;> rfl) (winC_move hwin2 (fr_alloc (fun _ => False) w2 _) fun _ _ h => h) 1 s.cells (rdC_new w2 #[.int .i64 s.at_, .int .i64 s.do_, .int .i64 s.key, .int .i64 s.val] 39 1 rfl (step_one s)) (by unfold maxLen; omega) (by omega) ?_; intro v3 w3 hwin3 hfr3 hsz3; obtain ⟨a3, c3, rfl, hn3, hm3⟩ := winC_slice hwin3; have z1 := hfr2.size; have z2 := hb2.size; simp only [World.size_alloc, drew_size] at z1; have hb3 : Below w1.heap.size w1 w3 := (hb2.alloc hb2.size _).trans (below_of_fr hfr3 (by simp; omega) fun i hi => by have := (winC_ob hwin2 i hi).1; simp [drew_size] at this; omega); have r0 := below_cell hb3 d0; have r1 := below_cell hb3 d1; have r2 := below_cell hb3 e0; have r3 := below_cell hb3 e1; have r4 := below_cell hb3 e2; have r5 := below_cell hb3 e3) | (refine step_append_rd _ (by rfl) _ _ _ (by rfl) 39 4 32 _ Try.underlying23 info_step rfl (by decide) _ _ q _ (by go_simp <;> rfl) _ (by go_simp <;> rfl) hwin2 1 s.cells (rdC_move (rdC_new w1.drew #[.int .i64 s.at_, .int .i64 s.do_, .int .i64 s.key, .int .i64 s.val] 39 1 rfl (step_one s)) hfr2 fun i hi h => nomatch h) (by unfold maxLen; omega) (by omega) ?_; intro v3 w3 hwin3 hfr3 hsz3; obtain ⟨a3, c3, rfl, hn3, hm3⟩ := winC_slice hwin3; have z1 := hfr2.size; have z2 := hb2.size; simp only [World.size_alloc, drew_size] at z1; have hb3 : Below w1.heap.size w1 w3 := hb2.trans (below_of_fr hfr3 hb2.size fun i hi => by have := (winC_ob hwin2 i hi).1; simp [drew_size] at this; omega); have r0 := below_cell hb3 d0; have r1 := below_cell hb3 d1; have r2 := below_cell hb3 e0; have r3 := below_cell hb3 e1; have r4 := below_cell hb3 e2; have r5 := below_cell hb3 e3) | (refine step_append_rd _ (by rfl) _ _ _ (by rfl) 39 4 32 _ Try.underlying23 info_step rfl (by decide) _ (fun _ => False) 0 [] (by go_simp <;> rfl) _ (by go_simp <;> rfl) (winC_nil _ _ _ _) q _ (rdC_below HF.out.1 (by first | exact (Below.refl w1.heap.size w1).drew | exact (Below.refl w1.heap.size w1).drew.alloc (Nat.le_refl _) _)) (by unfold maxLen; omega) (by omega) ?_; intro v2 w2 hwin2 hfr2 hsz2; simp only [Nat.zero_add, List.nil_append] at hwin2; obtain ⟨a2, c2, rfl, hn2, hm2⟩ := winC_slice hwin2; have hb2 : Below w1.heap.size w1 w2 := (by first | exact (Below.refl w1.heap.size w1).drew.trans (below_of_fr hfr2 (Nat.le_refl _) fun i hi => nomatch hi) | exact ((Below.refl w1.heap.size w1).drew.alloc (Nat.le_refl _) _).trans (below_of_fr hfr2 (by simp [drew_size]) fun i hi => nomatch hi)); have p0 := below_cell hb2 d0; have p1 := below_cell hb2 d1; have p2 := below_cell hb2 e0; have p3 := below_cell hb2 e1; have p4 := below_cell hb2 e2; have p5 := below_cell hb2 e3) | fail))
      all_goals
        have hb := HB.out.1.trans (hb4.mono HB.out.1.size)
        have hr2 := (hb4.block (w.heap.size + 1 + 1) (by omega)).trans HB.out.2
        have z3 := hfr2.size
        have z4 := hfr3.size
        simp only [World.size_alloc, drew_size] at z3 z4
        have hW4 : Win Step.cells 4 39 w4 (.slice a4 (q + 1 + (l.length - q)) c4) (fun i => i ≠ w.heap.size + 1 + 1 ∧ w.heap.size ≤ i) (withP l s) := by
          refine (?_ : WinC _ _ _ _ _ _ _)
          rw [with_len HQ.out hql, with_flat HQ.out]
          exact winC_mono hwin4 fun i hi => by simp [drew_size] at hi; omega
        have hE := line_end (k := k) hb.size hb hr2 (by omega) hW4 (fun i hi => hi)
        have HE := Lib.hid (hE _ rfl)
        have g0 := (hE _ rfl).1
        have g1 := (hE _ rfl).2.1
        generalize (w4.setCell ⟨w.heap.size + 1 + 1, 0, none⟩ (.int .i64 k)).setCell ⟨w.heap.size + 1 + 1, 1, none⟩ (.slice a4 (q + 1 + (l.length - q)) c4) = W4 at *
        clear hE hW4 z3 z4 hr2 hb hwin4 hfr4 hb4 hwin3 hfr3 hb3 hwin2 hfr2 hb2
        go_wp2
        exact bodyPost_ret (v := .agg #[.int .i64 k, .slice a4 (q + 1 + (l.length - q)) c4]) (by simp [results, Try.results47, go_sem, g0, g1]) rfl ⟨_, rfl, HE.out.2.2.1, HE.out.2.2.2⟩

end Go.Proofs.Ytkoeplbkeboklaa
/- The reference's Same: whether two lines are equal. -/
set_option linter.unusedVariables false
set_option linter.unusedSimpArgs false
namespace Go.Proofs.Ytkoeplbkeboklaa
open Go.RowKit
set_option maxHeartbeats 4000000 in
theorem same_any (k1 k2 : Int) (v1 v2 : Value) (xs ys : List Step) (w : World) (r1 : Rd Step.cells 4 w v1 xs) (r2 : Rd Step.cells 4 w v2 ys) :
    Calls Try.prog 24 #[.agg #[.int .i64 k1, v1], .agg #[.int .i64 k2, v2]] w fun e w' => e = .returned (.bool (decide (k1 = k2 ∧ xs = ys))) ∧ Below w.heap.size w w' := by
  obtain ⟨a1, c1, rfl⟩ : ∃ a c, v1 = .slice a xs.length c := by obtain ⟨_, a, c, rfl, _⟩ := r1; exact ⟨a, c, rfl⟩
  obtain ⟨a2, c2, rfl⟩ : ∃ a c, v2 = .slice a ys.length c := by obtain ⟨_, a, c, rfl, _⟩ := r2; exact ⟨a, c, rfl⟩
  have R1 := Lib.hid r1
  have R2 := Lib.hid r2
  have hm := r1.1
  clear r1 r2
  by_cases hk : k1 = k2
  · have hkb : (k1 != k2) = false := by simp [hk]
    have HK := Lib.hid hk
    clear hk
    by_cases hl : xs.length = ys.length
    · have hlb : ((xs.length : Int) != (ys.length : Int)) = false := by simp; omega
      have HL := Lib.hid hl
      go_enter Try.func24, Try.ntmps24
      go_wp2
      go_loopw [23] (fun i W => ∃ n : Nat, i = .int .i64 n ∧ n ≤ xs.length ∧ eqTo xs ys n ∧ Below w.heap.size w W ∧ w.heap.size + 1 < W.heap.size ∧ W.cell? ⟨w.heap.size, 1, none⟩ = some (.slice a1 xs.length c1) ∧ W.cell? ⟨w.heap.size + 1, 1, none⟩ = some (.slice a2 ys.length c2)) (fun i _ => xs.length - (intOf i).toNat)
      case atStart => exact ⟨0, rfl, by omega, fun i x y h => absurd h (by omega), ((Below.refl _ _).alloc (Nat.le_refl _) _).alloc (by simp) _, by simp, by simp [HL.out], by simp [HL.out]⟩
      case round =>
        obtain ⟨n, rfl, hnl, hok, hB, hlt, hc1, hc2⟩ := hrel
        by_cases hlt' : n < xs.length
        · have hlt2 : n < ys.length := by omega
          have hx := List.getElem?_eq_getElem hlt'
          have hy := List.getElem?_eq_getElem hlt2
          generalize xs[n] = x at hx
          generalize ys[n] = y at hy
          obtain ⟨b1, o1, rfl, hbl1, h1⟩ := rd_at (R1.out.below hB) hx
          obtain ⟨b2, o2, rfl, hbl2, h2⟩ := rd_at (R2.out.below hB) hy
          have q0 : wr.cell? ⟨b1, o1 + n * 4, none⟩ = some (.int .i64 x.at_) := h1 0 _ rfl
          have q1 := h1 1 _ rfl
          have q2 := h1 2 _ rfl
          have q3 := h1 3 _ rfl
          have p0 : wr.cell? ⟨b2, o2 + n * 4, none⟩ = some (.int .i64 y.at_) := h2 0 _ rfl
          have p1 := h2 1 _ rfl
          have p2 := h2 2 _ rfl
          have p3 := h2 3 _ rfl
          have n1 : (n : Int) < (ys.length : Int) := by omega
          have hne := fun w' => neqStep x y w'
          have HX := Lib.hid (And.intro hx (And.intro hy hok))
          clear h1 h2 hx hy hok
          by_cases hxy : x = y
          · have hd : decide (x = y) = true := decide_eq_true hxy
            have HE := Lib.hid hxy; clear hxy
            go_wp2
            go_quiet (fail)
            go_wp2
            go_roundw
            case rel => exact ⟨n + 1, by go_num, by omega, eqTo_succ HX.out.2.2 HX.out.1 HX.out.2.1 HE.out, below_drewN hB _, hlt, hc1, hc2⟩
            case measure => simp [intOf]; omega
          · have hd : decide (x = y) = false := decide_eq_false hxy
            have HE := Lib.hid hxy; clear hxy
            go_wp2
            go_quiet (fail)
            go_wp2
            go_ret
            exact ⟨ret_bool (by symm; exact decide_eq_false fun h => HE.out (by have a := HX.out.1; have b := HX.out.2.1; rw [h.2, b] at a; exact (Option.some.inj a).symm)), below_drewN hB _⟩
        · obtain rfl : n = xs.length := by omega
          have HO := Lib.hid hok
          clear hok
          go_wp2
          go_ret
          exact ⟨ret_bool (by symm; exact decide_eq_true ⟨HK.out, List.ext_getElem? fun i => by
            by_cases hi : i < xs.length
            · rw [List.getElem?_eq_getElem hi, List.getElem?_eq_getElem (by have := HL.out; omega)]
              exact congrArg some (HO.out i _ _ hi (List.getElem?_eq_getElem hi) (List.getElem?_eq_getElem (by have := HL.out; omega)))
            · rw [List.getElem?_eq_none (by omega), List.getElem?_eq_none (by have := HL.out; omega)]⟩), hB⟩
    · have hlb : ((xs.length : Int) != (ys.length : Int)) = true := by simp; omega
      have HL := Lib.hid hl
      clear hl
      go_enter Try.func24, Try.ntmps24
      go_wp2
      go_ret
      exact ⟨ret_bool (by symm; exact decide_eq_false fun h => HL.out (by rw [h.2])), ((Below.refl _ _).alloc (Nat.le_refl _) _).alloc (by simp) _⟩
  · have hkb : (k1 != k2) = true := by simp [hk]
    have HK := Lib.hid hk
    clear hk
    go_enter Try.func24, Try.ntmps24
    go_wp2
    go_ret
    exact ⟨ret_bool (by symm; exact decide_eq_false fun h => HK.out h.1), ((Below.refl _ _).alloc (Nat.le_refl _) _).alloc (by simp) _⟩
end Go.Proofs.Ytkoeplbkeboklaa
/- The plain side of retro: lives, and what is taken. No program in sight. -/
set_option linter.unusedVariables false
set_option linter.unusedSimpArgs false
namespace Go.Proofs.Ytkoeplbkeboklaa
/-- What RetroOuts take, from what is there on. -/
def takesFrom (k : Int) : List Held → List Step → List Span
  | _, [] => []
  | th, s :: l => (if s.do_ = 2 then [⟨(doP k th s).2.from_, s.at_⟩] else []) ++ takesFrom k (doP k th s).1 l
def takesOf (k : Int) (l : List Step) : List Span := takesFrom k [] l
theorem takesFrom_drop {k : Int} {th : List Held} {l : List Step} {n : Nat} {s : Step} (h : l[n]? = some s) :
    takesFrom k th (l.drop n) = (if s.do_ = 2 then [⟨(doP k th s).2.from_, s.at_⟩] else []) ++ takesFrom k (doP k th s).1 (l.drop (n + 1)) := by
  obtain ⟨hlt, rfl⟩ := List.getElem?_eq_some_iff.1 h
  rw [List.drop_eq_getElem_cons hlt, takesFrom]
theorem doP_sort {k : Int} {th : List Held} (s : Step) (h : k = 3 → sortH th) (hk : 1 ≤ k ∧ k ≤ 3) : k = 3 → sortH (doP k th s).1 := by
  intro h3
  rw [show doP k th s = mapDo th s by simp [doP, h3]]
  exact mapDo_sort s (h h3)
end Go.Proofs.Ytkoeplbkeboklaa
/- The plain side of retro: lives. No program in sight. -/
set_option linter.unusedVariables false
set_option linter.unusedSimpArgs false
namespace Go.Proofs.Ytkoeplbkeboklaa
def closeL (f at_ : Int) (x : Life) : Life := if x.from_ = f then { x with to_ := at_ } else x
/-- The lives, from what is there and the lives so far on. -/
def livesFrom (k : Int) : List Held → List Life → List Step → List Life
  | _, out, [] => out
  | th, out, s :: l => livesFrom k (doP k th s).1 (out.map (closeL (doP k th s).2.from_ s.at_) ++ if s.do_ = 1 then [⟨s.at_, 1001, s.key, s.val⟩] else []) l
def livesOf (k : Int) (l : List Step) : List Life := livesFrom k [] [] l
theorem livesFrom_drop {k : Int} {th : List Held} {out : List Life} {l : List Step} {n : Nat} {s : Step} (h : l[n]? = some s) :
    livesFrom k th out (l.drop n) = livesFrom k (doP k th s).1 (out.map (closeL (doP k th s).2.from_ s.at_) ++ if s.do_ = 1 then [⟨s.at_, 1001, s.key, s.val⟩] else []) (l.drop (n + 1)) := by
  obtain ⟨hlt, rfl⟩ := List.getElem?_eq_some_iff.1 h
  rw [List.drop_eq_getElem_cons hlt, livesFrom]
theorem close_step {α : Type} {xs : List α} {m : Nat} {x : α} (cl : α → α) (hx : xs[m]? = some x) :
    ((xs.take m).map cl ++ xs.drop m)[m]? = some x ∧ ((xs.take m).map cl ++ xs.drop m).set m (cl x) = (xs.take (m + 1)).map cl ++ xs.drop (m + 1) := by
  obtain ⟨hlt, rfl⟩ := List.getElem?_eq_some_iff.1 hx
  have hl : ((xs.take m).map cl).length = m := by simp; omega
  constructor
  · rw [List.getElem?_append_right (by omega), hl, Nat.sub_self, List.getElem?_drop]; simp
  · rw [List.set_append, if_neg (by omega), hl, Nat.sub_self, List.drop_eq_getElem_cons hlt, List.set_cons_zero, List.take_add_one, hx, List.map_append, List.append_assoc]
    rfl
theorem close_same {α : Type} {xs : List α} {m : Nat} {x : α} {cl : α → α} (hx : xs[m]? = some x) (h : cl x = x) : (xs.take (m + 1)).map cl ++ xs.drop (m + 1) = (xs.take m).map cl ++ xs.drop m := by
  obtain ⟨h1, h2⟩ := close_step cl hx
  rw [← h2, h]
  obtain ⟨hlt, he⟩ := List.getElem?_eq_some_iff.1 h1
  rw [← he]
  exact List.set_getElem_self hlt
end Go.Proofs.Ytkoeplbkeboklaa
/- The plain side of retro: the spans in which two lines differ, as the reference reckons them. No program in sight. -/
set_option linter.unusedVariables false
set_option linter.unusedSimpArgs false
namespace Go.Proofs.Ytkoeplbkeboklaa
/-- A time among times that increase. -/
def insT (t : Int) : List Int → List Int
  | [] => [t]
  | x :: xs => if x < t then x :: insT t xs else if x = t then x :: xs else t :: x :: xs
/-- How many, from the front, are smaller. -/
def lessT (t : Int) : List Int → Nat
  | [] => 0
  | x :: xs => if x < t then lessT t xs + 1 else 0
def timesP (l : List Step) : List Int := l.foldl (fun ts s => insT s.at_ ts) [1001]
/-- One span more, or the last one longer. -/
def addSpan (out : List Span) (t1 t2 : Int) : List Span :=
  match out.getLast? with
  | some x => if x.to_ = t1 - 1 then out.dropLast ++ [{ x with to_ := t2 - 1 }] else out ++ [⟨t1, t2 - 1⟩]
  | none => [⟨t1, t2 - 1⟩]
def diffFrom (k : Int) (a b : List Step) : List Int → List Span → List Span
  | t1 :: t2 :: ts, out => diffFrom k a b (t2 :: ts) (if thereP k a t1 = thereP k b t1 then out else addSpan out t1 t2)
  | _, out => out
def diffOf (k : Int) (a b : List Step) : List Span := diffFrom k a b (timesP (a ++ b)) []
theorem lessT_le (t : Int) : ∀ l : List Int, lessT t l ≤ l.length
  | [] => by simp [lessT]
  | h :: l => by simp only [lessT]; split <;> simp; exact lessT_le t l
theorem lessT_drop {t : Int} {l : List Int} {n : Nat} {x : Int} (h : l[n]? = some x) : lessT t (l.drop n) = if x < t then lessT t (l.drop (n + 1)) + 1 else 0 := by
  obtain ⟨hlt, rfl⟩ := List.getElem?_eq_some_iff.1 h
  rw [List.drop_eq_getElem_cons hlt, lessT]
theorem insT_eq (t : Int) : ∀ l : List Int, (l[lessT t l]? = some t → insT t l = l) ∧ (l[lessT t l]? ≠ some t → insT t l = l.take (lessT t l) ++ t :: l.drop (lessT t l))
  | [] => by simp [insT, lessT]
  | x :: l => by
    obtain ⟨h1, h2⟩ := insT_eq t l
    simp only [insT, lessT]
    by_cases hx : x < t
    · rw [if_pos hx, if_pos hx]
      simp only [List.getElem?_cons_succ, List.take_succ_cons, List.drop_succ_cons, List.cons_append]
      exact ⟨fun h => by rw [h1 h], fun h => by rw [h2 h]⟩
    · rw [if_neg hx, if_neg hx]
      by_cases he : x = t
      · simp [he]
      · simp [he]
end Go.Proofs.Ytkoeplbkeboklaa
/- The plain side of retro: where a time stands in a line whose times increase. No program in sight. -/
set_option linter.unusedVariables false
set_option linter.unusedSimpArgs false
namespace Go.Proofs.Ytkoeplbkeboklaa
theorem incP_pair : ∀ {l : List Step}, incP l = true → l.Pairwise fun a b => a.at_ < b.at_
  | [], _ => List.Pairwise.nil
  | [a], _ => by simp
  | a :: b :: l, h => by
    simp only [incP, Bool.and_eq_true, decide_eq_true_eq] at h
    have ih := incP_pair h.2
    refine List.pairwise_cons.2 ⟨fun x hx => ?_, ih⟩
    rcases List.mem_cons.1 hx with rfl | hx
    · exact h.1
    · have := (List.pairwise_cons.1 ih).1 x hx; omega
theorem placeAt_iff {t : Int} : ∀ {l : List Step}, (l.Pairwise fun a b => a.at_ < b.at_) → ∀ {i : Nat} {s : Step}, l[i]? = some s → (s.at_ < t ↔ i < placeAt t l)
  | [], _, i, s, h => by simp at h
  | x :: l, hp, i, s, h => by
    obtain ⟨h1, h2⟩ := List.pairwise_cons.1 hp
    simp only [placeAt]
    cases i with
    | zero =>
      simp at h
      subst h
      by_cases hx : x.at_ < t <;> simp [hx]
    | succ i =>
      have h' : l[i]? = some s := by simpa using h
      by_cases hx : x.at_ < t
      · rw [if_pos hx, placeAt_iff h2 h']; omega
      · rw [if_neg hx]
        have := h1 s (List.mem_of_getElem? h')
        omega
end Go.Proofs.Ytkoeplbkeboklaa
/- The plain side of retro: times one behind the other, spans one behind the other. No program in sight. -/
set_option linter.unusedVariables false
set_option linter.unusedSimpArgs false
namespace Go.Proofs.Ytkoeplbkeboklaa
def timesTo (l : List Step) (n : Nat) : List Int := (l.take n).foldl (fun ts s => insT s.at_ ts) [1001]
theorem timesTo_all (l : List Step) : timesTo l l.length = timesP l := by rw [timesTo, List.take_length]; rfl
theorem timesTo_succ {l : List Step} {n : Nat} {s : Step} (h : l[n]? = some s) : timesTo l (n + 1) = insT s.at_ (timesTo l n) := by
  rw [timesTo, timesTo, List.take_add_one, h, List.foldl_append]; rfl
theorem insT_mem {t x : Int} : ∀ {l : List Int}, x ∈ insT t l ↔ x = t ∨ x ∈ l
  | [] => by simp [insT]
  | y :: l => by
    simp only [insT]
    split
    · simp only [List.mem_cons, insT_mem (l := l)]
      constructor
      · rintro (h | h | h) <;> simp [h]
      · rintro (h | h | h) <;> simp [h]
    · split
      · rename_i h; subst h; simp
      · simp
theorem insT_length (t : Int) : ∀ l : List Int, (insT t l).length ≤ l.length + 1
  | [] => by simp [insT]
  | y :: l => by
    simp only [insT]
    split
    · have := insT_length t l; simp; omega
    · split <;> simp
theorem foldl_mem {x : Int} : ∀ (l : List Step) (ts : List Int), x ∈ ts → x ∈ l.foldl (fun ts s => insT s.at_ ts) ts
  | [], ts, h => h
  | s :: l, ts, h => foldl_mem l _ (insT_mem.2 (.inr h))
theorem timesTo_last (l : List Step) (n : Nat) : (1001 : Int) ∈ timesTo l n := foldl_mem _ _ (by simp)
theorem foldl_length : ∀ (l : List Step) (ts : List Int), (l.foldl (fun ts s => insT s.at_ ts) ts).length ≤ ts.length + l.length
  | [], ts => by simp
  | s :: l, ts => by
    have h1 := foldl_length l (insT s.at_ ts)
    have h2 := insT_length s.at_ ts
    simp only [List.foldl_cons, List.length_cons]
    omega
theorem timesTo_length (l : List Step) (n : Nat) : (timesTo l n).length ≤ n + 1 := by
  have := foldl_length (l.take n) [1001]
  simp only [timesTo, List.length_take, List.length_cons, List.length_nil] at this ⊢
  omega
theorem foldl_range : ∀ (l : List Step) (ts : List Int), (∀ s ∈ l, 0 ≤ s.at_ ∧ s.at_ ≤ 1000) → (∀ x ∈ ts, 0 ≤ x ∧ x ≤ 1001) → ∀ x ∈ l.foldl (fun ts s => insT s.at_ ts) ts, 0 ≤ x ∧ x ≤ 1001
  | [], ts, _, h => h
  | s :: l, ts, hl, h => foldl_range l _ (fun y hy => hl y (by simp [hy])) fun x hx => by
    rcases insT_mem.1 hx with rfl | hx
    · have := hl s (by simp); omega
    · exact h x hx
theorem timesP_range {l : List Step} (h : ∀ s ∈ l, 0 ≤ s.at_ ∧ s.at_ ≤ 1000) : ∀ x ∈ timesP l, 0 ≤ x ∧ x ≤ 1001 := foldl_range l _ h (by simp)
theorem lessT_lt {t : Int} : ∀ {ts : List Int}, (1001 : Int) ∈ ts → t ≤ 1000 → lessT t ts < ts.length
  | [], h, _ => by simp at h
  | y :: ts, h, ht => by
    simp only [lessT]
    split
    · rename_i hy
      rcases List.mem_cons.1 h with h | h
      · omega
      · have := lessT_lt h ht; simp; omega
    · simp
theorem diffFrom_drop {k : Int} {a b : List Step} {ts : List Int} {n : Nat} {t1 t2 : Int} (out : List Span) (h1 : ts[n]? = some t1) (h2 : ts[n + 1]? = some t2) :
    diffFrom k a b (ts.drop n) out = diffFrom k a b (ts.drop (n + 1)) (if thereP k a t1 = thereP k b t1 then out else addSpan out t1 t2) := by
  obtain ⟨l1, rfl⟩ := List.getElem?_eq_some_iff.1 h1
  obtain ⟨l2, rfl⟩ := List.getElem?_eq_some_iff.1 h2
  rw [List.drop_eq_getElem_cons l1, List.drop_eq_getElem_cons l2, diffFrom]
theorem diffFrom_end {k : Int} {a b : List Step} {ts : List Int} {n : Nat} (out : List Span) (h : ts.length ≤ n + 1) : diffFrom k a b (ts.drop n) out = out := by
  have hl : (ts.drop n).length ≤ 1 := by simp; omega
  generalize ts.drop n = d at hl
  match d, hl with
  | [], _ => rfl
  | [x], _ => rfl
  | x :: y :: z, h => simp at h
theorem addSpan_nil (t1 t2 : Int) : addSpan [] t1 t2 = [⟨t1, t2 - 1⟩] := rfl
theorem addSpan_set {out : List Span} {m : Nat} {x : Span} {t1 t2 : Int} (hx : out[m]? = some x) (hm : m + 1 = out.length) (he : x.to_ = t1 - 1) : addSpan out t1 t2 = out.set m { x with to_ := t2 - 1 } := by
  rcases List.eq_nil_or_concat out with rfl | ⟨l, y, rfl⟩
  · simp at hm
  · rw [List.concat_eq_append] at *
    have hl : m = l.length := by simp at hm; omega
    subst hl
    have hy : y = x := by simpa using hx
    subst hy
    simp [addSpan, he]
theorem addSpan_new {out : List Span} {m : Nat} {x : Span} {t1 t2 : Int} (hx : out[m]? = some x) (hm : m + 1 = out.length) (he : ¬ x.to_ = t1 - 1) : addSpan out t1 t2 = out ++ [⟨t1, t2 - 1⟩] := by
  rcases List.eq_nil_or_concat out with rfl | ⟨l, y, rfl⟩
  · simp at hm
  · rw [List.concat_eq_append] at *
    have hl : m = l.length := by simp at hm; omega
    subst hl
    have hy : y = x := by simpa using hx
    subst hy
    simp [addSpan, he]
theorem addSpan_length (out : List Span) (t1 t2 : Int) : (addSpan out t1 t2).length ≤ out.length + 1 := by
  unfold addSpan
  split
  · split
    · simp
    · simp
  · simp
end Go.Proofs.Ytkoeplbkeboklaa
/- A cell of a window written. -/
set_option linter.unusedVariables false
set_option linter.unusedSimpArgs false
namespace Go.Proofs.Ytkoeplbkeboklaa
open Go.RowKit
theorem setCell_blk {w : World} {b o T : Nat} {cur : Array Value} (h : w.heap[b]? = some (.cells cur T (0, 0))) (u : Value) : (w.setCell ⟨b, o, none⟩ u).heap[b]? = some (.cells (cur.setIfInBounds o u) T (0, 0)) := by
  simp [World.setCell, Array.getElem?_modify, h]
theorem winC_set {k e : Nat} {w : World} {b off n c : Nat} {S : Nat → Prop} {cs : List Value} (h : WinC k e w (.slice (some ⟨b, off, none⟩) n c) S n cs) {j : Nat} (hj : j < n * k) (u : Value) :
    WinC k e (w.setCell ⟨b, off + j, none⟩ u) (.slice (some ⟨b, off, none⟩) n c) S n (cs.set j u) ∧ (w.cell? ⟨b, off + j, none⟩).isSome = true ∧ w.frozen? ⟨b, off + j, none⟩ = false := by
  obtain ⟨hl, h⟩ := h
  rcases h with ⟨hv, h'⟩ | ⟨g, o, cap, cur, hv, hS, hg, hnc, hcm, hcs, ht⟩
  · simp at hv
  · injection hv with h1 h2 h3
    injection h1 with h1
    injection h1 with h1 h4
    subst h1; subst h4; subst h3
    refine ⟨⟨by simp [hl], .inr ⟨b, off, c, _, rfl, hS, setCell_blk hg u, hnc, hcm, by simpa using hcs, ?_⟩⟩, ?_, free_blk hg _⟩
    · rw [Array.toList_setIfInBounds, List.drop_set, if_neg (by omega), Nat.add_sub_cancel_left, List.take_set, ht]
    · rw [cell_blk hg]
      have : n * k ≤ c * k := Nat.mul_le_mul_right _ hnc
      simp
      omega
theorem flat_set {α : Type} {enc : α → List Value} {k : Nat} (hk : ∀ x, (enc x).length = k) : ∀ (xs : List α) (i : Nat) (x y : α) (r : Nat) (u : Value), xs[i]? = some x → r < k → enc y = (enc x).set r u → (xs.set i y).flatMap enc = (xs.flatMap enc).set (i * k + r) u
  | [], i, x, y, r, u, h, _, _ => by simp at h
  | z :: xs, 0, x, y, r, u, h, hr, he => by
    simp only [List.getElem?_cons_zero, Option.some.injEq] at h
    subst h
    rw [List.set_cons_zero, List.flatMap_cons, List.flatMap_cons, he, Nat.zero_mul, Nat.zero_add, List.set_append, if_pos (by rw [hk]; exact hr)]
  | z :: xs, i + 1, x, y, r, u, h, hr, he => by
    rw [List.set_cons_succ, List.flatMap_cons, List.flatMap_cons, List.set_append, if_neg (by rw [hk, Nat.add_mul, Nat.one_mul]; omega), hk, flat_set hk xs i x y r u (by simpa using h) hr he, show (i + 1) * k + r - k = i * k + r by rw [Nat.add_mul, Nat.one_mul]; omega]
theorem win_set {α : Type} {enc : α → List Value} {k e : Nat} (hk : ∀ x, (enc x).length = k) {w : World} {b off n c : Nat} {S : Nat → Prop} {xs : List α} (h : Win enc k e w (.slice (some ⟨b, off, none⟩) n c) S xs) (hn : xs.length = n) {i r : Nat} {x y : α} {u : Value} (hx : xs[i]? = some x) (hr : r < k) (he : enc y = (enc x).set r u) :
    Win enc k e (w.setCell ⟨b, off + i * k + r, none⟩ u) (.slice (some ⟨b, off, none⟩) n c) S (xs.set i y) ∧ (w.cell? ⟨b, off + i * k + r, none⟩).isSome = true ∧ w.frozen? ⟨b, off + i * k + r, none⟩ = false := by
  subst hn
  have hi := (List.getElem?_eq_some_iff.1 hx).1
  have hj : i * k + r < xs.length * k := by
    have : (i + 1) * k ≤ xs.length * k := Nat.mul_le_mul_right _ hi
    rw [Nat.add_mul, Nat.one_mul] at this
    omega
  obtain ⟨h1, h2, h3⟩ := winC_set h hj u
  rw [Nat.add_assoc]
  refine ⟨?_, h2, h3⟩
  refine (?_ : WinC _ _ _ _ _ _ _)
  rw [List.length_set, flat_set hk xs i x y r u hx hr he]
  exact h1
end Go.Proofs.Ytkoeplbkeboklaa
/- The reference's Takes. -/
set_option linter.unusedVariables false
set_option linter.unusedSimpArgs false
namespace Go.Proofs.Ytkoeplbkeboklaa
open Go.RowKit
theorem span_len (x : Span) : x.cells.length = 2 := rfl
theorem info_span : (Try.prog.info? 58).map (fun i => (i.zero, i.size, i.bytes)) = some (some (.agg #[.int .i64 0, .int .i64 0]), 2, 16) := by kernel_rfl
def takesP (k : Int) (l : List Step) : List Span × Int := if isLineP k l then (takesOf k l, 0) else ([], 2)
set_option maxHeartbeats 4000000 in
theorem refTakes_any (k : Int) (v : Value) (l : List Step) (w : World) (hr : Rd Step.cells 4 w v l) :
    Calls Try.prog 17 #[.agg #[.int .i64 k, v]] w fun e w' => ∃ v, e = .returned (.tuple #[v, .int .i64 (takesP k l).2]) ∧ Win Span.cells 2 58 w' v (fun i => w.heap.size ≤ i) (takesP k l).1 ∧ Below w.heap.size w w' := by
  obtain ⟨a, c, rfl⟩ : ∃ a c, v = .slice a l.length c := by obtain ⟨_, a, c, rfl, _⟩ := hr; exact ⟨a, c, rfl⟩
  have HR := Lib.hid hr
  clear hr
  have HBL := Lib.hid (fun o => (Below.refl w.heap.size w).alloc (Nat.le_refl _) o)
  have hcon := fun o => good_any k _ l _ (HR.out.below (HBL.out o))
  cases hi : isLineP k l with
  | false =>
    have hat : takesP k l = ([], 2) := by simp [takesP, hi]
    rw [hat]
    rw [hi] at hcon
    have HC := Lib.hid hcon
    clear hat hi hcon
    go_enter Try.func17, Try.ntmps17
    go_wp2_with (go_at_call 42; refine (HC.out _).mono ?_; rintro e w1 ⟨rfl, hb1⟩)
    go_ret2
    exact ⟨_, rfl, winC_nil _ _ _ _, (HBL.out _).trans (hb1.mono (by simp))⟩
  | true =>
    have hat : takesP k l = (takesOf k l, 0) := by simp [takesP, hi]
    rw [hat]
    rw [hi] at hcon
    have HC := Lib.hid hcon
    have HO := Lib.hid (okLine_of hi)
    have hll := (okLine_of hi).2.2
    clear hat hi hcon
    go_enter Try.func17, Try.ntmps17
    go_wp2_with (go_at_call 42; refine (HC.out _).mono ?_; rintro e w1 ⟨rfl, hb1⟩; have c0 := below_cell hb1 (World.cell?_alloc_new w #[.int .i64 k, .slice a l.length c] 25 0); have c1 := below_cell hb1 (World.cell?_alloc_new w #[.int .i64 k, .slice a l.length c] 25 1))
    have hB1 : Below w.heap.size w w1 := (HBL.out _).trans (hb1.mono (by simp))
    have hz1 : w.heap.size < w1.heap.size := by have := hb1.size; simp at this; omega
    go_loopw [15, 5, 4] (fun i v u W => ∃ (n : Nat) (th : List Held) (xs : List Span) (a1 a2 : Option Addr) (c1 c2 : Nat), i = .int .i64 n ∧ v = .slice a1 th.length c1 ∧ u = .slice a2 xs.length c2 ∧ n ≤ l.length ∧ th.length ≤ n ∧ xs.length ≤ n ∧ xs ++ takesFrom k th (l.drop n) = takesOf k l ∧ (k = 3 → sortH th) ∧ Win Held.thing 3 115 W (.slice a1 th.length c1) (fun j => w.heap.size < j ∧ some j ≠ (Value.slice a2 xs.length c2).ownBlock) th ∧ Win Span.cells 2 58 W (.slice a2 xs.length c2) (fun j => w.heap.size < j) xs ∧ Below w.heap.size w W ∧ w.heap.size < W.heap.size ∧ W.cell? ⟨w.heap.size, 0, none⟩ = some (.int .i64 k)) (fun i _ _ _ => l.length - (intOf i).toNat)
    case atStart => exact ⟨0, [], [], none, none, 0, 0, rfl, rfl, rfl, by omega, by simp, by simp, rfl, fun _ => List.Pairwise.nil, winC_nil _ _ _ _, winC_nil _ _ _ _, hB1, hz1, c0⟩
    case round =>
      obtain ⟨n, th, xs, a1, a2, p1, p2, rfl, rfl, rfl, hnl, htn, hxn, heq, hst, hwin, hwx, hB, hlt, hc0⟩ := hrel
      by_cases hlt' : n < l.length
      · have hx := List.getElem?_eq_getElem hlt'
        have hmem : l[n] ∈ l := List.getElem_mem hlt'
        generalize l[n] = s at hx hmem
        obtain ⟨b, off, rfl, hbl, hc⟩ := rd_at (HR.out.below hB) hx
        have q0 : wr.cell? ⟨b, off + n * 4, none⟩ = some (.int .i64 s.at_) := hc 0 _ rfl
        have q1 := hc 1 _ rfl
        have q2 := hc 2 _ rfl
        have q3 := hc 3 _ rfl
        have hdo := HO.out.2.1 s hmem
        have hwin2 := fun o => winC_move (winC_block hwin) (fr_alloc (fun _ => False) wr o) (fun _ _ h => h)
        have hwx2 := fun o => winC_move (winC_block hwx) (fr_alloc (fun _ => False) wr o) (fun _ _ h => h)
        have hcall := fun o => refStep_is2 (k := k) (v := .slice a1 th.length p1) (th := th) (s := s) HO.out.1 hdo hst _ (hwin2 o) (by omega)
        have hc2 := fun o => below_cell ((Below.refl wr.heap.size wr).alloc (Nat.le_refl _) o) hc0
        rw [takesFrom_drop hx] at heq
        have hle := doP_length k th s
        have hst2 := doP_sort s hst HO.out.1
        generalize hth : (doP k th s).1 = th2 at *
        generalize (doP k th s).2.from_ = f at *
        have HX := Lib.hid (And.intro hcall (And.intro hwx2 (And.intro heq (And.intro hst2 hc2))))
        clear hc hx hwin hwin2 hcall hmem hwx2 hst heq hst2 hwx hth hc2
        by_cases hd : s.do_ = 2
        · have hdb : (s.do_ == 2) = true := by simp [hd]
          have HD := Lib.hid hd
          clear hd hdo
          go_wp2_with (first | (go_at_call 58; refine (HX.out.1 _).mono ?_; rintro e w2 ⟨v2, rfl, hw2, hb2⟩; obtain ⟨a3, c3, rfl, hn2, hm2⟩ := winC_slice hw2; have hxx := winC_move (HX.out.2.1 (.cells #[.int .i64 s.at_, .int .i64 s.do_, .int .i64 s.key, .int .i64 s.val] 39)) (fr_of_below (S := fun _ => False) hb2) (fun _ _ h => h); have hxx2 := winC_move hxx (fr_alloc (fun _ => False) w2 (.cells #[.int .i64 f, .int .i64 s.at_] 58)) (fun _ _ h => h); have m0 := below_cell hb2 (World.cell?_alloc_new wr #[.int .i64 s.at_, .int .i64 s.do_, .int .i64 s.key, .int .i64 s.val] 39 0); have m1 := below_cell hb2 (World.cell?_alloc_new wr #[.int .i64 s.at_, .int .i64 s.do_, .int .i64 s.key, .int .i64 s.val] 39 1)) | (at_builtin; (refine wpList_append_win _ (by rfl) _ _ _ (by rfl) 58 2 16 _ Try.underlying30 info_span rfl (by decide) _ _ xs.length _ (by rfl) hxx2 _ _ _ [.int .i64 f, .int .i64 s.at_] (by rfl) (by rfl) (World.news_of_block (heap_alloc_new w2 _)) (by simp [Value.oneCell']) (by decide) (by unfold maxLen; omega) (by omega) ?_); intro v3 w3 hwin3 hfr3 hsz3; obtain ⟨a4, c4, rfl, hn4, hm4⟩ := winC_slice hwin3))
          have hB2 : Below w.heap.size w w2 := (hB.alloc hB.size _).trans (hb2.mono (by have := hB.size; simp; omega))
          have hz2 : wr.heap.size + 1 ≤ w2.heap.size := by have := hb2.size; simpa using this
          have F3 : Fr (fun i => some i = (Value.slice a2 xs.length p2).ownBlock) w2 w3 := fr_trans (fr_alloc _ w2 _) hfr3 fun _ _ h => h
          have hox : ∀ i, some i = (Value.slice a2 xs.length p2).ownBlock → w.heap.size < i ∧ i < wr.heap.size := fun i hi => (winC_ob hxx i hi).1.2
          have hon := winC_ob hwin3
          have hwt := winC_move (winC_block hw2) F3 fun i hi h => by
            rcases hi.2.1 with h1 | h1
            · exact h1.2.1.2 h
            · have := (hox i h).2; simp at h1; omega
          have m2 := fr_cell F3 (below_cell hb2 (HX.out.2.2.2.2 _)) (fun h => by have := (hox w.heap.size h).1; omega)
          have z3 := F3.size
          go_roundw
          case rel =>
            refine ⟨n + 1, th2, xs ++ [⟨f, s.at_⟩], a3, a4, c3, c4, by go_num, rfl, by simp, by omega, by omega, by simp; omega, ?_, HX.out.2.2.2.1, winC_mono hwt fun i hi => ⟨?_, fun h => ?_⟩, ?_, hB2.trans (below_of_fr F3 hB2.size fun i hi => Nat.le_of_lt (hox i hi).1), by omega, m2⟩
            · have := HX.out.2.2.1
              rw [if_pos HD.out] at this
              rw [← this, List.append_assoc]
            · rcases hi.2.1 with h1 | h1
              · exact h1.2.1.1
              · simp at h1; omega
            · have h3 := (hon i (h.trans (by cases a4 <;> rfl))).1
              simp at h3
              rcases h3 with h3 | h3
              · rcases hi.2.1 with h1 | h1
                · exact h1.2.1.2 h3.1.1
                · simp at h1; omega
              · omega
            · refine (?_ : WinC _ _ _ _ _ _ _)
              rw [List.length_append, List.flatMap_append]
              exact winC_mono hwin3 fun i hi => by simp at hi; omega
          case measure => simp [intOf]; omega
        · have hdb : (s.do_ == 2) = false := by simp [hd]
          have HD := Lib.hid hd
          clear hd hdo
          go_wp2_with (go_at_call 58; refine (HX.out.1 _).mono ?_; rintro e w2 ⟨v2, rfl, hw2, hb2⟩; obtain ⟨a3, c3, rfl, hn2, hm2⟩ := winC_slice hw2; have hxx := winC_move (HX.out.2.1 (.cells #[.int .i64 s.at_, .int .i64 s.do_, .int .i64 s.key, .int .i64 s.val] 39)) (fr_of_below (S := fun _ => False) hb2) (fun _ _ h => h); have m1 := below_cell hb2 (World.cell?_alloc_new wr #[.int .i64 s.at_, .int .i64 s.do_, .int .i64 s.key, .int .i64 s.val] 39 1))
          have hB2 : Below w.heap.size w w2 := (hB.alloc hB.size _).trans (hb2.mono (by have := hB.size; simp; omega))
          have hz2 : wr.heap.size + 1 ≤ w2.heap.size := by have := hb2.size; simpa using this
          have hox : ∀ i, some i = (Value.slice a2 xs.length p2).ownBlock → w.heap.size < i ∧ i < wr.heap.size := fun i hi => (winC_ob hxx i hi).1.2
          have m2 := below_cell hb2 (HX.out.2.2.2.2 _)
          go_roundw
          case rel =>
            refine ⟨n + 1, th2, xs, a3, a2, c3, p2, by go_num, rfl, rfl, by omega, by omega, by omega, ?_, HX.out.2.2.2.1, winC_mono hw2 fun i hi => ⟨?_, fun h => ?_⟩, winC_mono hxx fun i hi => hi.2.1, hB2, by omega, m2⟩
            · have := HX.out.2.2.1
              rw [if_neg HD.out] at this
              exact this
            · rcases hi with h1 | h1
              · exact h1.2.1.1
              · simp at h1; omega
            · rcases hi with h1 | h1
              · exact h1.2.1.2 h
              · have := (hox i h).2; simp at h1; omega
          case measure => simp [intOf]; omega
      · obtain rfl : n = l.length := by omega
        have hxs : xs = takesOf k l := by simpa [takesFrom] using heq
        subst hxs
        have HW := Lib.hid (And.intro hwx hB)
        clear hwin hwx hst heq
        go_wp2
        go_ret2
        exact ⟨_, rfl, winC_mono HW.out.1 fun i hi => by omega, HW.out.2⟩
end Go.Proofs.Ytkoeplbkeboklaa
/- The reference's DiffOf. -/
set_option linter.unusedVariables false
set_option linter.unusedSimpArgs false
namespace Go.Proofs.Ytkoeplbkeboklaa
open Go.RowKit
def cellI (x : Int) : List Value := [.int .i64 x]
theorem int_len (x : Int) : (cellI x).length = 1 := rfl
theorem int_one (x : Int) : ∀ u ∈ cellI x, u.oneCell' = true := by simp [cellI, Value.oneCell']
theorem info_int : (Try.prog.info? 3).map (fun i => (i.zero, i.size, i.bytes)) = some (some (.int .i64 0), 1, 8) := by kernel_rfl
theorem span_one (x : Span) : ∀ u ∈ x.cells, u.oneCell' = true := by simp [Span.cells, Value.oneCell']
theorem named_drewN {w : World} {n : Nat} {G : World → Prop} (h : ∀ W, Below w.heap.size w W → W.heap.size = w.heap.size → (∀ a, W.cell? a = w.cell? a) → G W) : G (w.drewN n) := h _ (below_drewN (Below.refl _ _) n) rfl (fun _ => rfl)
set_option maxHeartbeats 4000000 in
theorem diffOf_any (k : Int) (va vb : Value) (la lb : List Step) (w : World) (ra : Rd Step.cells 4 w va la) (rb : Rd Step.cells 4 w vb lb) (ha : okLine k la) (hb : okLine k lb) (ht : ∀ s ∈ la ++ lb, 0 ≤ s.at_ ∧ s.at_ ≤ 1000) :
    Calls Try.prog 67 #[.agg #[.int .i64 k, va], .agg #[.int .i64 k, vb]] w fun e w' => ∃ v, e = .returned v ∧ Win Span.cells 2 58 w' v (fun i => w.heap.size ≤ i) (diffOf k la lb) ∧ Below w.heap.size w w' := by
  obtain ⟨a, c, rfl⟩ : ∃ a c, va = .slice a la.length c := by obtain ⟨_, a, c, rfl, _⟩ := ra; exact ⟨a, c, rfl⟩
  obtain ⟨aB, cB, rfl⟩ : ∃ a c, vb = .slice a lb.length c := by obtain ⟨_, a, c, rfl, _⟩ := rb; exact ⟨a, c, rfl⟩
  have RA := Lib.hid ra
  have RB := Lib.hid rb
  have HA := Lib.hid ha
  have HB := Lib.hid hb
  have HT := Lib.hid ht
  have hla := ha.2.2
  have hlb := hb.2.2
  clear ra rb ha hb ht
  go_enter Try.func67, Try.ntmps67
  go_wp2
  refine named_box3 w _ _ _ _ _ _ fun W0 hb0 hz0 hx0 hx1 hx2 => ?_
  have d0 : W0.cell? ⟨w.heap.size, 0, none⟩ = some (.int .i64 k) := cell_blk hx0 0
  have d1 : W0.cell? ⟨w.heap.size, 1, none⟩ = some (.slice a la.length c) := cell_blk hx0 1
  have e0 : W0.cell? ⟨w.heap.size + 1, 0, none⟩ = some (.int .i64 k) := cell_blk hx1 0
  have e1 : W0.cell? ⟨w.heap.size + 1, 1, none⟩ = some (.slice aB lb.length cB) := cell_blk hx1 1
  have HX := Lib.hid (And.intro hb0 hx2)
  have HD := Lib.hid (And.intro d0 e0)
  clear hx0 hx1 hx2 hb0 d0 e0
  set_option maxRecDepth 10000 in
  go_region_held3 (fun W => W.cell? ⟨w.heap.size, 1, none⟩ = some (.slice a la.length c) ∧ W.cell? ⟨w.heap.size + 1, 1, none⟩ = some (.slice aB lb.length cB)) (first | exact ⟨d1, e1⟩ | exact ⟨p1, p2⟩ | exact ⟨r1, r2⟩ | go_keep) ((first | (refine step_append_rd _ (by rfl) _ _ _ (by rfl) 39 4 32 _ Try.underlying23 info_step rfl (by decide) _ _ la.length _ (by go_simp <;> rfl) _ (by go_simp <;> rfl) hwin2 lb.length _ (rdC_below (rdC_of_rd step_len (by decide) step_one RB.out) (HX.out.1.trans (hb2.mono HX.out.1.size))) (by unfold maxLen; omega) (by omega) ?_; intro v3 wA hwin3 hfr3 hsz3; obtain ⟨aA, cA, rfl, hnA, hmA⟩ := winC_slice hwin3; have hb3 : Below W0.heap.size W0 wA := hb2.trans (below_of_fr hfr3 hb2.size fun i hi => by have := (winC_ob hwin2 i hi).1; simp [drew_size] at this; omega); have r1 := below_cell hb3 d1; have r2 := below_cell hb3 e1) | (refine step_append_rd _ (by rfl) _ _ _ (by rfl) 39 4 32 _ Try.underlying23 info_step rfl (by decide) _ (fun _ => False) 0 [] (by go_simp <;> rfl) _ (by go_simp <;> rfl) (winC_nil _ _ _ _) la.length _ (rdC_below (rdC_of_rd step_len (by decide) step_one RA.out) (HX.out.1.drew)) (by unfold maxLen; omega) (by omega) ?_; intro v2 w2 hwin2 hfr2 hsz2; simp only [Nat.zero_add, List.nil_append] at hwin2; obtain ⟨a3, c3, rfl, hn2, hm2⟩ := winC_slice hwin2; have hb2 : Below W0.heap.size W0 w2 := (Below.refl W0.heap.size W0).drew.trans (below_of_fr hfr2 (Nat.le_refl _) fun i hi => nomatch hi); have p1 := below_cell hb2 d1; have p2 := below_cell hb2 e1) | fail))
  have hB3 : Below w.heap.size w wA := HX.out.1.trans (hb3.mono (by omega))
  have hz3 := hb3.size
  have hN : (la ++ lb).length = la.length + lb.length := List.length_append
  obtain ⟨l, hl⟩ : ∃ l, la ++ lb = l := ⟨_, rfl⟩
  rw [hl] at hN
  have hab : Rd Step.cells 4 wA (.slice aA (la.length + lb.length) cA) l := by
    have h : Win Step.cells 4 39 wA (.slice aA (la.length + lb.length) cA) (fun _ => True) l := by
      refine (?_ : WinC _ _ _ _ _ _ _)
      rw [← hl, List.length_append, List.flatMap_append]
      exact winC_mono hwin3 fun _ _ => trivial
    exact win_rd step_len h
  have htl : timesP l = timesP (la ++ lb) := by rw [hl]
  have hdo : diffOf k la lb = diffFrom k la lb (timesP l) [] := by rw [htl]; rfl
  have ht0 : Rd cellI 1 wA (.slice (some ⟨w.heap.size + 1 + 1, 0, none⟩) 1 1) [1001] := by
    refine ⟨by simp, _, 1, rfl, fun _ => ⟨_, _, rfl, by omega, fun i x hx j u hu => ?_⟩⟩
    have hb := (hb3.block (w.heap.size + 1 + 1) (by omega)).trans HX.out.2
    have hi := (List.getElem?_eq_some_iff.1 hx).1
    have hj := (List.getElem?_eq_some_iff.1 hu).1
    simp [cellI] at hi hj
    subst hi; subst hj
    simp at hx; subst hx
    simp [cellI] at hu; subst hu
    rw [cell_blk hb]; rfl
  have g0 := below_cell hb3 HD.out.1
  have g1 := below_cell hb3 HD.out.2
  have hns := timesTo_all l
  have HAB := Lib.hid hab
  have HB3 := Lib.hid hB3
  have HDO := Lib.hid hdo
  have HG := Lib.hid (And.intro (And.intro g0 r1) (And.intro g1 r2))
  have HT2 := Lib.hid (show ∀ s ∈ l, 0 ≤ s.at_ ∧ s.at_ ≤ 1000 by rw [← hl]; exact HT.out)
  have HT0 := Lib.hid ht0
  clear hab hB3 hdo g0 g1 r1 r2 ht0 htl hwin2 hwin3 hfr2 hfr3 hb2 hb3 p1 p2 hl d1 e1 HX HD hsz2 hsz3 HT
  obtain ⟨N, hNe⟩ : ∃ N, la.length + lb.length = N := ⟨_, rfl⟩
  rw [hNe] at hN hnA hmA HAB ⊢
  subst hN
  go_wp2
  go_loopw [20, 5] (fun i v W => ∃ (n : Nat) (a5 : Option Addr) (c5 : Nat), i = .int .i64 n ∧ v = .slice a5 (timesTo l n).length c5 ∧ n ≤ l.length ∧ (timesTo l n).length ≤ c5 ∧ Rd cellI 1 W (.slice a5 (timesTo l n).length c5) (timesTo l n) ∧ Below wA.heap.size wA W) (fun i _ _ => l.length - (intOf i).toNat)
  case atStart => exact ⟨0, _, 1, rfl, rfl, by omega, by simp [timesTo], HT0.out, Below.refl _ _⟩
  case round =>
    obtain ⟨n, a5, c5, rfl, rfl, hnl, hcap, hts, hB⟩ := hrel
    by_cases hlt : n < l.length
    · have hlb1 : (n : Int) < (la.length : Int) + (lb.length : Int) := by omega
      have hx := List.getElem?_eq_getElem hlt
      have hmem : l[n] ∈ l := List.getElem_mem hlt
      generalize l[n] = s at hx hmem
      have hat := (HT2.out s hmem).2
      have hql := lessT_lt (timesTo_last l n) hat
      have hlen := timesTo_length l n
      have hsucc := timesTo_succ hx
      have hins := insT_eq s.at_ (timesTo l n)
      generalize timesTo l n = ts at *
      generalize hq : lessT s.at_ ts = q at *
      obtain ⟨b, off, rfl, hbl, hc⟩ := rd_at (HAB.out.below hB) hx
      have q0 : wr.cell? ⟨b, off + n * 4, none⟩ = some (.int .i64 s.at_) := hc 0 _ rfl
      have q1 := hc 1 _ rfl
      have q2 := hc 2 _ rfl
      have q3 := hc 3 _ rfl
      have HS := Lib.hid (And.intro hx (And.intro hts (And.intro hsucc (And.intro hins hq))))
      clear hx hts hsucc hins hq hc hmem
      go_wp2
      refine named_box wr _ _ fun W1 hb1 hz1 hx1 => ?_
      have m0 : W1.cell? ⟨wr.heap.size, 0, none⟩ = some (.int .i64 s.at_) := hx1 0
      have hB1 := hB.trans (hb1.mono hB.size)
      have hR1 := HS.out.2.1.below hb1
      have HW1 := Lib.hid (And.intro hB1 hR1)
      clear q0 q1 q2 q3 hx1 hb1 hB1 hR1 hB
      generalize wr.heap.size = X at *
      go_loopw [8] (fun i W => ∃ m : Nat, i = .int .i64 m ∧ lessT s.at_ (ts.drop m) + m = q ∧ Below W1.heap.size W1 W) (fun i _ => ts.length - (intOf i).toNat)
      case atStart => exact ⟨0, rfl, by simpa using HS.out.2.2.2.2, Below.refl _ _⟩
      case round =>
        obtain ⟨m, rfl, hm, hB⟩ := hrel
        have hml : m < ts.length := by omega
        have hx := List.getElem?_eq_getElem hml
        generalize ts[m] = x at hx
        obtain ⟨b2, off2, rfl, hbl2, hc⟩ := rd_at (HW1.out.2.below hB) hx
        have q0 : wr.cell? ⟨b2, off2 + m, none⟩ = some (.int .i64 x) := by simpa using hc 0 _ rfl
        have k0 := below_cell hB m0
        rw [lessT_drop hx] at hm
        have HM := Lib.hid (And.intro hx hm)
        clear hm hx hc
        by_cases hlt2 : x < s.at_
        · have hdb : decide (x < s.at_) = true := decide_eq_true hlt2
          have HL := Lib.hid hlt2
          clear hlt2
          go_wp2
          go_quiet (fail)
          go_wp2
          go_roundw
          case rel => exact ⟨m + 1, by go_num, by have := HM.out.2; rw [if_pos HL.out] at this; omega, below_drewN hB _⟩
          case measure => simp [intOf]; omega
        · have hdb : decide (x < s.at_) = false := decide_eq_false hlt2
          obtain rfl : m = q := by have := HM.out.2; rw [if_neg hlt2] at this; omega
          have HL := Lib.hid hlt2
          clear hlt2
          by_cases hxe : x = s.at_
          · have hnb : (x != s.at_) = false := by simp [hxe]
            have HE := Lib.hid hxe
            clear hxe
            go_wp2
            go_quiet (fail)
            go_wp2
            go_quiet (fail)
            go_wp2
            go_roundw
            case rel => exact ⟨n + 1, _, c5, by go_num, by rw [HS.out.2.2.1, HS.out.2.2.2.1.1 (by rw [HM.out.1, HE.out])], by omega, by rw [HS.out.2.2.1, HS.out.2.2.2.1.1 (by rw [HM.out.1, HE.out])]; exact hcap, by rw [HS.out.2.2.1, HS.out.2.2.2.1.1 (by rw [HM.out.1, HE.out])]; exact (HW1.out.2.below hB).below (below_drewN (Below.refl _ _) _), HW1.out.1.trans ((below_drewN hB _).mono HW1.out.1.size)⟩
            case measure => simp [intOf]; omega
          · have hnb : (x != s.at_) = true := by simp [hxe]
            have HE := Lib.hid hxe
            clear hxe
            go_wp2
            go_quiet (fail)
            go_wp2
            go_quiet (fail)
            go_wp2
            refine named_drewN fun W5 hb5 hz5 hc5 => ?_
            have hB5 : Below W1.heap.size W1 W5 := by first | exact hB.trans (hb5.mono hB.size) | exact (below_drewN hB _).trans (hb5.mono hB.size)
            have k5 := below_cell hB5 m0
            have hr5 := HW1.out.2.below hB5
            have R1 := Lib.hid (rdC_cut int_len (by decide) int_one hr5 0 m (by omega) off2 c5 (by omega))
            have R2 := Lib.hid (rdC_cut int_len (by decide) int_one hr5 m (ts.length - m) (by omega) (off2 + m) (c5 - m) (by omega))
            have H5 := Lib.hid hB5
            have n6 : (m : Int) ≤ (c5 : Int) := by omega
            have n7 : (0 : Int) ≤ (m : Int) := by omega
            have n8 : (m : Int) ≤ (ts.length : Int) := by omega
            have n9 : ¬ c5 = m := by omega
            clear hb5 hc5 hr5 hB5 q0 k0 hB m0
            set_option maxRecDepth 10000 in
            go_region_held3 (fun W => W.cell? ⟨X, 0, none⟩ = some (.int .i64 s.at_)) (first | exact k5 | exact p5 | exact r5 | exact t5 | go_keep) ((first | (refine step_append_rd _ (by rfl) _ _ _ (by rfl) 3 1 8 _ Try.underlying102 info_int rfl (by decide) _ _ (m + 1) _ (by go_simp <;> rfl) _ (by go_simp <;> rfl) hwin3 (ts.length - m) _ (rdC_below R2.out hb3) (by unfold maxLen; omega) (by omega) ?_; intro v4 w4 hwin4 hfr4 hsz4; obtain ⟨a4, c4, rfl, hn4, hm4⟩ := winC_slice hwin4; have hb4 : Below W5.heap.size W5 w4 := hb3.trans (below_of_fr hfr4 hb3.size fun i hi => by have := (winC_ob hwin3 i hi).1; simp [drew_size] at this; omega); have t5 := below_cell hb4 k5) | (refine step_append_rd _ (by rfl) _ _ _ (by rfl) 3 1 8 _ Try.underlying102 info_int rfl (by decide) _ _ m _ (by go_simp <;> rfl) _ (by go_simp <;> rfl) (winC_move hwin2 (fr_alloc (fun _ => False) w2 _) fun _ _ h => h) 1 (cellI s.at_) (rdC_new w2 #[.int .i64 s.at_] 3 1 rfl (int_one s.at_)) (by unfold maxLen; omega) (by omega) ?_; intro v3 w3 hwin3 hfr3 hsz3; obtain ⟨a3, c3, rfl, hn3, hm3⟩ := winC_slice hwin3; have z1 := hfr2.size; have z2 := hb2.size; simp only [World.size_alloc, drew_size] at z1; have hb3 : Below W5.heap.size W5 w3 := (hb2.alloc hb2.size _).trans (below_of_fr hfr3 (by simp; omega) fun i hi => by have := (winC_ob hwin2 i hi).1; simp [drew_size] at this; omega); have r5 := below_cell hb3 k5) | (refine step_append_rd _ (by rfl) _ _ _ (by rfl) 3 1 8 _ Try.underlying102 info_int rfl (by decide) _ _ m _ (by go_simp <;> rfl) _ (by go_simp <;> rfl) hwin2 1 (cellI s.at_) (rdC_move (rdC_new W5.drew #[.int .i64 s.at_] 3 1 rfl (int_one s.at_)) hfr2 fun i hi h => nomatch h) (by unfold maxLen; omega) (by omega) ?_; intro v3 w3 hwin3 hfr3 hsz3; obtain ⟨a3, c3, rfl, hn3, hm3⟩ := winC_slice hwin3; have z1 := hfr2.size; have z2 := hb2.size; simp only [World.size_alloc, drew_size] at z1; have hb3 : Below W5.heap.size W5 w3 := hb2.trans (below_of_fr hfr3 hb2.size fun i hi => by have := (winC_ob hwin2 i hi).1; simp [drew_size] at this; omega); have r5 := below_cell hb3 k5) | (refine step_append_rd _ (by rfl) _ _ _ (by rfl) 3 1 8 _ Try.underlying102 info_int rfl (by decide) _ (fun _ => False) 0 [] (by go_simp <;> rfl) _ (by go_simp <;> rfl) (winC_nil _ _ _ _) m _ (rdC_below R1.out (by first | exact (Below.refl W5.heap.size W5).drew | exact (Below.refl W5.heap.size W5).drew.alloc (Nat.le_refl _) _)) (by unfold maxLen; omega) (by omega) ?_; intro v2 w2 hwin2 hfr2 hsz2; simp only [Nat.zero_add, List.nil_append] at hwin2; obtain ⟨a2, c2, rfl, hn2, hm2⟩ := winC_slice hwin2; have hb2 : Below W5.heap.size W5 w2 := (by first | exact (Below.refl W5.heap.size W5).drew.trans (below_of_fr hfr2 (Nat.le_refl _) fun i hi => nomatch hi) | exact ((Below.refl W5.heap.size W5).drew.alloc (Nat.le_refl _) _).trans (below_of_fr hfr2 (by simp [drew_size]) fun i hi => nomatch hi)); have p5 := below_cell hb2 k5) | fail))

            all_goals
              have hts : insT s.at_ ts = ts.take m ++ s.at_ :: ts.drop m := HS.out.2.2.2.1.2 (by rw [HM.out.1]; intro h; exact HE.out (Option.some.inj h))
              have hE := HS.out.2.2.1.trans hts
              have hL : (timesTo l (n + 1)).length = m + 1 + (ts.length - m) := by rw [hE]; simp; omega
              have hW4 : Rd cellI 1 w4 (.slice a4 (m + 1 + (ts.length - m)) c4) (timesTo l (n + 1)) := by
                have h : Win cellI 1 3 w4 (.slice a4 (m + 1 + (ts.length - m)) c4) (fun _ => True) (timesTo l (n + 1)) := by
                  refine (?_ : WinC _ _ _ _ _ _ _)
                  have hf : (timesTo l (n + 1)).flatMap cellI = ((ts.drop 0).take m).flatMap cellI ++ cellI s.at_ ++ ((ts.drop m).take (ts.length - m)).flatMap cellI := by
                    rw [hE, List.flatMap_append, List.flatMap_cons, List.drop_zero, List.take_of_length_le (l := ts.drop m) (by simp), List.append_assoc]
                  rw [hL, hf]
                  exact winC_mono hwin4 fun _ _ => trivial
                exact win_rd int_len h
              have hBw : Below wA.heap.size wA w4 := HW1.out.1.trans ((H5.out.trans (hb4.mono H5.out.size)).mono HW1.out.1.size)
              have HZ := Lib.hid (And.intro hL (And.intro hW4 hBw))
              clear hts hE hL hW4 hBw hwin2 hwin3 hwin4 hfr2 hfr3 hfr4 hb2 hb3 hb4 hsz2 hsz3 hsz4
              go_wp2
              go_roundw
              case rel => exact ⟨n + 1, a4, c4, by go_num, by rw [HZ.out.1], by omega, by rw [HZ.out.1]; exact hn4, by have := HZ.out.2.1; rw [← HZ.out.1] at this; exact this, HZ.out.2.2⟩
              case measure => simp [intOf]; omega
    · obtain rfl : n = l.length := by omega
      rw [hns] at hcap hts ⊢
      have hlen := timesTo_length l l.length
      rw [hns] at hlen
      have hrg := timesP_range HT2.out
      generalize timesP l = ts at *
      have HRG := Lib.hid hrg
      clear hrg
      have z0 := below_cell hB HG.out.1.1
      have z1 := below_cell hB HG.out.1.2
      have z2 := below_cell hB HG.out.2.1
      have z3 := below_cell hB HG.out.2.2
      have hHB : Below w.heap.size w wr := HB3.out.trans (hB.mono HB3.out.size)
      have hszB := hHB.size
      have HWB0 := Lib.hid (And.intro hHB hts)
      have hnb : ¬ ((l.length : Int) < (la.length : Int) + (lb.length : Int)) := by omega
      have HTA := Lib.hid (And.intro HA.out HB.out)
      have ES := Lib.hid (enters_of Try.func31 (by kernel_rfl) rfl)
      have ET := Lib.hid (enters_of Try.func72 (by kernel_rfl) rfl)
      clear hHB hB hts HT0 hns HAB HG HB3 HA HB HT2
      go_wp2
      generalize hWB : wr = WB at *
      clear hWB
      go_loopw [10, 9] (fun i v W => ∃ (n : Nat) (out : List Span) (a9 : Option Addr) (c9 : Nat), i = .int .i64 n ∧ v = .slice a9 out.length c9 ∧ out.length ≤ n ∧ n ≤ 300000 ∧ diffFrom k la lb (ts.drop n) out = diffOf k la lb ∧ Win Span.cells 2 58 W (.slice a9 out.length c9) (fun j => WB.heap.size ≤ j) out ∧ Below WB.heap.size WB W) (fun i _ _ => ts.length - (intOf i).toNat)
      case atStart => exact ⟨0, [], none, 0, rfl, rfl, by simp, by omega, HDO.out.symm, winC_nil _ _ _ _, Below.refl _ _⟩
      case round =>
        obtain ⟨n, out, a9, c9, rfl, rfl, hon, hn3, hdf, hwo, hB⟩ := hrel
        by_cases hlt : n + 1 < ts.length
        · have hx1 := List.getElem?_eq_getElem (show n < ts.length by omega)
          have hx2 := List.getElem?_eq_getElem hlt
          have rg1 := HRG.out _ (List.getElem_mem (show n < ts.length by omega))
          have rg2 := HRG.out _ (List.getElem_mem hlt)
          generalize ts[n] = t1 at hx1 rg1
          generalize ts[n + 1] = t2 at hx2 rg2
          have nn5 : IntKind.i64.wrap (t1 - 1) = t1 - 1 := Go.IntWalk.i64_in _ (by omega)
          have nn6 : IntKind.i64.wrap (t2 - 1) = t2 - 1 := Go.IntWalk.i64_in _ (by omega)
          clear rg1 rg2
          have hts := HWB0.out.2.below hB
          obtain ⟨b, off, rfl, hbl, hc1⟩ := rd_at hts hx1
          obtain ⟨b', off', he, _, hc2⟩ := rd_at hts hx2
          have hbB : b < WB.heap.size := by
            obtain ⟨b3, o3, e, hlt3, _⟩ := rd_at HWB0.out.2 hx1
            injection e with e
            injection e with e1
            omega
          injection he with he
          injection he with he1 he2
          subst he1; subst he2
          have y1 : wr.cell? ⟨b, off + n, none⟩ = some (.int .i64 t1) := by simpa using hc1 0 _ rfl
          have y2 : wr.cell? ⟨b, off + (n + 1), none⟩ = some (.int .i64 t2) := by simpa using hc2 0 _ rfl
          have z0' := below_cell hB z0
          have z1' := below_cell hB z1
          have z2' := below_cell hB z2
          have z3' := below_cell hB z3
          rw [diffFrom_drop out hx1 hx2] at hdf
          have HO := Lib.hid (And.intro hwo hdf)
          have HWB := Lib.hid (HWB0.out.1.trans (hB.mono HWB0.out.1.size))
          have hBW := Lib.hid hB
          have nn1 : (n : Int) < (ts.length : Int) := by omega
          have nn2 : (n : Int) + 1 < (ts.length : Int) := by omega
          have nn3 : (0 : Int) ≤ (n : Int) + 1 := by omega
          have nn4 : IntKind.i64.wrap ((n : Int) + 1) = (n : Int) + 1 := Go.IntWalk.i64_in _ (by omega)
          clear hc1 hc2 hts hwo hdf hB hx1 hx2 z0 z1 z2 z3
          have z0 := z0'; have z1 := z1'; have z2 := z2'; have z3 := z3'
          clear z0' z1' z2' z3'
          go_wp2
          set_option maxRecDepth 10000 in
          go_region_held3 (fun W => W.cell? ⟨w.heap.size, 0, none⟩ = some (.int .i64 k) ∧ W.cell? ⟨w.heap.size, 1, none⟩ = some (.slice a la.length c) ∧ W.cell? ⟨w.heap.size + 1, 0, none⟩ = some (.int .i64 k) ∧ W.cell? ⟨w.heap.size + 1, 1, none⟩ = some (.slice aB lb.length cB)∧ W.cell? ⟨b, off + n, none⟩ = some (.int .i64 t1)) (first | exact ⟨z0, z1, z2, z3, y1⟩ | exact ⟨p0, p1, p2, p3, p4⟩ | exact ⟨r0, r1, r2, r3, r4⟩ | exact ⟨t0, t1', t2', t3, t4'⟩ | go_keep) ((first | (refine step_call (by rfl) 31 _ _ (by rfl) (ES.out) _ (by rfl) (samePairs_any _ _ _ _ _ ((win_rd pair_len hw6).below hb7) (win_rd pair_len hw7)) ?_; rintro _ w8 ⟨rfl, hb8⟩; refine ⟨_, rfl, ?_⟩; have h8 := hb7'.trans (hb8.mono hb7'.size); have t0 := below_cell h8 z0; have t1' := below_cell h8 z1; have t2' := below_cell h8 z2; have t3 := below_cell h8 z3; have t4' := below_cell h8 y1) | (refine step_call (by rfl) 72 _ _ (by rfl) (ET.out) _ (by rfl) (atOf_any k _ lb t1 _ (RB.out.below (HWB.out.trans (hb6'.mono HWB.out.size))) HTA.out.2) ?_; rintro _ w7 ⟨v7, rfl, hw7, hb7⟩; obtain ⟨a7, c7, rfl, _, _⟩ := winC_slice hw7; refine ⟨_, rfl, ?_⟩; have hb7' := hb6'.trans (hb7.mono hb6'.size); have r0 := below_cell hb7' z0; have r1 := below_cell hb7' z1; have r2 := below_cell hb7' z2; have r3 := below_cell hb7' z3; have r4 := below_cell hb7' y1) | (refine step_call (by rfl) 72 _ _ (by rfl) (ET.out) _ (by rfl) (atOf_any k _ la t1 _ (RA.out.below (HWB.out.drew)) HTA.out.1) ?_; rintro _ w6 ⟨v6, rfl, hw6, hb6⟩; obtain ⟨a6, c6, rfl, _, _⟩ := winC_slice hw6; refine ⟨_, rfl, ?_⟩; have hb6' := (Below.refl wr.heap.size wr).drew.trans hb6; have p0 := below_cell hb6' z0; have p1 := below_cell hb6' z1; have p2 := below_cell hb6' z2; have p3 := below_cell hb6' z3; have p4 := below_cell hb6' y1) | fail))

          by_cases heq : thereP k la t1 = thereP k lb t1
          · have hd : decide (thereP k la t1 = thereP k lb t1) = true := decide_eq_true heq
            have HE := Lib.hid heq
            have H8 := Lib.hid h8
            clear h8 hw6 hw7 hb6 hb7 hb8 hb6' hb7'
            go_wp2
            go_roundw
            case rel => exact ⟨n + 1, out, a9, c9, by go_num, rfl, by omega, by omega, by have := HO.out.2; rw [if_pos HE.out] at this; exact this, winC_move HO.out.1 (fr_of_below (S := fun _ => False) H8.out) (fun _ _ h => h), hBW.out.trans (H8.out.mono hBW.out.size)⟩
            case measure => simp [intOf]; omega
          · have hd : decide (thereP k la t1 = thereP k lb t1) = false := decide_eq_false heq
            have t5' := below_cell h8 y2
            have hwo := winC_move HO.out.1 (fr_of_below (S := fun _ => False) h8) (fun _ _ h => h)
            have hBn : Below WB.heap.size WB w8 := hBW.out.trans (h8.mono hBW.out.size)
            have HE := Lib.hid (And.intro heq (And.intro hwo hBn))
            have hr8 : ∀ (W : World), Below w8.heap.size w8 W → W.heap.size = w8.heap.size → WB.heap.size ≤ W.heap.size := fun W h1 h2 => by have := hBn.size; omega
            have HR8 := Lib.hid hr8
            clear h8 hw6 hw7 hb6 hb7 hb8 hb6' hb7' p0 p1 p2 p3 p4 r0 r1 r2 r3 r4 z0 z1 z2 z3 y1 y2 hwo hBn hr8
            by_cases ho : out = []
            · subst ho
              go_wp2
              go_big_quiet (fail)
              go_wp2
              refine named_drewN fun W9 hb9 hz9 hc9 => ?_
              have u1 := below_cell hb9 t4'
              have u2 := below_cell hb9 t5'
              have H9 := Lib.hid (And.intro hb9 (winC_move HE.out.2.1 (fr_of_below (S := fun _ => False) hb9) (fun _ _ h => h)))
              clear hb9 hc9 t4' t5' t0 t1' t2' t3
              set_option maxRecDepth 10000 in
              go_region_held3 (fun W => W.cell? ⟨b, off + n, none⟩ = some (.int .i64 t1) ∧ W.cell? ⟨b, off + (n + 1), none⟩ = some (.int .i64 t2)) (first | exact ⟨u1, u2⟩ | exact ⟨v1, v2⟩ | go_keep) ((first | (refine step_append_rd _ (by rfl) _ _ _ (by rfl) 58 2 16 _ Try.underlying30 info_span rfl (by decide) _ _ 0 _ (by go_simp <;> rfl) _ (by go_simp <;> rfl) (winC_move (winC_block H9.out.2) (fr_of_below (S := fun _ => False) ((Below.refl W9.heap.size W9).drew.alloc (Nat.le_refl _) _)) fun _ _ h => h) 1 (Span.cells ⟨t1, t2 - 1⟩) (rdC_new W9.drew #[.int .i64 t1, .int .i64 (t2 - 1)] 58 1 rfl (span_one ⟨t1, t2 - 1⟩)) (by unfold maxLen; omega) (by omega) ?_; intro vz wz hwz hfz hsz; obtain ⟨az, cz, rfl, hnz, hmz⟩ := winC_slice hwz; have hF : Fr (fun i => some i = (Value.slice a9 0 c9).ownBlock) W9 wz := fr_trans (fr_of_below ((Below.refl W9.heap.size W9).drew.alloc (Nat.le_refl _) _)) hfz fun _ _ h => h; have v1 := fr_cell hF u1 (fun h => by have := (winC_ob H9.out.2 b h).1; omega); have v2 := fr_cell hF u2 (fun h => by have := (winC_ob H9.out.2 b h).1; omega)) | fail))
              all_goals
                have hob := fun i hi => (winC_ob H9.out.2 i hi).1
                have HF := Lib.hid (And.intro hF (And.intro hob hwz))
                clear hF hob hwz hfz
                go_wp2
                go_roundw
                case rel =>
                  refine ⟨n + 1, [⟨t1, t2 - 1⟩], az, cz, by go_num, rfl, by simp, by omega, by have := HO.out.2; rw [if_neg HE.out.1, addSpan_nil] at this; exact this, winC_mono HF.out.2.2 fun i hi => ?_, HE.out.2.2.trans ((H9.out.1.mono HE.out.2.2.size).trans (below_of_fr HF.out.1 (by have := HE.out.2.2.size; omega) fun i hi => HF.out.2.1 i hi))⟩
                  have := HE.out.2.2.size
                  simp [drew_size] at hi
                  omega
                case measure => simp [intOf]; omega
            · obtain ⟨m, hm⟩ : ∃ m, out.length = m + 1 := ⟨out.length - 1, by have := List.length_pos_iff.2 ho; omega⟩
              have hlo : out.length - 1 + 1 = out.length := by omega
              have hx := List.getElem?_eq_getElem (show m < out.length by omega)
              generalize out[m] = x at hx
              have hwo := HE.out.2.1
              rw [hm] at hwo
              have hwr : Rd Span.cells 2 w8 (.slice a9 out.length c9) out := win_rd span_len HE.out.2.1
              obtain ⟨b9, off9, rfl, hbl9, hc9⟩ := rd_at hwr hx
              have q1 : w8.cell? ⟨b9, off9 + m * 2 + 1, none⟩ = some (.int .i64 x.to_) := hc9 1 _ rfl
              have HX := Lib.hid (And.intro hx (And.intro hm (And.intro hwo ho)))
              have mm1 : IntKind.i64.wrap ((m : Int) + 1 - 1) = (m : Int) := (Go.IntWalk.i64_in _ (by omega)).trans (by omega)
              have mm2 : (m : Int) < (m : Int) + 1 := by omega
              rw [hm]
              have hwo : Win Span.cells 2 58 w8 (.slice (some ⟨b9, off9, none⟩) (m + 1) c9) (fun j => WB.heap.size ≤ j) out := by
                refine (?_ : WinC _ _ _ _ _ _ _)
                rw [hm]; exact hwo
              have hwd : ∀ q, Win Span.cells 2 58 (w8.drewN q) (.slice (some ⟨b9, off9, none⟩) (m + 1) c9) (fun j => WB.heap.size ≤ j) out := fun q => winC_move hwo (fr_drewN (fun _ => False) w8 q) (fun _ _ h => h)
              have hws := fun q => win_set span_len (hwd q) hm hx (show 1 < 2 by omega) (y := { x with to_ := t2 - 1 }) (u := .int .i64 (t2 - 1)) rfl
              have kf := (win_set span_len hwo hm hx (show 1 < 2 by omega) (y := { x with to_ := t2 - 1 }) (u := .int .i64 (t2 - 1)) rfl).2.2
              have hb9 : WB.heap.size ≤ b9 := (winC_ob hwo b9 rfl).1
              have HWS := Lib.hid (And.intro hws hb9)
              clear hx hwo hwr hc9 ho hlo hws hb9 hwd
              by_cases hxt : x.to_ = t1 - 1
              · have hxb : (x.to_ == t1 - 1) = true := by simp [hxt]
                have HXT := Lib.hid hxt
                clear hxt
                go_wp2
                go_big_quiet (fail)
                go_wp2
                go_roundw
                case rel =>
                  refine ⟨n + 1, out.set m { x with to_ := t2 - 1 }, some ⟨b9, off9, none⟩, c9, by go_num, by rw [List.length_set, HX.out.2.1], by rw [List.length_set]; omega, by omega, ?_, ?_, HE.out.2.2.trans (((below_drewN (Below.refl _ _) _).mono HE.out.2.2.size).trans (below_of_fr (fr_setCell _ _ _) (by have := HE.out.2.2.size; exact this) fun i hi => by have := HWS.out.2; simp at hi; omega))⟩
                  · have := HO.out.2
                    rw [if_neg HE.out.1, addSpan_set HX.out.1 HX.out.2.1.symm HXT.out] at this
                    exact this
                  · have := (HWS.out.1 nq).1
                    rw [List.length_set, HX.out.2.1]
                    exact this
                case measure => simp [intOf]; omega
              · have hxb : (x.to_ == t1 - 1) = false := by simp [hxt]
                have HXT := Lib.hid hxt
                clear hxt
                go_wp2
                go_big_quiet (fail)
                go_wp2
                refine named_drewN fun W9 hb9 hz9 hc9 => ?_
                have u1 := below_cell hb9 t4'
                have u2 := below_cell hb9 t5'
                have H9 := Lib.hid (And.intro hb9 (winC_move HX.out.2.2.1 (fr_of_below (S := fun _ => False) hb9) (fun _ _ h => h)))
                clear hb9 hc9 t4' t5' t0 t1' t2' t3 q1 kf
                set_option maxRecDepth 10000 in
                go_region_held3 (fun W => W.cell? ⟨b, off + n, none⟩ = some (.int .i64 t1) ∧ W.cell? ⟨b, off + (n + 1), none⟩ = some (.int .i64 t2)) (first | exact ⟨u1, u2⟩ | exact ⟨v1, v2⟩ | go_keep) ((first | (refine step_append_rd _ (by rfl) _ _ _ (by rfl) 58 2 16 _ Try.underlying30 info_span rfl (by decide) _ _ (m + 1) _ (by go_simp <;> rfl) _ (by go_simp <;> rfl) (winC_move (winC_block H9.out.2) (fr_of_below (S := fun _ => False) ((Below.refl W9.heap.size W9).drew.alloc (Nat.le_refl _) _)) fun _ _ h => h) 1 (Span.cells ⟨t1, t2 - 1⟩) (rdC_new W9.drew #[.int .i64 t1, .int .i64 (t2 - 1)] 58 1 rfl (span_one ⟨t1, t2 - 1⟩)) (by unfold maxLen; omega) (by omega) ?_; intro vz wz hwz hfz hsz; obtain ⟨az, cz, rfl, hnz, hmz⟩ := winC_slice hwz; have hF : Fr (fun i => some i = (Value.slice (some ⟨b9, off9, none⟩) (m + 1) c9).ownBlock) W9 wz := fr_trans (fr_of_below ((Below.refl W9.heap.size W9).drew.alloc (Nat.le_refl _) _)) hfz fun _ _ h => h; have v1 := fr_cell hF u1 (fun h => by have := (winC_ob H9.out.2 b h).1; omega); have v2 := fr_cell hF u2 (fun h => by have := (winC_ob H9.out.2 b h).1; omega)) | fail))
                all_goals
                  have hob := fun i hi => (winC_ob H9.out.2 i hi).1
                  have HF := Lib.hid (And.intro hF (And.intro hob hwz))
                  clear hF hob hwz hfz
                  go_wp2
                  go_roundw
                  case rel =>
                    refine ⟨n + 1, out ++ [⟨t1, t2 - 1⟩], az, cz, by go_num, by simp [HX.out.2.1], by simp; omega, by omega, by have := HO.out.2; rw [if_neg HE.out.1, addSpan_new HX.out.1 HX.out.2.1.symm HXT.out] at this; exact this, ?_, HE.out.2.2.trans ((H9.out.1.mono HE.out.2.2.size).trans (below_of_fr HF.out.1 (by have := HE.out.2.2.size; omega) fun i hi => HF.out.2.1 i hi))⟩
                    have h2 : WinC 2 58 wz (.slice az (m + 1 + 1) cz) (fun j => WB.heap.size ≤ j) (m + 1 + 1) (out.flatMap Span.cells ++ Span.cells ⟨t1, t2 - 1⟩) := winC_mono HF.out.2.2 fun i hi => by
                      have := HE.out.2.2.size
                      simp [drew_size] at hi
                      omega
                    refine (?_ : WinC _ _ _ _ _ _ _)
                    rw [List.length_append, HX.out.2.1, List.flatMap_append]
                    exact h2
                  case measure => simp [intOf]; omega
        · have HL := Lib.hid (show out = diffOf k la lb by rw [← hdf]; exact (diffFrom_end out (by omega)).symm)
          have HZ := Lib.hid (And.intro hwo hB)
          have nn2 : ¬ ((n : Int) + 1 < (ts.length : Int)) := by omega
          clear hwo hB hdf z0 z1 z2 z3
          go_wp2
          go_ret
          exact ⟨_, rfl, by rw [← HL.out]; exact winC_mono HZ.out.1 fun i hi => Nat.le_trans hszB hi, HWB0.out.1.trans (HZ.out.2.mono hszB)⟩
end Go.Proofs.Ytkoeplbkeboklaa
/- The plain side of retro: slim lines. No program in sight. -/
set_option linter.unusedVariables false
namespace Go.Proofs.Ytkoeplbkeboklaa
/-- A step that stays in a line that is slim from t on, by the lives L. -/
def aliveP (L : List Life) (t x : Int) : Bool := L.any fun y => y.from_ == x && decide (t < y.to_)
def keepP (L : List Life) (t : Int) (s : Step) : Bool := decide (t < s.at_) || aliveP L t s.at_
def slimOf (k : Int) (l : List Step) (t : Int) : List Step := l.filter (keepP (livesOf k l) t)
def capT (t : Int) : Int := if 1000 < t then 1000 else t
def slimP (k : Int) (l : List Step) (t : Int) : (Int × List Step) × Int := if isLineP k l then ((k, slimOf k l (capT t)), 0) else ((0, []), 2)
/-- What the table of those alive holds. -/
def aliveKv (t : Int) (L : List Life) : List (Int × Value) := L.foldl (fun kv x => (x.from_, .bool (decide (t < x.to_))) :: kv.filter fun p => p.1 != x.from_) []
theorem aliveKv_succ {t : Int} {L : List Life} {n : Nat} {x : Life} (h : L[n]? = some x) : aliveKv t (L.take (n + 1)) = (x.from_, .bool (decide (t < x.to_))) :: (aliveKv t (L.take n)).filter fun p => p.1 != x.from_ := by
  rw [aliveKv, aliveKv, List.take_add_one, h, List.foldl_append]; rfl
theorem kvGet_filter_ne {x y : Int} (h : x ≠ y) : ∀ kv : List (Int × Value), kvGet (kv.filter fun p => p.1 != y) x = kvGet kv x
  | [] => rfl
  | p :: kv => by
    have ih := kvGet_filter_ne h kv
    unfold kvGet at ih ⊢
    by_cases hp : p.1 = y
    · have h1 : (p.1 != y) = false := by simp [hp]
      have h2 : (p.1 == x) = false := by rw [hp, beq_eq_false_iff_ne]; exact fun e => h e.symm
      rw [List.filter_cons, h1, List.find?_cons, h2]
      exact ih
    · have h1 : (p.1 != y) = true := by simp [hp]
      rw [List.filter_cons, if_pos h1, List.find?_cons, List.find?_cons]
      split
      · rfl
      · exact ih
theorem kvGet_cons {kv : List (Int × Value)} {x y : Int} {v : Value} : kvGet ((y, v) :: kv.filter fun p => p.1 != y) x = if x = y then some v else kvGet kv x := by
  by_cases h : x = y
  · subst h; simp [kvGet]
  · rw [if_neg h, ← kvGet_filter_ne h kv]
    have : (y == x) = false := by rw [beq_eq_false_iff_ne]; exact fun e => h e.symm
    simp [kvGet, List.find?_cons, this]
theorem aliveKv_to {t : Int} {L : List Life} (hn : (L.map Life.from_).Nodup) (x : Int) : ∀ n, n ≤ L.length → (kvGet (aliveKv t (L.take n)) x).getD (.bool false) = .bool (aliveP (L.take n) t x)
  | 0, _ => rfl
  | n + 1, hl => by
    have ih := aliveKv_to (t := t) hn x n (by omega)
    have hx := List.getElem?_eq_getElem (show n < L.length by omega)
    generalize hy : L[n] = y at hx
    rw [aliveKv_succ hx, kvGet_cons]
    have e : aliveP (L.take (n + 1)) t x = (aliveP (L.take n) t x || (y.from_ == x && decide (t < y.to_))) := by
      rw [aliveP, List.take_add_one, hx, List.any_append]; simp [aliveP]
    rw [e]
    by_cases h : x = y.from_
    · rw [if_pos h]
      have : aliveP (L.take n) t x = false := by
        rw [aliveP, List.any_eq_false]
        intro z hz
        simp only [Bool.and_eq_true, beq_iff_eq, not_and]
        intro h2
        exfalso
        obtain ⟨i, hi, hz2⟩ := List.getElem_of_mem hz
        have hil : i < n := by simp at hi; omega
        rw [List.getElem_take] at hz2
        have := (List.pairwise_iff_getElem.1 (List.nodup_iff_pairwise_ne.1 hn)) i n (by simp; omega) (by simp; omega) hil
        simp only [List.getElem_map] at this
        rw [hz2, hy, h2, h] at this
        exact this rfl
      rw [this]; subst h; simp
    · rw [if_neg h, ih]
      have : (y.from_ == x) = false := by rw [beq_eq_false_iff_ne]; exact fun e => h e.symm
      simp [this]
theorem aliveKv_get {t : Int} {L : List Life} (hn : (L.map Life.from_).Nodup) (x : Int) : (kvGet (aliveKv t L) x).getD (.bool false) = .bool (aliveP L t x) := by
  have := aliveKv_to (t := t) hn x L.length (Nat.le_refl _)
  rwa [List.take_length] at this
theorem livesFrom_from (k : Int) : ∀ (l : List Step) (th : List Held) (out : List Life), (livesFrom k th out l).map Life.from_ = out.map Life.from_ ++ (l.filter fun s => s.do_ == 1).map Step.at_
  | [], th, out => by simp [livesFrom]
  | s :: l, th, out => by
    rw [livesFrom, livesFrom_from k l, List.map_append, List.map_map]
    have : (Life.from_ ∘ closeL (doP k th s).2.from_ s.at_) = Life.from_ := by
      funext x; simp only [Function.comp, closeL]; split <;> rfl
    rw [this]
    by_cases h : s.do_ = 1 <;> simp [h]
theorem incP_pairwise : ∀ {l : List Step}, incP l = true → l.Pairwise fun a b => a.at_ < b.at_
  | [], _ => .nil
  | [a], _ => by simp
  | a :: b :: l, h => by
    simp only [incP, Bool.and_eq_true, decide_eq_true_eq] at h
    have ih := incP_pairwise h.2
    refine List.pairwise_cons.2 ⟨fun x hx => ?_, ih⟩
    rcases List.mem_cons.1 hx with rfl | hx
    · exact h.1
    · have := (List.pairwise_cons.1 ih).1 x hx; omega
theorem livesOf_inc {k : Int} {l : List Step} (h : incP l = true) : ((livesOf k l).map Life.from_).Pairwise (· < ·) := by
  rw [livesOf, livesFrom_from, List.map_nil, List.nil_append]
  exact List.pairwise_map.2 ((incP_pairwise h).filter _)
theorem livesOf_nodup {k : Int} {l : List Step} (h : incP l = true) : ((livesOf k l).map Life.from_).Nodup :=
  List.nodup_iff_pairwise_ne.2 ((livesOf_inc h).imp fun h e => by rw [e] at h; exact absurd h (by simp))
theorem livesFrom_length (k : Int) : ∀ (l : List Step) (th : List Held) (out : List Life), (livesFrom k th out l).length ≤ out.length + l.length
  | [], th, out => by simp [livesFrom]
  | s :: l, th, out => by
    rw [livesFrom]
    have := livesFrom_length k l (doP k th s).1 (out.map (closeL (doP k th s).2.from_ s.at_) ++ if s.do_ = 1 then [⟨s.at_, 1001, s.key, s.val⟩] else [])
    refine Nat.le_trans this ?_
    simp only [List.length_append, List.length_map, List.length_cons]
    split <;> simp <;> omega
theorem livesOf_length (k : Int) (l : List Step) : (livesOf k l).length ≤ l.length := by have := livesFrom_length k l [] []; simpa [livesOf] using this
theorem filter_take_succ {α : Type} (p : α → Bool) {l : List α} {n : Nat} {x : α} (h : l[n]? = some x) : (l.take (n + 1)).filter p = (l.take n).filter p ++ if p x then [x] else [] := by
  rw [List.take_add_one, h, List.filter_append]
  by_cases hp : p x <;> simp [hp]
theorem filter_take_length {α : Type} (p : α → Bool) (l : List α) (n : Nat) : ((l.take n).filter p).length ≤ n :=
  Nat.le_trans (List.length_filter_le _ _) (by simp; omega)
theorem any_take_succ {α : Type} (p : α → Bool) {l : List α} {n : Nat} {x : α} (h : l[n]? = some x) : (l.take (n + 1)).any p = ((l.take n).any p || p x) := by
  rw [List.take_add_one, h, List.any_append]; simp
end Go.Proofs.Ytkoeplbkeboklaa
