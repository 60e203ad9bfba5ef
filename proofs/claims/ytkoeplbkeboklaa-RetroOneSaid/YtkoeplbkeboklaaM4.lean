/- My texts of layer 14, joined: R17, R39, L0, P3b, C0, Base5, Shelf, R6b, R7, R35, R25, P11, R26. -/
import Derived.Test.YtkoeplbkeboklaaM3
import Derived.Shelf.SlSortCmp.WholeK
import Derived.Shelf.SlSortCmp.NoneTotal
import Derived.Shelf.SlGeneric
import Derived.Ground.SlsfProg
import Derived.Shelf.SlLaysF0
import Derived.Shelf.Spec.SlicesGrow
import Derived.Ground.Names8Prog
import Derived.Shelf.Small.Bits
import Derived.Shelf.Sort.Plain
import Derived.Ground.Names2Prog
import Derived.Shelf.Slices.CompactI
import Derived.Shelf.Slices.In.SortNone
import Derived.Test.YtkoeplbkeboklaaProg
import Derived.Maps.RangeWalk
import Derived.RangeFuncNested
import Derived.RangeFuncBound
import Derived.RangeFuncCalls
import Derived.RangeFuncLeaves
import Derived.Shelf.Abstract
import Derived.Shelf.RegionOpen
import Derived.OwnWalkIn
import Derived.TacticsInMore
import Derived.LoopNIn
import Derived.LoopIn
import Derived.Handy
import Derived.LoopN
import Derived.Lib.SlicesCompact
/- The reference's LivesOf and Lives. -/
set_option linter.unusedVariables false
set_option linter.unusedSimpArgs false
namespace Go.Proofs.Ytkoeplbkeboklaa
open Go.RowKit
theorem life_len (x : Life) : x.cells.length = 4 := rfl
theorem info_life : (Try.prog.info? 63).map (fun i => (i.zero, i.size, i.bytes)) = some (some (.agg #[.int .i64 0, .int .i64 0, .int .i64 0, .int .i64 0]), 4, 32) := by kernel_rfl
set_option maxHeartbeats 4000000 in
theorem livesOf_any (k : Int) (v : Value) (l : List Step) (w : World) (hr : Rd Step.cells 4 w v l) (hok : okLine k l) :
    Calls Try.prog 56 #[.agg #[.int .i64 k, v]] w fun e w' => ∃ v, e = .returned v ∧ Win Life.cells 4 63 w' v (fun i => w.heap.size ≤ i) (livesOf k l) ∧ Below w.heap.size w w' := by
  obtain ⟨a, c, rfl⟩ : ∃ a c, v = .slice a l.length c := by obtain ⟨_, a, c, rfl, _⟩ := hr; exact ⟨a, c, rfl⟩
  have HR := Lib.hid hr
  have HO := Lib.hid hok
  have hll := hok.2.2
  clear hr hok
  have HBL := Lib.hid (fun o => (Below.refl w.heap.size w).alloc (Nat.le_refl _) o)
  go_enter Try.func56, Try.ntmps56
  go_wp2
  go_loopw [12, 4, 3] (fun i v u W => ∃ (n : Nat) (th : List Held) (xs : List Life) (a1 a2 : Option Addr) (c1 c2 : Nat), i = .int .i64 n ∧ v = .slice a1 th.length c1 ∧ u = .slice a2 xs.length c2 ∧ n ≤ l.length ∧ th.length ≤ n ∧ xs.length ≤ n ∧ livesFrom k th xs (l.drop n) = livesOf k l ∧ (k = 3 → sortH th) ∧ Win Held.thing 3 115 W (.slice a1 th.length c1) (fun j => w.heap.size < j ∧ some j ≠ (Value.slice a2 xs.length c2).ownBlock) th ∧ Win Life.cells 4 63 W (.slice a2 xs.length c2) (fun j => w.heap.size < j) xs ∧ Below w.heap.size w W ∧ w.heap.size < W.heap.size ∧ W.cell? ⟨w.heap.size, 0, none⟩ = some (.int .i64 k)) (fun i _ _ _ => l.length - (intOf i).toNat)
  case atStart => exact ⟨0, [], [], none, none, 0, 0, rfl, rfl, rfl, by omega, by simp, by simp, rfl, fun _ => List.Pairwise.nil, winC_nil _ _ _ _, winC_nil _ _ _ _, HBL.out _, by simp, by simp⟩
  case round =>
    obtain ⟨n, th, xs, a1, a2, p1, p2, rfl, rfl, rfl, hnl, htn, hxn, heq, hst, hwin, hwx, hB, hlt, hc0⟩ := hrel
    by_cases hlt' : n < l.length
    · have hx := List.getElem?_eq_getElem hlt'
      have hmem : l[n] ∈ l := List.getElem_mem hlt'
      generalize l[n] = s at hx hmem
      obtain ⟨b, off, rfl, hbl, hc⟩ := rd_at (HR.out.below hB) hx
      have q0 : wr.cell? ⟨b, off + n * 4, none⟩ = some (.int .i64 s.at_) := hc 0 _ rfl
      have q1 := hc 1 _ rfl
      have q2 := hc 2 _ rfl
      have q3 := hc 3 _ rfl
      have hdo := HO.out.2.1 s hmem
      have hwin2 := fun o => winC_move (winC_block hwin) (fr_alloc (fun _ => False) wr o) (fun _ _ h => h)
      have hwx2 := fun o => winC_move (winC_block hwx) (fr_alloc (fun _ => False) wr o) (fun _ _ h => h)
      have hcall := fun o => refStep_is2 (k := k) (v := .slice a1 th.length p1) (th := th) (s := s) HO.out.1 hdo hst _ (hwin2 o) (by omega)
      have hc2 := fun o => below_cell ((Below.refl wr.heap.size wr).alloc (Nat.le_refl _) o) hc0
      rw [livesFrom_drop hx] at heq
      have hle := doP_length k th s
      have hst2 := doP_sort s hst HO.out.1
      generalize hth : (doP k th s).1 = th2 at *
      generalize (doP k th s).2.from_ = f at *
      have HX := Lib.hid (And.intro hcall (And.intro hwx2 (And.intro heq (And.intro hst2 hc2))))
      have HD := Lib.hid hdo
      clear hc hx hwin hwin2 hcall hmem hwx2 hst heq hst2 hwx hth hc2 hdo
      go_wp2_with (go_at_call 58; refine (HX.out.1 _).mono ?_; rintro e w2 ⟨v2, rfl, hw2, hb2⟩; obtain ⟨a3, c3, rfl, hn2, hm2⟩ := winC_slice hw2; have hxx := winC_move (HX.out.2.1 (.cells #[.int .i64 s.at_, .int .i64 s.do_, .int .i64 s.key, .int .i64 s.val] 39)) (fr_of_below (S := fun _ => False) hb2) (fun _ _ h => h); have m0 := below_cell hb2 (World.cell?_alloc_new wr #[.int .i64 s.at_, .int .i64 s.do_, .int .i64 s.key, .int .i64 s.val] 39 0); have m1 := below_cell hb2 (World.cell?_alloc_new wr #[.int .i64 s.at_, .int .i64 s.do_, .int .i64 s.key, .int .i64 s.val] 39 1); have m2 := below_cell hb2 (World.cell?_alloc_new wr #[.int .i64 s.at_, .int .i64 s.do_, .int .i64 s.key, .int .i64 s.val] 39 2); have m3 := below_cell hb2 (World.cell?_alloc_new wr #[.int .i64 s.at_, .int .i64 s.do_, .int .i64 s.key, .int .i64 s.val] 39 3))
      have hB2 : Below w.heap.size w w2 := (hB.alloc hB.size _).trans (hb2.mono (by have := hB.size; simp; omega))
      have hz2 : wr.heap.size + 1 ≤ w2.heap.size := by have := hb2.size; simpa using this
      have hox : ∀ i, some i = (Value.slice a2 xs.length p2).ownBlock → w.heap.size < i ∧ i < wr.heap.size := fun i hi => (winC_ob hxx i hi).1.2
      have k2 := below_cell hb2 (HX.out.2.2.2.2 _)
      have hwt := winC_mono (winC_block hw2) (T := fun i => ((w.heap.size < i ∧ some i ≠ (Value.slice a2 xs.length p2).ownBlock) ∨ wr.heap.size + 1 ≤ i) ∧ i < w2.heap.size) fun i hi => ⟨by
        rcases hi.2.1 with h1 | h1
        · exact .inl h1.2.1
        · exact .inr (by simpa using h1), hi.2.2⟩
      have HY := Lib.hid (And.intro hwt (And.intro hxx (And.intro hB2 hox)))
      clear hw2 hxx hB2 hox hwt hb2 q0 q1 q2 q3 hc0 HR hB
      generalize wr.heap.size = X at *
      go_loopw [26] (fun i W => ∃ (m : Nat), i = .int .i64 m ∧ m ≤ xs.length ∧ Win Life.cells 4 63 W (.slice a2 xs.length p2) (fun i => some i = (Value.slice a2 xs.length p2).ownBlock ∧ w.heap.size < i ∧ i < X) ((xs.take m).map (closeL f s.at_) ++ xs.drop m) ∧ Fr (fun i => some i = (Value.slice a2 xs.length p2).ownBlock) w2 W) (fun i _ => xs.length - (intOf i).toNat)
      case atStart => exact ⟨0, rfl, by omega, HY.out.2.1, fr_refl _ _⟩
      case round =>
        obtain ⟨m, rfl, hml, hwx, hF⟩ := hrel
        by_cases hlt2 : m < xs.length
        · have hx := List.getElem?_eq_getElem hlt2
          generalize xs[m] = x at hx
          obtain ⟨hget, hset⟩ := close_step (closeL f s.at_) hx
          have hlen : ((xs.take m).map (closeL f s.at_) ++ xs.drop m).length = xs.length := by simp; omega
          obtain ⟨b2, o2, rfl, hbl2, hc⟩ := rd_at (win_rd life_len hwx) hget
          have q0 : wr.cell? ⟨b2, o2 + m * 4, none⟩ = some (.int .i64 x.from_) := hc 0 _ rfl
          have q1 := hc 1 _ rfl
          have w0 := fr_cell hF m0 (fun h => by have := (HY.out.2.2.2 X h).2; omega)
          by_cases hxf : x.from_ = f
          · have hxb : (x.from_ == f) = true := by simp [hxf]
            have hcl : closeL f s.at_ x = { x with to_ := s.at_ } := by simp [closeL, hxf]
            have hw := win_set life_len hwx hlen hget (show 1 < 4 by omega) (y := closeL f s.at_ x) (u := .int .i64 s.at_) (by rw [hcl]; rfl)
            have kf := hw.2.2
            have HW := Lib.hid (And.intro hw.1 (And.intro hset (And.intro hF hx)))
            clear hxf hcl hw hset hget hwx hF hx hc hlen
            go_wp2
            go_roundw
            case rel => exact ⟨m + 1, by go_num, by omega, by have h := HW.out.1; rw [HW.out.2.1] at h; exact h, fr_trans HW.out.2.2.1 (fr_setCell wr _ _) fun i _ (h : i = b2) => by rw [h]; rfl⟩
            case measure => simp [intOf]; omega
          · have hxb : (x.from_ == f) = false := by simp [hxf]
            have hcl : closeL f s.at_ x = x := by simp [closeL, hxf]
            have HW := Lib.hid (And.intro hwx (And.intro (close_same hx hcl) hF))
            clear hxf hcl hset hget hwx hF hx hc hlen
            go_wp2
            go_roundw
            case rel => exact ⟨m + 1, by go_num, by omega, by rw [HW.out.2.1]; exact HW.out.1, HW.out.2.2⟩
            case measure => simp [intOf]; omega
        · obtain rfl : m = xs.length := by omega
          rw [List.take_length, List.drop_length, List.append_nil] at hwx
          have hN := fun i (h : some i = (Value.slice a2 xs.length p2).ownBlock) => (HY.out.2.2.2 i h)
          have w0 := fr_cell hF m0 (fun h => by have := (hN X h).2; omega)
          have w1 := fr_cell hF m1 (fun h => by have := (hN X h).2; omega)
          have w2' := fr_cell hF m2 (fun h => by have := (hN X h).2; omega)
          have w3 := fr_cell hF m3 (fun h => by have := (hN X h).2; omega)
          have kk := fr_cell hF k2 (fun h => by have := (hN w.heap.size h).1; omega)
          have hwt := winC_move HY.out.1 hF fun i hi h => by
            rcases hi.1 with h1 | h1
            · exact h1.2 h
            · have := (hN i h).2; omega
          have z1 := hF.size
          have hB5 : Below w.heap.size w wr := HY.out.2.2.1.trans (below_of_fr hF (HY.out.2.2.1).size fun i hi => Nat.le_of_lt (hN i hi).1)
          have HW := Lib.hid (And.intro hwx (And.intro hwt (And.intro hB5 (And.intro hN kk))))
          clear hwx hwt hB5 hN kk hF m0 m1 m2 m3 k2
          by_cases hd : s.do_ = 1
          · have hdb : (s.do_ == 1) = true := by simp [hd]
            have HD1 := Lib.hid hd
            clear hd
            have hxx2 := winC_move HW.out.1 (fr_alloc (fun _ => False) wr (.cells #[.int .i64 s.at_, .int .i64 1001, .int .i64 s.key, .int .i64 s.val] 63)) (fun _ _ h => h)
            rw [List.length_map] at hxx2
            have HXX := Lib.hid hxx2
            clear hxx2
            go_wp2_with (at_builtin; (refine wpList_append_win _ (by rfl) _ _ _ (by rfl) 63 4 32 _ Try.underlying26 info_life rfl (by decide) _ _ xs.length _ (by rfl) HXX.out _ _ _ [.int .i64 s.at_, .int .i64 1001, .int .i64 s.key, .int .i64 s.val] (by rfl) (by rfl) (World.news_of_block (heap_alloc_new wr _)) (by simp [Value.oneCell']) (by decide) (by unfold maxLen; omega) (by omega) ?_); intro v3 w5 hwin3 hfr3 hsz3; obtain ⟨a4, c4, rfl, hn4, hm4⟩ := winC_slice hwin3)
            have F3 : Fr (fun i => some i = (Value.slice a2 xs.length p2).ownBlock) wr w5 := fr_trans (fr_alloc _ wr _) hfr3 fun _ _ h => h
            have hon := winC_ob hwin3
            have hwt5 := winC_move HW.out.2.1 F3 fun i hi h => by
              rcases hi.1 with h1 | h1
              · exact h1.2 h
              · have := (HW.out.2.2.2.1 i h).2; omega
            have kk5 := fr_cell F3 HW.out.2.2.2.2 (fun h => by have := (HW.out.2.2.2.1 w.heap.size h).1; omega)
            have z3 := F3.size
            go_roundw
            case rel =>
              refine ⟨n + 1, th2, xs.map (closeL f s.at_) ++ [⟨s.at_, 1001, s.key, s.val⟩], a3, a4, c3, c4, by go_num, rfl, by simp, by omega, by omega, by simp; omega, ?_, HX.out.2.2.2.1, winC_mono hwt5 fun i hi => ⟨?_, fun h => ?_⟩, ?_, HW.out.2.2.1.trans (below_of_fr F3 HW.out.2.2.1.size fun i hi => Nat.le_of_lt (HW.out.2.2.2.1 i hi).1), by omega, kk5⟩
              · have := HX.out.2.2.1
                rw [if_pos HD1.out] at this
                exact this
              · rcases hi.1 with h1 | h1
                · exact h1.1
                · omega
              · have h3 := (hon i (h.trans (by cases a4 <;> rfl))).1
                simp at h3
                rcases h3 with h3 | h3
                · rcases hi.1 with h1 | h1
                  · exact h1.2 h3.1.1
                  · omega
                · omega
              · refine (?_ : WinC _ _ _ _ _ _ _)
                rw [List.length_append, List.length_map, List.flatMap_append]
                exact winC_mono hwin3 fun i hi => by simp at hi; omega
            case measure => simp [intOf]; omega
          · have hdb : (s.do_ == 1) = false := by simp [hd]
            have HD1 := Lib.hid hd
            clear hd
            go_wp2
            go_roundw
            case rel =>
              refine ⟨n + 1, th2, xs.map (closeL f s.at_), a3, a2, c3, p2, by go_num, rfl, by simp, by omega, by omega, by simp; omega, ?_, HX.out.2.2.2.1, winC_mono HW.out.2.1 fun i hi => ⟨?_, fun h => ?_⟩, ?_, HW.out.2.2.1, by omega, HW.out.2.2.2.2⟩
              · have := HX.out.2.2.1
                rw [if_neg HD1.out, List.append_nil] at this
                exact this
              · rcases hi.1 with h1 | h1
                · exact h1.1
                · omega
              · rw [List.length_map] at h
                rcases hi.1 with h1 | h1
                · exact h1.2 h
                · have := (HW.out.2.2.2.1 i h).2; omega
              · refine (?_ : WinC _ _ _ _ _ _ _)
                rw [List.length_map]
                have h : WinC _ _ _ _ _ _ _ := HW.out.1
                rw [List.length_map] at h
                exact winC_mono h fun i hi => hi.2.1
            case measure => simp [intOf]; omega
    · obtain rfl : n = l.length := by omega
      have hxs : xs = livesOf k l := by simpa [livesFrom] using heq
      subst hxs
      have HW := Lib.hid (And.intro hwx hB)
      clear hwin hwx hst heq
      go_wp2
      go_ret
      exact ⟨_, rfl, winC_mono HW.out.1 fun i hi => by omega, HW.out.2⟩
def livesP (k : Int) (l : List Step) : List Life × Int := if isLineP k l then (livesOf k l, 0) else ([], 2)
set_option maxHeartbeats 1000000 in
theorem refLives_any (k : Int) (v : Value) (l : List Step) (w : World) (hr : Rd Step.cells 4 w v l) :
    Calls Try.prog 15 #[.agg #[.int .i64 k, v]] w fun e w' => ∃ v, e = .returned (.tuple #[v, .int .i64 (livesP k l).2]) ∧ Win Life.cells 4 63 w' v (fun i => w.heap.size ≤ i) (livesP k l).1 ∧ Below w.heap.size w w' := by
  obtain ⟨a, c, rfl⟩ : ∃ a c, v = .slice a l.length c := by obtain ⟨_, a, c, rfl, _⟩ := hr; exact ⟨a, c, rfl⟩
  have HR := Lib.hid hr
  clear hr
  have HBL := Lib.hid (fun o => (Below.refl w.heap.size w).alloc (Nat.le_refl _) o)
  have hcon := fun o => good_any k _ l _ (HR.out.below (HBL.out o))
  cases hi : isLineP k l with
  | false =>
    have hat : livesP k l = ([], 2) := by simp [livesP, hi]
    rw [hat]
    rw [hi] at hcon
    have HC := Lib.hid hcon
    clear hat hi hcon
    go_enter Try.func15, Try.ntmps15
    go_wp2_with (go_at_call 42; refine (HC.out _).mono ?_; rintro e w1 ⟨rfl, hb1⟩)
    go_ret2
    exact ⟨_, rfl, winC_nil _ _ _ _, (HBL.out _).trans (hb1.mono (by simp))⟩
  | true =>
    have hat : livesP k l = (livesOf k l, 0) := by simp [livesP, hi]
    rw [hat]
    rw [hi] at hcon
    have HC := Lib.hid hcon
    have HO := Lib.hid (okLine_of hi)
    clear hat hi hcon
    go_enter Try.func15, Try.ntmps15
    go_wp2_with (first | (go_at_call 42; refine (HC.out _).mono ?_; rintro e w1 ⟨rfl, hb1⟩; have c0 := below_cell hb1 (World.cell?_alloc_new w #[.int .i64 k, .slice a l.length c] 25 0); have c1 := below_cell hb1 (World.cell?_alloc_new w #[.int .i64 k, .slice a l.length c] 25 1)) | (go_at_call 56; refine (livesOf_any k _ l _ (HR.out.below ((HBL.out _).trans (hb1.mono (by simp)))) HO.out).mono ?_; rintro e w2 ⟨v2, rfl, hw2, hb2⟩))
    go_ret2
    have hb0 : Below w.heap.size w w1 := (HBL.out _).trans (hb1.mono (by simp))
    exact ⟨_, rfl, winC_mono hw2 fun i hi => Nat.le_trans hb0.size hi, hb0.trans (hb2.mono hb0.size)⟩
end Go.Proofs.Ytkoeplbkeboklaa
/- The reference's Slim. -/
set_option linter.unusedVariables false
set_option linter.unusedSimpArgs false
namespace Go.Proofs.Ytkoeplbkeboklaa
open Go.RowKit
theorem named_box1 (w : World) (cs : Array Value) (T : TypeId) {G : World → Prop}
    (h : ∀ W0, Below w.heap.size w W0 → W0.heap.size = w.heap.size + 1 → W0.heap[w.heap.size]? = some (.cells cs T (0, 0)) → G W0) : G (w.alloc (.cells cs T)) :=
  h _ ((Below.refl _ _).alloc (Nat.le_refl _) _) (by simp) (heap_alloc_new w _)
theorem named_any (w : World) (o : Obj) {G : World → Prop}
    (h : ∀ W0, Below w.heap.size w W0 → W0.heap.size = w.heap.size + 1 → W0.heap[w.heap.size]? = some o → G W0) : G (w.alloc o) :=
  h _ ((Below.refl _ _).alloc (Nat.le_refl _) _) (by simp) (heap_alloc_new w _)
theorem capT_min (t : Int) : (if 1000 < t then (1000 : Int) else t) = capT t := rfl
set_option maxHeartbeats 4000000 in
theorem refSlim_any (k : Int) (v : Value) (l : List Step) (t : Int) (w : World) (hr : Rd Step.cells 4 w v l) :
    Calls Try.prog 28 #[.agg #[.int .i64 k, v], .int .i64 t] w fun e w' =>
      ∃ v', e = .returned (.tuple #[.agg #[.int .i64 (slimP k l t).1.1, v'], .int .i64 (slimP k l t).2]) ∧ Win Step.cells 4 39 w' v' (fun i => w.heap.size ≤ i) (slimP k l t).1.2 ∧ Below w.heap.size w w' := by
  obtain ⟨a, c, rfl⟩ : ∃ a c, v = .slice a l.length c := by obtain ⟨_, a, c, rfl, _⟩ := hr; exact ⟨a, c, rfl⟩
  have HR := Lib.hid hr
  have HC := Lib.hid (fun W h => good_any k _ l W (hr.below h))
  clear hr
  cases hl : isLineP k l with
  | false =>
    have hat : slimP k l t = ((0, []), 2) := by simp [slimP, hl]
    rw [hat]
    rw [hl] at HC
    clear hat hl
    go_enter Try.func28, Try.ntmps28
    go_wp2_with fail
    refine named_box2 (G := fun W => Calls _ _ _ W _) w _ _ _ _ fun W0 hb0 hz0 hx0 hx1 => ?_
    refine (HC.out _ hb0).mono ?_
    rintro e w1 ⟨rfl, hb1⟩
    have hB := hb0.trans (hb1.mono (by omega))
    have hr2 := (hb1.block _ (by omega)).trans hx1
    have f0 := cell_blk hr2 0
    have f1 := cell_blk hr2 1
    have k0 := free_blk hr2 0
    have k1 := free_blk hr2 1
    have hE := line_end (k := 0) hB.size hB hr2 (by omega) (win_nil Step.cells 4 39 w1 (fun i => i ≠ w.heap.size + 1 ∧ w.heap.size ≤ i)) (fun i hi => hi)
    have HE := Lib.hid (hE _ rfl)
    clear hE hB hr2
    go_wp2
    have g0 := HE.out.1
    have g1 := HE.out.2.1
    exact bodyPost_ret (v := .tuple #[.agg #[.int .i64 0, .slice none 0 0], .int .i64 2]) (by simp [results, Try.results28, go_sem, g0, g1]) rfl ⟨_, rfl, winC_nil _ _ _ _, HE.out.2.2.2⟩

  | true =>
    have hat : slimP k l t = ((k, slimOf k l (capT t)), 0) := by simp [slimP, hl]
    rw [hat]
    obtain ⟨T, hT⟩ : ∃ T, (if 1000 < t then (1000 : Int) else t) = T := ⟨_, rfl⟩
    rw [show capT t = T from hT]
    have HT := Lib.hid (And.intro hT (show min t 1000 = T by rw [← hT]; split <;> omega))
    clear hT
    rw [hl] at HC
    have hlen := (isLineP_spec hl).2.2.1
    have HLV := Lib.hid (fun W h => livesOf_any k _ l W (HR.out.below h) (okLine_of hl))
    have hLl := livesOf_length k l
    clear hat hl
    go_enter Try.func28, Try.ntmps28
    go_wp2_with fail
    refine named_box2 (G := fun W => Calls _ _ _ W _) w _ _ _ _ fun W0 hb0 hz0 hx0 hx1 => ?_
    refine (HC.out _ hb0).mono ?_
    rintro e w1 ⟨rfl, hb1⟩
    have hB1 := hb0.trans (hb1.mono (by omega))
    have hz1 := hb1.size
    have d0 : w1.cell? ⟨w.heap.size, 0, none⟩ = some (.int .i64 k) := below_cell hb1 (cell_blk hx0 0)
    have d1 : w1.cell? ⟨w.heap.size, 1, none⟩ = some (.slice a l.length c) := below_cell hb1 (cell_blk hx0 1)
    have HB1 := Lib.hid (And.intro hB1 ((hb1.block _ (by omega)).trans hx1))
    clear hB1 hx0 hx1 hb0 hb1
    have e0 := fun o => below_cell ((Below.refl w1.heap.size w1).alloc (Nat.le_refl _) o) d0
    have e1 := fun o => below_cell ((Below.refl w1.heap.size w1).alloc (Nat.le_refl _) o) d1
    have hc := HT.out.1
    have hc2 := HT.out.2
    go_wp2_with fail
    clear hc hc2 e0 e1
    refine named_box1 (G := fun W => Calls _ _ _ W _) w1 _ _ fun W2 hb2 hz2 hx2 => ?_
    have hB2 : Below w.heap.size w W2 := HB1.out.1.trans (hb2.mono HB1.out.1.size)
    refine (HLV.out _ hB2).mono ?_
    rintro e w3 ⟨vL, rfl, hwL, hb3⟩
    have hrL := win_rd life_len hwL
    obtain ⟨aL, cL, rfl, _, _⟩ := winC_slice hwL
    have hB3 : Below w.heap.size w w3 := hB2.trans (hb3.mono hB2.size)
    have hb23 := hb2.trans (hb3.mono hb2.size)
    have p0 := below_cell hb23 d0
    have p1 := below_cell hb23 d1
    have ho3 := (hb3.block w1.heap.size (by omega)).trans hx2
    have hR3 := (hb23.block (w.heap.size + 1) (by omega)).trans HB1.out.2
    have hz3 : w1.heap.size < w3.heap.size := by have := hb3.size; omega
    have hzr : w.heap.size + 1 < w1.heap.size := by omega
    have hoL : ∀ i, some i = (Value.slice aL (livesOf k l).length cL).ownBlock → w1.heap.size < i := fun i hi => by have := (winC_ob hwL i hi).1; omega
    have H3 := Lib.hid (And.intro hB3 (And.intro hrL (And.intro ho3 hR3)))
    have HOL := Lib.hid hoL
    clear hoL
    clear hb2 hb3 hb23 hx2 hB2 hB3 hwL hrL ho3 hR3 hz2 d0 d1 hz1
    generalize hO : w1.heap.size = O at *
    obtain ⟨p, hp⟩ : ∃ p : Step → Bool, p = keepP (livesOf k l) T := ⟨_, rfl⟩
    have HP := Lib.hid hp
    clear hO hp
    go_wp2
    go_loopw [27] (fun i W => ∃ (n : Nat) (a1 : Option Addr) (c1 : Nat), i = .int .i64 n ∧ n ≤ l.length ∧ W.heap[O]? = some (.cells #[.int .i64 k, .slice a1 ((l.take n).filter p).length c1] 25 (0, 0)) ∧ Win Step.cells 4 39 W (.slice a1 ((l.take n).filter p).length c1) (fun j => w3.heap.size ≤ j) ((l.take n).filter p) ∧ Fr (fun j => j = O) w3 W) (fun i _ => l.length - (intOf i).toNat)
    case atStart => exact ⟨0, none, 0, rfl, by omega, H3.out.2.2.1, winC_nil _ _ _ _, fr_refl _ _⟩
    case round =>
      obtain ⟨n, a1, c1, rfl, hnl, hO, hw, hF⟩ := hrel
      by_cases hlt : n < l.length
      · have hx := List.getElem?_eq_getElem hlt
        generalize l[n] = s at hx
        have hBw : Below w.heap.size w wr := H3.out.1.trans (below_of_fr hF H3.out.1.size fun i hi => by omega)
        obtain ⟨b, off, rfl, hbl, hc⟩ := rd_at (HR.out.below hBw) hx
        have q0 : wr.cell? ⟨b, off + n * 4, none⟩ = some (.int .i64 s.at_) := hc 0 _ rfl
        have q1 := hc 1 _ rfl
        have q2 := hc 2 _ rfl
        have q3 := hc 3 _ rfl
        have hz4 := hF.size
        have HX := Lib.hid (And.intro hx (And.intro hO (And.intro hw (And.intro hF hBw))))
        clear hx hO hw hF hBw hc
        obtain ⟨L, hLL⟩ : ∃ L, L = livesOf k l := ⟨_, rfl⟩
        have HRL : Hid (Rd Life.cells 4 w3 (.slice aL L.length cL) L) := Lib.hid (by rw [hLL]; exact H3.out.2.1)
        have HPL : Hid (p = keepP L T) := Lib.hid (by rw [hLL]; exact HP.out)
        have HOB : Hid (∀ i, some i = (Value.slice aL L.length cL).ownBlock → O < i) := Lib.hid (by rw [hLL]; exact HOL.out)
        rw [← hLL] at hLl
        rw [← hLL]
        have HLL := Lib.hid hLL
        clear hLL
        go_wp2
        go_loopw [37, 10] (fun i v W => ∃ (m : Nat) (g : Bool), i = .int .i64 m ∧ v = .bool g ∧ m ≤ L.length ∧ g = (decide (T < s.at_) || (L.take m).any fun y => y.from_ == s.at_ && decide (T < y.to_)) ∧ Below wr.heap.size wr W ∧ W.cell? ⟨wr.heap.size, 0, none⟩ = some (.int .i64 s.at_) ∧ W.cell? ⟨wr.heap.size, 1, none⟩ = some (.int .i64 s.do_) ∧ W.cell? ⟨wr.heap.size, 2, none⟩ = some (.int .i64 s.key) ∧ W.cell? ⟨wr.heap.size, 3, none⟩ = some (.int .i64 s.val)) (fun i _ _ => L.length - (intOf i).toNat)
        case atStart => exact ⟨0, _, rfl, rfl, by omega, by simp, (Below.refl _ _).alloc (Nat.le_refl _) _, by simp, by simp, by simp, by simp⟩
        case round =>
          obtain ⟨m, g, rfl, rfl, hml, hg, hb, m0, m1, m2, m3⟩ := hrel
          by_cases hlt2 : m < L.length
          · have hy := List.getElem?_eq_getElem hlt2
            generalize L[m] = y at hy
            have hrl : Rd Life.cells 4 wr (.slice aL L.length cL) L := rd_move HRL.out (fr_trans HX.out.2.2.2.1 (fr_of_below hb) fun _ _ h => h) fun i hi h => by have := HOB.out i hi; omega
            obtain ⟨b2, o2, rfl, hbl2, hc⟩ := rd_at hrl hy
            have y0 : wr.cell? ⟨b2, o2 + m * 4, none⟩ = some (.int .i64 y.from_) := hc 0 _ rfl
            have y1 := hc 1 _ rfl
            have y2 := hc 2 _ rfl
            have y3 := hc 3 _ rfl
            have hst := any_take_succ (fun y => y.from_ == s.at_ && decide (T < y.to_)) hy
            have hBs := fun o => hb.trans (((Below.refl wr.heap.size wr).alloc (Nat.le_refl _) o).mono hb.size)
            have hms := fun o => And.intro (below_cell ((Below.refl wr.heap.size wr).alloc (Nat.le_refl _) o) m0) (And.intro (below_cell ((Below.refl wr.heap.size wr).alloc (Nat.le_refl _) o) m1) (And.intro (below_cell ((Below.refl wr.heap.size wr).alloc (Nat.le_refl _) o) m2) (below_cell ((Below.refl wr.heap.size wr).alloc (Nat.le_refl _) o) m3)))
            have n0 := fun o => (hms o).1
            have HG := Lib.hid (And.intro hg (And.intro hst (And.intro hBs hms)))
            clear hg hst hBs hms hrl hc hb hy
            cases g with
            | true =>
              go_wp2
              go_roundw
              case rel => exact ⟨m + 1, true, by go_num, rfl, by omega, by rw [HG.out.2.1, ← Bool.or_assoc, ← HG.out.1]; rfl, HG.out.2.2.1 _, HG.out.2.2.2 _⟩
              case measure => simp [intOf]; omega
            | false =>
              by_cases hf : y.from_ = s.at_
              · have hfb : (y.from_ == s.at_) = true := by simp [hf]
                have HF := Lib.hid hfb
                clear hf
                go_wp2
                go_roundw
                case rel => exact ⟨m + 1, decide (T < y.to_), by go_num, rfl, by omega, by rw [HG.out.2.1, ← Bool.or_assoc, ← HG.out.1, HF.out]; rfl, HG.out.2.2.1 _, HG.out.2.2.2 _⟩
                case measure => simp [intOf]; omega
              · have hfb : (y.from_ == s.at_) = false := by simp [hf]
                have HF := Lib.hid hfb
                clear hf
                go_wp2
                go_roundw
                case rel => exact ⟨m + 1, false, by go_num, rfl, by omega, by rw [HG.out.2.1, ← Bool.or_assoc, ← HG.out.1, HF.out]; rfl, HG.out.2.2.1 _, HG.out.2.2.2 _⟩
                case measure => simp [intOf]; omega
          · obtain rfl : m = L.length := by omega
            rw [List.take_length] at hg
            have hgp : g = p s := by rw [hg, HPL.out]; rfl
            have hfs := filter_take_succ p HX.out.1
            rw [← hgp] at hfs
            have hFw : Fr (fun j => j = O) w3 wr := fr_trans HX.out.2.2.2.1 (fr_of_below hb) fun _ _ h => h
            have ho := (hb.block O (by omega)).trans HX.out.2.1
            have c0 := cell_blk ho 0
            have c1' := cell_blk ho 1
            have k0 := free_blk ho 0
            have k1 := free_blk ho 1
            have hw5 := winC_move HX.out.2.2.1 (fr_of_below (S := fun _ => False) hb) fun _ _ h => h
            have hfl := filter_take_length p l n
            have hz5 := hb.size
            have HG := Lib.hid (And.intro hfs (And.intro hFw (And.intro ho hw5)))
            clear hg hfs hFw ho hw5 hb hgp
            generalize hxs : (l.take n).filter p = xs at *
            have HXS := Lib.hid hxs
            clear hxs
            cases g with
            | true =>
              have hob := winC_ob HG.out.2.2.2
              have HOW := Lib.hid hob
              clear hob
              go_wp2_with (at_builtin; (refine wpList_append_win _ (by rfl) _ _ _ (by rfl) 39 4 32 _ Try.underlying23 info_step rfl (by decide) _ _ xs.length _ (by rfl) (winC_move HG.out.2.2.2 (fr_alloc (fun _ => False) wr _) (fun _ _ h => h)) _ _ _ [.int .i64 s.at_, .int .i64 s.do_, .int .i64 s.key, .int .i64 s.val] (by rfl) (by rfl) (World.news_of_block (heap_alloc_new wr _)) (by simp [Value.oneCell']) (by decide) (by unfold maxLen; omega) (by omega) ?_); intro v3 w5 hwin3 hfr3 hsz3; obtain ⟨a4, c4, rfl, hn4, hm4⟩ := winC_slice hwin3; have F3 : Fr (fun i => some i = (Value.slice a1 xs.length c1).ownBlock) wr w5 := fr_trans (fr_alloc _ wr _) hfr3 fun _ _ h => h; have c5 := fr_cell F3 c1' (fun h => by have := (HOW.out O h).1; omega); have k5 := fr_frozen F3 (show O < wr.heap.size by omega) k1 (fun h => by have := (HOW.out O h).1; omega); have H5 := Lib.hid (And.intro hwin3 F3); clear hwin3 F3 hfr3)
              have hwA := H5.out.1
              have F5 := H5.out.2
              have hoA := (F5.block O (by omega) (fun h => by have := (HOW.out O h).1; omega)).trans HG.out.2.2.1
              have hoB := setCell_blk (o := 1) hoA (.slice a4 (xs.length + 1) c4)
              have hF6 : Fr (fun j => j = O) w3 (w5.setCell ⟨O, 1, none⟩ (.slice a4 (xs.length + 1) c4)) := fr_trans (fr_trans HG.out.2.1 F5 fun i hi h => by have := (HOW.out i h).1; omega) (fr_setCell w5 _ _) fun i _ h => h
              have hw6 := winC_move hwA (fr_setCell w5 ⟨O, 1, none⟩ (.slice a4 (xs.length + 1) c4)) fun i hi (h : i = O) => by
                rcases hi with hi | hi
                · have := hi.1; omega
                · simp at hi; omega
              have hz6 := F5.size
              have hxe : (l.take (n + 1)).filter p = xs ++ [s] := by rw [HG.out.1]; simp
              have HZ := Lib.hid (And.intro hoB (And.intro hF6 (And.intro hw6 hxe)))
              clear hwA F5 hoA hoB hF6 hw6 hxe c5 k5 c0 c1' k0 k1
              generalize w5.setCell ⟨O, 1, none⟩ (.slice a4 (xs.length + 1) c4) = w6 at *
              go_roundw
              case rel =>
                refine ⟨n + 1, a4, c4, by go_num, by omega, ?_, ?_, HZ.out.2.1⟩
                · rw [HZ.out.2.2.2, List.length_append]; exact HZ.out.1
                · rw [HZ.out.2.2.2]
                  have h7 : WinC 4 39 w6 (.slice a4 (xs.length + 1) c4) (fun j => w3.heap.size ≤ j) (xs.length + 1) (xs.flatMap Step.cells ++ [.int .i64 s.at_, .int .i64 s.do_, .int .i64 s.key, .int .i64 s.val]) := winC_mono HZ.out.2.2.1 fun i hi => by
                    rcases hi with hi | hi
                    · exact hi.1
                    · simp at hi; omega
                  simpa [Win, Step.cells] using h7
              case measure => simp [intOf]; omega
            | false =>
              go_wp2
              go_roundw
              case rel =>
                have hxe : (l.take (n + 1)).filter p = xs := by rw [HG.out.1]; simp
                exact ⟨n + 1, a1, c1, by go_num, by omega, by rw [hxe]; exact HG.out.2.2.1, by rw [hxe]; exact HG.out.2.2.2, HG.out.2.1⟩
              case measure => simp [intOf]; omega
      · obtain rfl : n = l.length := by omega
        rw [List.take_length] at hO hw
        have hfl : (l.filter p) = slimOf k l T := by rw [HP.out]; rfl
        have f0 := cell_blk hO 0
        have f1 := cell_blk hO 1
        have hR4 := (hF.block (w.heap.size + 1) (by omega) (by omega)).trans H3.out.2.2.2
        have r0 := cell_blk hR4 0
        have r1 := cell_blk hR4 1
        have k0 := free_blk hR4 0
        have k1 := free_blk hR4 1
        have hBw : Below w.heap.size w wr := H3.out.1.trans (below_of_fr hF H3.out.1.size fun i hi => by omega)
        rw [hfl] at hw f1
        obtain ⟨a9, c9, h9⟩ : ∃ a9 c9, (Value.slice a1 (l.filter p).length c1) = .slice a9 (slimOf k l T).length c9 := ⟨a1, c1, by rw [hfl]⟩
        have hE := line_end (k := k) hBw.size hBw hR4 (by omega) hw (fun i hi => by omega)
        have HE := Lib.hid (hE _ rfl)
        clear hE hBw hR4 hO hw hF h9 hfl
        go_wp2
        have g0 := HE.out.1
        have g1 := HE.out.2.1
        exact bodyPost_ret (v := .tuple #[.agg #[.int .i64 k, .slice a1 (slimOf k l T).length c1], .int .i64 0]) (by simp [results, Try.results28, go_sem, g0, g1]) rfl ⟨_, rfl, HE.out.2.2.1, HE.out.2.2.2⟩
end Go.Proofs.Ytkoeplbkeboklaa
/- The laws' own small functions: In, Out, Line, vals. -/
set_option linter.unusedVariables false
set_option linter.unusedSimpArgs false
namespace Go.Proofs.Ytkoeplbkeboklaa
open Go.RowKit
theorem in_any (x y : Int) (w : World) : Calls Try.prog 37 #[.int .i64 x, .int .i64 y] w fun e w' => e = .returned (.agg #[.int .i64 x, .int .i64 1, .int .i64 0, .int .i64 y]) ∧ Below w.heap.size w w' := by
  have HBL := Lib.hid (fun o => (Below.refl w.heap.size w).alloc (Nat.le_refl _) o)
  go_enter Try.func37, Try.ntmps37
  go_wp2
  exact bodyPost_ret (v := .agg #[.int .i64 x, .int .i64 1, .int .i64 0, .int .i64 y]) (by simp [results, Try.results37, go_sem]) rfl ⟨rfl, HBL.out _⟩
theorem out_any (x : Int) (w : World) : Calls Try.prog 59 #[.int .i64 x] w fun e w' => e = .returned (.agg #[.int .i64 x, .int .i64 2, .int .i64 0, .int .i64 0]) ∧ Below w.heap.size w w' := by
  have HBL := Lib.hid (fun o => (Below.refl w.heap.size w).alloc (Nat.le_refl _) o)
  go_enter Try.func59, Try.ntmps59
  go_wp2
  exact bodyPost_ret (v := .agg #[.int .i64 x, .int .i64 2, .int .i64 0, .int .i64 0]) (by simp [results, Try.results59, go_sem]) rfl ⟨rfl, HBL.out _⟩
def lineS : List Step := [⟨1, 1, 0, 5⟩, ⟨3, 1, 0, 6⟩, ⟨4, 2, 0, 0⟩, ⟨7, 2, 0, 0⟩, ⟨9, 2, 0, 0⟩]
/-- A row that has just been laid. -/
theorem win_new {α : Type} {enc : α → List Value} {k : Nat} (hk : ∀ x, (enc x).length = k) (e : Nat) {w : World} {xs : List α} (b : Nat) (cs : Array Value) (h : w.heap[b]? = some (.cells cs e (0, 0))) (hc : cs.toList = xs.flatMap enc) (hm : xs.length ≤ maxLen) :
    Win enc k e w (.slice (some ⟨b, 0, none⟩) xs.length xs.length) (fun i => i = b) xs := by
  refine ⟨flat_len hk xs, .inr ⟨b, 0, xs.length, cs, rfl, rfl, h, Nat.le_refl _, hm, ?_, ?_⟩⟩
  · rw [← Array.length_toList, hc, flat_len hk]; omega
  · rw [List.drop_zero, hc, ← flat_len hk xs, List.take_length]
theorem named_line {w : World} {X T : Nat} {c0 c1 : Value} (hr : w.heap[X]? = some (.cells #[c0, c1] T (0, 0))) (a b : Value) {G : World → Prop}
    (h : ∀ W, Fr (fun i => i = X) w W → W.heap[X]? = some (.cells #[a, b] T (0, 0)) → W.heap.size = w.heap.size → G W) : G ((w.setCell ⟨X, 0, none⟩ a).setCell ⟨X, 1, none⟩ b) :=
  h _ (stored2 w X a b) (stored2_blk hr a b) (by simp [World.setCell])
set_option maxHeartbeats 2000000 in
theorem line_any (k : Int) (w : World) : Calls Try.prog 36 #[.int .i64 k] w fun e w' => ∃ v, e = .returned (.agg #[.int .i64 k, v]) ∧ Win Step.cells 4 39 w' v (fun i => w.heap.size ≤ i) lineS ∧ Below w.heap.size w w' := by
  have HBL := Lib.hid (fun o => (Below.refl w.heap.size w).alloc (Nat.le_refl _) o)
  go_enter Try.func36, Try.ntmps36
  go_wp2_with fail
  refine named_box1 (G := fun W => Calls _ _ _ W _) w _ _ fun w0 hB0 hz0 hx0 => ?_
  have hz := Nat.le_of_eq hz0.symm
  clear hz0
  have h0 : w.heap.size < w0.heap.size := (Array.getElem?_eq_some_iff.1 hx0).1
  refine (in_any _ _ _).mono ?_
  rintro e w1 ⟨rfl, hb⟩
  have hB1 := hB0.trans (hb.mono (by omega))
  have hx1 := (hb.block _ (by omega)).trans hx0
  clear hb hB0 hx0
  go_wp2_with fail
  have h1 : w.heap.size < w1.heap.size := (Array.getElem?_eq_some_iff.1 hx1).1
  refine (in_any _ _ _).mono ?_
  rintro e w2 ⟨rfl, hb⟩
  have hB2 := hB1.trans (hb.mono (by omega))
  have hx2 := (hb.block _ (by omega)).trans hx1
  clear hb hB1 hx1
  go_wp2_with fail
  have h2 : w.heap.size < w2.heap.size := (Array.getElem?_eq_some_iff.1 hx2).1
  refine (out_any _ _).mono ?_
  rintro e w3 ⟨rfl, hb⟩
  have hB3 := hB2.trans (hb.mono (by omega))
  have hx3 := (hb.block _ (by omega)).trans hx2
  clear hb hB2 hx2
  go_wp2_with fail
  have h3 : w.heap.size < w3.heap.size := (Array.getElem?_eq_some_iff.1 hx3).1
  refine (out_any _ _).mono ?_
  rintro e w4 ⟨rfl, hb⟩
  have hB4 := hB3.trans (hb.mono (by omega))
  have hx4 := (hb.block _ (by omega)).trans hx3
  clear hb hB3 hx3
  go_wp2_with fail
  have h4 : w.heap.size < w4.heap.size := (Array.getElem?_eq_some_iff.1 hx4).1
  refine (out_any _ _).mono ?_
  rintro e w5 ⟨rfl, hb⟩
  have hB5 := hB4.trans (hb.mono (by omega))
  have hx5 := (hb.block _ (by omega)).trans hx4
  clear hb hB4 hx4
  have c0 := cell_blk hx5 0
  have c1 := cell_blk hx5 1
  have k0 := free_blk hx5 0
  have k1 := free_blk hx5 1
  have HB := Lib.hid (And.intro hB5 hx5)
  have h5 : w.heap.size < w5.heap.size := (Array.getElem?_eq_some_iff.1 hx5).1
  clear hB5 hx5
  go_wp2
  refine named_line (G := fun W => bodyPost _ _ _ _ _ (World.alloc W _)) HB.out.2 _ _ fun W hF hX hsz => ?_
  have hb := (HB.out.1).trans (below_of_fr hF (Nat.le_of_lt h5) fun i hi => Nat.le_of_eq hi.symm)
  rw [← hsz]
  have hN := heap_alloc_new W (.cells #[.int .i64 1, .int .i64 1, .int .i64 0, .int .i64 5, .int .i64 3, .int .i64 1, .int .i64 0, .int .i64 6, .int .i64 4, .int .i64 2, .int .i64 0, .int .i64 0, .int .i64 7, .int .i64 2, .int .i64 0, .int .i64 0, .int .i64 9, .int .i64 2, .int .i64 0, .int .i64 0] 39)
  have hO := ((Below.refl W.heap.size W).alloc (Nat.le_refl _) (.cells #[.int .i64 1, .int .i64 1, .int .i64 0, .int .i64 5, .int .i64 3, .int .i64 1, .int .i64 0, .int .i64 6, .int .i64 4, .int .i64 2, .int .i64 0, .int .i64 0, .int .i64 7, .int .i64 2, .int .i64 0, .int .i64 0, .int .i64 9, .int .i64 2, .int .i64 0, .int .i64 0] 39))
  have hX' := (hO.block w.heap.size (by omega)).trans hX
  have g0 := cell_blk hX' 0
  have g1 := cell_blk hX' 1
  have hw := win_new step_len 39 (xs := lineS) _ _ hN rfl (by unfold maxLen; decide)
  exact bodyPost_ret (v := .agg #[.int .i64 k, .slice (some ⟨W.heap.size, 0, none⟩) 5 5]) (by simp [results, Try.results36, go_sem, g0, g1]) rfl ⟨_, rfl, winC_mono hw fun i hi => by have := hb.size; omega, hb.trans (hO.mono hb.size)⟩
set_option maxHeartbeats 2000000 in
theorem vals_any (v : Value) (ns : List Int) (w : World) (hr : Rd cellI 1 w v ns) (hn : ns.length ≤ 1000) : Calls Try.prog 40 #[v] w fun e w' => ∃ v, e = .returned v ∧ Win Pair.cells 2 60 w' v (fun i => w.heap.size ≤ i) (ns.map fun n => ⟨0, n⟩) ∧ Below w.heap.size w w' := by
  obtain ⟨a, c, rfl⟩ : ∃ a c, v = .slice a ns.length c := by obtain ⟨_, a, c, rfl, _⟩ := hr; exact ⟨a, c, rfl⟩
  have HR := Lib.hid hr
  have HB0 := Lib.hid (Below.refl w.heap.size w)
  clear hr
  go_enter Try.func40, Try.ntmps40
  go_wp2
  go_loopw [8, 3] (fun i v W => ∃ (n : Nat) (a1 : Option Addr) (c1 : Nat), i = .int .i64 n ∧ v = .slice a1 n c1 ∧ n ≤ ns.length ∧ WinC 2 60 W (.slice a1 n c1) (fun j => w.heap.size ≤ j) n (((ns.take n).map fun n => (⟨0, n⟩ : Pair)).flatMap Pair.cells) ∧ Below w.heap.size w W) (fun i _ _ => ns.length - (intOf i).toNat)
  case atStart => exact ⟨0, none, 0, rfl, rfl, by omega, winC_nil _ _ _ _, HB0.out⟩
  case round =>
    obtain ⟨n, a1, c1, rfl, rfl, hnl, hw, hB⟩ := hrel
    by_cases hlt : n < ns.length
    · have hx := List.getElem?_eq_getElem hlt
      generalize ns[n] = x at hx
      obtain ⟨b, off, rfl, hbl, hc⟩ := rd_at (HR.out.below hB) hx
      have q0 : wr.cell? ⟨b, off + n * 1, none⟩ = some (.int .i64 x) := hc 0 _ rfl
      rw [Nat.mul_one] at q0
      have hbw := HB0.out.size
      have hs1 := hB.size
      have HX := Lib.hid (And.intro hx (And.intro hw hB))
      clear hx hw hB hc
      go_wp2_with (at_builtin; (refine wpList_append_win _ (by rfl) _ _ _ (by rfl) 60 2 16 _ Try.underlying49 info_pair rfl (by decide) _ _ n _ (by rfl) (winC_move HX.out.2.1 (fr_alloc (fun _ => False) wr _) (fun _ _ h => h)) _ _ _ [.int .i64 0, .int .i64 x] (by rfl) (by rfl) (World.news_of_block (heap_alloc_new wr _)) (by simp [Value.oneCell']) (by decide) (by unfold maxLen; omega) (by omega) ?_); intro v3 w5 hwin3 hfr3 hsz3; obtain ⟨a4, c4, rfl, hn4, hm4⟩ := winC_slice hwin3)
      have F3 : Fr (fun i => some i = (Value.slice a1 n c1).ownBlock) wr w5 := fr_trans (fr_alloc _ wr _) hfr3 fun _ _ h => h
      have hob := winC_ob HX.out.2.1
      go_roundw
      case rel =>
        refine ⟨n + 1, a4, c4, by go_num, rfl, by omega, ?_, HX.out.2.2.trans (below_of_fr F3 hs1 fun i hi => (hob i hi).1)⟩
        have e : ((ns.take (n + 1)).map fun n => (⟨0, n⟩ : Pair)).flatMap Pair.cells = ((ns.take n).map fun n => (⟨0, n⟩ : Pair)).flatMap Pair.cells ++ [.int .i64 0, .int .i64 x] := by
          rw [List.take_add_one, HX.out.1]; simp [Pair.cells]
        rw [e]
        exact winC_mono hwin3 fun i hi => by simp at hi; omega
      case measure => simp [intOf]; omega
    · obtain rfl : n = ns.length := by omega
      rw [List.take_length] at hw
      have HX := Lib.hid (And.intro hw hB)
      clear hw hB
      go_wp2
      go_ret
      exact ⟨_, rfl, by unfold Win; rw [List.length_map]; exact HX.out.1, HX.out.2⟩
end Go.Proofs.Ytkoeplbkeboklaa
/- The plain side of retro: a sorted list of what is held is one. No program in sight. -/
set_option linter.unusedVariables false
set_option linter.unusedSimpArgs false
namespace Go.Proofs.Ytkoeplbkeboklaa
theorem sortH_unique : ∀ {th ss : List Held}, sortH th → ss.Perm th → (ss.Pairwise fun a b => a.key ≤ b.key) → ss = th
  | [], ss, _, hp, _ => List.Perm.eq_nil hp
  | x :: t, [], _, hp, _ => absurd hp.length_eq (by simp)
  | x :: t, y :: s, hs, hp, hq => by
    obtain ⟨h1, h2⟩ := List.pairwise_cons.1 hs
    obtain ⟨h3, h4⟩ := List.pairwise_cons.1 hq
    have hy : y ∈ x :: t := hp.mem_iff.1 (by simp)
    have hx : x ∈ y :: s := hp.mem_iff.2 (by simp)
    have hxy : y = x := by
      rcases List.mem_cons.1 hy with h | h
      · exact h
      · have h5 := h1 y h
        rcases List.mem_cons.1 hx with h' | h'
        · exact h'.symm
        · have := h3 x h'; omega
    subst hxy
    rw [sortH_unique h2 ((List.perm_cons _).1 hp) h4]
end Go.Proofs.Ytkoeplbkeboklaa
/- cmp.Compare at int. -/
set_option linter.unusedVariables false
set_option linter.unusedSimpArgs false
namespace Go.Proofs.Ytkoeplbkeboklaa
open Go.RowKit
def cmpP (a b : Int) : Int := if a < b then -1 else if a > b then 1 else 0
theorem isNaN_any (a : Int) (w : World) : Calls Try.prog 96 #[.int .i64 a] w fun e w' => e = .returned (.bool false) ∧ w = w' := by
  have h : (a != a) = false := by simp
  go_enter Try.func96, Try.ntmps96
  go_wp2
  go_ret
  exact ⟨by simp, rfl⟩
theorem compare_any (a b : Int) (w : World) : Calls Try.prog 86 #[.int .i64 a, .int .i64 b] w fun e w' => e = .returned (.int .i64 (cmpP a b)) ∧ w = w' := by
  unfold cmpP
  by_cases h1 : a < b <;> by_cases h2 : a > b <;>
  (go_enter Try.func86, Try.ntmps86
   go_wp2_with (go_at_call 96; refine (isNaN_any _ _).mono ?_; rintro e w' ⟨rfl, rfl⟩)
   all_goals (first | (exfalso; omega) | (go_ret; exact ⟨by simp [h1, h2], rfl⟩)))
end Go.Proofs.Ytkoeplbkeboklaa
/- The library's sorts and slices.Compact over windows: what they leave behind. -/
set_option linter.unusedVariables false
set_option linter.unusedSimpArgs false
namespace Go.Proofs.Ytkoeplbkeboklaa
open Go.RowKit Go.Shelf Go.Sort

/-! ### permutations -/
theorem perm_map_cons {α β : Type} {f : α → β} {L : List α} {x : β} {R : List β} (h : (L.map f).Perm (x :: R)) : ∃ a L', f a = x ∧ L.Perm (a :: L') ∧ R.Perm (L'.map f) := by
  have hm : x ∈ L.map f := h.mem_iff.2 (by simp)
  obtain ⟨a, ha, rfl⟩ := List.mem_map.1 hm
  obtain ⟨l1, l2, rfl⟩ := List.append_of_mem ha
  have hp : (l1 ++ a :: l2).Perm (a :: (l1 ++ l2)) := List.perm_middle
  exact ⟨a, l1 ++ l2, rfl, hp, (List.perm_cons _).1 (h.symm.trans (hp.map f))⟩
theorem iterOf_perm {w : World} {it r : Nat} {l1 l2 : List (Int × Value)} (h : IterOf w it r l1) (hp : l1.Perm l2) : IterOf w it r l2 := by
  obtain ⟨es, clock, seen, hi, hr, hs, hk, hq⟩ := h
  exact ⟨es, clock, seen, hi, hr, hs, hk, hq.trans (hp.map kvV)⟩

/-! ### worlds -/
theorem heap_mapBlock_other (w : World) (blk : Nat) (f : Array Value → Array Value) {k : Nat} (h : k ≠ blk) : (mapBlock w blk f).heap[k]? = w.heap[k]? := by
  simp only [mapBlock, Array.getElem?_modify]
  rw [if_neg (fun e => h e.symm)]
theorem fr_putRow {α : Type} [Inhabited α] (enc : α → Value) (w : World) (n blk off : Nat) (d : Array α) (os : Array Obj) : Fr (fun i => i = blk) w (grow (putRow enc (Sort.ahead w n) blk off d) os) := by
  refine ⟨rfl, rfl, rfl, ?_, fun k hk hne => ?_⟩
  · rw [size_grow]; simp [putRow, mapBlock, Sort.ahead]
  · rw [heap_grow_old _ _ (by simp [putRow, mapBlock, Sort.ahead]; exact hk)]
    exact heap_mapBlock_other _ _ _ hne
theorem fr_sortK {α : Type} [Inhabited α] (enc : α → List Value) (k : Nat) (w : World) (blk off n : Nat) (d : Array α) (os : Array Obj) : Fr (fun i => i = blk) w (sortWorldK enc k w blk off n d os) := fr_putRow id w n blk off _ os

/-! ### rows -/
theorem holdsK_win {α : Type} [Inhabited α] {enc : α → List Value} {k e : Nat} (hk : ∀ x, (enc x).length = k) {w : World} {b off n c : Nat} {S : Nat → Prop} {xs : List α} (h : Win enc k e w (.slice (some ⟨b, off, none⟩) n c) S xs) (hn : xs.length = n) :
    HoldsK enc k w b off xs.toArray := by
  subst hn
  have hcells := winC_cells h
  have hfr : ∀ j, w.frozen? ⟨b, j, none⟩ = false := by
    rcases h.2 with ⟨hv, _⟩ | ⟨g, o, cap, cur, hv, hS, hg, _⟩
    · simp at hv
    · injection hv with h1 h2 h3
      injection h1 with h1
      injection h1 with h1 h4
      subst h1
      exact fun j => free_blk hg j
  intro j hj
  refine ⟨?_, hfr _⟩
  rw [size_flatK] at hj
  rw [get_flatK enc k _ j hj]
  have hj' : j < xs.length * k := by simpa using hj
  have hk0 : 0 < k := by rcases Nat.eq_zero_or_pos k with h0 | h0; subst h0; simp at hj'; exact h0
  have hq : j / k < xs.length := (Nat.div_lt_iff_lt_mul hk0).2 hj'
  have hr : j % k < k := Nat.mod_lt _ hk0
  have hx : xs[j / k]? = some xs[j / k] := List.getElem?_eq_getElem hq
  have hu : (enc xs[j / k])[j % k]? = some (enc xs[j / k])[j % k]! := by
    rw [List.getElem!_eq_getElem?_getD]
    rw [List.getElem?_eq_getElem (by rw [hk]; exact hr)]
    rfl
  have := flat_get hk xs _ _ hx _ _ hu
  rw [show j / k * k + j % k = j by rw [Nat.mul_comm]; exact Nat.div_add_mod j k] at this
  have h2 := hcells j _ this
  rw [h2]
  simp only [id]
  congr 2
  simp [hq]
theorem rd_holdsK {α : Type} [Inhabited α] {enc : α → List Value} {k : Nat} (hk : ∀ x, (enc x).length = k) {w : World} {b off c : Nat} {d : Array α} (h : HoldsK enc k w b off d) (hb : b < w.heap.size) (hl : d.size ≤ 9223372036854775807) :
    Rd enc k w (.slice (some ⟨b, off, none⟩) d.size c) d.toList := by
  refine ⟨by simpa using hl, some ⟨b, off, none⟩, c, by simp, fun _ => ⟨b, off, rfl, hb, fun i x hx j u hu => ?_⟩⟩
  have hi : i < d.size := by simpa using (List.getElem?_eq_some_iff.1 hx).1
  have hj : j < k := by have := (List.getElem?_eq_some_iff.1 hu).1; rwa [hk] at this
  have := (h.cell hi hj).1
  rw [this]
  have e : d[i]! = x := by
    have : d.toList[i]? = some x := hx
    rw [Array.getElem?_toList] at this
    simp [Array.getElem!_eq_getD, Array.getD_eq_getD_getElem?, this]
  rw [e, List.getElem!_eq_getElem?_getD, hu]
  rfl
end Go.Proofs.Ytkoeplbkeboklaa
/-
  DERIVED: THE SHELF's CONTRACTS AT THIS DUMP, IN PLAIN WORDS (tools/lay-plain.mjs out of 'TryShelf.lean', which tools/lay-shelf.mjs wrote): THE SAME DECLARATIONS UNDER THE SAME NAMES: 'import', 'namespace', 'open', 'def', 'theorem' AND NOTHING ELSE: no command of the shelf's: FOR A HAND-IN. Each laying: the table of numbers ('.._ren') and one theorem, a field a fact of the dump's own or the kernel's comparison; each contract: ONE APPLICATION.
-/
namespace Go.Proofs
open Go.Shelf
def Try.lays189_ren : Go.Shelf.Ren := ⟨fun | 189 => 90 | 125 => 100 | 257 => 99 | 128 => 113 | 129 => 114 | 294 => 104 | 295 => 105 | 296 => 106 | 297 => 107 | 298 => 108 | 299 => 109 | 216 => 110 | 300 => 111 | 301 => 112 | 328 => 116 | 329 => 117 | 330 => 118 | 331 => 119 | 332 => 120 | 215 => 96 | 343 => 129 | n => n, fun | 28 => 102 | 3 => 3 | 46 => 137 | 0 => 0 | 51 => 154 | 53 => 156 | 4 => 4 | 183 => 147 | 182 => 146 | 131 => 92 | 5 => 5 | 9 => 9 | 218 => 158 | 222 => 162 | 228 => 169 | 229 => 170 | n => n, fun | n => n⟩
theorem Try.lays189 : Go.Proofs.Lays.n189 Try.prog Try.lays189_ren := {
  mixed := by kernel_rfl
  f125 := Try.func100.trans (congrArg some (by kernel_rfl))
  f128 := Try.func113.trans (congrArg some (by kernel_rfl))
  f129 := Try.func114.trans (congrArg some (by kernel_rfl))
  f189 := Try.func90.trans (congrArg some (by kernel_rfl))
  f215 := Try.func96.trans (congrArg some (by kernel_rfl))
  f216 := Try.func110.trans (congrArg some (by kernel_rfl))
  f257 := Try.func99.trans (congrArg some (by kernel_rfl))
  f294 := Try.func104.trans (congrArg some (by kernel_rfl))
  f295 := Try.func105.trans (congrArg some (by kernel_rfl))
  f296 := Try.func106.trans (congrArg some (by kernel_rfl))
  f297 := Try.func107.trans (congrArg some (by kernel_rfl))
  f298 := Try.func108.trans (congrArg some (by kernel_rfl))
  f299 := Try.func109.trans (congrArg some (by kernel_rfl))
  f300 := Try.func111.trans (congrArg some (by kernel_rfl))
  f301 := Try.func112.trans (congrArg some (by kernel_rfl))
  f328 := Try.func116.trans (congrArg some (by kernel_rfl))
  f329 := Try.func117.trans (congrArg some (by kernel_rfl))
  f330 := Try.func118.trans (congrArg some (by kernel_rfl))
  f331 := Try.func119.trans (congrArg some (by kernel_rfl))
  f332 := Try.func120.trans (congrArg some (by kernel_rfl))
  f343 := Try.func129.trans (congrArg some (by kernel_rfl))
  t0 := Try.underlying0
  a0 := Try.isAgg0
  z0 := Try.sizeOf0
  v0 := Try.zeroValue0
  t3 := Try.underlying3
  a3 := Try.isAgg3
  z3 := Try.sizeOf3
  v3 := Try.zeroValue3
  t4 := Try.underlying4
  a4 := Try.isAgg4
  z4 := Try.sizeOf4
  v4 := Try.zeroValue4
  t5 := Try.underlying5
  a5 := Try.isAgg5
  z5 := Try.sizeOf5
  v5 := Try.zeroValue5
  t9 := Try.underlying9
  a9 := Try.isAgg9
  z9 := Try.sizeOf9
  v9 := Try.zeroValue9
  t28 := Try.underlying102
  a28 := Try.isAgg102
  z28 := Try.sizeOf102
  v28 := Try.zeroValue102
  t46 := Try.underlying137
  a46 := Try.isAgg137
  z46 := Try.sizeOf137
  v46 := Try.zeroValue137
  t51 := Try.underlying154
  a51 := Try.isAgg154
  z51 := Try.sizeOf154
  v51 := Try.zeroValue154
  t53 := Try.underlying156
  a53 := Try.isAgg156
  z53 := Try.sizeOf156
  v53 := Try.zeroValue156
  t131 := Try.underlying92
  a131 := Try.isAgg92
  z131 := Try.sizeOf92
  v131 := Try.zeroValue92
  t182 := Try.underlying146
  a182 := Try.isAgg146
  z182 := Try.sizeOf146
  v182 := Try.zeroValue146
  t183 := Try.underlying147
  a183 := Try.isAgg147
  z183 := Try.sizeOf147
  v183 := Try.zeroValue147
  t218 := Try.underlying158
  a218 := Try.isAgg158
  z218 := Try.sizeOf158
  v218 := Try.zeroValue158
  t222 := Try.underlying162
  a222 := Try.isAgg162
  z222 := Try.sizeOf162
  v222 := Try.zeroValue162
  t228 := Try.underlying169
  a228 := Try.isAgg169
  z228 := Try.sizeOf169
  v228 := Try.zeroValue169
  t229 := Try.underlying170
  a229 := Try.isAgg170
  z229 := Try.sizeOf170
  v229 := Try.zeroValue170 }
open Go.Sort Go.RowKit in
theorem Try.slices_Sort_int (blk off cap : Nat) (zs : List Int) (w : World) (hH : Holds (Value.int .i64) w blk off zs.toArray) (hblk : blk < w.heap.size) (hsz : zs.length < 4611686018427387904) :
    Calls Try.prog 90 #[.slice (some ⟨blk, off, none⟩) zs.length cap] w fun e w' =>
      e = .returned (.tuple #[]) ∧ ∃ n os, w' = grow (putRow (Value.int .i64) (Sort.ahead w n) blk off (zs.mergeSort fun x y => decide (x ≤ y)).toArray) os := Any.slices_Sort_int Try.lays189 blk off cap zs w hH hblk hsz
def Try.laysNm220_ren : Go.Shelf.Ren := ⟨fun | 20 => 91 | n => n, fun | 22 => 102 | 3 => 3 | 4 => 4 | 0 => 0 | n => n, fun | n => n⟩
theorem Try.laysNm220 : Go.Proofs.Lays2.n20 Try.prog Try.laysNm220_ren := {
  mixed := by kernel_rfl
  f20 := Try.func91.trans (congrArg some (by kernel_rfl))
  t0 := Try.underlying0
  a0 := Try.isAgg0
  z0 := Try.sizeOf0
  v0 := Try.zeroValue0
  t3 := Try.underlying3
  a3 := Try.isAgg3
  z3 := Try.sizeOf3
  v3 := Try.zeroValue3
  t4 := Try.underlying4
  a4 := Try.isAgg4
  z4 := Try.sizeOf4
  v4 := Try.zeroValue4
  t22 := Try.underlying102
  a22 := Try.isAgg102
  z22 := Try.sizeOf102
  v22 := Try.zeroValue102
  i3 := by kernel_rfl }
open Go.RowKit Go.Lib Go.Sort in
/-- slices.Compact at []int: "Compact replaces consecutive runs of equal elements with a single copy. This is like the uniq command found on Unix. Compact modifies the contents of the slice s and returns the modified slice, which may have a smaller length. Compact zeroes the elements between the new length and the original length. The result preserves the nilness of s.": IT RETURNS THE SLICE CUT TO 'Lib.compact zs'; ITS CELLS HOLD 'Lib.compact zs', THEN ZERO VALUES up to the old length; all else is as it was, but for the count of draws. IN THE WORDS OF slices.Sort's CONTRACT ('Holds', 'putRow'): so the everyday 'slices.Sort(xs); xs = slices.Compact(xs)' goes from the one contract to the other. It asks 'zs.length ≤ cap' (every slice's: the reslicing 's[:k]' looks at it). Length 0, nil: '.._empty'. (LAID: no walk: one application.) -/
theorem Try.slices_Compact_int (blk off cap : Nat) (zs : List Int) (w : World) (hH : Holds (Value.int .i64) w blk off zs.toArray) (hsz : zs.length ≤ 9223372036854775807) (hcap : zs.length ≤ cap) :
    Calls Try.prog 91 #[.slice (some ⟨blk, off, none⟩) zs.length cap] w fun e w' => e = .returned (.slice (some ⟨blk, off, none⟩) (Lib.compact zs).length cap) ∧ ∃ q, w' = putRow (Value.int .i64) (Sort.ahead w q) blk off (Lib.compact zs ++ List.replicate (zs.length - (Lib.compact zs).length) 0).toArray := Any.slices_Compact_int Try.laysNm220 blk off cap zs w hH hsz hcap
open Go.RowKit Go.Lib Go.Sort in
/-- The same at a slice of length 0, a nil one too: it comes back as it is. (LAID: no walk: one application.) -/
theorem Try.slices_Compact_int_empty (a : Option Addr) (cap : Nat) (w : World) :
    Calls Try.prog 91 #[.slice a 0 cap] w fun e w' => e = .returned (.slice a 0 cap) ∧ w' = w := Any.slices_Compact_int_empty Try.laysNm220 a cap w
open Go.RowKit Go.Sort in
/-- .. and plain. (LAID: no walk: one application.) -/
theorem Try.slices_Sort_int_none (p : Option Addr) (cap : Nat) (w : World) :
    Calls Try.prog 90 #[.slice p 0 cap] w fun e w' => e = .returned (.tuple #[]) ∧ w' = w := Any.slices_Sort_int_none Try.lays189 p cap w
def Try.sortHeld_ren : Go.Shelf.Ren := ⟨fun | 6 => 101 | 15 => 100 | 14 => 115 | 28 => 113 | 29 => 114 | 20 => 121 | 21 => 122 | 22 => 123 | 23 => 124 | 24 => 125 | 25 => 126 | 26 => 127 | 27 => 128 | 46 => 130 | 47 => 117 | 48 => 118 | 49 => 131 | 50 => 132 | 57 => 133 | n => n, fun | 22 => 130 | 24 => 86 | 25 => 143 | 3 => 3 | 39 => 137 | 0 => 0 | 53 => 154 | 55 => 156 | 4 => 4 | 46 => 147 | 45 => 146 | 50 => 92 | 5 => 5 | 9 => 9 | 66 => 158 | 70 => 162 | 76 => 169 | 77 => 170 | n => n, fun | n => n⟩
theorem Try.sortHeld : Go.Proofs.SlLaysF0.n6 Try.prog Try.sortHeld_ren := {
  mixed := by kernel_rfl
  f6 := ⟨Try.f101.name, by decide, Try.func101.trans (congrArg some (by kernel_rfl))⟩
  f14 := ⟨Try.f115.name, by decide, Try.func115.trans (congrArg some (by kernel_rfl))⟩
  f15 := Try.func100.trans (congrArg some (by kernel_rfl))
  f20 := ⟨Try.f121.name, by decide, Try.func121.trans (congrArg some (by kernel_rfl))⟩
  f21 := ⟨Try.f122.name, by decide, Try.func122.trans (congrArg some (by kernel_rfl))⟩
  f22 := ⟨Try.f123.name, by decide, Try.func123.trans (congrArg some (by kernel_rfl))⟩
  f23 := ⟨Try.f124.name, by decide, Try.func124.trans (congrArg some (by kernel_rfl))⟩
  f24 := ⟨Try.f125.name, by decide, Try.func125.trans (congrArg some (by kernel_rfl))⟩
  f25 := ⟨Try.f126.name, by decide, Try.func126.trans (congrArg some (by kernel_rfl))⟩
  f26 := ⟨Try.f127.name, by decide, Try.func127.trans (congrArg some (by kernel_rfl))⟩
  f27 := ⟨Try.f128.name, by decide, Try.func128.trans (congrArg some (by kernel_rfl))⟩
  f28 := Try.func113.trans (congrArg some (by kernel_rfl))
  f29 := Try.func114.trans (congrArg some (by kernel_rfl))
  f46 := ⟨Try.f130.name, by decide, Try.func130.trans (congrArg some (by kernel_rfl))⟩
  f47 := Try.func117.trans (congrArg some (by kernel_rfl))
  f48 := Try.func118.trans (congrArg some (by kernel_rfl))
  f49 := ⟨Try.f131.name, by decide, Try.func131.trans (congrArg some (by kernel_rfl))⟩
  f50 := ⟨Try.f132.name, by decide, Try.func132.trans (congrArg some (by kernel_rfl))⟩
  f57 := ⟨Try.f133.name, by decide, Try.func133.trans (congrArg some (by kernel_rfl))⟩
  t0 := Try.underlying0
  a0 := Try.isAgg0
  z0 := Try.sizeOf0
  v0 := Try.zeroValue0
  t3 := Try.underlying3
  a3 := Try.isAgg3
  z3 := Try.sizeOf3
  v3 := Try.zeroValue3
  t4 := Try.underlying4
  a4 := Try.isAgg4
  z4 := Try.sizeOf4
  v4 := Try.zeroValue4
  t5 := Try.underlying5
  a5 := Try.isAgg5
  z5 := Try.sizeOf5
  v5 := Try.zeroValue5
  t9 := Try.underlying9
  a9 := Try.isAgg9
  z9 := Try.sizeOf9
  v9 := Try.zeroValue9
  t22 := Try.underlying130
  a22 := Try.isAgg130
  z22 := Try.sizeOf130
  v22 := Try.zeroValue130
  t25 := Try.underlying143
  a25 := Try.isAgg143
  z25 := Try.sizeOf143
  v25 := Try.zeroValue143
  t39 := Try.underlying137
  a39 := Try.isAgg137
  z39 := Try.sizeOf137
  v39 := Try.zeroValue137
  t45 := Try.underlying146
  a45 := Try.isAgg146
  z45 := Try.sizeOf146
  v45 := Try.zeroValue146
  t46 := Try.underlying147
  a46 := Try.isAgg147
  z46 := Try.sizeOf147
  v46 := Try.zeroValue147
  t50 := Try.underlying92
  a50 := Try.isAgg92
  z50 := Try.sizeOf92
  v50 := Try.zeroValue92
  t53 := Try.underlying154
  a53 := Try.isAgg154
  z53 := Try.sizeOf154
  v53 := Try.zeroValue154
  t55 := Try.underlying156
  a55 := Try.isAgg156
  z55 := Try.sizeOf156
  v55 := Try.zeroValue156
  t66 := Try.underlying158
  a66 := Try.isAgg158
  z66 := Try.sizeOf158
  v66 := Try.zeroValue158
  t70 := Try.underlying162
  a70 := Try.isAgg162
  z70 := Try.sizeOf162
  v70 := Try.zeroValue162
  t76 := Try.underlying169
  a76 := Try.isAgg169
  z76 := Try.sizeOf169
  v76 := Try.zeroValue169
  t77 := Try.underlying170
  a77 := Try.isAgg170
  z77 := Try.sizeOf170
  v77 := Try.zeroValue170 }
def Try.growSteps_ren : Go.Shelf.Ren := ⟨fun | 4 => 98 | n => n, fun | 22 => 23 | 25 => 39 | 3 => 3 | 4 => 4 | 9 => 9 | 20 => 20 | 0 => 0 | n => n, fun | n => n⟩
theorem Try.growSteps : Go.Proofs.Lays8.n4 Try.prog Try.growSteps_ren := {
  mixed := by kernel_rfl
  f4 := ⟨Try.f98.name, by decide, Try.func98.trans (congrArg some (by kernel_rfl))⟩
  t0 := Try.underlying0
  a0 := Try.isAgg0
  z0 := Try.sizeOf0
  v0 := Try.zeroValue0
  t3 := Try.underlying3
  a3 := Try.isAgg3
  z3 := Try.sizeOf3
  v3 := Try.zeroValue3
  t4 := Try.underlying4
  a4 := Try.isAgg4
  z4 := Try.sizeOf4
  v4 := Try.zeroValue4
  t9 := Try.underlying9
  a9 := Try.isAgg9
  z9 := Try.sizeOf9
  v9 := Try.zeroValue9
  t20 := Try.underlying20
  a20 := Try.isAgg20
  z20 := Try.sizeOf20
  v20 := Try.zeroValue20
  t22 := Try.underlying23
  a22 := Try.isAgg23
  z22 := Try.sizeOf23
  v22 := Try.zeroValue23 }
def Try.growPairs_ren : Go.Shelf.Ren := ⟨fun | 4 => 95 | n => n, fun | 22 => 49 | 25 => 60 | 3 => 3 | 4 => 4 | 9 => 9 | 20 => 20 | 0 => 0 | 2 => 3 | n => n, fun | n => n⟩
theorem Try.growPairs : Go.Proofs.Lays8.n4 Try.prog Try.growPairs_ren := {
  mixed := by kernel_rfl
  f4 := ⟨Try.f95.name, by decide, Try.func95.trans (congrArg some (by kernel_rfl))⟩
  t0 := Try.underlying0
  a0 := Try.isAgg0
  z0 := Try.sizeOf0
  v0 := Try.zeroValue0
  t3 := Try.underlying3
  a3 := Try.isAgg3
  z3 := Try.sizeOf3
  v3 := Try.zeroValue3
  t4 := Try.underlying4
  a4 := Try.isAgg4
  z4 := Try.sizeOf4
  v4 := Try.zeroValue4
  t9 := Try.underlying9
  a9 := Try.isAgg9
  z9 := Try.sizeOf9
  v9 := Try.zeroValue9
  t20 := Try.underlying20
  a20 := Try.isAgg20
  z20 := Try.sizeOf20
  v20 := Try.zeroValue20
  t22 := Try.underlying49
  a22 := Try.isAgg49
  z22 := Try.sizeOf49
  v22 := Try.zeroValue49 }
end Go.Proofs
/- retro.listed over a map: the walk over the map, the sort by keys. -/
set_option linter.unusedVariables false
set_option linter.unusedSimpArgs false
namespace Go.Proofs.Ytkoeplbkeboklaa
open Go.RowKit Go.Shelf Go.Sort
instance : Inhabited Held := ⟨noneH⟩
theorem closureHeld (x y : Held) (W : World) : Calls Try.prog 102 #[.agg x.cells.toArray, .agg y.cells.toArray] W fun e w' => e = .returned (.int .i64 (cmpP x.key y.key)) ∧ ∃ q os', w' = grow (W.drewN q) os' := by
  show Calls Try.prog 102 #[.agg #[.int .i64 x.key, .int .i64 x.val, .int .i64 x.from_], .agg #[.int .i64 y.key, .int .i64 y.val, .int .i64 y.from_]] W _
  go_enter Try.func102, Try.ntmps102
  go_wp2_with (go_at_call 86; refine (compare_any _ _ _).mono ?_; rintro e w' ⟨rfl, rfl⟩)
  go_ret
  exact ⟨rfl, 0, _, by rw [alloc_eq_grow, alloc_eq_grow, grow_grow]; rfl⟩
theorem ltHeld (x y : Held) : ltOf (fun x y : Held => cmpP x.key y.key) x y = decide (x.key < y.key) := by
  unfold ltOf cmpP
  by_cases h1 : x.key < y.key
  · simp [h1]
  · by_cases h2 : x.key > y.key <;> simp [h1, h2]
theorem swoHeld : SWO (ltOf fun x y : Held => cmpP x.key y.key) where
  irrefl x := by rw [ltHeld]; simp
  trans x y z h1 h2 := by rw [ltHeld] at *; simp at *; omega
  ntrans x y z h1 h2 := by rw [ltHeld] at *; simp at *; omega
theorem held_one (x : Held) : ∀ v ∈ x.cells, v.oneCell' = true := by
  intro v hv
  simp [Held.cells] at hv
  rcases hv with rfl | rfl | rfl <;> rfl
theorem sortHeld_any (a : Option Addr) (c : Nat) (S : Nat → Prop) (got : List Held) (w : World) (hw : Win Held.cells 3 86 w (.slice a got.length c) S got) (hl : got.length < 1000000) :
    Calls Try.prog 101 #[.slice a got.length c, .func (.func 102) #[] #[]] w fun e w' =>
      e = .returned (.tuple #[]) ∧ ∃ ss, ss.Perm got ∧ (ss.Pairwise fun a b => a.key ≤ b.key) ∧ Rd Held.cells 3 w' (.slice a got.length c) ss ∧ Fr (fun i => some i = (Value.slice a got.length c).ownBlock) w w' := by
  cases got with
  | nil =>
    refine (AnyF.slices_SortFunc_none (P := Try.prog) { Try.sortHeld with } a c (.func (.func 102) #[] #[]) w).mono ?_
    rintro e w' ⟨rfl, rfl⟩
    exact ⟨rfl, [], List.Perm.refl _, List.Pairwise.nil, win_rd held_len hw, fr_refl _ _⟩
  | cons h t =>
    obtain ⟨b, off, rfl⟩ : ∃ b off, a = some ⟨b, off, none⟩ := by
      rcases hw.2 with ⟨h1, h2⟩ | ⟨g, off, cap, cur, hv, _⟩
      · simp at h2
      · injection hv with h1; exact ⟨g, off, h1⟩
    have hob : b < w.heap.size := (winC_ob hw b rfl).2
    have hH := holdsK_win held_len hw rfl
    have eg : ∀ args w, (callFunc 102 args).run Try.prog w = .ok (.enter 102 args) w := enters_of Try.func102 (by kernel_rfl) rfl
    have hcon := AnyQ.slices_SortFunc Try.sortHeld 3 Try.isAgg86 Try.sizeOf86 Held.cells held_len held_one (fun x y => cmpP x.key y.key) swoHeld 102 #[] b off c (h :: t).toArray w eg
      (fun _ _ _ _ x y => closureHeld x y _) hH hob (by simp at hl ⊢; omega)
    refine hcon.mono ?_
    rintro e w' ⟨rfl, d', n, os, hp, hs, rfl⟩
    have hsz : d'.size = (h :: t).length := by simpa using hp.1
    have hH2 : HoldsK Held.cells 3 (sortWorldK Held.cells 3 w b off n d' os) b off d' := by
      refine holdsK_grow _ _ _ _ _ _ _ (by simp [putRowK, putRow, mapBlock, Sort.ahead]; exact hob) ?_
      exact holdsK_putRowK _ _ _ _ _ _ _ (holdsK_ahead _ _ _ _ _ _ _ hH) (by simpa using hsz)
    refine ⟨rfl, d'.toList, ?_, ?_, ?_, fr_mono (fr_sortK _ _ _ _ _ _ _ _) fun i hi => by rw [hi]; rfl⟩
    · have := hp.2.2
      rw [show (h :: t).toArray.size = d'.size by simpa using hsz.symm] at this
      have h2 := List.take_of_length_le (l := h :: t) (i := d'.size) (by omega)
      simp only [Array.extract_size, Array.toList_extract, List.extract_eq_take_drop, Nat.sub_zero, List.drop_zero] at this
      rw [h2] at this
      simpa using this
    · refine List.pairwise_iff_getElem.2 fun i j hi hj hij => ?_
      rw [Array.length_toList] at hi hj
      have := hs i j (by omega) hij (by rw [← hp.1]; exact hj)
      rw [ltHeld] at this
      simp [hi, hj] at this
      simpa using this
    · have := rd_holdsK held_len (c := c) hH2 (by simp [sortWorldK, putRowK, putRow, mapBlock, Sort.ahead]; omega) (by omega)
      rwa [hsz] at this
def lenV : Value → Nat
  | .slice _ n _ => n
  | _ => 0
theorem held_agg (h : Held) : (heldKV h).2 = .agg #[.int .i64 h.key, .int .i64 h.val, .int .i64 h.from_] := rfl
set_option maxHeartbeats 4000000 in
theorem listed_table (B : Nat) (S : Nat → Prop) (th : List Held) (w : World) (hl : TableAt w S B th) (hs : sortH th) (hth : th.length < 1000000) :
    Calls Try.prog 94 #[.iface 136 (.map (some B))] w fun e w' => ∃ v, e = .returned v ∧ Win Pair.cells 2 60 w' v (fun i => w.heap.size ≤ i) (th.map pairH) ∧ Below w.heap.size w w' := by
  obtain ⟨hSB, hM⟩ := hl
  obtain ⟨w1, hrun, hit, hF1, hz1⟩ := run_range_of (P := Try.prog) (w := w) (T := 136) Try.underlying136 hM
  have t1 := ta_table_stack (some B)
  have t2 := ta_table_queue (some B)
  have t3 := ta_table_table (some B)
  have hBl : B < w.heap.size := by obtain ⟨es, clock, hb, _⟩ := hM; exact (Array.getElem?_eq_some_iff.1 hb).1
  have hb1 : Below w.heap.size w w1 := below_of_fr hF1 (Nat.le_refl _) fun i hi => hi.elim
  have HI := Lib.hid (And.intro hit (And.intro hb1 hs))
  clear hM hit hF1 hb1 hs hSB
  go_enter Try.func94, Try.ntmps94
  go_wp2
  go_loopw [3] (fun v W => ∃ (got left : List Held) (a1 : Option Addr) (c1 : Nat), v = .slice a1 got.length c1 ∧ (got ++ left).Perm th ∧ IterOf W w.heap.size B (left.map heldKV) ∧ Win Held.cells 3 86 W (.slice a1 got.length c1) (fun j => w.heap.size < j) got ∧ Below w.heap.size w W ∧ w.heap.size < W.heap.size) (fun v _ => th.length - lenV v)
  case atStart => exact ⟨[], th, none, 0, rfl, List.Perm.refl _, HI.out.1, winC_nil _ _ _ _, HI.out.2.1, by omega⟩
  case round =>
    obtain ⟨got, left, aL, cL, rfl, hp, hit, hwin, hB, hlt⟩ := hrel
    have hpl := hp.length_eq
    rw [List.length_append] at hpl
    cases left with
    | nil =>
      have HI2 := Lib.hid hit
      have hwin' := winC_mono hwin (T := fun j => w.heap.size ≤ j) fun i hi => Nat.le_of_lt hi
      have hso := sortHeld_any aL cL (fun j => w.heap.size ≤ j) got wr hwin' (by simp at hpl; omega)
      have HS := Lib.hid (And.intro hso (And.intro hp (And.intro hB (winC_ob hwin))))
      clear hit hwin hwin' hso hp hB
      go_wp2_with (first | (at_next; refine wpList_next_of (by rfl) _ (by rfl) w.heap.size [] (by rfl) HI2.out (fun _ => ?_) (fun k v l' w' hp' => absurd hp'.length_eq (by simp))) | (go_at_call 101; refine HS.out.1.mono ?_; rintro e w5 ⟨rfl, ss, hps, hss, hrd, hF⟩))
      rw [List.append_nil] at HS
      have hst : ss = th := sortH_unique HI.out.2.2 (hps.trans HS.out.2.1) hss
      subst hst
      have hgl : got.length = ss.length := by simpa using hpl
      rw [hgl] at hrd hF ⊢
      have hob : ∀ i, some i = (Value.slice aL got.length cL).ownBlock → w.heap.size ≤ i := fun i hi => Nat.le_of_lt (HS.out.2.2.2 i hi).1
      rw [hgl] at hob
      have HRD := Lib.hid hrd
      have HBL := Lib.hid (HS.out.2.2.1.trans (below_of_fr hF HS.out.2.2.1.size hob))
      clear hrd hF hob hgl hps hss HS HI2 HI hpl
      go_wp2
      go_loopw [44, 9] (fun i v W => ∃ (n : Nat) (a1 : Option Addr) (c1 : Nat), i = .int .i64 n ∧ v = .slice a1 n c1 ∧ n ≤ ss.length ∧ Win Pair.cells 2 60 W (.slice a1 n c1) (fun j => w.heap.size ≤ j ∧ some j ≠ (Value.slice aL ss.length cL).ownBlock) ((ss.take n).map pairH) ∧ Rd Held.cells 3 W (.slice aL ss.length cL) ss ∧ Below w.heap.size w W) (fun i _ _ => ss.length - (intOf i).toNat)
      case atStart => exact ⟨0, none, 0, rfl, rfl, by omega, winC_nil 2 60 _ _, HRD.out, HBL.out⟩
      case round =>
        obtain ⟨n, a1, c1, rfl, rfl, hnl, hwin, hrd, hB⟩ := hrel
        by_cases hlt' : n < ss.length
        · have hx := List.getElem?_eq_getElem hlt'
          generalize ss[n] = h at hx
          obtain ⟨b, off, rfl, hbl, hc⟩ := rd_at hrd hx
          have q0 : wr.cell? ⟨b, off + n * 3, none⟩ = some (.int .i64 h.key) := hc 0 _ rfl
          have q1 := hc 1 _ rfl
          have q2 := hc 2 _ rfl
          clear hc
          have hn1 : ((ss.take n).map pairH).length = n := by simp; omega
          have hW1 : WinC 2 60 wr (.slice a1 n c1) (fun j => (w.heap.size ≤ j ∧ some j ≠ (Value.slice (some ⟨b, off, none⟩) ss.length cL).ownBlock) ∧ j < wr.heap.size) n (((ss.take n).map pairH).flatMap Pair.cells) := by
            have := winC_mono (winC_block hwin) (T := fun j => (w.heap.size ≤ j ∧ some j ≠ (Value.slice (some ⟨b, off, none⟩) ss.length cL).ownBlock) ∧ j < wr.heap.size) fun i hi => hi.2
            rwa [hn1] at this
          have hW2 := fun o1 o2 => winC_move hW1 (fr_of_below (S := fun _ => False) (((Below.refl wr.heap.size wr).alloc (Nat.le_refl _) o1).alloc (by simp) o2)) (fun _ _ h => h)
          have HX := Lib.hid (And.intro hx (And.intro hn1 (And.intro hW1 (And.intro hrd hwin))))
          have HW2 := Lib.hid hW2
          clear hx hn1 hW1 hrd hwin hW2
          go_wp2_with (at_builtin; (refine wpList_append_win _ (by rfl) _ _ _ (by rfl) 60 2 16 _ Try.underlying49 info_pair rfl (by decide) _ _ n _ (by rfl) (HW2.out _ _) _ _ _ [.int .i64 h.key, .int .i64 h.val] (by rfl) (by rfl) (news2 wr _ _ _) (by simp [Value.oneCell']) (by decide) (by unfold maxLen; omega) (by omega) ?_); intro v1 w1 hwin1 hfr1 hsz1; obtain ⟨a2, c2, rfl, hc2, hm2⟩ := winC_slice hwin1)
          have hb1 : Below wr.heap.size wr ((wr.alloc (.cells #[.int .i64 h.key, .int .i64 h.val, .int .i64 h.from_] 86)).alloc (.cells #[.int .i64 h.key, .int .i64 h.val] 60)) := ((Below.refl wr.heap.size wr).alloc (Nat.le_refl _) _).alloc (by simp) _
          have hob : ∀ i, some i = (Value.slice a1 n c1).ownBlock → w.heap.size ≤ i ∧ some i ≠ (Value.slice (some ⟨b, off, none⟩) ss.length cL).ownBlock := fun i hi => (winC_ob HX.out.2.2.1 i hi).1.1
          have hF : Fr (fun i => some i = (Value.slice a1 n c1).ownBlock) wr w1 := fr_trans (fr_of_below hb1) hfr1 fun _ _ h => h
          go_roundw
          case rel =>
            refine ⟨n + 1, a2, c2, by go_num, rfl, by omega, ?_, rd_move HX.out.2.2.2.1 hF (fun i hi h => (hob i h).2 hi), ?_⟩
            · have e1 : ((ss.take (n + 1)).map pairH) = (ss.take n).map pairH ++ [pairH h] := by rw [List.take_add_one, HX.out.1]; simp
              refine (?_ : WinC _ _ _ _ _ _ _)
              rw [e1, List.length_append, HX.out.2.1, List.flatMap_append]
              exact winC_mono hwin1 fun i hi => by
                have hs := hB.size
                rcases hi with hi | hi
                · exact hi.1.1
                · simp at hi
                  refine ⟨by omega, fun e => ?_⟩
                  have : i = b := by simpa [Value.ownBlock] using e
                  omega
            · exact hB.trans (below_of_fr hF hB.size fun i hi => (hob i hi).1)
          case measure => simp [intOf]; omega
        · obtain rfl : n = ss.length := by omega
          go_wp2
          go_ret
          refine ⟨_, rfl, ?_, hB⟩
          rw [List.take_length] at hwin
          exact winC_mono hwin fun i hi => hi.1

    | cons h0 left0 =>
      have HI2 := Lib.hid hit
      have hwin' := winC_mono (winC_block hwin) (T := fun j => w.heap.size < j ∧ j < wr.heap.size) fun i hi => hi.2
      have HS := Lib.hid (And.intro hwin' (And.intro hp (And.intro hB (winC_ob hwin))))
      have hgl : got.length < th.length := by simp at hpl; omega
      clear hit hwin hwin' hp hB hpl
      go_wp2_with (first | (at_next; (refine wpList_next_of (by rfl) _ (by rfl) w.heap.size _ (by rfl) HI2.out (fun h => absurd h (by simp)) ?_; (intro kx vx left' w' hp' hit' hf' hz' hen; obtain ⟨h, L', hkv, hpL, hpR⟩ := perm_map_cons hp'; obtain ⟨rfl, rfl⟩ : kx = h.key ∧ vx = .agg #[.int .i64 h.key, .int .i64 h.val, .int .i64 h.from_] := ⟨(congrArg Prod.fst hkv).symm, (congrArg Prod.snd hkv).symm⟩; have HN := Lib.hid (And.intro (iterOf_perm hit' hpR) (And.intro hf' (And.intro hpL hz'))); clear hp' hit' hf' hkv hpL hpR hz'))) | (at_builtin; (refine wpList_append_win _ (by rfl) _ _ _ (by rfl) 86 3 24 _ Try.underlying130 info_held rfl (by decide) _ _ got.length _ (by rfl) (winC_move (winC_move HS.out.1 HN.out.2.1 (fun i hi h => by omega)) (fr_of_below (S := fun _ => False) (((RowKit.Below.refl w'.heap.size w').alloc (Nat.le_refl _) _).alloc (by simp) _)) (fun _ _ h => h)) _ _ _ [.int .i64 h.key, .int .i64 h.val, .int .i64 h.from_] (by rfl) (by rfl) (news2 w' _ _ _) (by simp [Value.oneCell']) (by decide) (by unfold maxLen; omega) (by omega) ?_); intro v2 w2 hwin2 hfr2 hsz2; obtain ⟨a2, c2, rfl, hn2, hm2⟩ := winC_slice hwin2))
      have hF : Fr (fun i => i = w.heap.size ∨ some i = (Value.slice aL got.length cL).ownBlock) wr w2 := fr_trans (fr_mono HN.out.2.1 fun i hi => .inl hi) (fr_trans (fr_of_below (((RowKit.Below.refl w'.heap.size w').alloc (Nat.le_refl _) _).alloc (by simp) _)) hfr2 fun _ _ h => h) fun i _ h => .inr h
      have hF2 : Fr (fun i => some i = (Value.slice aL got.length cL).ownBlock) w' w2 := fr_trans (fr_of_below (((RowKit.Below.refl w'.heap.size w').alloc (Nat.le_refl _) _).alloc (by simp) _)) hfr2 fun _ _ h => h
      have HZ := Lib.hid (And.intro hF (And.intro hwin2 hF2))
      have hsz := hF.size
      have hz' := HN.out.2.2.2
      clear hF hwin2 hfr2 hF2
      go_roundw
      case rel =>
        refine ⟨got ++ [h], L', a2, c2, by simp, ?_, iterOf_move HN.out.1 HZ.out.2.2 (fun h => by have := (HS.out.2.2.2 _ h).1; omega) (fun h => by have := (HS.out.2.2.2 _ h).1; omega), ?_, HS.out.2.2.1.trans (below_of_fr HZ.out.1 HS.out.2.2.1.size fun i hi => ?_), by omega⟩
        · rw [List.append_assoc]
          exact (List.Perm.append_left got HN.out.2.2.1.symm).trans HS.out.2.1
        · refine (?_ : WinC _ _ _ _ _ _ _)
          rw [List.length_append, List.flatMap_append]
          exact winC_mono HZ.out.2.1 fun i hi => by simp at hi; omega
        · rcases hi with hi | hi
          · omega
          · exact Nat.le_of_lt (HS.out.2.2.2 _ hi).1
      case measure => simp [lenV]; omega
end Go.Proofs.Ytkoeplbkeboklaa
/- retro: what is there at a time. -/
set_option linter.unusedVariables false
set_option linter.unusedSimpArgs false
namespace Go.Proofs.Ytkoeplbkeboklaa
open Go.RowKit
theorem listed_any (k : Int) (S : Nat → Prop) (x : Value) (th : List Held) (w : World) (h : StoreAt k w S x th) (hs : k ≠ 1 → k ≠ 2 → sortH th) (hS : ∀ i, S i → i < w.heap.size) (hth : th.length < 1000000) :
    Calls Try.prog 94 #[x] w fun e w' => ∃ v, e = .returned v ∧ Win Pair.cells 2 60 w' v (fun i => w.heap.size ≤ i) (th.map pairH) ∧ Below w.heap.size w w' := by
  rcases h with ⟨hk, B, rfl, hl⟩ | ⟨hk, B, rfl, hl⟩ | ⟨hk1, hk2, B, rfl, hl⟩
  · exact listed_stack B S th w hl hS hth
  · exact listed_queue B S th w hl hS hth
  · exact listed_table B S th w hl (hs hk1 hk2) hth
set_option maxHeartbeats 2000000 in
theorem there_any (k : Int) (v : Value) (l : List Step) (t : Int) (w : World) (hr : Rd Step.cells 4 w v l) (hl : l.length ≤ 100000) :
    Calls Try.prog 71 #[.agg #[.int .i64 k, v], .int .i64 t] w fun e w' => ∃ v, e = .returned v ∧ Win Pair.cells 2 60 w' v (fun i => w.heap.size ≤ i) (thereP k l t) ∧ Below w.heap.size w w' := by
  obtain ⟨a, c, rfl⟩ : ∃ a c, v = .slice a l.length c := by obtain ⟨_, a, c, rfl, _⟩ := hr; exact ⟨a, c, rfl⟩
  have HR := Lib.hid hr
  clear hr
  go_enter Try.func71, Try.ntmps71
  go_wp2_with (go_at_call 81; refine (empty_any k _).mono ?_; rintro e w1 ⟨x, rfl, hst, hb1⟩; have HST := Lib.hid hst; clear hst; have g1 := below_cell hb1 (World.cell?_alloc_new w #[.int .i64 k, .slice a l.length c] 25 1))
  have hB1 : Below w.heap.size w w1 := ((Below.refl w.heap.size w).alloc (Nat.le_refl _) _).trans (hb1.mono (by simp))
  have hz1 : w.heap.size + 1 ≤ w1.heap.size := by have := hb1.size; simpa using this
  go_loopw [14] (fun i W => ∃ (n : Nat) (S : Nat → Prop), i = .int .i64 n ∧ n ≤ l.length ∧ StoreAt k W S x (runP k t (l.take n)) ∧ (∀ j, S j → w.heap.size ≤ j ∧ j < W.heap.size) ∧ Below w.heap.size w W) (fun i _ => l.length - (intOf i).toNat)
  case atStart => exact ⟨0, _, rfl, by omega, HST.out, fun j hj => ⟨by have := hj.1; simp at this; omega, hj.2⟩, hB1⟩
  case round =>
    obtain ⟨n, S, rfl, hnl, hst, hS, hB⟩ := hrel
    by_cases hlt' : n < l.length
    · have hx := List.getElem?_eq_getElem hlt'
      generalize l[n] = s at hx
      obtain ⟨b, off, rfl, hbl, hc⟩ := rd_at (HR.out.below hB) hx
      have q0 : wr.cell? ⟨b, off + n * 4, none⟩ = some (.int .i64 s.at_) := hc 0 _ rfl
      have q1 := hc 1 _ rfl
      have q2 := hc 2 _ rfl
      have q3 := hc 3 _ rfl
      have hst2 := fun o => storeAt_move hst (fr_alloc (fun _ => False) wr o) (fun _ _ h => h)
      have hlen := runP_length k t l n
      obtain ⟨f, args, hm, hcall⟩ := do_any k S x (runP k t (l.take n)) s _ (hst2 (.cells #[.int .i64 s.at_, .int .i64 s.do_, .int .i64 s.key, .int .i64 s.val] 39)) (fun i hi => by have := (hS i hi).2; simp; omega) (by omega)
      have HX := Lib.hid (And.intro hx (And.intro hst (And.intro hm hcall)))
      have HS := Lib.hid hS
      clear hc hx hst hst2 hm hcall hlen hS g1
      by_cases hat : s.at_ ≤ t
      · go_wp2_with (refine wpList_invoke (by rfl) _ _ _ _ (by rfl) x _ (by rfl) (by rfl) f args HX.out.2.2.1 HX.out.2.2.2 ?_; rintro e w2 ⟨rfl, S2, hst2, hS2, hF2⟩; refine ⟨_, rfl, ?_⟩)
        go_roundw
        case rel =>
          refine ⟨n + 1, S2, by go_num, by omega, by rw [runP_take HX.out.1, stepT, if_pos hat]; exact hst2, fun j hj => ⟨?_, (hS2 j hj).2⟩, ?_⟩
          · rcases (hS2 j hj).1 with h | h
            · exact (HS.out j h).1
            · have := hB.size; simp at h; omega
          · exact (hB.alloc hB.size _).trans (below_of_fr hF2 (by have := hB.size; simp; omega) fun i hi => (HS.out i hi).1)
        case measure => simp [intOf]; omega
      · go_wp2
        go_roundw
        case rel => exact ⟨n + 1, S, by go_num, by omega, by rw [runP_take HX.out.1, stepT, if_neg hat]; exact storeAt_move HX.out.2.1 (fr_alloc (fun _ => False) wr _) (fun _ _ h => h), fun j hj => ⟨(HS.out j hj).1, by have := (HS.out j hj).2; simp; omega⟩, hB.alloc hB.size _⟩
        case measure => simp [intOf]; omega
    · obtain rfl : n = l.length := by omega
      go_wp2_with (go_at_call 94; refine (listed_any k S x _ _ hst (fun h1 h2 => runP_sort h1 h2 _) (fun i hi => (hS i hi).2) (by have := runP_length k t l l.length; omega)).mono ?_; rintro e w2 ⟨v2, rfl, hw2, hb2⟩)
      go_ret
      refine ⟨_, rfl, ?_, hB.trans (hb2.mono hB.size)⟩
      rw [List.take_length] at hw2
      exact winC_mono hw2 fun i hi => Nat.le_trans hB.size hi
end Go.Proofs.Ytkoeplbkeboklaa
/- retro.done: the iterator over a line's steps, each with what it takes away. -/
set_option linter.unusedVariables false
set_option linter.unusedSimpArgs false
namespace Go.Proofs.Ytkoeplbkeboklaa
open Go.RowKit Go.Shelf
attribute [local go_sem] Oper.semAt_some
def thP (k : Int) (l : List Step) (n : Nat) : List Held := (l.take n).foldl (fun th s => (doP k th s).1) []
theorem thP_succ {k : Int} {l : List Step} {n : Nat} {s : Step} (h : l[n]? = some s) : thP k l (n + 1) = (doP k (thP k l n) s).1 := by
  rw [thP, thP, List.take_add_one, h, List.foldl_append]; rfl
theorem thP_length (k : Int) (l : List Step) (n : Nat) : (thP k l n).length ≤ n := by
  induction n with
  | zero => simp [thP]
  | succ n ih =>
    cases h : l[n]? with
    | none => rw [thP, List.take_add_one, h]; simp; exact Nat.le_succ_of_le ih
    | some s => rw [thP_succ h]; have := doP_length k (thP k l n) s; omega
theorem drew_size0 (w : World) : w.drew.heap.size = w.heap.size := rfl
theorem uponIn_of_run {F : Fence} {n : Nat} {P : Program} {o : Oper} {a : Act} {next : Act → World → Prop} {Q : Exit → Act → World → Prop} {c : Sem Next} {w w' : World} {f : FuncId} {args : Array Value} (h : c.run P w = .ok (.enter f args) w')
    (h2 : (F.depth.isSome = true → 1 ≤ n) ∧ CallsIn F (n - 1) P f args w' fun
      | .returned v, w'' => next (a.put o.dst v) w''
      | .panicked chain, w'' => Q (.panic chain) a w''
      | .outgrown, _ => LetsOut Q) : o.uponIn F n P a next Q (c.run P w) := by
  rw [h]; exact h2
theorem done_any (k : Int) (v : Value) (w : World) : Calls Try.prog 57 #[.agg #[.int .i64 k, v]] w fun e w' => e = .returned (.func (.func 80) #[] #[.pointer (some ⟨w.heap.size, 0, none⟩)]) ∧ w.alloc (.cells #[.int .i64 k, v] 25) = w' := by
  go_enter Try.func57, Try.ntmps57
  go_wp2
  go_ret
  exact ⟨rfl, rfl⟩
set_option maxHeartbeats 4000000 in
theorem done1_in (n L Bn : Nat) (k : Int) (a : Option Addr) (c : Nat) (l : List Step) (hl : l.length ≤ 100000) (W0 : World) (M : Nat → Prop) (J : Nat → (Nat → Prop) → World → Prop)
    (hline : W0.heap[Bn]? = some (.cells #[.int .i64 k, .slice a l.length c] 25 (0, 0))) (hr : Rd Step.cells 4 W0 (.slice a l.length c) l) (hMB : ¬ M Bn) (hMv : ∀ i, some i = (Value.slice a l.length c).ownBlock → l = [] ∨ ¬ M i)
    (h0 : J 0 (fun _ => False) W0)
    (hmine : ∀ i S S' W W1, J i S W → Fr S W W1 → (∀ j, S' j → S j ∨ W.heap.size ≤ j) → (∀ j, S j → W0.heap.size ≤ j) → J i S' W1)
    (hY : ∀ i s S W, l[i]? = some s → J i S W → (∀ j, S j → W0.heap.size ≤ j ∧ j < W.heap.size) → W0.heap.size ≤ W.heap.size → YieldAt Fence.wide n Try.prog L #[.agg #[.int .i64 s.at_, .int .i64 s.do_, .int .i64 s.key, .int .i64 s.val], .agg #[.int .i64 (doP k (thP k l i) s).2.key, .int .i64 (doP k (thP k l i) s).2.val, .int .i64 (doP k (thP k l i) s).2.from_]] W fun e W' => e = .returned (.bool true) ∧ J (i + 1) S W' ∧ Fr (fun j => ¬ S j ∧ (M j ∨ W0.heap.size ≤ j)) W W') :
    CallsIn Fence.wide (n + 1) Try.prog 80 #[.func (.yield L) #[] #[], .pointer (some ⟨Bn, 0, none⟩)] W0 fun e W' => (∃ v, e = .returned v) ∧ ∃ S, J l.length S W' ∧ (∀ j, S j → W0.heap.size ≤ j) ∧ W0.heap.size ≤ W'.heap.size := by
  have HR := Lib.hid (And.intro hr (And.intro hmine hY))
  have HJ := Lib.hid h0
  have b0 : W0.cell? ⟨Bn, 0, none⟩ = some (.int .i64 k) := cell_blk hline 0
  have b1 : W0.cell? ⟨Bn, 1, none⟩ = some (.slice a l.length c) := cell_blk hline 1
  clear hr hmine hY h0 hline
  have hF : Fence.wide.fn 81 := trivial
  refine callsIn_of_wp Try.func80 rfl trivial ?_ rfl
  simp only [Try.ntmps80, List.size_toArray, List.length_cons, List.length_nil, Nat.reduceAdd, Nat.reduceSub, Array.replicate_succ, Array.replicate_zero, List.push_toArray, List.append_toArray, List.nil_append, List.cons_append]
  gi_wp2_with ((gi_at_call 81; refine (callsIn_wide.2 (empty_any k _)).mono ?_; rintro e w1 ⟨x, rfl, hst, hb1⟩; have HST := Lib.hid hst; clear hst; have g1 := below_cell hb1 b1))
  have hz1 := hb1.size
  have HB1 := Lib.hid hb1
  clear hb1 b0 b1
  gi_loopw [12] (fun i W => ∃ (m : Nat) (S : Nat → Prop), i = .int .i64 m ∧ m ≤ l.length ∧ StoreAt k W S x (thP k l m) ∧ (∀ j, S j → W0.heap.size ≤ j ∧ j < W.heap.size) ∧ J m S W ∧ Fr (fun j => M j) W0 W) (fun i _ => l.length - (intOf i).toNat)
  case atStart => exact ⟨0, _, rfl, by omega, HST.out, fun j hj => hj, HR.out.2.1 0 _ _ _ _ HJ.out (fr_of_below HB1.out) (fun j hj => .inr hj.1) (fun j hj => hj.elim), fr_of_below HB1.out⟩
  case round =>
    obtain ⟨m, S, rfl, hml, hst, hS, hJ, hF⟩ := hrel
    by_cases hlt : m < l.length
    · have hx := List.getElem?_eq_getElem hlt
      generalize l[m] = s at hx
      have hrd := rd_move HR.out.1 hF fun i hi => (hMv i hi).resolve_left fun h => by subst h; simp at hlt
      obtain ⟨b, off, rfl, hbl, hc⟩ := rd_at hrd hx
      have q0 : wr.cell? ⟨b, off + m * 4, none⟩ = some (.int .i64 s.at_) := hc 0 _ rfl
      have q1 := hc 1 _ rfl
      have q2 := hc 2 _ rfl
      have q3 := hc 3 _ rfl
      have HX := Lib.hid (And.intro hx (And.intro hst (And.intro hS (And.intro hJ hF))))
      clear hx hst hS hJ hF hrd hc
      gi_wp2
      refine named_box wr _ _ fun W1 hbx hzx hx1 => ?_
      have m0 : W1.cell? ⟨wr.heap.size, 0, none⟩ = some (.int .i64 s.at_) := hx1 0
      have m1 : W1.cell? ⟨wr.heap.size, 1, none⟩ = some (.int .i64 s.do_) := hx1 1
      have m2 : W1.cell? ⟨wr.heap.size, 2, none⟩ = some (.int .i64 s.key) := hx1 2
      have m3 : W1.cell? ⟨wr.heap.size, 3, none⟩ = some (.int .i64 s.val) := hx1 3
      have hB1 : Below wr.heap.size wr W1.drew := hbx.drew
      have hst1 := storeAt_move HX.out.2.1 (fr_of_below (S := fun _ => False) hB1) (fun _ _ h => h)
      have hlen := thP_length k l m
      obtain ⟨f, args, hm, hcall⟩ := do_any k S x (thP k l m) s W1.drew hst1 (fun i hi => by have := (HX.out.2.2.1 i hi).2; rw [drew_size0]; omega) (by omega)
      have HD := Lib.hid (And.intro hB1 hcall)
      have mixed : (Try.prog).follows .mixedOrders = true := by kernel_rfl
      clear hbx hx1 q0 q1 q2 q3 hst1 hcall hB1
      set_option maxRecDepth 100000 in
      gi_region_with_o (first | (refine ⟨fun _ _ => trivial, ?_⟩; go_loud ( refine uponIn_of_run (hm _) ⟨fun h => by simp [Fence.wide] at h, ?_⟩; refine (callsIn_wide.2 HD.out.2).mono ?_; rintro e w2 ⟨rfl, S2, hst2, hS2, hF2⟩; have hs2 := hF2.size; rw [drew_size0] at hs2; have m0' := fr_cell hF2 (show W1.drew.cell? ⟨wr.heap.size, 0, none⟩ = _ from m0) (fun h => by have := (HX.out.2.2.1 _ h).2; simp at this); have m1' := fr_cell hF2 (show W1.drew.cell? ⟨wr.heap.size, 1, none⟩ = _ from m1) (fun h => by have := (HX.out.2.2.1 _ h).2; simp at this); have m2' := fr_cell hF2 (show W1.drew.cell? ⟨wr.heap.size, 2, none⟩ = _ from m2) (fun h => by have := (HX.out.2.2.1 _ h).2; simp at this); have m3' := fr_cell hF2 (show W1.drew.cell? ⟨wr.heap.size, 3, none⟩ = _ from m3) (fun h => by have := (HX.out.2.2.1 _ h).2; simp at this); have hFw : Fr S wr w2 := fr_trans (fr_of_below HD.out.1) hF2 fun _ _ h => h; have hS2' : ∀ j, S2 j → S j ∨ wr.heap.size ≤ j := fun j hj => (by rcases (hS2 j hj).1 with h | h; exact .inl h; rw [drew_size0] at h; exact .inr (by omega)); have hJ2 := HR.out.2.1 m S S2 wr w2 HX.out.2.2.2.1 hFw hS2' (fun j hj => (HX.out.2.2.1 j hj).1); obtain ⟨fn, tmps, assign, body, hy, hR⟩ := HR.out.2.2 m s S2 w2 HX.out.1 hJ2 (fun j hj => ⟨(by have hsw := HX.out.2.2.2.2.size; rcases hS2' j hj with h | h; exact (HX.out.2.2.1 j h).1; omega), (hS2 j hj).2⟩) (by have := HX.out.2.2.2.2.size; omega); have H2 := Lib.hid (And.intro hst2 (And.intro hS2 (And.intro hFw hS2'))); clear hst2 hS2 hFw hS2' hJ2)) | (refine hR.mono ?_; rintro e w3 ⟨rfl, hJ3, hF3⟩) | fail)
      all_goals
        have hFa : Fr (fun j => M j) W0 w3 := fr_trans (fr_trans HX.out.2.2.2.2 H2.out.2.2.1 fun i hi h => absurd (HX.out.2.2.1 i h).1 (by omega)) hF3 fun i hi h => h.2.elim id fun h => absurd h (by omega)
        have hs3 := hF3.size
        have HZ := Lib.hid (And.intro hFa (And.intro (storeAt_move H2.out.1 hF3 fun i hi h => h.1 hi) hJ3))
        clear hFa hF3 hJ3
        gi_wp2
        go_roundw
        case rel =>
          refine ⟨m + 1, S2, by go_num, by omega, by rw [thP_succ HX.out.1]; exact HZ.out.2.1, fun j hj => ⟨?_, by have := (H2.out.2.1 j hj).2; omega⟩, HZ.out.2.2, HZ.out.1⟩
          have hsw := HX.out.2.2.2.2.size
          rcases H2.out.2.2.2 j hj with h | h
          · exact (HX.out.2.2.1 j h).1
          · omega
        case measure => simp [intOf]; omega
    · obtain rfl : m = l.length := by omega
      have HZ := Lib.hid (And.intro hJ (And.intro hS hF.size))
      clear hst hS hJ hF
      gi_wp2
      go_end0
      exact ⟨⟨_, rfl⟩, S, HZ.out.1, fun j hj => (HZ.out.2.1 j hj).1, HZ.out.2.2⟩
end Go.Proofs.Ytkoeplbkeboklaa
/- slices.Grow of nil, slices.Concat of two lists: steps, pairs. -/
set_option linter.unusedVariables false
set_option linter.unusedSimpArgs false
namespace Go.Proofs.Ytkoeplbkeboklaa
open Go.RowKit Go.Shelf
theorem pair_one (x : Pair) : ∀ u ∈ x.cells, u.oneCell' = true := by simp [Pair.cells, Value.oneCell']
theorem stepsGrow_nil (n : Nat) (w : World) (hn : n ≤ 1000000) :
    Calls Try.prog 98 #[.slice none 0 0, .int .i64 n] w fun e w' => ∃ a c, e = .returned (.slice a 0 c) ∧ WinC 4 39 w' (.slice a 0 c) (fun i => w.heap.size ≤ i) 0 [] ∧ Below w.heap.size w w' := by
  by_cases h0 : n = 0
  · subst h0
    refine (Any8.slices_Grow_room Try.growSteps none 0 0 0 w (by omega) (by omega) (by omega) (by omega)).mono ?_
    rintro e w' ⟨rfl, rfl⟩
    exact ⟨none, 0, rfl, winC_nil _ _ _ _, Below.refl _ _⟩
  · obtain ⟨i0, hi0, hz⟩ := Option.map_eq_some_iff.1 info_step
    simp only [Prod.mk.injEq] at hz
    refine (Any8.slices_Grow_grow Try.growSteps i0 _ hi0 hz.1 (by rw [hz.2.1]; omega) none 0 0 n [] w (by omega) (by omega) (by rw [hz.2.2]; omega) (by omega) (by simp) (fun _ => rfl) (fun a h => by cases h)).mono ?_
    rintro e w' ⟨rfl, rfl⟩
    have hge := grownCap_ge w (0 + n) 0 39
    have hle := grownCap_le_maxLen w (0 + n) 0 39 (by unfold maxLen; omega)
    refine ⟨_, _, rfl, ⟨by simp, .inr ⟨w.heap.size, 0, _, _, rfl, Nat.le_refl _, heap_alloc_new w.drew _, by omega, hle, ?_, by simp⟩⟩, (Below.refl _ _).drew.alloc (Nat.le_refl _) _⟩
    have e1 : (Try.growSteps_ren).t 25 = 39 := rfl
    simp only [Array.size_append, size_zeroCells, List.size_toArray, List.length_nil, e1, Value.cells]
    simp
    omega
set_option maxHeartbeats 4000000 in
theorem stepsConcat_any (B : Nat) (v1 v2 : Value) (xs ys : List Step) (w : World) (h1 : Rd Step.cells 4 w v1 xs) (h2 : Rd Step.cells 4 w v2 ys) (c1 : w.cell? ⟨B, 0, none⟩ = some v1) (c2 : w.cell? ⟨B, 1, none⟩ = some v2) (hx : xs.length ≤ 100000) (hy : ys.length ≤ 100000) :
    Calls Try.prog 89 #[.slice (some ⟨B, 0, none⟩) 2 2] w fun e w' => ∃ v, e = .returned v ∧ Win Step.cells 4 39 w' v (fun i => w.heap.size ≤ i) (xs ++ ys) ∧ Below w.heap.size w w' := by
  obtain ⟨a1, k1, rfl⟩ : ∃ a c, v1 = .slice a xs.length c := by obtain ⟨_, a, c, rfl, _⟩ := h1; exact ⟨a, c, rfl⟩
  obtain ⟨a2, k2, rfl⟩ : ∃ a c, v2 = .slice a ys.length c := by obtain ⟨_, a, c, rfl, _⟩ := h2; exact ⟨a, c, rfl⟩
  have HR := Lib.hid (And.intro (rdC_of_rd step_len (by decide) step_one h1) (rdC_of_rd step_len (by decide) step_one h2))
  have HG := Lib.hid (fun W => stepsGrow_nil (xs.length + ys.length) W (by omega))
  have m1 : ¬ ((xs.length : Int) < 0) := by omega
  have m2 : ¬ ((xs.length : Int) + (ys.length : Int) < 0) := by omega
  have m3 : IntKind.i64.wrap ((xs.length : Int) + (ys.length : Int)) = (xs.length : Int) + (ys.length : Int) := Go.IntWalk.i64_in _ (by omega)
  have m4 : ((xs.length + ys.length : Nat) : Int) = (xs.length : Int) + (ys.length : Int) := by omega
  rw [m4] at HG
  clear h1 h2 m4
  go_enter Try.func89, Try.ntmps89
  go_wp2
  refine wp_loop_rounds 3 ?_
  rw [rounds_succ]
  go_wp2
  rw [rounds_succ]
  go_wp2
  rw [rounds_succ]
  go_wp2_with (go_at_call 98; refine (HG.out _).mono ?_; rintro e w1 ⟨ga, gc, rfl, hw1, hb1⟩)
  have d1 := below_cell hb1 c1
  have d2 := below_cell hb1 c2
  refine wp_loop_rounds 3 ?_
  rw [rounds_succ]
  go_wp2_with (at_builtin; (refine wpList_append_rd w1 (by rfl) _ _ _ (by rfl) 39 4 32 _ Try.underlying23 info_step rfl (by decide) _ _ 0 [] (by rfl) _ (by rfl) hw1 xs.length _ (rdC_below HR.out.1 hb1) (by unfold maxLen; omega) (by omega) ?_); intro v2 w2 hwin2 hfr2 hsz2; simp only [Nat.zero_add, List.nil_append] at hwin2; obtain ⟨g2, gc2, rfl, hn2, hm2⟩ := winC_slice hwin2)
  have hob1 := winC_ob hw1
  have hb2 : Below w.heap.size w w2 := hb1.trans (below_of_fr hfr2 hb1.size fun i hi => (hob1 i hi).1)
  have e2 := below_cell hb2 c2
  have e1 := below_cell hb2 c1
  rw [rounds_succ]
  go_wp2_with (at_builtin; (refine wpList_append_rd w2 (by rfl) _ _ _ (by rfl) 39 4 32 _ Try.underlying23 info_step rfl (by decide) _ _ xs.length _ (by rfl) _ (by rfl) hwin2 ys.length _ (rdC_below HR.out.2 hb2) (by unfold maxLen; omega) (by omega) ?_); intro v3 w3 hwin3 hfr3 hsz3; obtain ⟨g3, gc3, rfl, hn3, hm3⟩ := winC_slice hwin3)
  have hob2 := winC_ob hwin2
  have s2 := hfr2.size
  have s1 := hb1.size
  have hz2 : w.heap.size ≤ w2.heap.size := by omega
  have hob2' : ∀ i, some i = (Value.slice g2 xs.length gc2).ownBlock → w.heap.size ≤ i := fun i hi => by have := hob2 i hi; first | omega | (simp at this; omega)
  have hb3 : Below w.heap.size w w3 := hb2.trans (below_of_fr hfr3 hz2 hob2')
  have HW := Lib.hid (And.intro hwin3 hb3)
  clear hwin2 hwin3 hfr2 hfr3 hb1 hb2 hb3 hob1 hob2 hob2' hw1
  rw [rounds_succ]
  go_wp2
  go_ret
  refine ⟨_, rfl, ?_, HW.out.2⟩
  refine (?_ : WinC _ _ _ _ _ _ _)
  rw [List.length_append, List.flatMap_append]
  exact winC_mono HW.out.1 fun i hi => by first | omega | (simp at hi; omega)

theorem pairsGrow_nil (n : Nat) (w : World) (hn : n ≤ 1000000) :
    Calls Try.prog 95 #[.slice none 0 0, .int .i64 n] w fun e w' => ∃ a c, e = .returned (.slice a 0 c) ∧ WinC 2 60 w' (.slice a 0 c) (fun i => w.heap.size ≤ i) 0 [] ∧ Below w.heap.size w w' := by
  by_cases h0 : n = 0
  · subst h0
    refine (Any8.slices_Grow_room Try.growPairs none 0 0 0 w (by omega) (by omega) (by omega) (by omega)).mono ?_
    rintro e w' ⟨rfl, rfl⟩
    exact ⟨none, 0, rfl, winC_nil _ _ _ _, Below.refl _ _⟩
  · obtain ⟨i0, hi0, hz⟩ := Option.map_eq_some_iff.1 info_pair
    simp only [Prod.mk.injEq] at hz
    refine (Any8.slices_Grow_grow Try.growPairs i0 _ hi0 hz.1 (by rw [hz.2.1]; omega) none 0 0 n [] w (by omega) (by omega) (by rw [hz.2.2]; omega) (by omega) (by simp) (fun _ => rfl) (fun a h => by cases h)).mono ?_
    rintro e w' ⟨rfl, rfl⟩
    have hge := grownCap_ge w (0 + n) 0 60
    have hle := grownCap_le_maxLen w (0 + n) 0 60 (by unfold maxLen; omega)
    refine ⟨_, _, rfl, ⟨by simp, .inr ⟨w.heap.size, 0, _, _, rfl, Nat.le_refl _, heap_alloc_new w.drew _, by omega, hle, ?_, by simp⟩⟩, (Below.refl _ _).drew.alloc (Nat.le_refl _) _⟩
    have e1 : (Try.growPairs_ren).t 25 = 60 := rfl
    simp only [Array.size_append, size_zeroCells, List.size_toArray, List.length_nil, e1, Value.cells]
    simp
    omega
set_option maxHeartbeats 4000000 in
theorem pairsConcat_any (B : Nat) (v1 v2 : Value) (xs ys : List Pair) (w : World) (h1 : Rd Pair.cells 2 w v1 xs) (h2 : Rd Pair.cells 2 w v2 ys) (c1 : w.cell? ⟨B, 0, none⟩ = some v1) (c2 : w.cell? ⟨B, 1, none⟩ = some v2) (hx : xs.length ≤ 100000) (hy : ys.length ≤ 100000) :
    Calls Try.prog 76 #[.slice (some ⟨B, 0, none⟩) 2 2] w fun e w' => ∃ v, e = .returned v ∧ Win Pair.cells 2 60 w' v (fun i => w.heap.size ≤ i) (xs ++ ys) ∧ Below w.heap.size w w' := by
  obtain ⟨a1, k1, rfl⟩ : ∃ a c, v1 = .slice a xs.length c := by obtain ⟨_, a, c, rfl, _⟩ := h1; exact ⟨a, c, rfl⟩
  obtain ⟨a2, k2, rfl⟩ : ∃ a c, v2 = .slice a ys.length c := by obtain ⟨_, a, c, rfl, _⟩ := h2; exact ⟨a, c, rfl⟩
  have HR := Lib.hid (And.intro (rdC_of_rd pair_len (by decide) pair_one h1) (rdC_of_rd pair_len (by decide) pair_one h2))
  have HG := Lib.hid (fun W => pairsGrow_nil (xs.length + ys.length) W (by omega))
  have m1 : ¬ ((xs.length : Int) < 0) := by omega
  have m2 : ¬ ((xs.length : Int) + (ys.length : Int) < 0) := by omega
  have m3 : IntKind.i64.wrap ((xs.length : Int) + (ys.length : Int)) = (xs.length : Int) + (ys.length : Int) := Go.IntWalk.i64_in _ (by omega)
  have m4 : ((xs.length + ys.length : Nat) : Int) = (xs.length : Int) + (ys.length : Int) := by omega
  rw [m4] at HG
  clear h1 h2 m4
  go_enter Try.func76, Try.ntmps76
  go_wp2
  refine wp_loop_rounds 3 ?_
  rw [rounds_succ]
  go_wp2
  rw [rounds_succ]
  go_wp2
  rw [rounds_succ]
  go_wp2_with (go_at_call 95; refine (HG.out _).mono ?_; rintro e w1 ⟨ga, gc, rfl, hw1, hb1⟩)
  have d1 := below_cell hb1 c1
  have d2 := below_cell hb1 c2
  refine wp_loop_rounds 3 ?_
  rw [rounds_succ]
  go_wp2_with (at_builtin; (refine wpList_append_rd w1 (by rfl) _ _ _ (by rfl) 60 2 16 _ Try.underlying49 info_pair rfl (by decide) _ _ 0 [] (by rfl) _ (by rfl) hw1 xs.length _ (rdC_below HR.out.1 hb1) (by unfold maxLen; omega) (by omega) ?_); intro v2 w2 hwin2 hfr2 hsz2; simp only [Nat.zero_add, List.nil_append] at hwin2; obtain ⟨g2, gc2, rfl, hn2, hm2⟩ := winC_slice hwin2)
  have hob1 := winC_ob hw1
  have hb2 : Below w.heap.size w w2 := hb1.trans (below_of_fr hfr2 hb1.size fun i hi => (hob1 i hi).1)
  have e2 := below_cell hb2 c2
  have e1 := below_cell hb2 c1
  rw [rounds_succ]
  go_wp2_with (at_builtin; (refine wpList_append_rd w2 (by rfl) _ _ _ (by rfl) 60 2 16 _ Try.underlying49 info_pair rfl (by decide) _ _ xs.length _ (by rfl) _ (by rfl) hwin2 ys.length _ (rdC_below HR.out.2 hb2) (by unfold maxLen; omega) (by omega) ?_); intro v3 w3 hwin3 hfr3 hsz3; obtain ⟨g3, gc3, rfl, hn3, hm3⟩ := winC_slice hwin3)
  have hob2 := winC_ob hwin2
  have s2 := hfr2.size
  have s1 := hb1.size
  have hz2 : w.heap.size ≤ w2.heap.size := by omega
  have hob2' : ∀ i, some i = (Value.slice g2 xs.length gc2).ownBlock → w.heap.size ≤ i := fun i hi => by have := hob2 i hi; first | omega | (simp at this; omega)
  have hb3 : Below w.heap.size w w3 := hb2.trans (below_of_fr hfr3 hz2 hob2')
  have HW := Lib.hid (And.intro hwin3 hb3)
  clear hwin2 hwin3 hfr2 hfr3 hb1 hb2 hb3 hob1 hob2 hob2' hw1
  rw [rounds_succ]
  go_wp2
  go_ret
  refine ⟨_, rfl, ?_, HW.out.2⟩
  refine (?_ : WinC _ _ _ _ _ _ _)
  rw [List.length_append, List.flatMap_append]
  exact winC_mono HW.out.1 fun i hi => by first | omega | (simp at hi; omega)

end Go.Proofs.Ytkoeplbkeboklaa
/- The plain side of retro: times sorted and compacted are the times that the reference inserts one by one. No program in sight. -/
set_option linter.unusedVariables false
set_option linter.unusedSimpArgs false
namespace Go.Proofs.Ytkoeplbkeboklaa
theorem strict_ext : ∀ {l m : List Int}, (l.Pairwise fun a b => a < b) → (m.Pairwise fun a b => a < b) → (∀ x, x ∈ l ↔ x ∈ m) → l = m
  | [], [], _, _, _ => rfl
  | [], y :: m, _, _, h => absurd ((h y).2 (by simp)) (by simp)
  | x :: l, [], _, _, h => absurd ((h x).1 (by simp)) (by simp)
  | x :: l, y :: m, hl, hm, h => by
    obtain ⟨l1, l2⟩ := List.pairwise_cons.1 hl
    obtain ⟨m1, m2⟩ := List.pairwise_cons.1 hm
    have hxy : x = y := by
      rcases List.mem_cons.1 ((h x).1 (by simp)) with h1 | h1
      · exact h1
      · rcases List.mem_cons.1 ((h y).2 (by simp)) with h2 | h2
        · exact h2.symm
        · have := m1 x h1; have := l1 y h2; omega
    subst hxy
    refine congrArg _ (strict_ext l2 m2 fun z => ⟨fun hz => ?_, fun hz => ?_⟩)
    · rcases List.mem_cons.1 ((h z).1 (by simp [hz])) with h1 | h1
      · subst h1; have := l1 z hz; omega
      · exact h1
    · rcases List.mem_cons.1 ((h z).2 (by simp [hz])) with h1 | h1
      · subst h1; have := m1 z hz; omega
      · exact h1
theorem insT_strict {t : Int} : ∀ {l : List Int}, (l.Pairwise fun a b => a < b) → (insT t l).Pairwise fun a b => a < b
  | [], _ => by simp [insT]
  | y :: l, h => by
    obtain ⟨h1, h2⟩ := List.pairwise_cons.1 h
    simp only [insT]
    split
    · rename_i hy
      refine List.pairwise_cons.2 ⟨fun x hx => ?_, insT_strict h2⟩
      rcases insT_mem.1 hx with rfl | hx
      · exact hy
      · exact h1 x hx
    · split
      · exact h
      · rename_i hy hn
        refine List.pairwise_cons.2 ⟨fun x hx => ?_, h⟩
        rcases List.mem_cons.1 hx with rfl | hx
        · omega
        · have := h1 x hx; omega
theorem foldl_strict : ∀ (l : List Step) (ts : List Int), (ts.Pairwise fun a b => a < b) → (l.foldl (fun ts s => insT s.at_ ts) ts).Pairwise fun a b => a < b
  | [], ts, h => h
  | s :: l, ts, h => foldl_strict l _ (insT_strict h)
theorem foldl_members {x : Int} : ∀ (l : List Step) (ts : List Int), x ∈ l.foldl (fun ts s => insT s.at_ ts) ts ↔ x ∈ ts ∨ x ∈ l.map (·.at_)
  | [], ts => by simp
  | s :: l, ts => by
    rw [List.foldl_cons, foldl_members l, insT_mem, List.map_cons, List.mem_cons]
    constructor
    · rintro ((h | h) | h) <;> simp [h]
    · rintro (h | h | h) <;> simp [h]
theorem timesP_strict (l : List Step) : (timesP l).Pairwise fun a b => a < b := foldl_strict l _ (by simp)
theorem timesP_members {x : Int} (l : List Step) : x ∈ timesP l ↔ x = 1001 ∨ x ∈ l.map (·.at_) := by
  rw [timesP, foldl_members]; simp
theorem compactUpTo_succ (d : Array Int) (m : Nat) : Lib.compactUpTo d (m + 1) = Lib.compactUpTo d m ++ (if Lib.keeps d m then [d[m]!] else []) := by
  unfold Lib.compactUpTo
  rw [List.range_succ, List.filter_append, List.map_append]
  congr 1
  by_cases h : Lib.keeps d m <;> simp [h]
theorem compact_spec (d : Array Int) (hs : ∀ i j, i < j → j < d.size → d[i]! ≤ d[j]!) : ∀ m, m ≤ d.size → ((Lib.compactUpTo d m).Pairwise fun a b => a < b) ∧ ∀ x, x ∈ Lib.compactUpTo d m ↔ ∃ i, i < m ∧ d[i]! = x
  | 0, _ => by simp [Lib.compactUpTo]
  | m + 1, hm => by
    obtain ⟨h1, h2⟩ := compact_spec d hs m (by omega)
    rw [compactUpTo_succ]
    have hstep : ∀ x, (∃ i, i < m + 1 ∧ d[i]! = x) ↔ (∃ i, i < m ∧ d[i]! = x) ∨ d[m]! = x := fun x => by
      constructor
      · rintro ⟨i, hi, rfl⟩
        by_cases e : i = m
        · subst e; exact .inr rfl
        · exact .inl ⟨i, by omega, rfl⟩
      · rintro (⟨i, hi, rfl⟩ | rfl)
        · exact ⟨i, by omega, rfl⟩
        · exact ⟨m, by omega, rfl⟩
    by_cases hk : Lib.keeps d m = true
    · rw [if_pos hk]
      refine ⟨List.pairwise_append.2 ⟨h1, by simp, fun a ha b hb => ?_⟩, fun x => ?_⟩
      · simp at hb; subst hb
        obtain ⟨i, hi, rfl⟩ := (h2 a).1 ha
        have e1 := hs i m hi (by omega)
        by_cases hlt : d[i]! < d[m]!
        · exact hlt
        · exfalso
          have hm1 : d[m - 1]! = d[m]! := by
            have e2 := hs (m - 1) m (by omega) (by omega)
            by_cases h3 : i = m - 1
            · subst h3; omega
            · have e3 := hs i (m - 1) (by omega) (by omega); omega
          rw [Lib.keeps_neg (by omega) hm1.symm] at hk
          cases hk
      · rw [List.mem_append, h2 x, hstep]
        simp [eq_comm]
    · rw [if_neg hk, List.append_nil]
      refine ⟨h1, fun x => ?_⟩
      rw [h2 x, hstep]
      refine ⟨.inl, fun h => h.elim id fun h => ?_⟩
      have hm0 : 0 < m := by
        rcases Nat.eq_zero_or_pos m with h0 | h0
        · subst h0; exact absurd (Lib.keeps_lt_one d 0 (by omega)) hk
        · exact h0
      by_cases he : d[m]! = d[m - 1]!
      · exact ⟨m - 1, by omega, by rw [← he]; exact h⟩
      · exact absurd (Lib.keeps_pos he) hk
theorem times_eq (l : List Step) (h : ∀ s ∈ l, 0 ≤ s.at_ ∧ s.at_ ≤ 1000) : Lib.compact ((l.map (·.at_)).mergeSort fun x y => decide (x ≤ y)) ++ [1001] = timesP l := by
  have hp := List.mergeSort_perm (l.map (·.at_)) fun x y => decide (x ≤ y)
  have hs := List.pairwise_mergeSort (le := fun x y : Int => decide (x ≤ y)) (fun a b c h1 h2 => by simp at *; omega) (fun a b => by simp; omega) (l.map (·.at_))
  generalize (l.map (·.at_)).mergeSort (fun x y => decide (x ≤ y)) = zs at *
  have hd : ∀ i j, i < j → j < zs.toArray.size → zs.toArray[i]! ≤ zs.toArray[j]! := fun i j hij hj => by
    simp at hj
    have := List.pairwise_iff_getElem.1 hs i j (by omega) hj hij
    simp [hj, show i < zs.length by omega]
    simpa using this
  obtain ⟨h1, h2⟩ := compact_spec zs.toArray hd zs.length (by simp)
  have hmem : ∀ x, x ∈ Lib.compact zs ↔ x ∈ l.map (·.at_) := fun x => by
    rw [← hp.mem_iff]
    refine (h2 x).trans ⟨fun ⟨i, hi, he⟩ => ?_, fun hx => ?_⟩
    · rw [← he]; simp [hi]
    · obtain ⟨i, hi, rfl⟩ := List.getElem_of_mem hx
      exact ⟨i, hi, by simp [hi]⟩
  refine strict_ext (List.pairwise_append.2 ⟨h1, by simp, fun a ha b hb => ?_⟩) (timesP_strict l) fun x => ?_
  · simp at hb; subst hb
    obtain ⟨s, hs, rfl⟩ := List.mem_map.1 ((hmem a).1 ha)
    have := h s hs; omega
  · rw [timesP_members, List.mem_append, hmem]
    simp [or_comm]
end Go.Proofs.Ytkoeplbkeboklaa
/- slices.Sort and slices.Compact at a list of whole numbers of the call's own. -/
set_option linter.unusedVariables false
set_option linter.unusedSimpArgs false
namespace Go.Proofs.Ytkoeplbkeboklaa
open Go.RowKit Go.Shelf Go.Sort
theorem flat_int (xs : List Int) : xs.flatMap cellI = xs.map (Value.int .i64) := by
  induction xs with
  | nil => rfl
  | cons x xs ih => rw [List.flatMap_cons, ih]; rfl
theorem holds_win {w : World} {b off n c e : Nat} {S : Nat → Prop} {xs : List Int} (h : Win cellI 1 e w (.slice (some ⟨b, off, none⟩) n c) S xs) (hn : xs.length = n) : Holds (Value.int .i64) w b off xs.toArray := by
  subst hn
  have hcells := winC_cells h
  have hfr : ∀ j, w.frozen? ⟨b, j, none⟩ = false := by
    rcases h.2 with ⟨hv, _⟩ | ⟨g, o, cap, cur, hv, hS, hg, _⟩
    · simp at hv
    · injection hv with h1 h2 h3
      injection h1 with h1
      injection h1 with h1 h4
      subst h1
      exact fun j => free_blk hg j
  intro j hj
  have hj' : j < xs.length := by simpa using hj
  refine ⟨hcells j _ ?_, hfr _⟩
  rw [flat_int]
  simp [hj']
theorem win_putRow {w : World} {b off n c e : Nat} {S : Nat → Prop} {xs : List Int} (h : Win cellI 1 e w (.slice (some ⟨b, off, none⟩) n c) S xs) (hn : xs.length = n) (d : List Int) (hd : d.length = n) (q : Nat) (os : Array Obj) :
    Win cellI 1 e (grow (putRow (Value.int .i64) (Sort.ahead w q) b off d.toArray) os) (.slice (some ⟨b, off, none⟩) n c) S d := by
  subst hn
  obtain ⟨hl, h⟩ := h
  refine ⟨by rw [flat_len int_len], .inr ?_⟩
  rcases h with ⟨hv, _⟩ | ⟨g, o, cap, cur, hv, hS, hg, hnc, hcm, hcs, ht⟩
  · simp at hv
  · injection hv with h1 h2 h3
    injection h1 with h1
    injection h1 with h1 h4
    subst h1; subst h4; subst h3
    have hlt := (Array.getElem?_eq_some_iff.1 hg).1
    refine ⟨b, off, c, putCells (Value.int .i64) off d.toArray cur, by rw [hd], hS, ?_, by omega, hcm, by simpa [putCells] using hcs, ?_⟩
    · rw [heap_grow_old _ _ (by simpa [putRow, mapBlock, Sort.ahead] using hlt)]
      simp only [putRow, mapBlock, Sort.ahead, Array.getElem?_modify, if_true, hg, Option.map_some, onCells]
    · rw [flat_int]
      refine List.ext_getElem? fun i => ?_
      by_cases hi : i < d.length
      · have h1 : off + i < cur.size := by omega
        simp [putCells, List.getElem?_take, hi, h1]
      · simp [List.getElem?_take, hi]
theorem win_putRow0 {w : World} {b off n c e : Nat} {S : Nat → Prop} {xs : List Int} (h : Win cellI 1 e w (.slice (some ⟨b, off, none⟩) n c) S xs) (hn : xs.length = n) (d : List Int) (hd : d.length = n) (q : Nat) :
    Win cellI 1 e (putRow (Value.int .i64) (Sort.ahead w q) b off d.toArray) (.slice (some ⟨b, off, none⟩) n c) S d := by
  have := win_putRow h hn d hd q #[]
  rwa [grow_empty] at this
theorem win_addr {a : Option Addr} {n c e : Nat} {w : World} {S : Nat → Prop} {xs : List Int} (h : Win cellI 1 e w (.slice a n c) S xs) (hn : 0 < n) : ∃ b off, a = some ⟨b, off, none⟩ := by
  rcases h.2 with ⟨h1, h2⟩ | ⟨g, off, cap, cur, hv, _⟩
  · injection h1; omega
  · injection hv with h1; exact ⟨g, off, h1⟩
theorem sortInts_any (a : Option Addr) (n c : Nat) (S : Nat → Prop) (zs : List Int) (w : World) (hw : Win cellI 1 3 w (.slice a n c) S zs) (hn : zs.length = n) (hl : n < 1000000) :
    Calls Try.prog 90 #[.slice a n c] w fun e w' => e = .returned (.tuple #[]) ∧ Win cellI 1 3 w' (.slice a n c) S (zs.mergeSort fun x y => decide (x ≤ y)) ∧ Fr (fun i => some i = (Value.slice a n c).ownBlock) w w' := by
  subst hn
  rcases Nat.eq_zero_or_pos zs.length with h0 | h0
  · obtain rfl : zs = [] := List.eq_nil_of_length_eq_zero h0
    refine (Try.slices_Sort_int_none a c w).mono ?_
    rintro e w' ⟨rfl, rfl⟩
    exact ⟨rfl, by simpa using hw, fr_refl _ _⟩
  · obtain ⟨b, off, rfl⟩ := win_addr hw h0
    have hb : b < w.heap.size := (winC_ob hw b rfl).2
    refine (Try.slices_Sort_int b off c zs w (holds_win hw rfl) hb (by omega)).mono ?_
    rintro e w' ⟨rfl, n, os, rfl⟩
    exact ⟨rfl, win_putRow hw rfl _ (List.length_mergeSort _) _ _, fr_mono (fr_putRow _ _ _ _ _ _ _) fun i hi => by rw [hi]; rfl⟩
theorem compact_len (zs : List Int) : (Lib.compact zs).length ≤ zs.length := by
  unfold Lib.compact Lib.compactUpTo
  rw [List.length_map]
  exact Nat.le_trans (List.length_filter_le _ _) (by simp)
theorem compactInts_any (a : Option Addr) (n c : Nat) (S : Nat → Prop) (zs : List Int) (w : World) (hw : Win cellI 1 3 w (.slice a n c) S zs) (hn : zs.length = n) (hl : n < 1000000) :
    Calls Try.prog 91 #[.slice a n c] w fun e w' => e = .returned (.slice a (Lib.compact zs).length c) ∧ Win cellI 1 3 w' (.slice a (Lib.compact zs).length c) S (Lib.compact zs) ∧ Fr (fun i => some i = (Value.slice a n c).ownBlock) w w' := by
  subst hn
  rcases Nat.eq_zero_or_pos zs.length with h0 | h0
  · obtain rfl : zs = [] := List.eq_nil_of_length_eq_zero h0
    refine (Try.slices_Compact_int_empty a c w).mono ?_
    rintro e w' ⟨rfl, rfl⟩
    exact ⟨rfl, hw, fr_refl _ _⟩
  · obtain ⟨b, off, rfl⟩ := win_addr hw h0
    obtain ⟨a', c', hv, hnc, _⟩ := winC_slice hw
    injection hv with _ _ hcc
    refine (Try.slices_Compact_int b off c zs w (holds_win hw rfl) (by omega) (by omega)).mono ?_
    rintro e w' ⟨rfl, q, rfl⟩
    have hcl := compact_len zs
    have h1 := win_putRow0 hw rfl (Lib.compact zs ++ List.replicate (zs.length - (Lib.compact zs).length) 0) (by simp; omega) q
    have h2 := win_pop int_len h1 (by simp; omega) (Lib.compact zs).length hcl h0
    refine ⟨rfl, by simpa using h2, ?_⟩
    have := fr_putRow (Value.int .i64) w q b off (Lib.compact zs ++ List.replicate (zs.length - (Lib.compact zs).length) 0).toArray #[]
    rw [grow_empty] at this
    exact fr_mono this fun i hi => by rw [hi]; rfl
end Go.Proofs.Ytkoeplbkeboklaa
