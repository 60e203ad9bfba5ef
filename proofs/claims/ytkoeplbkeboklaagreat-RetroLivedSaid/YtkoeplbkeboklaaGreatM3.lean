/- My texts of layer 14, joined: L0, P3b, C0, Base5, Shelf, R6b, R7, R35, R25, P11, R26, R27, R28, Base7. -/
import Derived.Test.YtkoeplbkeboklaaGreatM2
import Derived.Shelf.SlSortCmp.WholeK
import Derived.Shelf.SlSortCmp.NoneTotal
import Derived.Shelf.SlGeneric
import Derived.Ground.SlsfProg
import Derived.Shelf.SlLaysF0
import Derived.Shelf.Spec.SlicesGrow
import Derived.Ground.Names8Prog
import Derived.Shelf.Small.Bits
import Derived.Shelf.Sort.Plain
import Derived.Ground.Names2Prog
import Derived.Shelf.Slices.CompactI
import Derived.Shelf.Slices.In.SortNone
import Derived.Test.YtkoeplbkeboklaaGreatProg
import Derived.Maps.RangeWalk
import Derived.RangeFuncNested
import Derived.RangeFuncBound
import Derived.RangeFuncCalls
import Derived.RangeFuncLeaves
import Derived.Shelf.Abstract
import Derived.Shelf.RegionOpen
import Derived.OwnWalkIn
import Derived.TacticsInMore
import Derived.LoopNIn
import Derived.LoopIn
import Derived.Handy
import Derived.LoopN
import Derived.Lib.SlicesCompact
import Derived.BigQuiet
/- The laws' own small functions: In, Out, Line, vals. -/
set_option linter.unusedVariables false
set_option linter.unusedSimpArgs false
namespace Go.Proofs.YtkoeplbkeboklaaGreat
open Go.RowKit
theorem in_any (x y : Int) (w : World) : Calls Tryz.prog 26 #[.int .i64 x, .int .i64 y] w fun e w' => e = .returned (.agg #[.int .i64 x, .int .i64 1, .int .i64 0, .int .i64 y]) ∧ Below w.heap.size w w' := by
  have HBL := Lib.hid (fun o => (Below.refl w.heap.size w).alloc (Nat.le_refl _) o)
  go_enter Tryz.func26, Tryz.ntmps26
  go_wp2
  exact bodyPost_ret (v := .agg #[.int .i64 x, .int .i64 1, .int .i64 0, .int .i64 y]) (by simp [results, Tryz.results26, go_sem]) rfl ⟨rfl, HBL.out _⟩
theorem out_any (x : Int) (w : World) : Calls Tryz.prog 30 #[.int .i64 x] w fun e w' => e = .returned (.agg #[.int .i64 x, .int .i64 2, .int .i64 0, .int .i64 0]) ∧ Below w.heap.size w w' := by
  have HBL := Lib.hid (fun o => (Below.refl w.heap.size w).alloc (Nat.le_refl _) o)
  go_enter Tryz.func30, Tryz.ntmps30
  go_wp2
  exact bodyPost_ret (v := .agg #[.int .i64 x, .int .i64 2, .int .i64 0, .int .i64 0]) (by simp [results, Tryz.results30, go_sem]) rfl ⟨rfl, HBL.out _⟩
def lineS : List Step := [⟨1, 1, 0, 5⟩, ⟨3, 1, 0, 6⟩, ⟨4, 2, 0, 0⟩, ⟨7, 2, 0, 0⟩, ⟨9, 2, 0, 0⟩]
/-- A row that has just been laid. -/
theorem win_new {α : Type} {enc : α → List Value} {k : Nat} (hk : ∀ x, (enc x).length = k) (e : Nat) {w : World} {xs : List α} (b : Nat) (cs : Array Value) (h : w.heap[b]? = some (.cells cs e (0, 0))) (hc : cs.toList = xs.flatMap enc) (hm : xs.length ≤ maxLen) :
    Win enc k e w (.slice (some ⟨b, 0, none⟩) xs.length xs.length) (fun i => i = b) xs := by
  refine ⟨flat_len hk xs, .inr ⟨b, 0, xs.length, cs, rfl, rfl, h, Nat.le_refl _, hm, ?_, ?_⟩⟩
  · rw [← Array.length_toList, hc, flat_len hk]; omega
  · rw [List.drop_zero, hc, ← flat_len hk xs, List.take_length]
theorem named_line {w : World} {X T : Nat} {c0 c1 : Value} (hr : w.heap[X]? = some (.cells #[c0, c1] T (0, 0))) (a b : Value) {G : World → Prop}
    (h : ∀ W, Fr (fun i => i = X) w W → W.heap[X]? = some (.cells #[a, b] T (0, 0)) → W.heap.size = w.heap.size → G W) : G ((w.setCell ⟨X, 0, none⟩ a).setCell ⟨X, 1, none⟩ b) :=
  h _ (stored2 w X a b) (stored2_blk hr a b) (by simp [World.setCell])
set_option maxHeartbeats 2000000 in
theorem line_any (k : Int) (w : World) : Calls Tryz.prog 20 #[.int .i64 k] w fun e w' => ∃ v, e = .returned (.agg #[.int .i64 k, v]) ∧ Win Step.cells 4 46 w' v (fun i => w.heap.size ≤ i) lineS ∧ Below w.heap.size w w' := by
  have HBL := Lib.hid (fun o => (Below.refl w.heap.size w).alloc (Nat.le_refl _) o)
  go_enter Tryz.func20, Tryz.ntmps20
  go_wp2_with fail
  refine named_box1 (G := fun W => Calls _ _ _ W _) w _ _ fun w0 hB0 hz0 hx0 => ?_
  have hz := Nat.le_of_eq hz0.symm
  clear hz0
  have h0 : w.heap.size < w0.heap.size := (Array.getElem?_eq_some_iff.1 hx0).1
  refine (in_any _ _ _).mono ?_
  rintro e w1 ⟨rfl, hb⟩
  have hB1 := hB0.trans (hb.mono (by omega))
  have hx1 := (hb.block _ (by omega)).trans hx0
  clear hb hB0 hx0
  go_wp2_with fail
  have h1 : w.heap.size < w1.heap.size := (Array.getElem?_eq_some_iff.1 hx1).1
  refine (in_any _ _ _).mono ?_
  rintro e w2 ⟨rfl, hb⟩
  have hB2 := hB1.trans (hb.mono (by omega))
  have hx2 := (hb.block _ (by omega)).trans hx1
  clear hb hB1 hx1
  go_wp2_with fail
  have h2 : w.heap.size < w2.heap.size := (Array.getElem?_eq_some_iff.1 hx2).1
  refine (out_any _ _).mono ?_
  rintro e w3 ⟨rfl, hb⟩
  have hB3 := hB2.trans (hb.mono (by omega))
  have hx3 := (hb.block _ (by omega)).trans hx2
  clear hb hB2 hx2
  go_wp2_with fail
  have h3 : w.heap.size < w3.heap.size := (Array.getElem?_eq_some_iff.1 hx3).1
  refine (out_any _ _).mono ?_
  rintro e w4 ⟨rfl, hb⟩
  have hB4 := hB3.trans (hb.mono (by omega))
  have hx4 := (hb.block _ (by omega)).trans hx3
  clear hb hB3 hx3
  go_wp2_with fail
  have h4 : w.heap.size < w4.heap.size := (Array.getElem?_eq_some_iff.1 hx4).1
  refine (out_any _ _).mono ?_
  rintro e w5 ⟨rfl, hb⟩
  have hB5 := hB4.trans (hb.mono (by omega))
  have hx5 := (hb.block _ (by omega)).trans hx4
  clear hb hB4 hx4
  have c0 := cell_blk hx5 0
  have c1 := cell_blk hx5 1
  have k0 := free_blk hx5 0
  have k1 := free_blk hx5 1
  have HB := Lib.hid (And.intro hB5 hx5)
  have h5 : w.heap.size < w5.heap.size := (Array.getElem?_eq_some_iff.1 hx5).1
  clear hB5 hx5
  go_wp2
  refine named_line (G := fun W => bodyPost _ _ _ _ _ (World.alloc W _)) HB.out.2 _ _ fun W hF hX hsz => ?_
  have hb := (HB.out.1).trans (below_of_fr hF (Nat.le_of_lt h5) fun i hi => Nat.le_of_eq hi.symm)
  rw [← hsz]
  have hN := heap_alloc_new W (.cells #[.int .i64 1, .int .i64 1, .int .i64 0, .int .i64 5, .int .i64 3, .int .i64 1, .int .i64 0, .int .i64 6, .int .i64 4, .int .i64 2, .int .i64 0, .int .i64 0, .int .i64 7, .int .i64 2, .int .i64 0, .int .i64 0, .int .i64 9, .int .i64 2, .int .i64 0, .int .i64 0] 46)
  have hO := ((Below.refl W.heap.size W).alloc (Nat.le_refl _) (.cells #[.int .i64 1, .int .i64 1, .int .i64 0, .int .i64 5, .int .i64 3, .int .i64 1, .int .i64 0, .int .i64 6, .int .i64 4, .int .i64 2, .int .i64 0, .int .i64 0, .int .i64 7, .int .i64 2, .int .i64 0, .int .i64 0, .int .i64 9, .int .i64 2, .int .i64 0, .int .i64 0] 46))
  have hX' := (hO.block w.heap.size (by omega)).trans hX
  have g0 := cell_blk hX' 0
  have g1 := cell_blk hX' 1
  have hw := win_new step_len 46 (xs := lineS) _ _ hN rfl (by unfold maxLen; decide)
  exact bodyPost_ret (v := .agg #[.int .i64 k, .slice (some ⟨W.heap.size, 0, none⟩) 5 5]) (by simp [results, Tryz.results20, go_sem, g0, g1]) rfl ⟨_, rfl, winC_mono hw fun i hi => by have := hb.size; omega, hb.trans (hO.mono hb.size)⟩
set_option maxHeartbeats 2000000 in
theorem vals_any (v : Value) (ns : List Int) (w : World) (hr : Rd cellI 1 w v ns) (hn : ns.length ≤ 1000) : Calls Tryz.prog 22 #[v] w fun e w' => ∃ v, e = .returned v ∧ Win Pair.cells 2 39 w' v (fun i => w.heap.size ≤ i) (ns.map fun n => ⟨0, n⟩) ∧ Below w.heap.size w w' := by
  obtain ⟨a, c, rfl⟩ : ∃ a c, v = .slice a ns.length c := by obtain ⟨_, a, c, rfl, _⟩ := hr; exact ⟨a, c, rfl⟩
  have HR := Lib.hid hr
  have HB0 := Lib.hid (Below.refl w.heap.size w)
  clear hr
  go_enter Tryz.func22, Tryz.ntmps22
  go_wp2
  go_loopw [8, 3] (fun i v W => ∃ (n : Nat) (a1 : Option Addr) (c1 : Nat), i = .int .i64 n ∧ v = .slice a1 n c1 ∧ n ≤ ns.length ∧ WinC 2 39 W (.slice a1 n c1) (fun j => w.heap.size ≤ j) n (((ns.take n).map fun n => (⟨0, n⟩ : Pair)).flatMap Pair.cells) ∧ Below w.heap.size w W) (fun i _ _ => ns.length - (intOf i).toNat)
  case atStart => exact ⟨0, none, 0, rfl, rfl, by omega, winC_nil _ _ _ _, HB0.out⟩
  case round =>
    obtain ⟨n, a1, c1, rfl, rfl, hnl, hw, hB⟩ := hrel
    by_cases hlt : n < ns.length
    · have hx := List.getElem?_eq_getElem hlt
      generalize ns[n] = x at hx
      obtain ⟨b, off, rfl, hbl, hc⟩ := rd_at (HR.out.below hB) hx
      have q0 : wr.cell? ⟨b, off + n * 1, none⟩ = some (.int .i64 x) := hc 0 _ rfl
      rw [Nat.mul_one] at q0
      have hbw := HB0.out.size
      have hs1 := hB.size
      have HX := Lib.hid (And.intro hx (And.intro hw hB))
      clear hx hw hB hc
      go_wp2_with (at_builtin; (refine wpList_append_win _ (by rfl) _ _ _ (by rfl) 39 2 16 _ Tryz.underlying33 info_pair rfl (by decide) _ _ n _ (by rfl) (winC_move HX.out.2.1 (fr_alloc (fun _ => False) wr _) (fun _ _ h => h)) _ _ _ [.int .i64 0, .int .i64 x] (by rfl) (by rfl) (World.news_of_block (heap_alloc_new wr _)) (by simp [Value.oneCell']) (by decide) (by unfold maxLen; omega) (by omega) ?_); intro v3 w5 hwin3 hfr3 hsz3; obtain ⟨a4, c4, rfl, hn4, hm4⟩ := winC_slice hwin3)
      have F3 : Fr (fun i => some i = (Value.slice a1 n c1).ownBlock) wr w5 := fr_trans (fr_alloc _ wr _) hfr3 fun _ _ h => h
      have hob := winC_ob HX.out.2.1
      go_roundw
      case rel =>
        refine ⟨n + 1, a4, c4, by go_num, rfl, by omega, ?_, HX.out.2.2.trans (below_of_fr F3 hs1 fun i hi => (hob i hi).1)⟩
        have e : ((ns.take (n + 1)).map fun n => (⟨0, n⟩ : Pair)).flatMap Pair.cells = ((ns.take n).map fun n => (⟨0, n⟩ : Pair)).flatMap Pair.cells ++ [.int .i64 0, .int .i64 x] := by
          rw [List.take_add_one, HX.out.1]; simp [Pair.cells]
        rw [e]
        exact winC_mono hwin3 fun i hi => by simp at hi; omega
      case measure => simp [intOf]; omega
    · obtain rfl : n = ns.length := by omega
      rw [List.take_length] at hw
      have HX := Lib.hid (And.intro hw hB)
      clear hw hB
      go_wp2
      go_ret
      exact ⟨_, rfl, by unfold Win; rw [List.length_map]; exact HX.out.1, HX.out.2⟩
end Go.Proofs.YtkoeplbkeboklaaGreat
/- The plain side of retro: a sorted list of what is held is one. No program in sight. -/
set_option linter.unusedVariables false
set_option linter.unusedSimpArgs false
namespace Go.Proofs.YtkoeplbkeboklaaGreat
theorem sortH_unique : ∀ {th ss : List Held}, sortH th → ss.Perm th → (ss.Pairwise fun a b => a.key ≤ b.key) → ss = th
  | [], ss, _, hp, _ => List.Perm.eq_nil hp
  | x :: t, [], _, hp, _ => absurd hp.length_eq (by simp)
  | x :: t, y :: s, hs, hp, hq => by
    obtain ⟨h1, h2⟩ := List.pairwise_cons.1 hs
    obtain ⟨h3, h4⟩ := List.pairwise_cons.1 hq
    have hy : y ∈ x :: t := hp.mem_iff.1 (by simp)
    have hx : x ∈ y :: s := hp.mem_iff.2 (by simp)
    have hxy : y = x := by
      rcases List.mem_cons.1 hy with h | h
      · exact h
      · have h5 := h1 y h
        rcases List.mem_cons.1 hx with h' | h'
        · exact h'.symm
        · have := h3 x h'; omega
    subst hxy
    rw [sortH_unique h2 ((List.perm_cons _).1 hp) h4]
end Go.Proofs.YtkoeplbkeboklaaGreat
/- cmp.Compare at int. -/
set_option linter.unusedVariables false
set_option linter.unusedSimpArgs false
namespace Go.Proofs.YtkoeplbkeboklaaGreat
open Go.RowKit
def cmpP (a b : Int) : Int := if a < b then -1 else if a > b then 1 else 0
theorem isNaN_any (a : Int) (w : World) : Calls Tryz.prog 72 #[.int .i64 a] w fun e w' => e = .returned (.bool false) ∧ w = w' := by
  have h : (a != a) = false := by simp
  go_enter Tryz.func72, Tryz.ntmps72
  go_wp2
  go_ret
  exact ⟨by simp, rfl⟩
theorem compare_any (a b : Int) (w : World) : Calls Tryz.prog 57 #[.int .i64 a, .int .i64 b] w fun e w' => e = .returned (.int .i64 (cmpP a b)) ∧ w = w' := by
  unfold cmpP
  by_cases h1 : a < b <;> by_cases h2 : a > b <;>
  (go_enter Tryz.func57, Tryz.ntmps57
   go_wp2_with (go_at_call 72; refine (isNaN_any _ _).mono ?_; rintro e w' ⟨rfl, rfl⟩)
   all_goals (first | (exfalso; omega) | (go_ret; exact ⟨by simp [h1, h2], rfl⟩)))
end Go.Proofs.YtkoeplbkeboklaaGreat
/- The library's sorts and slices.Compact over windows: what they leave behind. -/
set_option linter.unusedVariables false
set_option linter.unusedSimpArgs false
namespace Go.Proofs.YtkoeplbkeboklaaGreat
open Go.RowKit Go.Shelf Go.Sort

/-! ### permutations -/
theorem perm_map_cons {α β : Type} {f : α → β} {L : List α} {x : β} {R : List β} (h : (L.map f).Perm (x :: R)) : ∃ a L', f a = x ∧ L.Perm (a :: L') ∧ R.Perm (L'.map f) := by
  have hm : x ∈ L.map f := h.mem_iff.2 (by simp)
  obtain ⟨a, ha, rfl⟩ := List.mem_map.1 hm
  obtain ⟨l1, l2, rfl⟩ := List.append_of_mem ha
  have hp : (l1 ++ a :: l2).Perm (a :: (l1 ++ l2)) := List.perm_middle
  exact ⟨a, l1 ++ l2, rfl, hp, (List.perm_cons _).1 (h.symm.trans (hp.map f))⟩
theorem iterOf_perm {w : World} {it r : Nat} {l1 l2 : List (Int × Value)} (h : IterOf w it r l1) (hp : l1.Perm l2) : IterOf w it r l2 := by
  obtain ⟨es, clock, seen, hi, hr, hs, hk, hq⟩ := h
  exact ⟨es, clock, seen, hi, hr, hs, hk, hq.trans (hp.map kvV)⟩

/-! ### worlds -/
theorem heap_mapBlock_other (w : World) (blk : Nat) (f : Array Value → Array Value) {k : Nat} (h : k ≠ blk) : (mapBlock w blk f).heap[k]? = w.heap[k]? := by
  simp only [mapBlock, Array.getElem?_modify]
  rw [if_neg (fun e => h e.symm)]
theorem fr_putRow {α : Type} [Inhabited α] (enc : α → Value) (w : World) (n blk off : Nat) (d : Array α) (os : Array Obj) : Fr (fun i => i = blk) w (grow (putRow enc (Sort.ahead w n) blk off d) os) := by
  refine ⟨rfl, rfl, rfl, ?_, fun k hk hne => ?_⟩
  · rw [size_grow]; simp [putRow, mapBlock, Sort.ahead]
  · rw [heap_grow_old _ _ (by simp [putRow, mapBlock, Sort.ahead]; exact hk)]
    exact heap_mapBlock_other _ _ _ hne
theorem fr_sortK {α : Type} [Inhabited α] (enc : α → List Value) (k : Nat) (w : World) (blk off n : Nat) (d : Array α) (os : Array Obj) : Fr (fun i => i = blk) w (sortWorldK enc k w blk off n d os) := fr_putRow id w n blk off _ os

/-! ### rows -/
theorem holdsK_win {α : Type} [Inhabited α] {enc : α → List Value} {k e : Nat} (hk : ∀ x, (enc x).length = k) {w : World} {b off n c : Nat} {S : Nat → Prop} {xs : List α} (h : Win enc k e w (.slice (some ⟨b, off, none⟩) n c) S xs) (hn : xs.length = n) :
    HoldsK enc k w b off xs.toArray := by
  subst hn
  have hcells := winC_cells h
  have hfr : ∀ j, w.frozen? ⟨b, j, none⟩ = false := by
    rcases h.2 with ⟨hv, _⟩ | ⟨g, o, cap, cur, hv, hS, hg, _⟩
    · simp at hv
    · injection hv with h1 h2 h3
      injection h1 with h1
      injection h1 with h1 h4
      subst h1
      exact fun j => free_blk hg j
  intro j hj
  refine ⟨?_, hfr _⟩
  rw [size_flatK] at hj
  rw [get_flatK enc k _ j hj]
  have hj' : j < xs.length * k := by simpa using hj
  have hk0 : 0 < k := by rcases Nat.eq_zero_or_pos k with h0 | h0; subst h0; simp at hj'; exact h0
  have hq : j / k < xs.length := (Nat.div_lt_iff_lt_mul hk0).2 hj'
  have hr : j % k < k := Nat.mod_lt _ hk0
  have hx : xs[j / k]? = some xs[j / k] := List.getElem?_eq_getElem hq
  have hu : (enc xs[j / k])[j % k]? = some (enc xs[j / k])[j % k]! := by
    rw [List.getElem!_eq_getElem?_getD]
    rw [List.getElem?_eq_getElem (by rw [hk]; exact hr)]
    rfl
  have := flat_get hk xs _ _ hx _ _ hu
  rw [show j / k * k + j % k = j by rw [Nat.mul_comm]; exact Nat.div_add_mod j k] at this
  have h2 := hcells j _ this
  rw [h2]
  simp only [id]
  congr 2
  simp [hq]
theorem rd_holdsK {α : Type} [Inhabited α] {enc : α → List Value} {k : Nat} (hk : ∀ x, (enc x).length = k) {w : World} {b off c : Nat} {d : Array α} (h : HoldsK enc k w b off d) (hb : b < w.heap.size) (hl : d.size ≤ 9223372036854775807) :
    Rd enc k w (.slice (some ⟨b, off, none⟩) d.size c) d.toList := by
  refine ⟨by simpa using hl, some ⟨b, off, none⟩, c, by simp, fun _ => ⟨b, off, rfl, hb, fun i x hx j u hu => ?_⟩⟩
  have hi : i < d.size := by simpa using (List.getElem?_eq_some_iff.1 hx).1
  have hj : j < k := by have := (List.getElem?_eq_some_iff.1 hu).1; rwa [hk] at this
  have := (h.cell hi hj).1
  rw [this]
  have e : d[i]! = x := by
    have : d.toList[i]? = some x := hx
    rw [Array.getElem?_toList] at this
    simp [Array.getElem!_eq_getD, Array.getD_eq_getD_getElem?, this]
  rw [e, List.getElem!_eq_getElem?_getD, hu]
  rfl
end Go.Proofs.YtkoeplbkeboklaaGreat
/-
  DERIVED: THE SHELF's CONTRACTS AT THIS DUMP, IN PLAIN WORDS (tools/lay-plain.mjs out of 'TryzShelf.lean', which tools/lay-shelf.mjs wrote): THE SAME DECLARATIONS UNDER THE SAME NAMES: 'import', 'namespace', 'open', 'def', 'theorem' AND NOTHING ELSE: no command of the shelf's: FOR A HAND-IN. Each laying: the table of numbers ('.._ren') and one theorem, a field a fact of the dump's own or the kernel's comparison; each contract: ONE APPLICATION.
-/
namespace Go.Proofs
open Go.Shelf
def Tryz.lays189_ren : Go.Shelf.Ren := ⟨fun | 189 => 63 | 125 => 32 | 257 => 75 | 128 => 52 | 129 => 53 | 294 => 86 | 295 => 87 | 296 => 88 | 297 => 89 | 298 => 90 | 299 => 91 | 216 => 92 | 300 => 93 | 301 => 94 | 328 => 98 | 329 => 67 | 330 => 68 | 331 => 99 | 332 => 100 | 215 => 72 | 343 => 102 | n => n, fun | 28 => 84 | 3 => 3 | 46 => 76 | 0 => 0 | 51 => 100 | 53 => 102 | 4 => 4 | 183 => 94 | 182 => 93 | 131 => 85 | 5 => 5 | 9 => 9 | 218 => 122 | 222 => 126 | 228 => 132 | 229 => 133 | n => n, fun | n => n⟩
theorem Tryz.lays189 : Go.Proofs.Lays.n189 Tryz.prog Tryz.lays189_ren := {
  mixed := by kernel_rfl
  f125 := Tryz.func32.trans (congrArg some (by kernel_rfl))
  f128 := Tryz.func52.trans (congrArg some (by kernel_rfl))
  f129 := Tryz.func53.trans (congrArg some (by kernel_rfl))
  f189 := Tryz.func63.trans (congrArg some (by kernel_rfl))
  f215 := Tryz.func72.trans (congrArg some (by kernel_rfl))
  f216 := Tryz.func92.trans (congrArg some (by kernel_rfl))
  f257 := Tryz.func75.trans (congrArg some (by kernel_rfl))
  f294 := Tryz.func86.trans (congrArg some (by kernel_rfl))
  f295 := Tryz.func87.trans (congrArg some (by kernel_rfl))
  f296 := Tryz.func88.trans (congrArg some (by kernel_rfl))
  f297 := Tryz.func89.trans (congrArg some (by kernel_rfl))
  f298 := Tryz.func90.trans (congrArg some (by kernel_rfl))
  f299 := Tryz.func91.trans (congrArg some (by kernel_rfl))
  f300 := Tryz.func93.trans (congrArg some (by kernel_rfl))
  f301 := Tryz.func94.trans (congrArg some (by kernel_rfl))
  f328 := Tryz.func98.trans (congrArg some (by kernel_rfl))
  f329 := Tryz.func67.trans (congrArg some (by kernel_rfl))
  f330 := Tryz.func68.trans (congrArg some (by kernel_rfl))
  f331 := Tryz.func99.trans (congrArg some (by kernel_rfl))
  f332 := Tryz.func100.trans (congrArg some (by kernel_rfl))
  f343 := Tryz.func102.trans (congrArg some (by kernel_rfl))
  t0 := Tryz.underlying0
  a0 := Tryz.isAgg0
  z0 := Tryz.sizeOf0
  v0 := Tryz.zeroValue0
  t3 := Tryz.underlying3
  a3 := Tryz.isAgg3
  z3 := Tryz.sizeOf3
  v3 := Tryz.zeroValue3
  t4 := Tryz.underlying4
  a4 := Tryz.isAgg4
  z4 := Tryz.sizeOf4
  v4 := Tryz.zeroValue4
  t5 := Tryz.underlying5
  a5 := Tryz.isAgg5
  z5 := Tryz.sizeOf5
  v5 := Tryz.zeroValue5
  t9 := Tryz.underlying9
  a9 := Tryz.isAgg9
  z9 := Tryz.sizeOf9
  v9 := Tryz.zeroValue9
  t28 := Tryz.underlying84
  a28 := Tryz.isAgg84
  z28 := Tryz.sizeOf84
  v28 := Tryz.zeroValue84
  t46 := Tryz.underlying76
  a46 := Tryz.isAgg76
  z46 := Tryz.sizeOf76
  v46 := Tryz.zeroValue76
  t51 := Tryz.underlying100
  a51 := Tryz.isAgg100
  z51 := Tryz.sizeOf100
  v51 := Tryz.zeroValue100
  t53 := Tryz.underlying102
  a53 := Tryz.isAgg102
  z53 := Tryz.sizeOf102
  v53 := Tryz.zeroValue102
  t131 := Tryz.underlying85
  a131 := Tryz.isAgg85
  z131 := Tryz.sizeOf85
  v131 := Tryz.zeroValue85
  t182 := Tryz.underlying93
  a182 := Tryz.isAgg93
  z182 := Tryz.sizeOf93
  v182 := Tryz.zeroValue93
  t183 := Tryz.underlying94
  a183 := Tryz.isAgg94
  z183 := Tryz.sizeOf94
  v183 := Tryz.zeroValue94
  t218 := Tryz.underlying122
  a218 := Tryz.isAgg122
  z218 := Tryz.sizeOf122
  v218 := Tryz.zeroValue122
  t222 := Tryz.underlying126
  a222 := Tryz.isAgg126
  z222 := Tryz.sizeOf126
  v222 := Tryz.zeroValue126
  t228 := Tryz.underlying132
  a228 := Tryz.isAgg132
  z228 := Tryz.sizeOf132
  v228 := Tryz.zeroValue132
  t229 := Tryz.underlying133
  a229 := Tryz.isAgg133
  z229 := Tryz.sizeOf133
  v229 := Tryz.zeroValue133 }
open Go.Sort Go.RowKit in
theorem Tryz.slices_Sort_int (blk off cap : Nat) (zs : List Int) (w : World) (hH : Holds (Value.int .i64) w blk off zs.toArray) (hblk : blk < w.heap.size) (hsz : zs.length < 4611686018427387904) :
    Calls Tryz.prog 63 #[.slice (some ⟨blk, off, none⟩) zs.length cap] w fun e w' =>
      e = .returned (.tuple #[]) ∧ ∃ n os, w' = grow (putRow (Value.int .i64) (Sort.ahead w n) blk off (zs.mergeSort fun x y => decide (x ≤ y)).toArray) os := Any.slices_Sort_int Tryz.lays189 blk off cap zs w hH hblk hsz
def Tryz.laysNm220_ren : Go.Shelf.Ren := ⟨fun | 20 => 64 | n => n, fun | 22 => 84 | 3 => 3 | 4 => 4 | 0 => 0 | n => n, fun | n => n⟩
theorem Tryz.laysNm220 : Go.Proofs.Lays2.n20 Tryz.prog Tryz.laysNm220_ren := {
  mixed := by kernel_rfl
  f20 := Tryz.func64.trans (congrArg some (by kernel_rfl))
  t0 := Tryz.underlying0
  a0 := Tryz.isAgg0
  z0 := Tryz.sizeOf0
  v0 := Tryz.zeroValue0
  t3 := Tryz.underlying3
  a3 := Tryz.isAgg3
  z3 := Tryz.sizeOf3
  v3 := Tryz.zeroValue3
  t4 := Tryz.underlying4
  a4 := Tryz.isAgg4
  z4 := Tryz.sizeOf4
  v4 := Tryz.zeroValue4
  t22 := Tryz.underlying84
  a22 := Tryz.isAgg84
  z22 := Tryz.sizeOf84
  v22 := Tryz.zeroValue84
  i3 := by kernel_rfl }
open Go.RowKit Go.Lib Go.Sort in
/-- slices.Compact at []int: "Compact replaces consecutive runs of equal elements with a single copy. This is like the uniq command found on Unix. Compact modifies the contents of the slice s and returns the modified slice, which may have a smaller length. Compact zeroes the elements between the new length and the original length. The result preserves the nilness of s.": IT RETURNS THE SLICE CUT TO 'Lib.compact zs'; ITS CELLS HOLD 'Lib.compact zs', THEN ZERO VALUES up to the old length; all else is as it was, but for the count of draws. IN THE WORDS OF slices.Sort's CONTRACT ('Holds', 'putRow'): so the everyday 'slices.Sort(xs); xs = slices.Compact(xs)' goes from the one contract to the other. It asks 'zs.length ≤ cap' (every slice's: the reslicing 's[:k]' looks at it). Length 0, nil: '.._empty'. (LAID: no walk: one application.) -/
theorem Tryz.slices_Compact_int (blk off cap : Nat) (zs : List Int) (w : World) (hH : Holds (Value.int .i64) w blk off zs.toArray) (hsz : zs.length ≤ 9223372036854775807) (hcap : zs.length ≤ cap) :
    Calls Tryz.prog 64 #[.slice (some ⟨blk, off, none⟩) zs.length cap] w fun e w' => e = .returned (.slice (some ⟨blk, off, none⟩) (Lib.compact zs).length cap) ∧ ∃ q, w' = putRow (Value.int .i64) (Sort.ahead w q) blk off (Lib.compact zs ++ List.replicate (zs.length - (Lib.compact zs).length) 0).toArray := Any.slices_Compact_int Tryz.laysNm220 blk off cap zs w hH hsz hcap
open Go.RowKit Go.Lib Go.Sort in
/-- The same at a slice of length 0, a nil one too: it comes back as it is. (LAID: no walk: one application.) -/
theorem Tryz.slices_Compact_int_empty (a : Option Addr) (cap : Nat) (w : World) :
    Calls Tryz.prog 64 #[.slice a 0 cap] w fun e w' => e = .returned (.slice a 0 cap) ∧ w' = w := Any.slices_Compact_int_empty Tryz.laysNm220 a cap w
open Go.RowKit Go.Sort in
/-- .. and plain. (LAID: no walk: one application.) -/
theorem Tryz.slices_Sort_int_none (p : Option Addr) (cap : Nat) (w : World) :
    Calls Tryz.prog 63 #[.slice p 0 cap] w fun e w' => e = .returned (.tuple #[]) ∧ w' = w := Any.slices_Sort_int_none Tryz.lays189 p cap w
def Tryz.sortHeld_ren : Go.Shelf.Ren := ⟨fun | 6 => 55 | 15 => 32 | 14 => 71 | 28 => 52 | 29 => 53 | 20 => 77 | 21 => 78 | 22 => 79 | 23 => 80 | 24 => 81 | 25 => 82 | 26 => 83 | 27 => 84 | 46 => 95 | 47 => 67 | 48 => 68 | 49 => 96 | 50 => 97 | 57 => 101 | n => n, fun | 22 => 105 | 24 => 58 | 25 => 114 | 3 => 3 | 39 => 76 | 0 => 0 | 53 => 100 | 55 => 102 | 4 => 4 | 46 => 94 | 45 => 93 | 50 => 85 | 5 => 5 | 9 => 9 | 66 => 122 | 70 => 126 | 76 => 132 | 77 => 133 | n => n, fun | n => n⟩
theorem Tryz.sortHeld : Go.Proofs.SlLaysF0.n6 Tryz.prog Tryz.sortHeld_ren := {
  mixed := by kernel_rfl
  f6 := ⟨Tryz.f55.name, by decide, Tryz.func55.trans (congrArg some (by kernel_rfl))⟩
  f14 := ⟨Tryz.f71.name, by decide, Tryz.func71.trans (congrArg some (by kernel_rfl))⟩
  f15 := Tryz.func32.trans (congrArg some (by kernel_rfl))
  f20 := ⟨Tryz.f77.name, by decide, Tryz.func77.trans (congrArg some (by kernel_rfl))⟩
  f21 := ⟨Tryz.f78.name, by decide, Tryz.func78.trans (congrArg some (by kernel_rfl))⟩
  f22 := ⟨Tryz.f79.name, by decide, Tryz.func79.trans (congrArg some (by kernel_rfl))⟩
  f23 := ⟨Tryz.f80.name, by decide, Tryz.func80.trans (congrArg some (by kernel_rfl))⟩
  f24 := ⟨Tryz.f81.name, by decide, Tryz.func81.trans (congrArg some (by kernel_rfl))⟩
  f25 := ⟨Tryz.f82.name, by decide, Tryz.func82.trans (congrArg some (by kernel_rfl))⟩
  f26 := ⟨Tryz.f83.name, by decide, Tryz.func83.trans (congrArg some (by kernel_rfl))⟩
  f27 := ⟨Tryz.f84.name, by decide, Tryz.func84.trans (congrArg some (by kernel_rfl))⟩
  f28 := Tryz.func52.trans (congrArg some (by kernel_rfl))
  f29 := Tryz.func53.trans (congrArg some (by kernel_rfl))
  f46 := ⟨Tryz.f95.name, by decide, Tryz.func95.trans (congrArg some (by kernel_rfl))⟩
  f47 := Tryz.func67.trans (congrArg some (by kernel_rfl))
  f48 := Tryz.func68.trans (congrArg some (by kernel_rfl))
  f49 := ⟨Tryz.f96.name, by decide, Tryz.func96.trans (congrArg some (by kernel_rfl))⟩
  f50 := ⟨Tryz.f97.name, by decide, Tryz.func97.trans (congrArg some (by kernel_rfl))⟩
  f57 := ⟨Tryz.f101.name, by decide, Tryz.func101.trans (congrArg some (by kernel_rfl))⟩
  t0 := Tryz.underlying0
  a0 := Tryz.isAgg0
  z0 := Tryz.sizeOf0
  v0 := Tryz.zeroValue0
  t3 := Tryz.underlying3
  a3 := Tryz.isAgg3
  z3 := Tryz.sizeOf3
  v3 := Tryz.zeroValue3
  t4 := Tryz.underlying4
  a4 := Tryz.isAgg4
  z4 := Tryz.sizeOf4
  v4 := Tryz.zeroValue4
  t5 := Tryz.underlying5
  a5 := Tryz.isAgg5
  z5 := Tryz.sizeOf5
  v5 := Tryz.zeroValue5
  t9 := Tryz.underlying9
  a9 := Tryz.isAgg9
  z9 := Tryz.sizeOf9
  v9 := Tryz.zeroValue9
  t22 := Tryz.underlying105
  a22 := Tryz.isAgg105
  z22 := Tryz.sizeOf105
  v22 := Tryz.zeroValue105
  t25 := Tryz.underlying114
  a25 := Tryz.isAgg114
  z25 := Tryz.sizeOf114
  v25 := Tryz.zeroValue114
  t39 := Tryz.underlying76
  a39 := Tryz.isAgg76
  z39 := Tryz.sizeOf76
  v39 := Tryz.zeroValue76
  t45 := Tryz.underlying93
  a45 := Tryz.isAgg93
  z45 := Tryz.sizeOf93
  v45 := Tryz.zeroValue93
  t46 := Tryz.underlying94
  a46 := Tryz.isAgg94
  z46 := Tryz.sizeOf94
  v46 := Tryz.zeroValue94
  t50 := Tryz.underlying85
  a50 := Tryz.isAgg85
  z50 := Tryz.sizeOf85
  v50 := Tryz.zeroValue85
  t53 := Tryz.underlying100
  a53 := Tryz.isAgg100
  z53 := Tryz.sizeOf100
  v53 := Tryz.zeroValue100
  t55 := Tryz.underlying102
  a55 := Tryz.isAgg102
  z55 := Tryz.sizeOf102
  v55 := Tryz.zeroValue102
  t66 := Tryz.underlying122
  a66 := Tryz.isAgg122
  z66 := Tryz.sizeOf122
  v66 := Tryz.zeroValue122
  t70 := Tryz.underlying126
  a70 := Tryz.isAgg126
  z70 := Tryz.sizeOf126
  v70 := Tryz.zeroValue126
  t76 := Tryz.underlying132
  a76 := Tryz.isAgg132
  z76 := Tryz.sizeOf132
  v76 := Tryz.zeroValue132
  t77 := Tryz.underlying133
  a77 := Tryz.isAgg133
  z77 := Tryz.sizeOf133
  v77 := Tryz.zeroValue133 }
def Tryz.sortPairs_ren : Go.Shelf.Ren := ⟨fun | 6 => 9 | 15 => 32 | 14 => 31 | 28 => 52 | 29 => 53 | 20 => 44 | 21 => 45 | 22 => 46 | 23 => 47 | 24 => 48 | 25 => 49 | 26 => 50 | 27 => 51 | 46 => 66 | 47 => 67 | 48 => 68 | 49 => 69 | 50 => 70 | 57 => 76 | n => n, fun | 22 => 33 | 24 => 39 | 25 => 43 | 3 => 3 | 39 => 76 | 0 => 0 | 53 => 100 | 55 => 102 | 4 => 4 | 46 => 94 | 45 => 93 | 50 => 85 | 5 => 5 | 9 => 9 | 66 => 122 | 70 => 126 | 76 => 132 | 77 => 133 | n => n, fun | n => n⟩
theorem Tryz.sortPairs : Go.Proofs.SlLaysF0.n6 Tryz.prog Tryz.sortPairs_ren := {
  mixed := by kernel_rfl
  f6 := ⟨Tryz.f9.name, by decide, Tryz.func9.trans (congrArg some (by kernel_rfl))⟩
  f14 := ⟨Tryz.f31.name, by decide, Tryz.func31.trans (congrArg some (by kernel_rfl))⟩
  f15 := Tryz.func32.trans (congrArg some (by kernel_rfl))
  f20 := ⟨Tryz.f44.name, by decide, Tryz.func44.trans (congrArg some (by kernel_rfl))⟩
  f21 := ⟨Tryz.f45.name, by decide, Tryz.func45.trans (congrArg some (by kernel_rfl))⟩
  f22 := ⟨Tryz.f46.name, by decide, Tryz.func46.trans (congrArg some (by kernel_rfl))⟩
  f23 := ⟨Tryz.f47.name, by decide, Tryz.func47.trans (congrArg some (by kernel_rfl))⟩
  f24 := ⟨Tryz.f48.name, by decide, Tryz.func48.trans (congrArg some (by kernel_rfl))⟩
  f25 := ⟨Tryz.f49.name, by decide, Tryz.func49.trans (congrArg some (by kernel_rfl))⟩
  f26 := ⟨Tryz.f50.name, by decide, Tryz.func50.trans (congrArg some (by kernel_rfl))⟩
  f27 := ⟨Tryz.f51.name, by decide, Tryz.func51.trans (congrArg some (by kernel_rfl))⟩
  f28 := Tryz.func52.trans (congrArg some (by kernel_rfl))
  f29 := Tryz.func53.trans (congrArg some (by kernel_rfl))
  f46 := ⟨Tryz.f66.name, by decide, Tryz.func66.trans (congrArg some (by kernel_rfl))⟩
  f47 := Tryz.func67.trans (congrArg some (by kernel_rfl))
  f48 := Tryz.func68.trans (congrArg some (by kernel_rfl))
  f49 := ⟨Tryz.f69.name, by decide, Tryz.func69.trans (congrArg some (by kernel_rfl))⟩
  f50 := ⟨Tryz.f70.name, by decide, Tryz.func70.trans (congrArg some (by kernel_rfl))⟩
  f57 := ⟨Tryz.f76.name, by decide, Tryz.func76.trans (congrArg some (by kernel_rfl))⟩
  t0 := Tryz.underlying0
  a0 := Tryz.isAgg0
  z0 := Tryz.sizeOf0
  v0 := Tryz.zeroValue0
  t3 := Tryz.underlying3
  a3 := Tryz.isAgg3
  z3 := Tryz.sizeOf3
  v3 := Tryz.zeroValue3
  t4 := Tryz.underlying4
  a4 := Tryz.isAgg4
  z4 := Tryz.sizeOf4
  v4 := Tryz.zeroValue4
  t5 := Tryz.underlying5
  a5 := Tryz.isAgg5
  z5 := Tryz.sizeOf5
  v5 := Tryz.zeroValue5
  t9 := Tryz.underlying9
  a9 := Tryz.isAgg9
  z9 := Tryz.sizeOf9
  v9 := Tryz.zeroValue9
  t22 := Tryz.underlying33
  a22 := Tryz.isAgg33
  z22 := Tryz.sizeOf33
  v22 := Tryz.zeroValue33
  t25 := Tryz.underlying43
  a25 := Tryz.isAgg43
  z25 := Tryz.sizeOf43
  v25 := Tryz.zeroValue43
  t39 := Tryz.underlying76
  a39 := Tryz.isAgg76
  z39 := Tryz.sizeOf76
  v39 := Tryz.zeroValue76
  t45 := Tryz.underlying93
  a45 := Tryz.isAgg93
  z45 := Tryz.sizeOf93
  v45 := Tryz.zeroValue93
  t46 := Tryz.underlying94
  a46 := Tryz.isAgg94
  z46 := Tryz.sizeOf94
  v46 := Tryz.zeroValue94
  t50 := Tryz.underlying85
  a50 := Tryz.isAgg85
  z50 := Tryz.sizeOf85
  v50 := Tryz.zeroValue85
  t53 := Tryz.underlying100
  a53 := Tryz.isAgg100
  z53 := Tryz.sizeOf100
  v53 := Tryz.zeroValue100
  t55 := Tryz.underlying102
  a55 := Tryz.isAgg102
  z55 := Tryz.sizeOf102
  v55 := Tryz.zeroValue102
  t66 := Tryz.underlying122
  a66 := Tryz.isAgg122
  z66 := Tryz.sizeOf122
  v66 := Tryz.zeroValue122
  t70 := Tryz.underlying126
  a70 := Tryz.isAgg126
  z70 := Tryz.sizeOf126
  v70 := Tryz.zeroValue126
  t76 := Tryz.underlying132
  a76 := Tryz.isAgg132
  z76 := Tryz.sizeOf132
  v76 := Tryz.zeroValue132
  t77 := Tryz.underlying133
  a77 := Tryz.isAgg133
  z77 := Tryz.sizeOf133
  v77 := Tryz.zeroValue133 }
def Tryz.growSteps_ren : Go.Shelf.Ren := ⟨fun | 4 => 74 | n => n, fun | 22 => 23 | 25 => 46 | 3 => 3 | 4 => 4 | 9 => 9 | 20 => 20 | 0 => 0 | n => n, fun | n => n⟩
theorem Tryz.growSteps : Go.Proofs.Lays8.n4 Tryz.prog Tryz.growSteps_ren := {
  mixed := by kernel_rfl
  f4 := ⟨Tryz.f74.name, by decide, Tryz.func74.trans (congrArg some (by kernel_rfl))⟩
  t0 := Tryz.underlying0
  a0 := Tryz.isAgg0
  z0 := Tryz.sizeOf0
  v0 := Tryz.zeroValue0
  t3 := Tryz.underlying3
  a3 := Tryz.isAgg3
  z3 := Tryz.sizeOf3
  v3 := Tryz.zeroValue3
  t4 := Tryz.underlying4
  a4 := Tryz.isAgg4
  z4 := Tryz.sizeOf4
  v4 := Tryz.zeroValue4
  t9 := Tryz.underlying9
  a9 := Tryz.isAgg9
  z9 := Tryz.sizeOf9
  v9 := Tryz.zeroValue9
  t20 := Tryz.underlying20
  a20 := Tryz.isAgg20
  z20 := Tryz.sizeOf20
  v20 := Tryz.zeroValue20
  t22 := Tryz.underlying23
  a22 := Tryz.isAgg23
  z22 := Tryz.sizeOf23
  v22 := Tryz.zeroValue23 }
end Go.Proofs
/- retro.listed over a map: the walk over the map, the sort by keys. -/
set_option linter.unusedVariables false
set_option linter.unusedSimpArgs false
namespace Go.Proofs.YtkoeplbkeboklaaGreat
open Go.RowKit Go.Shelf Go.Sort
instance : Inhabited Held := ⟨noneH⟩
theorem closureHeld (x y : Held) (W : World) : Calls Tryz.prog 56 #[.agg x.cells.toArray, .agg y.cells.toArray] W fun e w' => e = .returned (.int .i64 (cmpP x.key y.key)) ∧ ∃ q os', w' = grow (W.drewN q) os' := by
  show Calls Tryz.prog 56 #[.agg #[.int .i64 x.key, .int .i64 x.val, .int .i64 x.from_], .agg #[.int .i64 y.key, .int .i64 y.val, .int .i64 y.from_]] W _
  go_enter Tryz.func56, Tryz.ntmps56
  go_wp2_with (go_at_call 57; refine (compare_any _ _ _).mono ?_; rintro e w' ⟨rfl, rfl⟩)
  go_ret
  exact ⟨rfl, 0, _, by rw [alloc_eq_grow, alloc_eq_grow, grow_grow]; rfl⟩
theorem ltHeld (x y : Held) : ltOf (fun x y : Held => cmpP x.key y.key) x y = decide (x.key < y.key) := by
  unfold ltOf cmpP
  by_cases h1 : x.key < y.key
  · simp [h1]
  · by_cases h2 : x.key > y.key <;> simp [h1, h2]
theorem swoHeld : SWO (ltOf fun x y : Held => cmpP x.key y.key) where
  irrefl x := by rw [ltHeld]; simp
  trans x y z h1 h2 := by rw [ltHeld] at *; simp at *; omega
  ntrans x y z h1 h2 := by rw [ltHeld] at *; simp at *; omega
theorem held_one (x : Held) : ∀ v ∈ x.cells, v.oneCell' = true := by
  intro v hv
  simp [Held.cells] at hv
  rcases hv with rfl | rfl | rfl <;> rfl
theorem sortHeld_any (a : Option Addr) (c : Nat) (S : Nat → Prop) (got : List Held) (w : World) (hw : Win Held.cells 3 58 w (.slice a got.length c) S got) (hl : got.length < 1000000) :
    Calls Tryz.prog 55 #[.slice a got.length c, .func (.func 56) #[] #[]] w fun e w' =>
      e = .returned (.tuple #[]) ∧ ∃ ss, ss.Perm got ∧ (ss.Pairwise fun a b => a.key ≤ b.key) ∧ Rd Held.cells 3 w' (.slice a got.length c) ss ∧ Fr (fun i => some i = (Value.slice a got.length c).ownBlock) w w' := by
  cases got with
  | nil =>
    refine (AnyF.slices_SortFunc_none (P := Tryz.prog) { Tryz.sortHeld with } a c (.func (.func 56) #[] #[]) w).mono ?_
    rintro e w' ⟨rfl, rfl⟩
    exact ⟨rfl, [], List.Perm.refl _, List.Pairwise.nil, win_rd held_len hw, fr_refl _ _⟩
  | cons h t =>
    obtain ⟨b, off, rfl⟩ : ∃ b off, a = some ⟨b, off, none⟩ := by
      rcases hw.2 with ⟨h1, h2⟩ | ⟨g, off, cap, cur, hv, _⟩
      · simp at h2
      · injection hv with h1; exact ⟨g, off, h1⟩
    have hob : b < w.heap.size := (winC_ob hw b rfl).2
    have hH := holdsK_win held_len hw rfl
    have eg : ∀ args w, (callFunc 56 args).run Tryz.prog w = .ok (.enter 56 args) w := enters_of Tryz.func56 (by kernel_rfl) rfl
    have hcon := AnyQ.slices_SortFunc Tryz.sortHeld 3 Tryz.isAgg58 Tryz.sizeOf58 Held.cells held_len held_one (fun x y => cmpP x.key y.key) swoHeld 56 #[] b off c (h :: t).toArray w eg
      (fun _ _ _ _ x y => closureHeld x y _) hH hob (by simp at hl ⊢; omega)
    refine hcon.mono ?_
    rintro e w' ⟨rfl, d', n, os, hp, hs, rfl⟩
    have hsz : d'.size = (h :: t).length := by simpa using hp.1
    have hH2 : HoldsK Held.cells 3 (sortWorldK Held.cells 3 w b off n d' os) b off d' := by
      refine holdsK_grow _ _ _ _ _ _ _ (by simp [putRowK, putRow, mapBlock, Sort.ahead]; exact hob) ?_
      exact holdsK_putRowK _ _ _ _ _ _ _ (holdsK_ahead _ _ _ _ _ _ _ hH) (by simpa using hsz)
    refine ⟨rfl, d'.toList, ?_, ?_, ?_, fr_mono (fr_sortK _ _ _ _ _ _ _ _) fun i hi => by rw [hi]; rfl⟩
    · have := hp.2.2
      rw [show (h :: t).toArray.size = d'.size by simpa using hsz.symm] at this
      have h2 := List.take_of_length_le (l := h :: t) (i := d'.size) (by omega)
      simp only [Array.extract_size, Array.toList_extract, List.extract_eq_take_drop, Nat.sub_zero, List.drop_zero] at this
      rw [h2] at this
      simpa using this
    · refine List.pairwise_iff_getElem.2 fun i j hi hj hij => ?_
      rw [Array.length_toList] at hi hj
      have := hs i j (by omega) hij (by rw [← hp.1]; exact hj)
      rw [ltHeld] at this
      simp [hi, hj] at this
      simpa using this
    · have := rd_holdsK held_len (c := c) hH2 (by simp [sortWorldK, putRowK, putRow, mapBlock, Sort.ahead]; omega) (by omega)
      rwa [hsz] at this
def lenV : Value → Nat
  | .slice _ n _ => n
  | _ => 0
theorem held_agg (h : Held) : (heldKV h).2 = .agg #[.int .i64 h.key, .int .i64 h.val, .int .i64 h.from_] := rfl
set_option maxHeartbeats 4000000 in
theorem listed_table (B : Nat) (S : Nat → Prop) (th : List Held) (w : World) (hl : TableAt w S B th) (hs : sortH th) (hth : th.length < 1000000) :
    Calls Tryz.prog 37 #[.iface 111 (.map (some B))] w fun e w' => ∃ v, e = .returned v ∧ Win Pair.cells 2 39 w' v (fun i => w.heap.size ≤ i) (th.map pairH) ∧ Below w.heap.size w w' := by
  obtain ⟨hSB, hM⟩ := hl
  obtain ⟨w1, hrun, hit, hF1, hz1⟩ := run_range_of (P := Tryz.prog) (w := w) (T := 111) Tryz.underlying111 hM
  have t1 := ta_table_stack (some B)
  have t2 := ta_table_queue (some B)
  have t3 := ta_table_table (some B)
  have hBl : B < w.heap.size := by obtain ⟨es, clock, hb, _⟩ := hM; exact (Array.getElem?_eq_some_iff.1 hb).1
  have hb1 : Below w.heap.size w w1 := below_of_fr hF1 (Nat.le_refl _) fun i hi => hi.elim
  have HI := Lib.hid (And.intro hit (And.intro hb1 hs))
  clear hM hit hF1 hb1 hs hSB
  go_enter Tryz.func37, Tryz.ntmps37
  go_wp2
  go_loopw [3] (fun v W => ∃ (got left : List Held) (a1 : Option Addr) (c1 : Nat), v = .slice a1 got.length c1 ∧ (got ++ left).Perm th ∧ IterOf W w.heap.size B (left.map heldKV) ∧ Win Held.cells 3 58 W (.slice a1 got.length c1) (fun j => w.heap.size < j) got ∧ Below w.heap.size w W ∧ w.heap.size < W.heap.size) (fun v _ => th.length - lenV v)
  case atStart => exact ⟨[], th, none, 0, rfl, List.Perm.refl _, HI.out.1, winC_nil _ _ _ _, HI.out.2.1, by omega⟩
  case round =>
    obtain ⟨got, left, aL, cL, rfl, hp, hit, hwin, hB, hlt⟩ := hrel
    have hpl := hp.length_eq
    rw [List.length_append] at hpl
    cases left with
    | nil =>
      have HI2 := Lib.hid hit
      have hwin' := winC_mono hwin (T := fun j => w.heap.size ≤ j) fun i hi => Nat.le_of_lt hi
      have hso := sortHeld_any aL cL (fun j => w.heap.size ≤ j) got wr hwin' (by simp at hpl; omega)
      have HS := Lib.hid (And.intro hso (And.intro hp (And.intro hB (winC_ob hwin))))
      clear hit hwin hwin' hso hp hB
      go_wp2_with (first | (at_next; refine wpList_next_of (by rfl) _ (by rfl) w.heap.size [] (by rfl) HI2.out (fun _ => ?_) (fun k v l' w' hp' => absurd hp'.length_eq (by simp))) | (go_at_call 55; refine HS.out.1.mono ?_; rintro e w5 ⟨rfl, ss, hps, hss, hrd, hF⟩))
      rw [List.append_nil] at HS
      have hst : ss = th := sortH_unique HI.out.2.2 (hps.trans HS.out.2.1) hss
      subst hst
      have hgl : got.length = ss.length := by simpa using hpl
      rw [hgl] at hrd hF ⊢
      have hob : ∀ i, some i = (Value.slice aL got.length cL).ownBlock → w.heap.size ≤ i := fun i hi => Nat.le_of_lt (HS.out.2.2.2 i hi).1
      rw [hgl] at hob
      have HRD := Lib.hid hrd
      have HBL := Lib.hid (HS.out.2.2.1.trans (below_of_fr hF HS.out.2.2.1.size hob))
      clear hrd hF hob hgl hps hss HS HI2 HI hpl
      go_wp2
      go_loopw [44, 9] (fun i v W => ∃ (n : Nat) (a1 : Option Addr) (c1 : Nat), i = .int .i64 n ∧ v = .slice a1 n c1 ∧ n ≤ ss.length ∧ Win Pair.cells 2 39 W (.slice a1 n c1) (fun j => w.heap.size ≤ j ∧ some j ≠ (Value.slice aL ss.length cL).ownBlock) ((ss.take n).map pairH) ∧ Rd Held.cells 3 W (.slice aL ss.length cL) ss ∧ Below w.heap.size w W) (fun i _ _ => ss.length - (intOf i).toNat)
      case atStart => exact ⟨0, none, 0, rfl, rfl, by omega, winC_nil 2 39 _ _, HRD.out, HBL.out⟩
      case round =>
        obtain ⟨n, a1, c1, rfl, rfl, hnl, hwin, hrd, hB⟩ := hrel
        by_cases hlt' : n < ss.length
        · have hx := List.getElem?_eq_getElem hlt'
          generalize ss[n] = h at hx
          obtain ⟨b, off, rfl, hbl, hc⟩ := rd_at hrd hx
          have q0 : wr.cell? ⟨b, off + n * 3, none⟩ = some (.int .i64 h.key) := hc 0 _ rfl
          have q1 := hc 1 _ rfl
          have q2 := hc 2 _ rfl
          clear hc
          have hn1 : ((ss.take n).map pairH).length = n := by simp; omega
          have hW1 : WinC 2 39 wr (.slice a1 n c1) (fun j => (w.heap.size ≤ j ∧ some j ≠ (Value.slice (some ⟨b, off, none⟩) ss.length cL).ownBlock) ∧ j < wr.heap.size) n (((ss.take n).map pairH).flatMap Pair.cells) := by
            have := winC_mono (winC_block hwin) (T := fun j => (w.heap.size ≤ j ∧ some j ≠ (Value.slice (some ⟨b, off, none⟩) ss.length cL).ownBlock) ∧ j < wr.heap.size) fun i hi => hi.2
            rwa [hn1] at this
          have hW2 := fun o1 o2 => winC_move hW1 (fr_of_below (S := fun _ => False) (((Below.refl wr.heap.size wr).alloc (Nat.le_refl _) o1).alloc (by simp) o2)) (fun _ _ h => h)
          have HX := Lib.hid (And.intro hx (And.intro hn1 (And.intro hW1 (And.intro hrd hwin))))
          have HW2 := Lib.hid hW2
          clear hx hn1 hW1 hrd hwin hW2
          go_wp2_with (at_builtin; (refine wpList_append_win _ (by rfl) _ _ _ (by rfl) 39 2 16 _ Tryz.underlying33 info_pair rfl (by decide) _ _ n _ (by rfl) (HW2.out _ _) _ _ _ [.int .i64 h.key, .int .i64 h.val] (by rfl) (by rfl) (news2 wr _ _ _) (by simp [Value.oneCell']) (by decide) (by unfold maxLen; omega) (by omega) ?_); intro v1 w1 hwin1 hfr1 hsz1; obtain ⟨a2, c2, rfl, hc2, hm2⟩ := winC_slice hwin1)
          have hb1 : Below wr.heap.size wr ((wr.alloc (.cells #[.int .i64 h.key, .int .i64 h.val, .int .i64 h.from_] 58)).alloc (.cells #[.int .i64 h.key, .int .i64 h.val] 39)) := ((Below.refl wr.heap.size wr).alloc (Nat.le_refl _) _).alloc (by simp) _
          have hob : ∀ i, some i = (Value.slice a1 n c1).ownBlock → w.heap.size ≤ i ∧ some i ≠ (Value.slice (some ⟨b, off, none⟩) ss.length cL).ownBlock := fun i hi => (winC_ob HX.out.2.2.1 i hi).1.1
          have hF : Fr (fun i => some i = (Value.slice a1 n c1).ownBlock) wr w1 := fr_trans (fr_of_below hb1) hfr1 fun _ _ h => h
          go_roundw
          case rel =>
            refine ⟨n + 1, a2, c2, by go_num, rfl, by omega, ?_, rd_move HX.out.2.2.2.1 hF (fun i hi h => (hob i h).2 hi), ?_⟩
            · have e1 : ((ss.take (n + 1)).map pairH) = (ss.take n).map pairH ++ [pairH h] := by rw [List.take_add_one, HX.out.1]; simp
              refine (?_ : WinC _ _ _ _ _ _ _)
              rw [e1, List.length_append, HX.out.2.1, List.flatMap_append]
              exact winC_mono hwin1 fun i hi => by
                have hs := hB.size
                rcases hi with hi | hi
                · exact hi.1.1
                · simp at hi
                  refine ⟨by omega, fun e => ?_⟩
                  have : i = b := by simpa [Value.ownBlock] using e
                  omega
            · exact hB.trans (below_of_fr hF hB.size fun i hi => (hob i hi).1)
          case measure => simp [intOf]; omega
        · obtain rfl : n = ss.length := by omega
          go_wp2
          go_ret
          refine ⟨_, rfl, ?_, hB⟩
          rw [List.take_length] at hwin
          exact winC_mono hwin fun i hi => hi.1

    | cons h0 left0 =>
      have HI2 := Lib.hid hit
      have hwin' := winC_mono (winC_block hwin) (T := fun j => w.heap.size < j ∧ j < wr.heap.size) fun i hi => hi.2
      have HS := Lib.hid (And.intro hwin' (And.intro hp (And.intro hB (winC_ob hwin))))
      have hgl : got.length < th.length := by simp at hpl; omega
      clear hit hwin hwin' hp hB hpl
      go_wp2_with (first | (at_next; (refine wpList_next_of (by rfl) _ (by rfl) w.heap.size _ (by rfl) HI2.out (fun h => absurd h (by simp)) ?_; (intro kx vx left' w' hp' hit' hf' hz' hen; obtain ⟨h, L', hkv, hpL, hpR⟩ := perm_map_cons hp'; obtain ⟨rfl, rfl⟩ : kx = h.key ∧ vx = .agg #[.int .i64 h.key, .int .i64 h.val, .int .i64 h.from_] := ⟨(congrArg Prod.fst hkv).symm, (congrArg Prod.snd hkv).symm⟩; have HN := Lib.hid (And.intro (iterOf_perm hit' hpR) (And.intro hf' (And.intro hpL hz'))); clear hp' hit' hf' hkv hpL hpR hz'))) | (at_builtin; (refine wpList_append_win _ (by rfl) _ _ _ (by rfl) 58 3 24 _ Tryz.underlying105 info_held rfl (by decide) _ _ got.length _ (by rfl) (winC_move (winC_move HS.out.1 HN.out.2.1 (fun i hi h => by omega)) (fr_of_below (S := fun _ => False) (((RowKit.Below.refl w'.heap.size w').alloc (Nat.le_refl _) _).alloc (by simp) _)) (fun _ _ h => h)) _ _ _ [.int .i64 h.key, .int .i64 h.val, .int .i64 h.from_] (by rfl) (by rfl) (news2 w' _ _ _) (by simp [Value.oneCell']) (by decide) (by unfold maxLen; omega) (by omega) ?_); intro v2 w2 hwin2 hfr2 hsz2; obtain ⟨a2, c2, rfl, hn2, hm2⟩ := winC_slice hwin2))
      have hF : Fr (fun i => i = w.heap.size ∨ some i = (Value.slice aL got.length cL).ownBlock) wr w2 := fr_trans (fr_mono HN.out.2.1 fun i hi => .inl hi) (fr_trans (fr_of_below (((RowKit.Below.refl w'.heap.size w').alloc (Nat.le_refl _) _).alloc (by simp) _)) hfr2 fun _ _ h => h) fun i _ h => .inr h
      have hF2 : Fr (fun i => some i = (Value.slice aL got.length cL).ownBlock) w' w2 := fr_trans (fr_of_below (((RowKit.Below.refl w'.heap.size w').alloc (Nat.le_refl _) _).alloc (by simp) _)) hfr2 fun _ _ h => h
      have HZ := Lib.hid (And.intro hF (And.intro hwin2 hF2))
      have hsz := hF.size
      have hz' := HN.out.2.2.2
      clear hF hwin2 hfr2 hF2
      go_roundw
      case rel =>
        refine ⟨got ++ [h], L', a2, c2, by simp, ?_, iterOf_move HN.out.1 HZ.out.2.2 (fun h => by have := (HS.out.2.2.2 _ h).1; omega) (fun h => by have := (HS.out.2.2.2 _ h).1; omega), ?_, HS.out.2.2.1.trans (below_of_fr HZ.out.1 HS.out.2.2.1.size fun i hi => ?_), by omega⟩
        · rw [List.append_assoc]
          exact (List.Perm.append_left got HN.out.2.2.1.symm).trans HS.out.2.1
        · refine (?_ : WinC _ _ _ _ _ _ _)
          rw [List.length_append, List.flatMap_append]
          exact winC_mono HZ.out.2.1 fun i hi => by simp at hi; omega
        · rcases hi with hi | hi
          · omega
          · exact Nat.le_of_lt (HS.out.2.2.2 _ hi).1
      case measure => simp [lenV]; omega
end Go.Proofs.YtkoeplbkeboklaaGreat
/- retro: what is there at a time. -/
set_option linter.unusedVariables false
set_option linter.unusedSimpArgs false
namespace Go.Proofs.YtkoeplbkeboklaaGreat
open Go.RowKit
theorem listed_any (k : Int) (S : Nat → Prop) (x : Value) (th : List Held) (w : World) (h : StoreAt k w S x th) (hs : k ≠ 1 → k ≠ 2 → sortH th) (hS : ∀ i, S i → i < w.heap.size) (hth : th.length < 1000000) :
    Calls Tryz.prog 37 #[x] w fun e w' => ∃ v, e = .returned v ∧ Win Pair.cells 2 39 w' v (fun i => w.heap.size ≤ i) (th.map pairH) ∧ Below w.heap.size w w' := by
  rcases h with ⟨hk, B, rfl, hl⟩ | ⟨hk, B, rfl, hl⟩ | ⟨hk1, hk2, B, rfl, hl⟩
  · exact listed_stack B S th w hl hS hth
  · exact listed_queue B S th w hl hS hth
  · exact listed_table B S th w hl (hs hk1 hk2) hth
set_option maxHeartbeats 2000000 in
theorem there_any (k : Int) (v : Value) (l : List Step) (t : Int) (w : World) (hr : Rd Step.cells 4 w v l) (hl : l.length ≤ 100000) :
    Calls Tryz.prog 17 #[.agg #[.int .i64 k, v], .int .i64 t] w fun e w' => ∃ v, e = .returned v ∧ Win Pair.cells 2 39 w' v (fun i => w.heap.size ≤ i) (thereP k l t) ∧ Below w.heap.size w w' := by
  obtain ⟨a, c, rfl⟩ : ∃ a c, v = .slice a l.length c := by obtain ⟨_, a, c, rfl, _⟩ := hr; exact ⟨a, c, rfl⟩
  have HR := Lib.hid hr
  clear hr
  go_enter Tryz.func17, Tryz.ntmps17
  go_wp2_with (go_at_call 36; refine (empty_any k _).mono ?_; rintro e w1 ⟨x, rfl, hst, hb1⟩; have HST := Lib.hid hst; clear hst; have g1 := below_cell hb1 (World.cell?_alloc_new w #[.int .i64 k, .slice a l.length c] 25 1))
  have hB1 : Below w.heap.size w w1 := ((Below.refl w.heap.size w).alloc (Nat.le_refl _) _).trans (hb1.mono (by simp))
  have hz1 : w.heap.size + 1 ≤ w1.heap.size := by have := hb1.size; simpa using this
  go_loopw [14] (fun i W => ∃ (n : Nat) (S : Nat → Prop), i = .int .i64 n ∧ n ≤ l.length ∧ StoreAt k W S x (runP k t (l.take n)) ∧ (∀ j, S j → w.heap.size ≤ j ∧ j < W.heap.size) ∧ Below w.heap.size w W) (fun i _ => l.length - (intOf i).toNat)
  case atStart => exact ⟨0, _, rfl, by omega, HST.out, fun j hj => ⟨by have := hj.1; simp at this; omega, hj.2⟩, hB1⟩
  case round =>
    obtain ⟨n, S, rfl, hnl, hst, hS, hB⟩ := hrel
    by_cases hlt' : n < l.length
    · have hx := List.getElem?_eq_getElem hlt'
      generalize l[n] = s at hx
      obtain ⟨b, off, rfl, hbl, hc⟩ := rd_at (HR.out.below hB) hx
      have q0 : wr.cell? ⟨b, off + n * 4, none⟩ = some (.int .i64 s.at_) := hc 0 _ rfl
      have q1 := hc 1 _ rfl
      have q2 := hc 2 _ rfl
      have q3 := hc 3 _ rfl
      have hst2 := fun o => storeAt_move hst (fr_alloc (fun _ => False) wr o) (fun _ _ h => h)
      have hlen := runP_length k t l n
      obtain ⟨f, args, hm, hcall⟩ := do_any k S x (runP k t (l.take n)) s _ (hst2 (.cells #[.int .i64 s.at_, .int .i64 s.do_, .int .i64 s.key, .int .i64 s.val] 46)) (fun i hi => by have := (hS i hi).2; simp; omega) (by omega)
      have HX := Lib.hid (And.intro hx (And.intro hst (And.intro hm hcall)))
      have HS := Lib.hid hS
      clear hc hx hst hst2 hm hcall hlen hS g1
      by_cases hat : s.at_ ≤ t
      · go_wp2_with (refine wpList_invoke (by rfl) _ _ _ _ (by rfl) x _ (by rfl) (by rfl) f args HX.out.2.2.1 HX.out.2.2.2 ?_; rintro e w2 ⟨rfl, S2, hst2, hS2, hF2⟩; refine ⟨_, rfl, ?_⟩)
        go_roundw
        case rel =>
          refine ⟨n + 1, S2, by go_num, by omega, by rw [runP_take HX.out.1, stepT, if_pos hat]; exact hst2, fun j hj => ⟨?_, (hS2 j hj).2⟩, ?_⟩
          · rcases (hS2 j hj).1 with h | h
            · exact (HS.out j h).1
            · have := hB.size; simp at h; omega
          · exact (hB.alloc hB.size _).trans (below_of_fr hF2 (by have := hB.size; simp; omega) fun i hi => (HS.out i hi).1)
        case measure => simp [intOf]; omega
      · go_wp2
        go_roundw
        case rel => exact ⟨n + 1, S, by go_num, by omega, by rw [runP_take HX.out.1, stepT, if_neg hat]; exact storeAt_move HX.out.2.1 (fr_alloc (fun _ => False) wr _) (fun _ _ h => h), fun j hj => ⟨(HS.out j hj).1, by have := (HS.out j hj).2; simp; omega⟩, hB.alloc hB.size _⟩
        case measure => simp [intOf]; omega
    · obtain rfl : n = l.length := by omega
      go_wp2_with (go_at_call 37; refine (listed_any k S x _ _ hst (fun h1 h2 => runP_sort h1 h2 _) (fun i hi => (hS i hi).2) (by have := runP_length k t l l.length; omega)).mono ?_; rintro e w2 ⟨v2, rfl, hw2, hb2⟩)
      go_ret
      refine ⟨_, rfl, ?_, hB.trans (hb2.mono hB.size)⟩
      rw [List.take_length] at hw2
      exact winC_mono hw2 fun i hi => Nat.le_trans hB.size hi
end Go.Proofs.YtkoeplbkeboklaaGreat
/- retro.done: the iterator over a line's steps, each with what it takes away. -/
set_option linter.unusedVariables false
set_option linter.unusedSimpArgs false
namespace Go.Proofs.YtkoeplbkeboklaaGreat
open Go.RowKit Go.Shelf
attribute [local go_sem] Oper.semAt_some
def thP (k : Int) (l : List Step) (n : Nat) : List Held := (l.take n).foldl (fun th s => (doP k th s).1) []
theorem thP_succ {k : Int} {l : List Step} {n : Nat} {s : Step} (h : l[n]? = some s) : thP k l (n + 1) = (doP k (thP k l n) s).1 := by
  rw [thP, thP, List.take_add_one, h, List.foldl_append]; rfl
theorem thP_length (k : Int) (l : List Step) (n : Nat) : (thP k l n).length ≤ n := by
  induction n with
  | zero => simp [thP]
  | succ n ih =>
    cases h : l[n]? with
    | none => rw [thP, List.take_add_one, h]; simp; exact Nat.le_succ_of_le ih
    | some s => rw [thP_succ h]; have := doP_length k (thP k l n) s; omega
theorem drew_size0 (w : World) : w.drew.heap.size = w.heap.size := rfl
theorem uponIn_of_run {F : Fence} {n : Nat} {P : Program} {o : Oper} {a : Act} {next : Act → World → Prop} {Q : Exit → Act → World → Prop} {c : Sem Next} {w w' : World} {f : FuncId} {args : Array Value} (h : c.run P w = .ok (.enter f args) w')
    (h2 : (F.depth.isSome = true → 1 ≤ n) ∧ CallsIn F (n - 1) P f args w' fun
      | .returned v, w'' => next (a.put o.dst v) w''
      | .panicked chain, w'' => Q (.panic chain) a w''
      | .outgrown, _ => LetsOut Q) : o.uponIn F n P a next Q (c.run P w) := by
  rw [h]; exact h2
theorem done_any (k : Int) (v : Value) (w : World) : Calls Tryz.prog 16 #[.agg #[.int .i64 k, v]] w fun e w' => e = .returned (.func (.func 35) #[] #[.pointer (some ⟨w.heap.size, 0, none⟩)]) ∧ w.alloc (.cells #[.int .i64 k, v] 25) = w' := by
  go_enter Tryz.func16, Tryz.ntmps16
  go_wp2
  go_ret
  exact ⟨rfl, rfl⟩
set_option maxHeartbeats 4000000 in
theorem done1_in (n L Bn : Nat) (k : Int) (a : Option Addr) (c : Nat) (l : List Step) (hl : l.length ≤ 100000) (W0 : World) (M : Nat → Prop) (J : Nat → (Nat → Prop) → World → Prop)
    (hline : W0.heap[Bn]? = some (.cells #[.int .i64 k, .slice a l.length c] 25 (0, 0))) (hr : Rd Step.cells 4 W0 (.slice a l.length c) l) (hMB : ¬ M Bn) (hMv : ∀ i, some i = (Value.slice a l.length c).ownBlock → l = [] ∨ ¬ M i)
    (h0 : J 0 (fun _ => False) W0)
    (hmine : ∀ i S S' W W1, J i S W → Fr S W W1 → (∀ j, S' j → S j ∨ W.heap.size ≤ j) → (∀ j, S j → W0.heap.size ≤ j) → J i S' W1)
    (hY : ∀ i s S W, l[i]? = some s → J i S W → (∀ j, S j → W0.heap.size ≤ j ∧ j < W.heap.size) → W0.heap.size ≤ W.heap.size → YieldAt Fence.wide n Tryz.prog L #[.agg #[.int .i64 s.at_, .int .i64 s.do_, .int .i64 s.key, .int .i64 s.val], .agg #[.int .i64 (doP k (thP k l i) s).2.key, .int .i64 (doP k (thP k l i) s).2.val, .int .i64 (doP k (thP k l i) s).2.from_]] W fun e W' => e = .returned (.bool true) ∧ J (i + 1) S W' ∧ Fr (fun j => ¬ S j ∧ (M j ∨ W0.heap.size ≤ j)) W W') :
    CallsIn Fence.wide (n + 1) Tryz.prog 35 #[.func (.yield L) #[] #[], .pointer (some ⟨Bn, 0, none⟩)] W0 fun e W' => (∃ v, e = .returned v) ∧ ∃ S, J l.length S W' ∧ (∀ j, S j → W0.heap.size ≤ j) ∧ W0.heap.size ≤ W'.heap.size := by
  have HR := Lib.hid (And.intro hr (And.intro hmine hY))
  have HJ := Lib.hid h0
  have b0 : W0.cell? ⟨Bn, 0, none⟩ = some (.int .i64 k) := cell_blk hline 0
  have b1 : W0.cell? ⟨Bn, 1, none⟩ = some (.slice a l.length c) := cell_blk hline 1
  clear hr hmine hY h0 hline
  have hF : Fence.wide.fn 36 := trivial
  refine callsIn_of_wp Tryz.func35 rfl trivial ?_ rfl
  simp only [Tryz.ntmps35, List.size_toArray, List.length_cons, List.length_nil, Nat.reduceAdd, Nat.reduceSub, Array.replicate_succ, Array.replicate_zero, List.push_toArray, List.append_toArray, List.nil_append, List.cons_append]
  gi_wp2_with ((gi_at_call 36; refine (callsIn_wide.2 (empty_any k _)).mono ?_; rintro e w1 ⟨x, rfl, hst, hb1⟩; have HST := Lib.hid hst; clear hst; have g1 := below_cell hb1 b1))
  have hz1 := hb1.size
  have HB1 := Lib.hid hb1
  clear hb1 b0 b1
  gi_loopw [12] (fun i W => ∃ (m : Nat) (S : Nat → Prop), i = .int .i64 m ∧ m ≤ l.length ∧ StoreAt k W S x (thP k l m) ∧ (∀ j, S j → W0.heap.size ≤ j ∧ j < W.heap.size) ∧ J m S W ∧ Fr (fun j => M j) W0 W) (fun i _ => l.length - (intOf i).toNat)
  case atStart => exact ⟨0, _, rfl, by omega, HST.out, fun j hj => hj, HR.out.2.1 0 _ _ _ _ HJ.out (fr_of_below HB1.out) (fun j hj => .inr hj.1) (fun j hj => hj.elim), fr_of_below HB1.out⟩
  case round =>
    obtain ⟨m, S, rfl, hml, hst, hS, hJ, hF⟩ := hrel
    by_cases hlt : m < l.length
    · have hx := List.getElem?_eq_getElem hlt
      generalize l[m] = s at hx
      have hrd := rd_move HR.out.1 hF fun i hi => (hMv i hi).resolve_left fun h => by subst h; simp at hlt
      obtain ⟨b, off, rfl, hbl, hc⟩ := rd_at hrd hx
      have q0 : wr.cell? ⟨b, off + m * 4, none⟩ = some (.int .i64 s.at_) := hc 0 _ rfl
      have q1 := hc 1 _ rfl
      have q2 := hc 2 _ rfl
      have q3 := hc 3 _ rfl
      have HX := Lib.hid (And.intro hx (And.intro hst (And.intro hS (And.intro hJ hF))))
      clear hx hst hS hJ hF hrd hc
      gi_wp2
      refine named_box wr _ _ fun W1 hbx hzx hx1 => ?_
      have m0 : W1.cell? ⟨wr.heap.size, 0, none⟩ = some (.int .i64 s.at_) := hx1 0
      have m1 : W1.cell? ⟨wr.heap.size, 1, none⟩ = some (.int .i64 s.do_) := hx1 1
      have m2 : W1.cell? ⟨wr.heap.size, 2, none⟩ = some (.int .i64 s.key) := hx1 2
      have m3 : W1.cell? ⟨wr.heap.size, 3, none⟩ = some (.int .i64 s.val) := hx1 3
      have hB1 : Below wr.heap.size wr W1.drew := hbx.drew
      have hst1 := storeAt_move HX.out.2.1 (fr_of_below (S := fun _ => False) hB1) (fun _ _ h => h)
      have hlen := thP_length k l m
      obtain ⟨f, args, hm, hcall⟩ := do_any k S x (thP k l m) s W1.drew hst1 (fun i hi => by have := (HX.out.2.2.1 i hi).2; rw [drew_size0]; omega) (by omega)
      have HD := Lib.hid (And.intro hB1 hcall)
      have mixed : (Tryz.prog).follows .mixedOrders = true := by kernel_rfl
      clear hbx hx1 q0 q1 q2 q3 hst1 hcall hB1
      set_option maxRecDepth 100000 in
      gi_region_with_o (first | (refine ⟨fun _ _ => trivial, ?_⟩; go_loud ( refine uponIn_of_run (hm _) ⟨fun h => by simp [Fence.wide] at h, ?_⟩; refine (callsIn_wide.2 HD.out.2).mono ?_; rintro e w2 ⟨rfl, S2, hst2, hS2, hF2⟩; have hs2 := hF2.size; rw [drew_size0] at hs2; have m0' := fr_cell hF2 (show W1.drew.cell? ⟨wr.heap.size, 0, none⟩ = _ from m0) (fun h => by have := (HX.out.2.2.1 _ h).2; simp at this); have m1' := fr_cell hF2 (show W1.drew.cell? ⟨wr.heap.size, 1, none⟩ = _ from m1) (fun h => by have := (HX.out.2.2.1 _ h).2; simp at this); have m2' := fr_cell hF2 (show W1.drew.cell? ⟨wr.heap.size, 2, none⟩ = _ from m2) (fun h => by have := (HX.out.2.2.1 _ h).2; simp at this); have m3' := fr_cell hF2 (show W1.drew.cell? ⟨wr.heap.size, 3, none⟩ = _ from m3) (fun h => by have := (HX.out.2.2.1 _ h).2; simp at this); have hFw : Fr S wr w2 := fr_trans (fr_of_below HD.out.1) hF2 fun _ _ h => h; have hS2' : ∀ j, S2 j → S j ∨ wr.heap.size ≤ j := fun j hj => (by rcases (hS2 j hj).1 with h | h; exact .inl h; rw [drew_size0] at h; exact .inr (by omega)); have hJ2 := HR.out.2.1 m S S2 wr w2 HX.out.2.2.2.1 hFw hS2' (fun j hj => (HX.out.2.2.1 j hj).1); obtain ⟨fn, tmps, assign, body, hy, hR⟩ := HR.out.2.2 m s S2 w2 HX.out.1 hJ2 (fun j hj => ⟨(by have hsw := HX.out.2.2.2.2.size; rcases hS2' j hj with h | h; exact (HX.out.2.2.1 j h).1; omega), (hS2 j hj).2⟩) (by have := HX.out.2.2.2.2.size; omega); have H2 := Lib.hid (And.intro hst2 (And.intro hS2 (And.intro hFw hS2'))); clear hst2 hS2 hFw hS2' hJ2)) | (refine hR.mono ?_; rintro e w3 ⟨rfl, hJ3, hF3⟩) | fail)
      all_goals
        have hFa : Fr (fun j => M j) W0 w3 := fr_trans (fr_trans HX.out.2.2.2.2 H2.out.2.2.1 fun i hi h => absurd (HX.out.2.2.1 i h).1 (by omega)) hF3 fun i hi h => h.2.elim id fun h => absurd h (by omega)
        have hs3 := hF3.size
        have HZ := Lib.hid (And.intro hFa (And.intro (storeAt_move H2.out.1 hF3 fun i hi h => h.1 hi) hJ3))
        clear hFa hF3 hJ3
        gi_wp2
        go_roundw
        case rel =>
          refine ⟨m + 1, S2, by go_num, by omega, by rw [thP_succ HX.out.1]; exact HZ.out.2.1, fun j hj => ⟨?_, by have := (H2.out.2.1 j hj).2; omega⟩, HZ.out.2.2, HZ.out.1⟩
          have hsw := HX.out.2.2.2.2.size
          rcases H2.out.2.2.2 j hj with h | h
          · exact (HX.out.2.2.1 j h).1
          · omega
        case measure => simp [intOf]; omega
    · obtain rfl : m = l.length := by omega
      have HZ := Lib.hid (And.intro hJ (And.intro hS hF.size))
      clear hst hS hJ hF
      gi_wp2
      go_end0
      exact ⟨⟨_, rfl⟩, S, HZ.out.1, fun j hj => (HZ.out.2.1 j hj).1, HZ.out.2.2⟩
end Go.Proofs.YtkoeplbkeboklaaGreat
/- slices.Grow of nil, slices.Concat of two lists: steps, pairs. -/
set_option linter.unusedVariables false
set_option linter.unusedSimpArgs false
namespace Go.Proofs.YtkoeplbkeboklaaGreat
open Go.RowKit Go.Shelf
theorem pair_one (x : Pair) : ∀ u ∈ x.cells, u.oneCell' = true := by simp [Pair.cells, Value.oneCell']
theorem stepsGrow_nil (n : Nat) (w : World) (hn : n ≤ 1000000) :
    Calls Tryz.prog 74 #[.slice none 0 0, .int .i64 n] w fun e w' => ∃ a c, e = .returned (.slice a 0 c) ∧ WinC 4 46 w' (.slice a 0 c) (fun i => w.heap.size ≤ i) 0 [] ∧ Below w.heap.size w w' := by
  by_cases h0 : n = 0
  · subst h0
    refine (Any8.slices_Grow_room Tryz.growSteps none 0 0 0 w (by omega) (by omega) (by omega) (by omega)).mono ?_
    rintro e w' ⟨rfl, rfl⟩
    exact ⟨none, 0, rfl, winC_nil _ _ _ _, Below.refl _ _⟩
  · obtain ⟨i0, hi0, hz⟩ := Option.map_eq_some_iff.1 info_step
    simp only [Prod.mk.injEq] at hz
    refine (Any8.slices_Grow_grow Tryz.growSteps i0 _ hi0 hz.1 (by rw [hz.2.1]; omega) none 0 0 n [] w (by omega) (by omega) (by rw [hz.2.2]; omega) (by omega) (by simp) (fun _ => rfl) (fun a h => by cases h)).mono ?_
    rintro e w' ⟨rfl, rfl⟩
    have hge := grownCap_ge w (0 + n) 0 46
    have hle := grownCap_le_maxLen w (0 + n) 0 46 (by unfold maxLen; omega)
    refine ⟨_, _, rfl, ⟨by simp, .inr ⟨w.heap.size, 0, _, _, rfl, Nat.le_refl _, heap_alloc_new w.drew _, by omega, hle, ?_, by simp⟩⟩, (Below.refl _ _).drew.alloc (Nat.le_refl _) _⟩
    have e1 : (Tryz.growSteps_ren).t 25 = 46 := rfl
    simp only [Array.size_append, size_zeroCells, List.size_toArray, List.length_nil, e1, Value.cells]
    simp
    omega
set_option maxHeartbeats 4000000 in
theorem stepsConcat_any (B : Nat) (v1 v2 : Value) (xs ys : List Step) (w : World) (h1 : Rd Step.cells 4 w v1 xs) (h2 : Rd Step.cells 4 w v2 ys) (c1 : w.cell? ⟨B, 0, none⟩ = some v1) (c2 : w.cell? ⟨B, 1, none⟩ = some v2) (hx : xs.length ≤ 100000) (hy : ys.length ≤ 100000) :
    Calls Tryz.prog 62 #[.slice (some ⟨B, 0, none⟩) 2 2] w fun e w' => ∃ v, e = .returned v ∧ Win Step.cells 4 46 w' v (fun i => w.heap.size ≤ i) (xs ++ ys) ∧ Below w.heap.size w w' := by
  obtain ⟨a1, k1, rfl⟩ : ∃ a c, v1 = .slice a xs.length c := by obtain ⟨_, a, c, rfl, _⟩ := h1; exact ⟨a, c, rfl⟩
  obtain ⟨a2, k2, rfl⟩ : ∃ a c, v2 = .slice a ys.length c := by obtain ⟨_, a, c, rfl, _⟩ := h2; exact ⟨a, c, rfl⟩
  have HR := Lib.hid (And.intro (rdC_of_rd step_len (by decide) step_one h1) (rdC_of_rd step_len (by decide) step_one h2))
  have HG := Lib.hid (fun W => stepsGrow_nil (xs.length + ys.length) W (by omega))
  have m1 : ¬ ((xs.length : Int) < 0) := by omega
  have m2 : ¬ ((xs.length : Int) + (ys.length : Int) < 0) := by omega
  have m3 : IntKind.i64.wrap ((xs.length : Int) + (ys.length : Int)) = (xs.length : Int) + (ys.length : Int) := Go.IntWalk.i64_in _ (by omega)
  have m4 : ((xs.length + ys.length : Nat) : Int) = (xs.length : Int) + (ys.length : Int) := by omega
  rw [m4] at HG
  clear h1 h2 m4
  go_enter Tryz.func62, Tryz.ntmps62
  go_wp2
  refine wp_loop_rounds 3 ?_
  rw [rounds_succ]
  go_wp2
  rw [rounds_succ]
  go_wp2
  rw [rounds_succ]
  go_wp2_with (go_at_call 74; refine (HG.out _).mono ?_; rintro e w1 ⟨ga, gc, rfl, hw1, hb1⟩)
  have d1 := below_cell hb1 c1
  have d2 := below_cell hb1 c2
  refine wp_loop_rounds 3 ?_
  rw [rounds_succ]
  go_wp2_with (at_builtin; (refine wpList_append_rd w1 (by rfl) _ _ _ (by rfl) 46 4 32 _ Tryz.underlying23 info_step rfl (by decide) _ _ 0 [] (by rfl) _ (by rfl) hw1 xs.length _ (rdC_below HR.out.1 hb1) (by unfold maxLen; omega) (by omega) ?_); intro v2 w2 hwin2 hfr2 hsz2; simp only [Nat.zero_add, List.nil_append] at hwin2; obtain ⟨g2, gc2, rfl, hn2, hm2⟩ := winC_slice hwin2)
  have hob1 := winC_ob hw1
  have hb2 : Below w.heap.size w w2 := hb1.trans (below_of_fr hfr2 hb1.size fun i hi => (hob1 i hi).1)
  have e2 := below_cell hb2 c2
  have e1 := below_cell hb2 c1
  rw [rounds_succ]
  go_wp2_with (at_builtin; (refine wpList_append_rd w2 (by rfl) _ _ _ (by rfl) 46 4 32 _ Tryz.underlying23 info_step rfl (by decide) _ _ xs.length _ (by rfl) _ (by rfl) hwin2 ys.length _ (rdC_below HR.out.2 hb2) (by unfold maxLen; omega) (by omega) ?_); intro v3 w3 hwin3 hfr3 hsz3; obtain ⟨g3, gc3, rfl, hn3, hm3⟩ := winC_slice hwin3)
  have hob2 := winC_ob hwin2
  have s2 := hfr2.size
  have s1 := hb1.size
  have hz2 : w.heap.size ≤ w2.heap.size := by omega
  have hob2' : ∀ i, some i = (Value.slice g2 xs.length gc2).ownBlock → w.heap.size ≤ i := fun i hi => by have := hob2 i hi; first | omega | (simp at this; omega)
  have hb3 : Below w.heap.size w w3 := hb2.trans (below_of_fr hfr3 hz2 hob2')
  have HW := Lib.hid (And.intro hwin3 hb3)
  clear hwin2 hwin3 hfr2 hfr3 hb1 hb2 hb3 hob1 hob2 hob2' hw1
  rw [rounds_succ]
  go_wp2
  go_ret
  refine ⟨_, rfl, ?_, HW.out.2⟩
  refine (?_ : WinC _ _ _ _ _ _ _)
  rw [List.length_append, List.flatMap_append]
  exact winC_mono HW.out.1 fun i hi => by first | omega | (simp at hi; omega)

end Go.Proofs.YtkoeplbkeboklaaGreat
/- The plain side of retro: times sorted and compacted are the times that the reference inserts one by one. No program in sight. -/
set_option linter.unusedVariables false
set_option linter.unusedSimpArgs false
namespace Go.Proofs.YtkoeplbkeboklaaGreat
theorem strict_ext : ∀ {l m : List Int}, (l.Pairwise fun a b => a < b) → (m.Pairwise fun a b => a < b) → (∀ x, x ∈ l ↔ x ∈ m) → l = m
  | [], [], _, _, _ => rfl
  | [], y :: m, _, _, h => absurd ((h y).2 (by simp)) (by simp)
  | x :: l, [], _, _, h => absurd ((h x).1 (by simp)) (by simp)
  | x :: l, y :: m, hl, hm, h => by
    obtain ⟨l1, l2⟩ := List.pairwise_cons.1 hl
    obtain ⟨m1, m2⟩ := List.pairwise_cons.1 hm
    have hxy : x = y := by
      rcases List.mem_cons.1 ((h x).1 (by simp)) with h1 | h1
      · exact h1
      · rcases List.mem_cons.1 ((h y).2 (by simp)) with h2 | h2
        · exact h2.symm
        · have := m1 x h1; have := l1 y h2; omega
    subst hxy
    refine congrArg _ (strict_ext l2 m2 fun z => ⟨fun hz => ?_, fun hz => ?_⟩)
    · rcases List.mem_cons.1 ((h z).1 (by simp [hz])) with h1 | h1
      · subst h1; have := l1 z hz; omega
      · exact h1
    · rcases List.mem_cons.1 ((h z).2 (by simp [hz])) with h1 | h1
      · subst h1; have := m1 z hz; omega
      · exact h1
theorem insT_strict {t : Int} : ∀ {l : List Int}, (l.Pairwise fun a b => a < b) → (insT t l).Pairwise fun a b => a < b
  | [], _ => by simp [insT]
  | y :: l, h => by
    obtain ⟨h1, h2⟩ := List.pairwise_cons.1 h
    simp only [insT]
    split
    · rename_i hy
      refine List.pairwise_cons.2 ⟨fun x hx => ?_, insT_strict h2⟩
      rcases insT_mem.1 hx with rfl | hx
      · exact hy
      · exact h1 x hx
    · split
      · exact h
      · rename_i hy hn
        refine List.pairwise_cons.2 ⟨fun x hx => ?_, h⟩
        rcases List.mem_cons.1 hx with rfl | hx
        · omega
        · have := h1 x hx; omega
theorem foldl_strict : ∀ (l : List Step) (ts : List Int), (ts.Pairwise fun a b => a < b) → (l.foldl (fun ts s => insT s.at_ ts) ts).Pairwise fun a b => a < b
  | [], ts, h => h
  | s :: l, ts, h => foldl_strict l _ (insT_strict h)
theorem foldl_members {x : Int} : ∀ (l : List Step) (ts : List Int), x ∈ l.foldl (fun ts s => insT s.at_ ts) ts ↔ x ∈ ts ∨ x ∈ l.map (·.at_)
  | [], ts => by simp
  | s :: l, ts => by
    rw [List.foldl_cons, foldl_members l, insT_mem, List.map_cons, List.mem_cons]
    constructor
    · rintro ((h | h) | h) <;> simp [h]
    · rintro (h | h | h) <;> simp [h]
theorem timesP_strict (l : List Step) : (timesP l).Pairwise fun a b => a < b := foldl_strict l _ (by simp)
theorem timesP_members {x : Int} (l : List Step) : x ∈ timesP l ↔ x = 1001 ∨ x ∈ l.map (·.at_) := by
  rw [timesP, foldl_members]; simp
theorem compactUpTo_succ (d : Array Int) (m : Nat) : Lib.compactUpTo d (m + 1) = Lib.compactUpTo d m ++ (if Lib.keeps d m then [d[m]!] else []) := by
  unfold Lib.compactUpTo
  rw [List.range_succ, List.filter_append, List.map_append]
  congr 1
  by_cases h : Lib.keeps d m <;> simp [h]
theorem compact_spec (d : Array Int) (hs : ∀ i j, i < j → j < d.size → d[i]! ≤ d[j]!) : ∀ m, m ≤ d.size → ((Lib.compactUpTo d m).Pairwise fun a b => a < b) ∧ ∀ x, x ∈ Lib.compactUpTo d m ↔ ∃ i, i < m ∧ d[i]! = x
  | 0, _ => by simp [Lib.compactUpTo]
  | m + 1, hm => by
    obtain ⟨h1, h2⟩ := compact_spec d hs m (by omega)
    rw [compactUpTo_succ]
    have hstep : ∀ x, (∃ i, i < m + 1 ∧ d[i]! = x) ↔ (∃ i, i < m ∧ d[i]! = x) ∨ d[m]! = x := fun x => by
      constructor
      · rintro ⟨i, hi, rfl⟩
        by_cases e : i = m
        · subst e; exact .inr rfl
        · exact .inl ⟨i, by omega, rfl⟩
      · rintro (⟨i, hi, rfl⟩ | rfl)
        · exact ⟨i, by omega, rfl⟩
        · exact ⟨m, by omega, rfl⟩
    by_cases hk : Lib.keeps d m = true
    · rw [if_pos hk]
      refine ⟨List.pairwise_append.2 ⟨h1, by simp, fun a ha b hb => ?_⟩, fun x => ?_⟩
      · simp at hb; subst hb
        obtain ⟨i, hi, rfl⟩ := (h2 a).1 ha
        have e1 := hs i m hi (by omega)
        by_cases hlt : d[i]! < d[m]!
        · exact hlt
        · exfalso
          have hm1 : d[m - 1]! = d[m]! := by
            have e2 := hs (m - 1) m (by omega) (by omega)
            by_cases h3 : i = m - 1
            · subst h3; omega
            · have e3 := hs i (m - 1) (by omega) (by omega); omega
          rw [Lib.keeps_neg (by omega) hm1.symm] at hk
          cases hk
      · rw [List.mem_append, h2 x, hstep]
        simp [eq_comm]
    · rw [if_neg hk, List.append_nil]
      refine ⟨h1, fun x => ?_⟩
      rw [h2 x, hstep]
      refine ⟨.inl, fun h => h.elim id fun h => ?_⟩
      have hm0 : 0 < m := by
        rcases Nat.eq_zero_or_pos m with h0 | h0
        · subst h0; exact absurd (Lib.keeps_lt_one d 0 (by omega)) hk
        · exact h0
      by_cases he : d[m]! = d[m - 1]!
      · exact ⟨m - 1, by omega, by rw [← he]; exact h⟩
      · exact absurd (Lib.keeps_pos he) hk
theorem times_eq (l : List Step) (h : ∀ s ∈ l, 0 ≤ s.at_ ∧ s.at_ ≤ 1000) : Lib.compact ((l.map (·.at_)).mergeSort fun x y => decide (x ≤ y)) ++ [1001] = timesP l := by
  have hp := List.mergeSort_perm (l.map (·.at_)) fun x y => decide (x ≤ y)
  have hs := List.pairwise_mergeSort (le := fun x y : Int => decide (x ≤ y)) (fun a b c h1 h2 => by simp at *; omega) (fun a b => by simp; omega) (l.map (·.at_))
  generalize (l.map (·.at_)).mergeSort (fun x y => decide (x ≤ y)) = zs at *
  have hd : ∀ i j, i < j → j < zs.toArray.size → zs.toArray[i]! ≤ zs.toArray[j]! := fun i j hij hj => by
    simp at hj
    have := List.pairwise_iff_getElem.1 hs i j (by omega) hj hij
    simp [hj, show i < zs.length by omega]
    simpa using this
  obtain ⟨h1, h2⟩ := compact_spec zs.toArray hd zs.length (by simp)
  have hmem : ∀ x, x ∈ Lib.compact zs ↔ x ∈ l.map (·.at_) := fun x => by
    rw [← hp.mem_iff]
    refine (h2 x).trans ⟨fun ⟨i, hi, he⟩ => ?_, fun hx => ?_⟩
    · rw [← he]; simp [hi]
    · obtain ⟨i, hi, rfl⟩ := List.getElem_of_mem hx
      exact ⟨i, hi, by simp [hi]⟩
  refine strict_ext (List.pairwise_append.2 ⟨h1, by simp, fun a ha b hb => ?_⟩) (timesP_strict l) fun x => ?_
  · simp at hb; subst hb
    obtain ⟨s, hs, rfl⟩ := List.mem_map.1 ((hmem a).1 ha)
    have := h s hs; omega
  · rw [timesP_members, List.mem_append, hmem]
    simp [or_comm]
end Go.Proofs.YtkoeplbkeboklaaGreat
/- slices.Sort and slices.Compact at a list of whole numbers of the call's own. -/
set_option linter.unusedVariables false
set_option linter.unusedSimpArgs false
namespace Go.Proofs.YtkoeplbkeboklaaGreat
open Go.RowKit Go.Shelf Go.Sort
theorem flat_int (xs : List Int) : xs.flatMap cellI = xs.map (Value.int .i64) := by
  induction xs with
  | nil => rfl
  | cons x xs ih => rw [List.flatMap_cons, ih]; rfl
theorem holds_win {w : World} {b off n c e : Nat} {S : Nat → Prop} {xs : List Int} (h : Win cellI 1 e w (.slice (some ⟨b, off, none⟩) n c) S xs) (hn : xs.length = n) : Holds (Value.int .i64) w b off xs.toArray := by
  subst hn
  have hcells := winC_cells h
  have hfr : ∀ j, w.frozen? ⟨b, j, none⟩ = false := by
    rcases h.2 with ⟨hv, _⟩ | ⟨g, o, cap, cur, hv, hS, hg, _⟩
    · simp at hv
    · injection hv with h1 h2 h3
      injection h1 with h1
      injection h1 with h1 h4
      subst h1
      exact fun j => free_blk hg j
  intro j hj
  have hj' : j < xs.length := by simpa using hj
  refine ⟨hcells j _ ?_, hfr _⟩
  rw [flat_int]
  simp [hj']
theorem win_putRow {w : World} {b off n c e : Nat} {S : Nat → Prop} {xs : List Int} (h : Win cellI 1 e w (.slice (some ⟨b, off, none⟩) n c) S xs) (hn : xs.length = n) (d : List Int) (hd : d.length = n) (q : Nat) (os : Array Obj) :
    Win cellI 1 e (grow (putRow (Value.int .i64) (Sort.ahead w q) b off d.toArray) os) (.slice (some ⟨b, off, none⟩) n c) S d := by
  subst hn
  obtain ⟨hl, h⟩ := h
  refine ⟨by rw [flat_len int_len], .inr ?_⟩
  rcases h with ⟨hv, _⟩ | ⟨g, o, cap, cur, hv, hS, hg, hnc, hcm, hcs, ht⟩
  · simp at hv
  · injection hv with h1 h2 h3
    injection h1 with h1
    injection h1 with h1 h4
    subst h1; subst h4; subst h3
    have hlt := (Array.getElem?_eq_some_iff.1 hg).1
    refine ⟨b, off, c, putCells (Value.int .i64) off d.toArray cur, by rw [hd], hS, ?_, by omega, hcm, by simpa [putCells] using hcs, ?_⟩
    · rw [heap_grow_old _ _ (by simpa [putRow, mapBlock, Sort.ahead] using hlt)]
      simp only [putRow, mapBlock, Sort.ahead, Array.getElem?_modify, if_true, hg, Option.map_some, onCells]
    · rw [flat_int]
      refine List.ext_getElem? fun i => ?_
      by_cases hi : i < d.length
      · have h1 : off + i < cur.size := by omega
        simp [putCells, List.getElem?_take, hi, h1]
      · simp [List.getElem?_take, hi]
theorem win_putRow0 {w : World} {b off n c e : Nat} {S : Nat → Prop} {xs : List Int} (h : Win cellI 1 e w (.slice (some ⟨b, off, none⟩) n c) S xs) (hn : xs.length = n) (d : List Int) (hd : d.length = n) (q : Nat) :
    Win cellI 1 e (putRow (Value.int .i64) (Sort.ahead w q) b off d.toArray) (.slice (some ⟨b, off, none⟩) n c) S d := by
  have := win_putRow h hn d hd q #[]
  rwa [grow_empty] at this
theorem win_addr {a : Option Addr} {n c e : Nat} {w : World} {S : Nat → Prop} {xs : List Int} (h : Win cellI 1 e w (.slice a n c) S xs) (hn : 0 < n) : ∃ b off, a = some ⟨b, off, none⟩ := by
  rcases h.2 with ⟨h1, h2⟩ | ⟨g, off, cap, cur, hv, _⟩
  · injection h1; omega
  · injection hv with h1; exact ⟨g, off, h1⟩
theorem sortInts_any (a : Option Addr) (n c : Nat) (S : Nat → Prop) (zs : List Int) (w : World) (hw : Win cellI 1 3 w (.slice a n c) S zs) (hn : zs.length = n) (hl : n < 1000000) :
    Calls Tryz.prog 63 #[.slice a n c] w fun e w' => e = .returned (.tuple #[]) ∧ Win cellI 1 3 w' (.slice a n c) S (zs.mergeSort fun x y => decide (x ≤ y)) ∧ Fr (fun i => some i = (Value.slice a n c).ownBlock) w w' := by
  subst hn
  rcases Nat.eq_zero_or_pos zs.length with h0 | h0
  · obtain rfl : zs = [] := List.eq_nil_of_length_eq_zero h0
    refine (Tryz.slices_Sort_int_none a c w).mono ?_
    rintro e w' ⟨rfl, rfl⟩
    exact ⟨rfl, by simpa using hw, fr_refl _ _⟩
  · obtain ⟨b, off, rfl⟩ := win_addr hw h0
    have hb : b < w.heap.size := (winC_ob hw b rfl).2
    refine (Tryz.slices_Sort_int b off c zs w (holds_win hw rfl) hb (by omega)).mono ?_
    rintro e w' ⟨rfl, n, os, rfl⟩
    exact ⟨rfl, win_putRow hw rfl _ (List.length_mergeSort _) _ _, fr_mono (fr_putRow _ _ _ _ _ _ _) fun i hi => by rw [hi]; rfl⟩
theorem compact_len (zs : List Int) : (Lib.compact zs).length ≤ zs.length := by
  unfold Lib.compact Lib.compactUpTo
  rw [List.length_map]
  exact Nat.le_trans (List.length_filter_le _ _) (by simp)
theorem compactInts_any (a : Option Addr) (n c : Nat) (S : Nat → Prop) (zs : List Int) (w : World) (hw : Win cellI 1 3 w (.slice a n c) S zs) (hn : zs.length = n) (hl : n < 1000000) :
    Calls Tryz.prog 64 #[.slice a n c] w fun e w' => e = .returned (.slice a (Lib.compact zs).length c) ∧ Win cellI 1 3 w' (.slice a (Lib.compact zs).length c) S (Lib.compact zs) ∧ Fr (fun i => some i = (Value.slice a n c).ownBlock) w w' := by
  subst hn
  rcases Nat.eq_zero_or_pos zs.length with h0 | h0
  · obtain rfl : zs = [] := List.eq_nil_of_length_eq_zero h0
    refine (Tryz.slices_Compact_int_empty a c w).mono ?_
    rintro e w' ⟨rfl, rfl⟩
    exact ⟨rfl, hw, fr_refl _ _⟩
  · obtain ⟨b, off, rfl⟩ := win_addr hw h0
    obtain ⟨a', c', hv, hnc, _⟩ := winC_slice hw
    injection hv with _ _ hcc
    refine (Tryz.slices_Compact_int b off c zs w (holds_win hw rfl) (by omega) (by omega)).mono ?_
    rintro e w' ⟨rfl, q, rfl⟩
    have hcl := compact_len zs
    have h1 := win_putRow0 hw rfl (Lib.compact zs ++ List.replicate (zs.length - (Lib.compact zs).length) 0) (by simp; omega) q
    have h2 := win_pop int_len h1 (by simp; omega) (Lib.compact zs).length hcl h0
    refine ⟨rfl, by simpa using h2, ?_⟩
    have := fr_putRow (Value.int .i64) w q b off (Lib.compact zs ++ List.replicate (zs.length - (Lib.compact zs).length) 0).toArray #[]
    rw [grow_empty] at this
    exact fr_mono this fun i hi => by rw [hi]; rfl
end Go.Proofs.YtkoeplbkeboklaaGreat
/- retro.spans. -/
set_option linter.unusedVariables false
set_option linter.unusedSimpArgs false
namespace Go.Proofs.YtkoeplbkeboklaaGreat
open Go.RowKit
set_option maxHeartbeats 4000000 in
theorem spans_any (k : Int) (va vb : Value) (la lb : List Step) (w : World) (ra : Rd Step.cells 4 w va la) (rb : Rd Step.cells 4 w vb lb) (hla : la.length ≤ 100000) (hlb : lb.length ≤ 100000) (ht : ∀ s ∈ la ++ lb, 0 ≤ s.at_ ∧ s.at_ ≤ 1000) :
    Calls Tryz.prog 42 #[.agg #[.int .i64 k, va], .agg #[.int .i64 k, vb]] w fun e w' => ∃ v, e = .returned v ∧ Win Span.cells 2 50 w' v (fun i => w.heap.size ≤ i) (diffOf k la lb) ∧ Below w.heap.size w w' := by
  obtain ⟨a, c, rfl⟩ : ∃ a c, va = .slice a la.length c := by obtain ⟨_, a, c, rfl, _⟩ := ra; exact ⟨a, c, rfl⟩
  obtain ⟨aB, cB, rfl⟩ : ∃ a c, vb = .slice a lb.length c := by obtain ⟨_, a, c, rfl, _⟩ := rb; exact ⟨a, c, rfl⟩
  have RA := Lib.hid ra
  have RB := Lib.hid rb
  have HT := Lib.hid ht
  clear ra rb ht
  go_enter Tryz.func42, Tryz.ntmps42
  go_wp2_with fail
  refine named_box3 (G := fun W => Calls _ _ _ W _) w _ _ _ _ _ _ fun W0 hb0 hz0 hx0 hx1 hx2 => ?_
  have d0 : W0.cell? ⟨w.heap.size, 0, none⟩ = some (.int .i64 k) := cell_blk hx0 0
  have d1 : W0.cell? ⟨w.heap.size, 1, none⟩ = some (.slice a la.length c) := cell_blk hx0 1
  have e0 : W0.cell? ⟨w.heap.size + 1, 0, none⟩ = some (.int .i64 k) := cell_blk hx1 0
  have e1 : W0.cell? ⟨w.heap.size + 1, 1, none⟩ = some (.slice aB lb.length cB) := cell_blk hx1 1
  refine (stepsConcat_any (w.heap.size + 1 + 1) _ _ la lb W0 (RA.out.below hb0) (RB.out.below hb0) (cell_blk hx2 0) (cell_blk hx2 1) hla hlb).mono ?_
  rintro e w1 ⟨v1, rfl, hw1, hb1⟩
  have hB1 : Below w.heap.size w w1 := hb0.trans (hb1.mono (by omega))
  have hz1 := hb1.size
  obtain ⟨l, hl⟩ : ∃ l, la ++ lb = l := ⟨_, rfl⟩
  have hN : l.length ≤ 200000 := by rw [← hl, List.length_append]; omega
  have hdo : diffOf k la lb = diffFrom k la lb (timesP l) [] := by rw [← hl]; rfl
  have hrg := timesP_range (l := l) (by rw [← hl]; exact HT.out)
  have hte := times_eq l (by rw [← hl]; exact HT.out)
  rw [hl] at hw1
  have hab := win_rd step_len hw1
  obtain ⟨aA, cA, rfl⟩ : ∃ a c, v1 = .slice a l.length c := by obtain ⟨_, a, c, rfl, _⟩ := hab; exact ⟨a, c, rfl⟩
  have HAB := Lib.hid hab
  have HDO := Lib.hid hdo
  have HTE := Lib.hid (And.intro hte hrg)
  have HG := Lib.hid (And.intro (And.intro (below_cell hb1 d0) (below_cell hb1 d1)) (And.intro (below_cell hb1 e0) (below_cell hb1 e1)))
  have HB1 := Lib.hid hB1
  clear hab hdo hte hrg hw1 hb1 hb0 hB1 hx0 hx1 hx2 d0 d1 e0 e1 hl HT
  go_wp2
  go_loopw [20, 5] (fun i v W => ∃ (n : Nat) (a5 : Option Addr) (c5 : Nat), i = .int .i64 n ∧ v = .slice a5 n c5 ∧ n ≤ l.length ∧ Win cellI 1 3 W (.slice a5 n c5) (fun j => w1.heap.size ≤ j) ((l.take n).map (·.at_)) ∧ Below w1.heap.size w1 W) (fun i _ _ => l.length - (intOf i).toNat)
  case atStart => exact ⟨0, none, 0, rfl, rfl, by omega, winC_nil _ _ _ _, Below.refl _ _⟩
  case round =>
    obtain ⟨n, a5, c5, rfl, rfl, hnl, hwin, hB⟩ := hrel
    by_cases hlt : n < l.length
    · have hx := List.getElem?_eq_getElem hlt
      generalize l[n] = s at hx
      obtain ⟨b, off, rfl, hbl, hc⟩ := rd_at (HAB.out.below hB) hx
      have q0 : wr.cell? ⟨b, off + n * 4, none⟩ = some (.int .i64 s.at_) := hc 0 _ rfl
      have q1 := hc 1 _ rfl
      have q2 := hc 2 _ rfl
      have q3 := hc 3 _ rfl
      have hn1 : ((l.take n).map (·.at_)).length = n := by simp; omega
      have hW1 := winC_mono (winC_block hwin) (T := fun j => w1.heap.size ≤ j ∧ j < wr.heap.size) fun i hi => hi.2
      rw [hn1] at hW1
      have hW2 := fun o1 o2 => winC_move hW1 (fr_of_below (S := fun _ => False) (((Below.refl wr.heap.size wr).alloc (Nat.le_refl _) o1).alloc (by simp) o2)) (fun _ _ h => h)
      have HX := Lib.hid (And.intro hx (And.intro hn1 (And.intro hW1 hB)))
      have HW2 := Lib.hid hW2
      clear hx hn1 hW1 hwin hW2 hc hB
      go_wp2_with (at_builtin; (refine wpList_append_win _ (by rfl) _ _ _ (by rfl) 3 1 8 _ Tryz.underlying84 info_int rfl (by decide) _ _ n _ (by rfl) (HW2.out _ _) _ _ _ [.int .i64 s.at_] (by rfl) (by rfl) (news2 wr _ _ _) (by simp [Value.oneCell']) (by decide) (by unfold maxLen; omega) (by omega) ?_); intro v2 w2 hwin2 hfr2 hsz2; obtain ⟨a6, c6, rfl, hc6, hm6⟩ := winC_slice hwin2)
      have hb2 : Below wr.heap.size wr ((wr.alloc (.cells #[.int .i64 s.at_, .int .i64 s.do_, .int .i64 s.key, .int .i64 s.val] 46)).alloc (.cells #[.int .i64 s.at_] 3)) := ((Below.refl wr.heap.size wr).alloc (Nat.le_refl _) _).alloc (by simp) _
      have hF : Fr (fun i => some i = (Value.slice a5 n c5).ownBlock) wr w2 := fr_trans (fr_of_below hb2) hfr2 fun _ _ h => h
      have HZ := Lib.hid (And.intro hwin2 hF)
      clear hwin2 hfr2 hb2 hF
      go_roundw
      case rel =>
        refine ⟨n + 1, a6, c6, by go_num, rfl, by omega, ?_, HX.out.2.2.2.trans (below_of_fr HZ.out.2 HX.out.2.2.2.size fun i hi => (winC_ob HX.out.2.2.1 i hi).1.1)⟩
        have e1 : ((l.take (n + 1)).map (·.at_)) = (l.take n).map (·.at_) ++ [s.at_] := by rw [List.take_add_one, HX.out.1]; simp
        have hs := HX.out.2.2.2.size
        refine (?_ : WinC _ _ _ _ _ _ _)
        rw [e1, List.length_append, HX.out.2.1, List.flatMap_append]
        exact winC_mono HZ.out.1 fun i hi => by first | omega | (simp at hi; omega)
      case measure => simp [intOf]; omega
    · obtain rfl : n = l.length := by omega
      rw [List.take_length] at hwin
      have hlen1 : (l.map (·.at_)).length = l.length := by simp
      have hso := sortInts_any a5 l.length c5 _ _ wr hwin hlen1 (by omega)
      have hlen2 : ((l.map (·.at_)).mergeSort fun x y => decide (x ≤ y)).length = l.length := by rw [List.length_mergeSort]; exact hlen1
      have HSO := Lib.hid (And.intro hso (And.intro hB (winC_ob hwin)))
      clear hwin hso hlen1 hB
      have HTE2 := HTE
      clear HTE
      generalize ((l.map (·.at_)).mergeSort fun x y => decide (x ≤ y)) = zs at *
      have hcl := compact_len zs
      rw [hlen2] at hcl
      have HZS := Lib.hid hlen2
      clear hlen2
      have HCO := Lib.hid (fun W (h : Win cellI 1 3 W (.slice a5 l.length c5) (fun j => w1.heap.size ≤ j) zs) => compactInts_any a5 l.length c5 _ zs W h HZS.out (by omega))
      generalize Lib.compact zs = cs at *
      go_wp2_with (first | (go_at_call 63; refine HSO.out.1.mono ?_; rintro e w2 ⟨rfl, hw2, hf2⟩) | (go_at_call 64; refine (HCO.out _ hw2).mono ?_; rintro e w3 ⟨rfl, hw3, hf3⟩; have hw3' := winC_move hw3 (fr_alloc (fun _ => False) w3 (.cells #[.int .i64 1001] 3)) (fun _ _ h => h)) | (at_builtin; (refine wpList_append_win _ (by rfl) _ _ _ (by rfl) 3 1 8 _ Tryz.underlying84 info_int rfl (by decide) _ _ cs.length _ (by rfl) hw3' _ _ _ [.int .i64 1001] (by rfl) (by rfl) (news1 w3 _ _) (by simp [Value.oneCell']) (by decide) (by unfold maxLen; omega) (by omega) ?_); intro v4 w4 hw4 hf4 hsz4; obtain ⟨a7, c7, rfl, hc7, hm7⟩ := winC_slice hw4))
      have f24 : Fr (fun i => some i = (Value.slice a5 cs.length c5).ownBlock) wr w4 := fr_trans (fr_trans (fr_mono hf2 fun i h => h.trans (by cases a5 <;> rfl)) hf3 fun i _ h => h.trans (by cases a5 <;> rfl)) (fr_trans (fr_alloc _ w3 _) hf4 fun _ _ h => h) fun _ _ h => h
      have hB4 : Below w1.heap.size w1 w4 := HSO.out.2.1.trans (below_of_fr f24 HSO.out.2.1.size fun i h => (HSO.out.2.2 i (h.trans (by cases a5 <;> rfl))).1)
      obtain ⟨ts, hcs⟩ : ∃ ts, cs ++ [1001] = ts := ⟨_, rfl⟩
      have hts : Rd cellI 1 w4 (.slice a7 (cs.length + 1) c7) ts := by
        have h : Win cellI 1 3 w4 (.slice a7 (cs.length + 1) c7) (fun _ => True) ts := by
          refine (?_ : WinC _ _ _ _ _ _ _)
          rw [← hcs, List.length_append, List.flatMap_append]
          exact winC_mono hw4 fun _ _ => trivial
        exact win_rd int_len h
      have hlts : ts.length = cs.length + 1 := by rw [← hcs]; simp
      have htt := HTE2.out.1
      rw [hcs] at htt
      have hdo := HDO.out
      have hrg := HTE2.out.2
      rw [← htt] at hdo hrg
      have z0 := below_cell hB4 HG.out.1.1
      have z1 := below_cell hB4 HG.out.1.2
      have z2 := below_cell hB4 HG.out.2.1
      have z3 := below_cell hB4 HG.out.2.2
      have hHB : Below w.heap.size w w4 := HB1.out.trans (hB4.mono HB1.out.size)
      have hszB := hHB.size
      have HWB0 := Lib.hid (And.intro hHB hts)
      have HDO2 := Lib.hid hdo
      have HRG := Lib.hid hrg
      have HLT := Lib.hid hlts
      have ES := Lib.hid (enters_of Tryz.func65 (by kernel_rfl) rfl)
      have ET := Lib.hid (enters_of Tryz.func17 (by kernel_rfl) rfl)
      clear f24 hB4 hts htt hdo hrg hHB hcs hw2 hw3 hw3' hw4 hf2 hf3 hf4 hsz4 HSO HZS HTE2 HCO HDO HG HB1 HAB
      generalize hWB : w4 = WB at *
      clear hWB
      go_loopw [42, 8] (fun i v W => ∃ (n : Nat) (out : List Span) (a9 : Option Addr) (c9 : Nat), i = .int .i64 n ∧ v = .slice a9 out.length c9 ∧ out.length ≤ n ∧ n ≤ cs.length ∧ diffFrom k la lb (ts.drop n) out = diffOf k la lb ∧ Win Span.cells 2 50 W (.slice a9 out.length c9) (fun j => WB.heap.size ≤ j) out ∧ Below WB.heap.size WB W) (fun i _ _ => cs.length - (intOf i).toNat)
      case atStart => exact ⟨0, [], none, 0, rfl, rfl, by simp, by omega, HDO2.out.symm, winC_nil _ _ _ _, Below.refl _ _⟩
      case round =>
        obtain ⟨n, out, a9, c9, rfl, rfl, hon, hn3, hdf, hwo, hB⟩ := hrel
        by_cases hlt : n < cs.length
        · have hn1 : n < ts.length := by rw [HLT.out]; omega
          have hn2 : n + 1 < ts.length := by rw [HLT.out]; omega
          have hx1 := List.getElem?_eq_getElem hn1
          have hx2 := List.getElem?_eq_getElem hn2
          have rg1 := HRG.out _ (List.getElem_mem hn1)
          have rg2 := HRG.out _ (List.getElem_mem hn2)
          generalize ts[n] = t1 at hx1 rg1
          generalize ts[n + 1] = t2 at hx2 rg2
          clear hn1 hn2
          have nn5 : IntKind.i64.wrap (t1 - 1) = t1 - 1 := Go.IntWalk.i64_in _ (by omega)
          have nn6 : IntKind.i64.wrap (t2 - 1) = t2 - 1 := Go.IntWalk.i64_in _ (by omega)
          clear rg1 rg2
          have hts := HWB0.out.2.below hB
          obtain ⟨b, off, rfl, hbl, hc1⟩ := rd_at hts hx1
          obtain ⟨b', off', he, _, hc2⟩ := rd_at hts hx2
          have hbB : b < WB.heap.size := by
            obtain ⟨b3, o3, e, hlt3, _⟩ := rd_at HWB0.out.2 hx1
            injection e with e
            injection e with e1
            omega
          injection he with he
          injection he with he1 he2
          subst he1; subst he2
          have y1 : wr.cell? ⟨b, off + n, none⟩ = some (.int .i64 t1) := by simpa using hc1 0 _ rfl
          have y2 : wr.cell? ⟨b, off + (n + 1), none⟩ = some (.int .i64 t2) := by simpa using hc2 0 _ rfl
          have z0' := below_cell hB z0
          have z1' := below_cell hB z1
          have z2' := below_cell hB z2
          have z3' := below_cell hB z3
          rw [diffFrom_drop out hx1 hx2] at hdf
          have HO := Lib.hid (And.intro hwo hdf)
          have HWB := Lib.hid (HWB0.out.1.trans (hB.mono HWB0.out.1.size))
          have hBW := Lib.hid hB
          have nn2 : (n : Int) + 1 < (cs.length : Int) + 1 := by omega
          have nn3 : (0 : Int) ≤ (n : Int) + 1 := by omega
          have nn4 : IntKind.i64.wrap ((n : Int) + 1) = (n : Int) + 1 := Go.IntWalk.i64_in _ (by omega)
          clear hc1 hc2 hts hwo hdf hB hx1 hx2 z0 z1 z2 z3
          have z0 := z0'; have z1 := z1'; have z2 := z2'; have z3 := z3'
          clear z0' z1' z2' z3'
          go_wp2
          set_option maxRecDepth 10000 in
          go_region_held3 (fun W => W.cell? ⟨w.heap.size, 0, none⟩ = some (.int .i64 k) ∧ W.cell? ⟨w.heap.size, 1, none⟩ = some (.slice a la.length c) ∧ W.cell? ⟨w.heap.size + 1, 0, none⟩ = some (.int .i64 k) ∧ W.cell? ⟨w.heap.size + 1, 1, none⟩ = some (.slice aB lb.length cB)) (first | exact ⟨z0, z1, z2, z3⟩ | exact ⟨p0, p1, p2, p3⟩ | exact ⟨r0, r1, r2, r3⟩ | exact ⟨t0, t1', t2', t3⟩ | go_keep) ((first | (refine step_call (by rfl) 65 _ _ (by rfl) (ES.out) _ (by rfl) (differs_any _ _ _ _ _ ((win_rd pair_len hw6).below hb7) (win_rd pair_len hw7)) ?_; rintro _ w8 ⟨rfl, hb8⟩; refine ⟨_, rfl, ?_⟩; have h8 := hb7'.trans (hb8.mono hb7'.size); have t0 := below_cell h8 z0; have t1' := below_cell h8 z1; have t2' := below_cell h8 z2; have t3 := below_cell h8 z3) | (refine step_call (by rfl) 17 _ _ (by rfl) (ET.out) _ (by rfl) (there_any k _ lb t1 _ (RB.out.below (HWB.out.trans (hb6'.mono HWB.out.size))) hlb) ?_; rintro _ w7 ⟨v7, rfl, hw7, hb7⟩; obtain ⟨a7, c7, rfl, _, _⟩ := winC_slice hw7; refine ⟨_, rfl, ?_⟩; have hb7' := hb6'.trans (hb7.mono hb6'.size); have r0 := below_cell hb7' z0; have r1 := below_cell hb7' z1; have r2 := below_cell hb7' z2; have r3 := below_cell hb7' z3) | (refine step_call (by rfl) 17 _ _ (by rfl) (ET.out) _ (by rfl) (there_any k _ la t1 _ (RA.out.below (HWB.out.drew)) hla) ?_; rintro _ w6 ⟨v6, rfl, hw6, hb6⟩; obtain ⟨a6, c6, rfl, _, _⟩ := winC_slice hw6; refine ⟨_, rfl, ?_⟩; have hb6' := (Below.refl wr.heap.size wr).drew.trans hb6; have p0 := below_cell hb6' z0; have p1 := below_cell hb6' z1; have p2 := below_cell hb6' z2; have p3 := below_cell hb6' z3) | fail))

          by_cases heq : thereP k la t1 = thereP k lb t1
          · have hd : decide (thereP k la t1 = thereP k lb t1) = true := decide_eq_true heq
            have HE := Lib.hid heq
            have H8 := Lib.hid h8
            clear h8 hw6 hw7 hb6 hb7 hb8 hb6' hb7'
            go_wp2
            go_roundw
            case rel => exact ⟨n + 1, out, a9, c9, by go_num, rfl, by omega, by omega, by have := HO.out.2; rw [if_pos HE.out] at this; exact this, winC_move HO.out.1 (fr_of_below (S := fun _ => False) H8.out) (fun _ _ h => h), hBW.out.trans (H8.out.mono hBW.out.size)⟩
            case measure => simp [intOf]; omega
          · have hd : decide (thereP k la t1 = thereP k lb t1) = false := decide_eq_false heq
            have t5' := below_cell h8 y2
            have hwo := winC_move HO.out.1 (fr_of_below (S := fun _ => False) h8) (fun _ _ h => h)
            have hBn : Below WB.heap.size WB w8 := hBW.out.trans (h8.mono hBW.out.size)
            have HE := Lib.hid (And.intro heq (And.intro hwo hBn))
            have hr8 : ∀ (W : World), Below w8.heap.size w8 W → W.heap.size = w8.heap.size → WB.heap.size ≤ W.heap.size := fun W h1 h2 => by have := hBn.size; omega
            have HR8 := Lib.hid hr8
            clear h8 hw6 hw7 hb6 hb7 hb8 hb6' hb7' p0 p1 p2 p3 r0 r1 r2 r3 z0 z1 z2 z3 y1 y2 hwo hBn hr8
            by_cases ho : out = []
            · subst ho
              go_wp2_with (at_builtin; (refine wpList_append_win _ (by rfl) _ _ _ (by rfl) 50 2 16 _ Tryz.underlying30 info_span rfl (by decide) _ _ 0 _ (by rfl) (winC_move (winC_block HE.out.2.1) (fr_alloc (fun _ => False) w8 _) fun _ _ h => h) _ _ _ (Span.cells ⟨t1, t2 - 1⟩) (by rfl) (by rfl) (news1 w8 _ _) (span_one ⟨t1, t2 - 1⟩) (by decide) (by unfold maxLen; omega) (by omega) ?_); intro vz wz hwz hfz hsz; obtain ⟨az, cz, rfl, hnz, hmz⟩ := winC_slice hwz)
              have hF : Fr (fun i => some i = (Value.slice a9 0 c9).ownBlock) w8 wz := fr_trans (fr_alloc _ w8 _) hfz fun _ _ h => h
              all_goals
                have hob := fun i hi => (winC_ob HE.out.2.1 i hi).1
                have HF := Lib.hid (And.intro hF (And.intro hob hwz))
                clear hF hob hwz hfz
                go_wp2
                go_roundw
                case rel =>
                  refine ⟨n + 1, [⟨t1, t2 - 1⟩], az, cz, by go_num, rfl, by simp, by omega, by have := HO.out.2; rw [if_neg HE.out.1, addSpan_nil] at this; exact this, winC_mono HF.out.2.2 fun i hi => ?_, HE.out.2.2.trans (below_of_fr HF.out.1 HE.out.2.2.size fun i hi => HF.out.2.1 i hi)⟩
                  have := HE.out.2.2.size
                  simp [drew_size] at hi
                  omega
                case measure => simp [intOf]; omega
            · obtain ⟨m, hm⟩ : ∃ m, out.length = m + 1 := ⟨out.length - 1, by have := List.length_pos_iff.2 ho; omega⟩
              have hlo : out.length - 1 + 1 = out.length := by omega
              have hx := List.getElem?_eq_getElem (show m < out.length by omega)
              generalize out[m] = x at hx
              have hwo := HE.out.2.1
              rw [hm] at hwo
              have hwr : Rd Span.cells 2 w8 (.slice a9 out.length c9) out := win_rd span_len HE.out.2.1
              obtain ⟨b9, off9, rfl, hbl9, hc9⟩ := rd_at hwr hx
              have q1 : w8.cell? ⟨b9, off9 + m * 2 + 1, none⟩ = some (.int .i64 x.to_) := hc9 1 _ rfl
              have HX := Lib.hid (And.intro hx (And.intro hm (And.intro hwo ho)))
              have mm1 : IntKind.i64.wrap ((m : Int) + 1 - 1) = (m : Int) := (Go.IntWalk.i64_in _ (by omega)).trans (by omega)
              have mm2 : (m : Int) < (m : Int) + 1 := by omega
              rw [hm]
              have hwo : Win Span.cells 2 50 w8 (.slice (some ⟨b9, off9, none⟩) (m + 1) c9) (fun j => WB.heap.size ≤ j) out := by
                refine (?_ : WinC _ _ _ _ _ _ _)
                rw [hm]; exact hwo
              have hwd : ∀ q, Win Span.cells 2 50 (w8.drewN q) (.slice (some ⟨b9, off9, none⟩) (m + 1) c9) (fun j => WB.heap.size ≤ j) out := fun q => winC_move hwo (fr_drewN (fun _ => False) w8 q) (fun _ _ h => h)
              have hws := fun q => win_set span_len (hwd q) hm hx (show 1 < 2 by omega) (y := { x with to_ := t2 - 1 }) (u := .int .i64 (t2 - 1)) rfl
              have kf := (win_set span_len hwo hm hx (show 1 < 2 by omega) (y := { x with to_ := t2 - 1 }) (u := .int .i64 (t2 - 1)) rfl).2.2
              have hb9 : WB.heap.size ≤ b9 := (winC_ob hwo b9 rfl).1
              have HWS := Lib.hid (And.intro hws hb9)
              clear hx hwo hwr hc9 ho hlo hws hb9 hwd
              by_cases hxt : x.to_ = t1 - 1
              · have hxb : (x.to_ == t1 - 1) = true := by simp [hxt]
                have HXT := Lib.hid hxt
                clear hxt
                go_wp2
                go_roundw
                case rel =>
                  refine ⟨n + 1, out.set m { x with to_ := t2 - 1 }, some ⟨b9, off9, none⟩, c9, by go_num, by rw [List.length_set, HX.out.2.1], by rw [List.length_set]; omega, by omega, ?_, ?_, HE.out.2.2.trans (below_of_fr (fr_setCell _ _ _) HE.out.2.2.size fun i hi => by have := HWS.out.2; simp at hi; omega)⟩
                  · have := HO.out.2
                    rw [if_neg HE.out.1, addSpan_set HX.out.1 HX.out.2.1.symm HXT.out] at this
                    exact this
                  · have := (HWS.out.1 0).1
                    rw [List.length_set, HX.out.2.1]
                    exact this
                case measure => simp [intOf]; omega
              · have hxb : (x.to_ == t1 - 1) = false := by simp [hxt]
                have HXT := Lib.hid hxt
                clear hxt
                go_wp2_with (at_builtin; (refine wpList_append_win _ (by rfl) _ _ _ (by rfl) 50 2 16 _ Tryz.underlying30 info_span rfl (by decide) _ _ (m + 1) _ (by rfl) (winC_move (winC_block HX.out.2.2.1) (fr_alloc (fun _ => False) w8 _) fun _ _ h => h) _ _ _ (Span.cells ⟨t1, t2 - 1⟩) (by rfl) (by rfl) (news1 w8 _ _) (span_one ⟨t1, t2 - 1⟩) (by decide) (by unfold maxLen; omega) (by omega) ?_); intro vz wz hwz hfz hsz; obtain ⟨az, cz, rfl, hnz, hmz⟩ := winC_slice hwz)
                have hF : Fr (fun i => some i = (Value.slice (some ⟨b9, off9, none⟩) (m + 1) c9).ownBlock) w8 wz := fr_trans (fr_alloc _ w8 _) hfz fun _ _ h => h
                all_goals
                  have hob := fun i hi => (winC_ob HX.out.2.2.1 i hi).1
                  have HF := Lib.hid (And.intro hF (And.intro hob hwz))
                  clear hF hob hwz hfz
                  go_wp2
                  go_roundw
                  case rel =>
                    refine ⟨n + 1, out ++ [⟨t1, t2 - 1⟩], az, cz, by go_num, by simp [HX.out.2.1], by simp; omega, by omega, by have := HO.out.2; rw [if_neg HE.out.1, addSpan_new HX.out.1 HX.out.2.1.symm HXT.out] at this; exact this, ?_, HE.out.2.2.trans (below_of_fr HF.out.1 HE.out.2.2.size fun i hi => HF.out.2.1 i hi)⟩
                    have h2 : WinC 2 50 wz (.slice az (m + 1 + 1) cz) (fun j => WB.heap.size ≤ j) (m + 1 + 1) (out.flatMap Span.cells ++ Span.cells ⟨t1, t2 - 1⟩) := winC_mono HF.out.2.2 fun i hi => by
                      have := HE.out.2.2.size
                      simp [drew_size] at hi
                      omega
                    refine (?_ : WinC _ _ _ _ _ _ _)
                    rw [List.length_append, HX.out.2.1, List.flatMap_append]
                    exact h2
                  case measure => simp [intOf]; omega
        · have HL := Lib.hid (show out = diffOf k la lb by rw [← hdf]; exact (diffFrom_end out (by rw [HLT.out]; omega)).symm)
          obtain rfl : n = cs.length := by omega
          have HZ := Lib.hid (And.intro hwo hB)
          clear hwo hB hdf z0 z1 z2 z3
          go_wp2
          go_ret
          exact ⟨_, rfl, by rw [← HL.out]; exact winC_mono HZ.out.1 fun i hi => Nat.le_trans hszB hi, HWB0.out.1.trans (HZ.out.2.mono hszB)⟩
end Go.Proofs.YtkoeplbkeboklaaGreat
/- Diff: retro's and the reference's. -/
set_option linter.unusedVariables false
set_option linter.unusedSimpArgs false
namespace Go.Proofs.YtkoeplbkeboklaaGreat
open Go.RowKit
def diffP (k1 : Int) (la : List Step) (k2 : Int) (lb : List Step) : List Span × Int := if isLineP k1 la && isLineP k2 lb && decide (k1 = k2) then (diffOf k1 la lb, 0) else ([], 2)
theorem two_below (W : World) (o1 o2 : Obj) : Below W.heap.size W ((W.alloc o1).alloc o2) := ((Below.refl _ _).alloc (Nat.le_refl _) _).alloc (by simp) _
theorem step_time {k : Int} {s : Step} (h : isStepP k s = true) : 0 ≤ s.at_ ∧ s.at_ ≤ 1000 := by
  unfold isStepP at h
  split at h
  · rename_i h1
    simp only [withinP, Bool.and_eq_true, decide_eq_true_eq] at h1
    exact h1.1.1
  · cases h
theorem line_time {k : Int} {l : List Step} (h : isLineP k l = true) : ∀ s ∈ l, 0 ≤ s.at_ ∧ s.at_ ≤ 1000 := fun s hs => step_time ((isLineP_spec h).2.2.2.1 s hs)
theorem line_len {k : Int} {l : List Step} (h : isLineP k l = true) : l.length ≤ 60 := (isLineP_spec h).2.2.1
theorem lines_time {k k2 : Int} {la lb : List Step} (h : isLineP k la = true) (h2 : isLineP k2 lb = true) : ∀ s ∈ la ++ lb, 0 ≤ s.at_ ∧ s.at_ ≤ 1000 := fun s hs => (List.mem_append.1 hs).elim (line_time h s) (line_time h2 s)
end Go.Proofs.YtkoeplbkeboklaaGreat
/- A range over a function, at the wide fence: the statement, the call of yield; appends to windows within a fence. -/
set_option linter.unusedVariables false
set_option linter.unusedSimpArgs false
namespace Go.Proofs.YtkoeplbkeboklaaGreat
open Go.RowKit
theorem range_wide {P : Program} {n : Nat} {g : Operand} {ps : Array Tmp} {assign body : Code} {Q : Exit → Act → World → Prop} {a : Act} {w : World} {gf : Nat} {lb : Array Value} (hg : a.eval g = .func (.func gf) #[] lb) (eg : ∀ args w, (callFunc gf args).run P w = .ok (.enter gf args) w)
    (h : ∀ (fn : FuncId) (W1 : World), Below w.heap.size w W1 → W1.heap.size = w.heap.size + 2 → W1.heap[w.heap.size]? = some (.deferred (some [])) →
      W1.heap[w.heap.size + 1]? = some (.loop { state := .ready, pending := none, fn, tmps := a.tmps, params := ps, assign, body, defers := w.heap.size }) →
      CallsIn Fence.wide n P gf (#[.func (.yield (w.heap.size + 1)) #[] #[]] ++ lb) W1 (rangePost Fence.wide (n + 1) P (w.heap.size + 1) Q { a with defers := { target := .collected w.heap.size, args := #[] } :: a.defers })) :
    (Code.rangeFunc g ps assign body).wpIn Fence.wide (n + 1) P Q a w := by
  refine wpIn_rangeFunc ?_
  intro fn _
  obtain ⟨W1, hW1⟩ : ∃ W1, (w.alloc (.deferred (some []))).alloc (.loop { state := .ready, pending := none, fn, tmps := a.tmps, params := ps, assign, body, defers := w.heap.size }) = W1 := ⟨_, rfl⟩
  refine ⟨w.heap.size + 1, [{ target := .collected w.heap.size, args := #[] }], W1, { target := .fn (.func gf) lb, args := #[.func (.yield (w.heap.size + 1)) #[] #[]] }, W1, gf,
    #[.func (.yield (w.heap.size + 1)) #[] #[]] ++ lb, W1, ?_, ?_, ?_, ?_, fun h => by simp [Fence.wide] at h, ?_⟩
  · rw [← hW1]; exact run_enterLoop_outer _ _ _ _ _
  · simp only [resolve, hg]
    simp [go_sem]
  · intro f' _; trivial
  · simp [invoke, go_sem, eg]
  · refine h fn W1 ?_ ?_ ?_ ?_
    · rw [← hW1]; exact (((Below.refl _ w).alloc (Nat.le_refl _) _).alloc (by simp) _)
    · rw [← hW1]; simp
    · rw [← hW1]; exact (Below.heap_alloc _ _ _ (by simp)).trans (heap_alloc_new w _)
    · rw [← hW1]
      have := heap_alloc_new (w.alloc (.deferred (some []))) (.loop { state := .ready, pending := none, fn, tmps := a.tmps, params := ps, assign, body, defers := w.heap.size })
      rwa [World.size_alloc] at this
theorem yield_wide {P : Program} {n l : Nat} {r : Loop} {args : Array Value} {W : World} {R : Ending → World → Prop} (hr : W.heap[l]? = some (.loop r)) (hs : args.size = r.params.size)
    (h : r.assign.wpIn (Fence.wide.inRound l) n P (Exit.then (fun a₁ w₁ => ∃ r', w₁.heap[l]? = some (.loop r') ∧ r'.state = .ready ∧ r.body.wpIn (Fence.wide.inRound l) n P (roundPost P l R) a₁ (w₁.putObj l (.loop { r' with state := .busy }))) (fun _ _ _ => False))
      { tmps := (r.params.zip args).foldl (fun tmps (t, a) => tmps.setIfInBounds t a) r.tmps, defers := [] } W) : YieldAt Fence.wide n P l args W R :=
  ⟨r.fn, _, r.assign, r.body, run_yield hr hs, roundIn_of_wpIn trivial (wpIn_mono h fun e a₁ w₁ hq => by
    cases e with
    | normal =>
      obtain ⟨r', h1, h2, h3⟩ := hq
      exact ⟨_, run_beginRound h1 h2, h3⟩
    | exit id => exact hq
    | goto l => exact hq
    | ret => exact hq
    | panic c => exact hq
    | outgrown => exact hq)⟩
theorem two_box {w W0 : World} {cs ds : Array Value} {T U : TypeId} (h : (w.alloc (.cells cs T)).alloc (.cells ds U) = W0) : Below w.heap.size w W0 ∧ W0.heap.size = w.heap.size + 2 ∧ W0.heap[w.heap.size]? = some (.cells cs T (0, 0)) ∧ W0.heap[w.heap.size + 1]? = some (.cells ds U (0, 0)) := by
  subst h
  exact named_box2 w cs ds T U (G := fun W0 => Below w.heap.size w W0 ∧ W0.heap.size = w.heap.size + 2 ∧ W0.heap[w.heap.size]? = some (.cells cs T (0, 0)) ∧ W0.heap[w.heap.size + 1]? = some (.cells ds U (0, 0))) fun W0 h1 h2 h3 h4 => ⟨h1, h2, h3, h4⟩
theorem fr_putObj (w : World) (r : Nat) (o : Obj) : Fr (fun i => i = r) w (w.putObj r o) := ⟨rfl, rfl, rfl, by simp, fun k _ hs => World.putObj_heap_other hs⟩
theorem named_put {w : World} {r : Nat} {o : Obj} {G : World → Prop} (hr : r < w.heap.size) (h : ∀ W, Fr (fun i => i = r) w W → W.heap[r]? = some o → W.heap.size = w.heap.size → G W) : G (w.putObj r o) :=
  h _ (fr_putObj w r o) (World.putObj_heap_same hr) (by simp)
theorem rows_wide {P : Program} {n l : Nat} {row : String} {args : Array Value} {w : World} {R : Value → World → Prop} (h : Rows P row args w R) : RowsIn (Fence.wide.inRound l) n P row args w R :=
  fun c cs _ => let ⟨v, w', r, s⟩ := h c cs; ⟨v, w', r, stepsIn_wide.2 s⟩
theorem wpIn_of_wp_op {P : Program} {n l : Nat} {o : Oper} {a : Act} {w : World} {K : Act → World → Prop} {Q : Exit → Act → World → Prop} (hd : ∀ c, o.op ≠ .defer c) (h : o.wp P a w K Q) : o.wpIn (Fence.wide.inRound l) n P a w K Q := by
  refine ⟨fun _ _ => trivial, ?_⟩
  rw [Oper.semAt_eq _ _ _ hd]
  unfold Oper.wp at h
  generalize (execOp a.eval o).run P w = r at h
  match r, h with
  | .ok (.value v) w', h => exact h
  | .ok .skip w', h => exact h
  | .ok (.defer d) w', h => exact h
  | .ok (.enter f args) w', h => exact ⟨fun h => by simp [Fence.wide, Fence.inRound] at h, callsIn_wide.2 h⟩
  | .ok (.row row args) w', h => exact ⟨fun h => by simp [Fence.wide, Fence.inRound] at h, rows_wide h⟩
  | .halt (.panic v) w', h => exact h
theorem wpAnyIn_of_wpAny {P : Program} {n l : Nat} {md : Region.Mode} {ops : Array Oper} {Q : Exit → Act → World → Prop} (hlo : ¬ LetsOut Q) (hd : ∀ (i : Nat) (o : Oper), ops[i]? = some o → ∀ c, o.op ≠ .defer c) :
    ∀ (fuel : Nat) (listed : Array Bool) (a : Act) (w : World), wpAny P md ops Q fuel listed a w → wpAnyIn (Fence.wide.inRound l) n P md ops Q fuel listed a w
  | 0, _, _, _, h => h
  | fuel + 1, listed, a, w, h => by
    refine ⟨h.1, fun i hi => ?_⟩
    have h1 := h.2 i hi
    unfold wpOp at h1
    unfold wpOpIn
    split
    · rename_i ho; rw [ho] at h1; exact wpAnyIn_of_wpAny hlo hd fuel _ _ _ h1
    · rename_i o ho
      simp only [ho] at h1
      split
      · rename_i hw; simp only [hw, if_true] at h1; exact wpIn_of_wp_op (hd i o ho) (Oper.wp_mono (fun a w h => wpAnyIn_of_wpAny hlo hd fuel _ a w h) (h1.resolve_right fun h => hlo h.2))
      · rename_i hw; simp only [hw] at h1; exact ⟨fun _ _ => trivial, wpAnyIn_of_wpAny hlo hd fuel _ _ _ h1⟩
def noDef (o : Oper) : Bool := match o.op with | .defer _ => false | _ => true
theorem noDefer {ops : Array Oper} (h : ops.all noDef = true) : ∀ (i : Nat) (o : Oper), ops[i]? = some o → ∀ c, o.op ≠ .defer c := by
  intro i o ho c hc
  obtain ⟨hi, rfl⟩ := Array.getElem?_eq_some_iff.1 ho
  have := Array.all_eq_true.1 h i hi
  simp [noDef, hc] at this
theorem region_quiet_round {P : Program} {n L id : Nat} {Q : Exit → Act → World → Prop} {a : Act} {w : World} {l : List Oper} (hm : P.follows .mixedOrders = true) (hlo : ¬ LetsOut Q) (hd : l.toArray.all noDef = true) (hB : Region.lexB .any l.toArray = true)
    (h : wpQuiet P l.toArray (fun w' => ∃ n, w' = w.drewN n) (fun a' => ∀ w', (∃ n, w' = w.drewN n) → Q .normal a' w') l a) : (Code.region id l.toArray true).wpIn (Fence.wide.inRound L) n P Q a w := by
  simp only [Region.lexB, Bool.and_eq_true] at hB
  refine wpIn_region_any hm (wpAnyIn_of_wpAny hlo (noDefer hd) _ _ _ _ (wpAny_of_quiet (Q := fun a' => ∀ w', (∃ n, w' = w.drewN n) → Q .normal a' w') (fun _ w' hw' h => h w' hw') _ _ _ _ ⟨1, rfl⟩ ?_))
  have := wpAnyQ_lex (C := fun w' => ∃ n, w' = w.drewN n) (md := .any) hB.1 l.toArray.toList 0 (Array.replicate l.toArray.size false) a (by simp) (by simpa using hB.2) (by simpa using h)
  simpa using this
theorem round_end {P : Program} {l : Nat} {R : Ending → World → Prop} {r : Loop} {a : Act} {w : World} (h : w.heap[l]? = some (.loop r)) (hk : ∀ W, Fr (fun i => i = l) w W → W.heap[l]? = some (.loop { r with state := .ready, pending := none }) → W.heap.size = w.heap.size → R (.returned (.bool true)) W) : roundPost P l R .normal a w :=
  ⟨_, _, run_endRound none h, named_put (G := R (.returned (.bool true))) (Array.getElem?_eq_some_iff.1 h).1 hk⟩
theorem wpListIn_append_win {F : Fence} {n : Nat} {P : Program} (w : World) {ops : Array Oper} {rest : List Oper} {o : Oper} {a : Act} {Q : Exit → Act → World → Prop} (hgd : o.guard = none) (s x : Operand) (t : TypeId)
    (hop : o.op = .call { callee := .builtin .append, args := #[s, x], argTypes := #[t, t] })
    (e : TypeId) (k bytes : Nat) (z : Value) (ht : P.underlying t = some (.slice e)) (hinfo : (P.info? e).map (fun i => (i.zero, i.size, i.bytes)) = some (some z, k, bytes)) (hzs : z.cells.size = k) (hk : 0 < k)
    (v : Value) (S : Nat → Prop) (nn : Nat) (xs : List Value) (hs : a.eval s = v) (hwin : WinC k e w v S nn xs)
    (ad : Addr) (m c : Nat) (news : List Value) (hx : a.eval x = .slice (some ad) m c) (hl : news.length = m * k) (hnews : ∀ j u, news[j]? = some u → w.cell? (ad.add j) = some u) (h1 : ∀ u ∈ news, u.oneCell' = true)
    (hm : 0 < m) (h63 : nn + m ≤ maxLen) (hbytes : (nn + m) * bytes ≤ 140737488355328)
    (hK : ∀ v' w', WinC k e w' v' (fun i => (S i ∧ i < w.heap.size) ∨ i = w.heap.size) (nn + m) (xs ++ news) → Fr (fun i => some i = v.ownBlock) w w' → w'.heap.size ≤ w.heap.size + 1 → wpListIn F n P ops Q rest (a.put o.dst v') w') : wpListIn F n P ops Q (o :: rest) a w := by
  obtain ⟨i, hi, hzz⟩ := Option.map_eq_some_iff.1 hinfo
  simp only [Prod.mk.injEq] at hzz
  obtain ⟨v', w', hrun, r1, r2, r3⟩ := run_append_win (P := P) w t o.type e i z k bytes ht hi hzz.1 hzz.2.1 hzz.2.2 hzs hk v S nn xs hwin ad m c news hl hnews h1 hm h63 hbytes
  refine wpListIn_plain hgd fun K hK' => ?_
  unfold Oper.wpIn
  refine ⟨?_, ?_⟩
  · simp [Oper.about, hop, resolve, Target.leads, Sem.run_pure]
  · rw [Oper.semAt_plain F _ _ (by rw [hop]; intro c hc'; cases hc')]
    simp [execOp, hop, resolve, invoke, builtin, hs, hx, hrun, Result.andThen]
    exact hK' _ _ (hK v' w' r1 r2 r3)
theorem run_value {P : Program} {m : Sem Value} {w w' : World} {v : Value} (h : m.run P w = .ok v w') : ((m.run P w).andThen fun a w' => Result.ok (Next.value a) w') = .ok (.value v) w' := by rw [h]; rfl
theorem uponIn_eq {F : Fence} {n : Nat} {P : Program} {o : Oper} {a : Act} {K : Act → World → Prop} {Q : Exit → Act → World → Prop} {r r' : Result Next} (h : r = r') (h2 : o.uponIn F n P a K Q r') : o.uponIn F n P a K Q r := h ▸ h2
theorem opIn_append_win {F : Fence} {n : Nat} {P : Program} (w : World) {o : Oper} {a : Act} {K : Act → World → Prop} {Q : Exit → Act → World → Prop} (s x : Operand) (t : TypeId)
    (hop : o.op = .call { callee := .builtin .append, args := #[s, x], argTypes := #[t, t] })
    (e : TypeId) (k bytes : Nat) (z : Value) (ht : P.underlying t = some (.slice e)) (hinfo : (P.info? e).map (fun i => (i.zero, i.size, i.bytes)) = some (some z, k, bytes)) (hzs : z.cells.size = k) (hk : 0 < k)
    (v : Value) (S : Nat → Prop) (nn : Nat) (xs : List Value) (hs : a.eval s = v) (hwin : WinC k e w v S nn xs)
    (ad : Addr) (m c : Nat) (news : List Value) (hx : a.eval x = .slice (some ad) m c) (hl : news.length = m * k) (hnews : ∀ j u, news[j]? = some u → w.cell? (ad.add j) = some u) (h1 : ∀ u ∈ news, u.oneCell' = true)
    (hm : 0 < m) (h63 : nn + m ≤ maxLen) (hbytes : (nn + m) * bytes ≤ 140737488355328)
    (hK : ∀ v' w', WinC k e w' v' (fun i => (S i ∧ i < w.heap.size) ∨ i = w.heap.size) (nn + m) (xs ++ news) → Fr (fun i => some i = v.ownBlock) w w' → w'.heap.size ≤ w.heap.size + 1 → K (a.put o.dst v') w') : o.wpIn F n P a w K Q := by
  obtain ⟨i, hi, hzz⟩ := Option.map_eq_some_iff.1 hinfo
  simp only [Prod.mk.injEq] at hzz
  obtain ⟨v', w', hrun, r1, r2, r3⟩ := run_append_win (P := P) w t o.type e i z k bytes ht hi hzz.1 hzz.2.1 hzz.2.2 hzs hk v S nn xs hwin ad m c news hl hnews h1 hm h63 hbytes
  unfold Oper.wpIn
  refine ⟨?_, ?_⟩
  · simp [Oper.about, hop, resolve, Target.leads, Sem.run_pure]
  · rw [Oper.semAt_plain F _ _ (by rw [hop]; intro c hc'; cases hc')]
    simp [execOp, hop, resolve, invoke, builtin, hs, hx, hrun, Result.andThen]
    exact hK _ _ r1 r2 r3
end Go.Proofs.YtkoeplbkeboklaaGreat
