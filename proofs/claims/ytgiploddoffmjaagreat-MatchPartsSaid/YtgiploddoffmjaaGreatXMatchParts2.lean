/- My texts, joined: V3. -/
import Derived.Below
import Derived.BigQuiet
import Derived.ChangeKeysEq
import Derived.Deep.AppendLies
import Derived.Deep.CutBlock
import Derived.Deep.DeepCutAuto
import Derived.Deep.LoopGhost
import Derived.Deep.QuietTactic
import Derived.Deep.RegionHeld
import Derived.Deep.RegionHeld3
import Derived.Deep.RegionLaw
import Derived.Defers
import Derived.Ground.Names2Prog
import Derived.Ground.Names8Prog
import Derived.Ground.SlsfProg
import Derived.Handy
import Derived.KernelRfl
import Derived.Laws.AppendOwn
import Derived.Laws.AppendOwnNone
import Derived.Laws.CopyRow
import Derived.Laws.Pointers
import Derived.Laws.StructEq
import Derived.Lib.Hide
import Derived.Lib.Overlaps
import Derived.LoopIn
import Derived.LoopN
import Derived.LoopNIn
import Derived.LoopTactic
import Derived.MapKept
import Derived.Maps.AppendAt
import Derived.Maps.OwnOps
import Derived.Maps.RangeRun
import Derived.Maps.RangeWalk
import Derived.Outline
import Derived.OwnWalk
import Derived.OwnWalkIn
import Derived.RangeFuncBound
import Derived.RangeFuncCalls
import Derived.RangeFuncLeaves
import Derived.RangeFuncNested
import Derived.Recover
import Derived.Shelf.Abstract
import Derived.Shelf.RegionOpen
import Derived.Shelf.SlGeneric
import Derived.Shelf.SlLaysF0
import Derived.Shelf.SlSortCmp.HeapSort1
import Derived.Shelf.SlSortCmp.Insertion
import Derived.Shelf.SlSortCmp.Insertion1
import Derived.Shelf.SlSortCmp.Median1
import Derived.Shelf.SlSortCmp.NoneTotal
import Derived.Shelf.SlSortCmp.PartialInsertion1
import Derived.Shelf.SlSortCmp.Partition1
import Derived.Shelf.SlSortCmp.PartitionEqual1
import Derived.Shelf.SlSortCmp.Pdq1
import Derived.Shelf.SlSortCmp.Pivot1
import Derived.Shelf.SlSortCmp.ReverseRange1
import Derived.Shelf.SlSortCmp.SiftDown1
import Derived.Shelf.SlSortCmp.Whole1
import Derived.Shelf.SlSortCmp.WholeK
import Derived.Shelf.Slices.In.SortNone
import Derived.Shelf.Small.Bits
import Derived.Shelf.Sort.Plain
import Derived.Shelf.Spec.SlicesGrow
import Derived.TacticsInMore
import Derived.Test.YtgiploddoffmjaaGreatProg
import Derived.WalkKit
import Derived.WalkLawsBesides
import Derived.WalkSpells
import Derived.Test.YtgiploddoffmjaaGreatM0
import Derived.Test.YtgiploddoffmjaaGreatM1
import Derived.Test.YtgiploddoffmjaaGreatM2
import Derived.Test.YtgiploddoffmjaaGreatM3
import Derived.Test.YtgiploddoffmjaaGreatM4
import Derived.Test.YtgiploddoffmjaaGreatM5
import Derived.Test.YtgiploddoffmjaaGreatM6
import Derived.Test.YtgiploddoffmjaaGreatM7
import Derived.Test.YtgiploddoffmjaaGreatM8
import Derived.Test.YtgiploddoffmjaaGreatM9
import Derived.Test.YtgiploddoffmjaaGreatM10
import Derived.Test.YtgiploddoffmjaaGreatM11
import Derived.Test.YtgiploddoffmjaaGreatM12
import Derived.Test.YtgiploddoffmjaaGreatM13
import Derived.Test.YtgiploddoffmjaaGreatM14
import Derived.Test.YtgiploddoffmjaaGreatM15
import Derived.Test.YtgiploddoffmjaaGreatM16
import Derived.Test.YtgiploddoffmjaaGreatM17
import Derived.Test.YtgiploddoffmjaaGreatM18
import Derived.Test.YtgiploddoffmjaaGreatM19
import Derived.Test.YtgiploddoffmjaaGreatM20
import Derived.Test.YtgiploddoffmjaaGreatM21
import Derived.Test.YtgiploddoffmjaaGreatM22
import Derived.Test.YtgiploddoffmjaaGreatM23
import Derived.Test.YtgiploddoffmjaaGreatM24
import Derived.Test.YtgiploddoffmjaaGreatM25
import Derived.Test.YtgiploddoffmjaaGreatM26
import Derived.Test.YtgiploddoffmjaaGreatM27
import Derived.Test.YtgiploddoffmjaaGreatXMatchParts1
set_option linter.unusedVariables false
set_option linter.unusedSimpArgs false
set_option linter.unusedSectionVars false
set_option maxRecDepth 10000
namespace Go.Proofs.YtgiploddoffmjaaGreat
section
open Go.RowKit Go.Shelf
def qC (q : (Node × Value) × Int) : List Value := (queryA q.1.1 q.1.2 q.2 false).toList
def partsQ (a b : Node) (t : Test) (n more : Int) : List (Node × Int) := [(a, n), (b, n), (orN a b, n), (thenN n a b, n), (lackN n a (oneN t) b, n), (thenN n a b, n + more), (thenN (n + more) a b, n + more)]
def Got (srcs : Int) (l : List Ev) (Q : List (Node × Int)) (W : World) (vs : List Value) : Prop := ∀ (i : Nat) (x : Value), vs[i]? = some x → ∃ gs nd nr, Q[i]? = some (nd, nr) ∧ allRes srcs l nd nr false = (nums gs, 0) ∧ LL W 0 x gs
theorem Got.below {srcs : Int} {l : List Ev} {Q : List (Node × Int)} {w W : World} {vs : List Value} (h : Got srcs l Q w vs) (hb : Below w.heap.size w W) : Got srcs l Q W vs := fun i x hx => by
 obtain ⟨gs, nd, nr, h1, h2, h3⟩ := h i x hx
 exact ⟨gs, nd, nr, h1, h2, h3.below hb⟩
theorem LL.other {w W : World} {lo : Nat} {v : Value} {gs : List Row} (h : LL w lo v gs) (X : TypeId) (h1 : X ≠ 31) (h2 : X ≠ 3) {S : Nat → Prop} (hf : Fr S w W) (hS : ∀ i, S i → ∃ cur q, w.heap[i]? = some (.cells cur X q)) : LL W lo v gs := by
 refine h.fr hf (fun i hi hs => ?_) fun i hs cur q hg => ?_
 ·obtain ⟨a, c, rfl, _⟩ := h.form
  obtain ⟨cur, q, hg⟩ := hS i hs
  cases a with
  | none => simp [Value.ownBlock] at hi
  | some ad =>
   obtain ⟨b, off, sp⟩ := ad
   have hb : i = b := by simpa [Value.ownBlock] using hi
   subst hb
   rcases h.1.2 with ⟨e, _⟩ | ⟨g, o, k, cur2, e, _, hg2, _⟩
   ·cases e
   ·injection e with e1
    injection e1 with e1
    injection e1 with e1
    subst e1
    rw [hg] at hg2
    injection hg2 with hg2
    injection hg2 with _ hg2
    exact h1 hg2
 ·obtain ⟨cur2, q2, hg2⟩ := hS i hs
  rw [hg2] at hg
  injection hg with hg
  injection hg with _ hg
  exact h2 hg
theorem Got.other {srcs : Int} {l : List Ev} {Q : List (Node × Int)} {w W : World} {vs : List Value} (h : Got srcs l Q w vs) (X : TypeId) (h1 : X ≠ 31) (h2 : X ≠ 3) {S : Nat → Prop} (hf : Fr S w W) (hS : ∀ i, S i → ∃ cur q, w.heap[i]? = some (.cells cur X q)) : Got srcs l Q W vs := fun i x hx => by
 obtain ⟨gs, nd, nr, k1, k2, k3⟩ := h i x hx
 exact ⟨gs, nd, nr, k1, k2, k3.other X h1 h2 hf hS⟩
theorem Got.snoc {srcs : Int} {l : List Ev} {Q : List (Node × Int)} {W : World} {vs : List Value} (h : Got srcs l Q W vs) {v : Value} {gs : List Row} {nd : Node} {nr : Int} (h1 : Q[vs.length]? = some (nd, nr)) (h2 : allRes srcs l nd nr false = (nums gs, 0)) (h3 : LL W 0 v gs) : Got srcs l Q W (vs ++ [v]) := fun i x hx => by
 by_cases hi : i < vs.length
 ·rw [List.getElem?_append_left hi] at hx
  exact h i x hx
 ·rw [List.getElem?_append_right (by omega)] at hx
  have h0 : i - vs.length = 0 := by
   rcases Nat.eq_zero_or_pos (i - vs.length) with h | h
   ·exact h
   ·rw [List.getElem?_eq_none (by simp; omega)] at hx; cases hx
  have hi : i = vs.length := by omega
  subst hi
  simp at hx
  subst hx
  exact ⟨gs, nd, nr, h1, h2, h3⟩
theorem winC_type {k e : Nat} {w : World} {v : Value} {S : Nat → Prop} {n : Nat} {cs : List Value} (h : WinC k e w v S n cs) : ∀ i, some i = v.ownBlock → ∃ cur q, w.heap[i]? = some (.cells cur e q) := fun i hi => by
 rcases h.2 with ⟨rfl, _⟩ | ⟨g, o, c, cur, rfl, _, hg, _⟩
 ·simp [Value.ownBlock] at hi
 ·have hb : i = g := by simpa [Value.ownBlock] using hi
  subst hb
  exact ⟨cur, _, hg⟩
theorem list7 {α : Type} {l : List α} (h : l.length = 7) : ∃ a b c d e f g, l = [a, b, c, d, e, f, g] := by
 match l, h with
 | [a, b, c, d, e, f, g], _ => exact ⟨a, b, c, d, e, f, g, rfl⟩
theorem allRes_ok {srcs : Int} {l : List Ev} {x : Node} {near : Int} {same : Bool} {m : List (List Int)} (h : allRes srcs l x near same = (m, 0)) : queryP srcs x near = true ∧ eventsP srcs l = true ∧ matchP l (formOf x) near same = some m := by
 unfold allRes at h
 split at h
 ·rename_i hq
  obtain ⟨h1, h2⟩ := Bool.and_eq_true_iff.1 hq
  cases hm : matchP l (formOf x) near same with
  | none => rw [hm] at h; cases h
  | some r => rw [hm] at h; injection h with h; subst h; exact ⟨h1, h2, rfl⟩
 ·cases h
theorem found_fit {srcs : Int} {l : List Ev} {x : Node} {near : Int} {same : Bool} {m : List (List Int)} (he : eventsP srcs l = true) (h : matchP l (formOf x) near same = some m) : ∀ z ∈ m, fitL z := fun z hz i hi => by
 have h1 := lang_inc (((match_spec (x := x) he h).2 z).1 hz).1
 have h2 := h1.2.2 i hi
 have h3 := (events_small he).1
 omega
theorem found_len {srcs : Int} {l : List Ev} {x : Node} {near : Int} {same : Bool} {gs : List Row} (he : eventsP srcs l = true) (h : matchP l (formOf x) near same = some (nums gs)) : gs.length ≤ 200 := by
 unfold matchP at h
 cases ha : allP l (formOf x) with
 | none => rw [ha] at h; cases h
 | some r =>
  rw [ha] at h
  injection h with h
  have h2 := (all_lang (by have := (events_small he).1; omega) (formOf x) r ha).2.1
  have h3 := List.length_filter_le (fun x => askedP l x near same) r
  have h4 := congrArg List.length h
  rw [nums_len] at h4
  dsimp only at h4
  omega
theorem within_true (v1 v2 : Value) (g1 g2 : List Row) (w : World) (h1 : LL w 0 v1 g1) (h2 : LL w 0 v2 g2) (s1 : ∀ x ∈ nums g1, fitL x) (s2 : ∀ x ∈ nums g2, fitL x) (hs : sub (nums g1) (nums g2) = true) :
 Calls Tryz.prog 31 #[v1, v2] w fun e w' => e = .returned (.bool true) ∧ Below w.heap.size w w' := by
 have h := within_law v1 v2 g1 g2 0 0 w h1 h2 s1 s2
 rw [show ((nums g1).all fun x => decide (x ∈ nums g2)) = true from hs] at h
 exact h
theorem info_rows : (Tryz.prog.info? 44).map (fun i => (i.zero, i.size, i.bytes)) = some (some (.slice none 0 0), 1, 24) := by kernel_rfl
theorem allRes_cases (srcs : Int) (l : List Ev) (x : Node) (near : Int) (same : Bool) : (∃ m, allRes srcs l x near same = (m, 0)) ∨ allRes srcs l x near same = ([], 2) ∨ allRes srcs l x near same = ([], 3) := by
 unfold allRes
 split
 ·cases matchP l (formOf x) near same with
  | none => exact .inr (.inr rfl)
  | some m => exact .inl ⟨m, rfl⟩
 ·exact .inr (.inl rfl)
theorem q_len (q : (Node × Value) × Int) : (qC q).length = 8 := rfl
theorem named_box4 (w : World) (A B C D : Array Value) (TA TB TC TD : TypeId) {G : World → Prop} (h : ∀ W, Below w.heap.size w W → W.heap[w.heap.size]? = some (.cells A TA (0, 0)) → W.heap[w.heap.size + 1]? = some (.cells B TB (0, 0)) → W.heap[w.heap.size + 1 + 1 + 1]? = some (.cells D TD (0, 0)) → G W) :
 G ((((w.alloc (.cells A TA)).alloc (.cells B TB)).alloc (.cells C TC)).alloc (.cells D TD)) := by
 have e1 := heap_alloc_new (w.alloc (.cells A TA)) (.cells B TB)
 simp only [World.size_alloc] at e1
 exact h _ (below4 w _ _ _ _) (alloc_old (alloc_old (alloc_old (alloc_at w _)))) (alloc_old (alloc_old e1)) (heap_last4 w _ _ _ _)
set_option maxRecDepth 100000 in
set_option maxHeartbeats 16000000 in
theorem parts_law (a b : Node) (va vb : Value) (t : Test) (n more : Int) (srcs : Int) (u : Value) (l : List Ev) (w : World) (hka : RdK w a.ks va) (hkb : RdK w b.ks vb) (hn : 0 ≤ n ∧ n ≤ 255) (hm : 0 ≤ more ∧ more ≤ 255) (hr : Rd Ev.cells 5 w u l) (ok : SlOk u) :
 Calls Tryz.prog 8 #[.agg (patA a va), .agg (patA b vb), .agg #[.int .i64 t.src, .int .i64 t.low, .int .i64 t.high], .int .u8 n, .int .u8 more, .int .i64 srcs, u] w fun e w' => e = .returned (.bool true) ∧ Below w.heap.size w w' := by
 obtain ⟨aa, ca, rfl⟩ : ∃ z c, va = .slice z a.ks.len c := by obtain ⟨z, c, e, _⟩ := hka; exact ⟨z, c, e⟩
 obtain ⟨ab, cb, rfl⟩ : ∃ z c, vb = .slice z b.ks.len c := by obtain ⟨z, c, e, _⟩ := hkb; exact ⟨z, c, e⟩
 obtain ⟨al, cl, rfl⟩ : ∃ z c, u = .slice z l.length c := by obtain ⟨_, z, c, rfl, _⟩ := hr; exact ⟨z, c, rfl⟩
 have hcl := ok.le
 have HB := zH (Below.refl w.heap.size w)
 have HKA := zH hka
 have HKB := zH hkb
 have HL := zH hr
 have hw1 : IntKind.i64.wrap n = n := Go.IntWalk.i64_in _ (by omega)
 have hw2 : IntKind.i64.wrap more = more := Go.IntWalk.i64_in _ (by omega)
 have hw3 : IntKind.i64.wrap (n + more) = n + more := Go.IntWalk.i64_in _ (by omega)
 have HN := zH (zA hn hm)
 clear hka hkb hr ok hn hm
 go_enter Tryz.func8, Tryz.ntmps8
 go_upto_region 3 with (fail)
 refine named_box4 (G := fun W => Code.wp _ _ _ _ W) w _ _ _ _ _ _ _ _ fun w1 hb hx hy hz => ?_
 have HS := zH (show ∀ W, Below w1.heap.size w1 W → W.cell? ⟨w.heap.size, 0, none⟩ = some (.int .i64 a.op) ∧ W.cell? ⟨w.heap.size, 1, none⟩ = some (.int .i64 a.t.src) ∧ W.cell? ⟨w.heap.size, 2, none⟩ = some (.int .i64 a.t.low) ∧ W.cell? ⟨w.heap.size, 3, none⟩ = some (.int .i64 a.t.high) ∧ W.cell? ⟨w.heap.size, 4, none⟩ = some (.int .i64 a.n) ∧ W.cell? ⟨w.heap.size, 5, none⟩ = some (.slice aa a.ks.len ca) ∧ W.cell? ⟨w.heap.size + 1, 0, none⟩ = some (.int .i64 b.op) ∧ W.cell? ⟨w.heap.size + 1, 1, none⟩ = some (.int .i64 b.t.src) ∧ W.cell? ⟨w.heap.size + 1, 2, none⟩ = some (.int .i64 b.t.low) ∧ W.cell? ⟨w.heap.size + 1, 3, none⟩ = some (.int .i64 b.t.high) ∧ W.cell? ⟨w.heap.size + 1, 4, none⟩ = some (.int .i64 b.n) ∧ W.cell? ⟨w.heap.size + 1, 5, none⟩ = some (.slice ab b.ks.len cb) ∧ W.cell? ⟨w.heap.size + 1 + 1 + 1, 0, none⟩ = some (.int .i64 1) ∧ W.cell? ⟨w.heap.size + 1 + 1 + 1, 1, none⟩ = some (.int .i64 t.src) ∧ W.cell? ⟨w.heap.size + 1 + 1 + 1, 2, none⟩ = some (.int .i64 t.low) ∧ W.cell? ⟨w.heap.size + 1 + 1 + 1, 3, none⟩ = some (.int .i64 t.high) ∧ W.cell? ⟨w.heap.size + 1 + 1 + 1, 4, none⟩ = some (.int .i64 0) ∧ W.cell? ⟨w.heap.size + 1 + 1 + 1, 5, none⟩ = some (.slice none 0 0) from fun W hW => ⟨zB hW (zC hx 0), zB hW (zC hx 1), zB hW (zC hx 2), zB hW (zC hx 3), zB hW (zC hx 4), zB hW (zC hx 5), zB hW (zC hy 0), zB hW (zC hy 1), zB hW (zC hy 2), zB hW (zC hy 3), zB hW (zC hy 4), zB hW (zC hy 5), zB hW (zC hz 0), zB hW (zC hz 1), zB hW (zC hz 2), zB hW (zC hz 3), zB hW (zC hz 4), zB hW (zC hz 5)⟩)
 replace HKA := zH (HKA.out.below hb)
 replace HKB := zH (HKB.out.below hb)
 replace HL := zH (HL.out.below hb)
 replace HB := zH (HB.out.trans (hb.mono HB.out.size))
 clear hb
 clear hx hy hz
 go_cut [17] (fun q W => ∃ (b' : Nat) (qs : List ((Node × Value) × Int)), q = .slice (some ⟨b', 0, none⟩) 7 7 ∧ Rd qC 8 W q qs ∧ (∀ x ∈ qs, RdK W x.1.1.ks x.1.2) ∧ qs.map (fun x => (x.1.1, x.2)) = partsQ a b t n more ∧ Below w1.heap.size w1 W)
 case first =>
  have EQ := zH (enters_of Tryz.func39 (by kernel_rfl) rfl)
  have EO := zH (enters_of Tryz.func40 (by kernel_rfl) rfl)
  have ET := zH (enters_of Tryz.func41 (by kernel_rfl) rfl)
  have EK := zH (enters_of Tryz.func42 (by kernel_rfl) rfl)
  have HWD := zH ((Below.refl w1.heap.size w1).drew)
  have HN1 := zH (fun W => RdK.nil W)
  refine zR 47 (S := fun W => W.cell? ⟨w.heap.size, 0, none⟩ = some (.int .i64 a.op) ∧ W.cell? ⟨w.heap.size, 1, none⟩ = some (.int .i64 a.t.src) ∧ W.cell? ⟨w.heap.size, 2, none⟩ = some (.int .i64 a.t.low) ∧ W.cell? ⟨w.heap.size, 3, none⟩ = some (.int .i64 a.t.high) ∧ W.cell? ⟨w.heap.size, 4, none⟩ = some (.int .i64 a.n) ∧ W.cell? ⟨w.heap.size, 5, none⟩ = some (.slice aa a.ks.len ca) ∧ W.cell? ⟨w.heap.size + 1, 0, none⟩ = some (.int .i64 b.op) ∧ W.cell? ⟨w.heap.size + 1, 1, none⟩ = some (.int .i64 b.t.src) ∧ W.cell? ⟨w.heap.size + 1, 2, none⟩ = some (.int .i64 b.t.low) ∧ W.cell? ⟨w.heap.size + 1, 3, none⟩ = some (.int .i64 b.t.high) ∧ W.cell? ⟨w.heap.size + 1, 4, none⟩ = some (.int .i64 b.n) ∧ W.cell? ⟨w.heap.size + 1, 5, none⟩ = some (.slice ab b.ks.len cb) ∧ W.cell? ⟨w.heap.size + 1 + 1 + 1, 0, none⟩ = some (.int .i64 1) ∧ W.cell? ⟨w.heap.size + 1 + 1 + 1, 1, none⟩ = some (.int .i64 t.src) ∧ W.cell? ⟨w.heap.size + 1 + 1 + 1, 2, none⟩ = some (.int .i64 t.low) ∧ W.cell? ⟨w.heap.size + 1 + 1 + 1, 3, none⟩ = some (.int .i64 t.high) ∧ W.cell? ⟨w.heap.size + 1 + 1 + 1, 4, none⟩ = some (.int .i64 0) ∧ W.cell? ⟨w.heap.size + 1 + 1 + 1, 5, none⟩ = some (.slice none 0 0)) (by kernel_rfl) (by kernel_rfl) rfl (HS.out _ HWD.out) (fun hHeld => ?_)
  try simp only [List.reduceReplicate]
  repeat refine takeA [2, 5, 8, 10, 14, 16, 21, 23, 27, 32, 39, 44, 45, 46] (h := ?_)
  refine callA [] (args := ?_) (R := ?_) (he := ?_) (hc := ?_) (hargs := ?_) (h := ?_)
  rotate_left 2
  exact EQ.out; exact query_law a _ n _ (HKA.out.below HWD.out); rfl; rintro e wz ⟨rfl, hbz⟩; refine .inl ⟨_, rfl, HS.out _ (HWD.out.trans (hbz.mono HWD.out.size)), fun hHeld => ?_⟩; replace HWD := zH (HWD.out.trans (hbz.mono HWD.out.size)); clear hbz
  refine normA (h := ?_)
  refine callA [] (args := ?_) (R := ?_) (he := ?_) (hc := ?_) (hargs := ?_) (h := ?_)
  rotate_left 2
  exact EQ.out; exact query_law b _ n _ (HKB.out.below HWD.out); rfl; rintro e wz ⟨rfl, hbz⟩; refine .inl ⟨_, rfl, HS.out _ (HWD.out.trans (hbz.mono HWD.out.size)), fun hHeld => ?_⟩; replace HWD := zH (HWD.out.trans (hbz.mono HWD.out.size)); clear hbz
  refine normA (h := ?_)
  refine callA [] (args := ?_) (R := ?_) (he := ?_) (hc := ?_) (hargs := ?_) (h := ?_)
  rotate_left 2
  exact EO.out; exact or_law a b _ _ _ (HKA.out.below HWD.out) (HKB.out.below HWD.out); rfl; rintro e wz ⟨vv, rfl, hk, hbz⟩; refine .inl ⟨_, rfl, HS.out _ (HWD.out.trans (hbz.mono HWD.out.size)), fun hHeld => ?_⟩; replace HWD := zH (HWD.out.trans (hbz.mono HWD.out.size)); obtain ⟨z2, c2, rfl, _⟩ := id hk; have K2 := zH hk; clear hk; clear hbz
  refine normA (h := ?_)
  refine callA [] (args := ?_) (R := ?_) (he := ?_) (hc := ?_) (hargs := ?_) (h := ?_)
  rotate_left 2
  exact EQ.out; exact query_law (orN a b) _ n _ K2.out; rfl; rintro e wz ⟨rfl, hbz⟩; refine .inl ⟨_, rfl, HS.out _ (HWD.out.trans (hbz.mono HWD.out.size)), fun hHeld => ?_⟩; replace HWD := zH (HWD.out.trans (hbz.mono HWD.out.size)); replace K2 := zH (K2.out.below hbz); clear hbz
  refine normA (h := ?_)
  refine callA [] (args := ?_) (R := ?_) (he := ?_) (hc := ?_) (hargs := ?_) (h := ?_)
  rotate_left 2
  exact ET.out; exact then_law n a b _ _ _ (HKA.out.below HWD.out) (HKB.out.below HWD.out); rfl; rintro e wz ⟨vv, rfl, hk, hbz⟩; refine .inl ⟨_, rfl, HS.out _ (HWD.out.trans (hbz.mono HWD.out.size)), fun hHeld => ?_⟩; replace HWD := zH (HWD.out.trans (hbz.mono HWD.out.size)); replace K2 := zH (K2.out.below hbz); obtain ⟨z3, c3, rfl, _⟩ := id hk; have K3 := zH hk; clear hk; clear hbz
  refine normA (h := ?_)
  refine callA [] (args := ?_) (R := ?_) (he := ?_) (hc := ?_) (hargs := ?_) (h := ?_)
  rotate_left 2
  exact EQ.out; exact query_law (thenN n a b) _ n _ K3.out; rfl; rintro e wz ⟨rfl, hbz⟩; refine .inl ⟨_, rfl, HS.out _ (HWD.out.trans (hbz.mono HWD.out.size)), fun hHeld => ?_⟩; replace HWD := zH (HWD.out.trans (hbz.mono HWD.out.size)); replace K2 := zH (K2.out.below hbz); replace K3 := zH (K3.out.below hbz); clear hbz
  refine normA (h := ?_)
  refine callA [] (args := ?_) (R := ?_) (he := ?_) (hc := ?_) (hargs := ?_) (h := ?_)
  rotate_left 2
  exact EK.out; exact lack_law n a (oneN t) b _ _ _ _ (HKA.out.below HWD.out) (HN1.out _) (HKB.out.below HWD.out); rfl; rintro e wz ⟨vv, rfl, hk, hbz⟩; refine .inl ⟨_, rfl, HS.out _ (HWD.out.trans (hbz.mono HWD.out.size)), fun hHeld => ?_⟩; replace HWD := zH (HWD.out.trans (hbz.mono HWD.out.size)); replace K2 := zH (K2.out.below hbz); replace K3 := zH (K3.out.below hbz); obtain ⟨z4, c4, rfl, _⟩ := id hk; have K4 := zH hk; clear hk; clear hbz
  refine normA (h := ?_)
  refine callA [] (args := ?_) (R := ?_) (he := ?_) (hc := ?_) (hargs := ?_) (h := ?_)
  rotate_left 2
  exact EQ.out; exact query_law (lackN n a (oneN t) b) _ n _ K4.out; rfl; rintro e wz ⟨rfl, hbz⟩; refine .inl ⟨_, rfl, HS.out _ (HWD.out.trans (hbz.mono HWD.out.size)), fun hHeld => ?_⟩; replace HWD := zH (HWD.out.trans (hbz.mono HWD.out.size)); replace K2 := zH (K2.out.below hbz); replace K3 := zH (K3.out.below hbz); replace K4 := zH (K4.out.below hbz); clear hbz
  refine normA (h := ?_)
  refine callA [] (args := ?_) (R := ?_) (he := ?_) (hc := ?_) (hargs := ?_) (h := ?_)
  rotate_left 2
  exact ET.out; exact then_law n a b _ _ _ (HKA.out.below HWD.out) (HKB.out.below HWD.out); rfl; rintro e wz ⟨vv, rfl, hk, hbz⟩; refine .inl ⟨_, rfl, HS.out _ (HWD.out.trans (hbz.mono HWD.out.size)), fun hHeld => ?_⟩; replace HWD := zH (HWD.out.trans (hbz.mono HWD.out.size)); replace K2 := zH (K2.out.below hbz); replace K3 := zH (K3.out.below hbz); replace K4 := zH (K4.out.below hbz); obtain ⟨z5, c5, rfl, _⟩ := id hk; have K5 := zH hk; clear hk; clear hbz
  refine normA (h := ?_)
  refine callA [] (args := ?_) (R := ?_) (he := ?_) (hc := ?_) (hargs := ?_) (h := ?_)
  rotate_left 2
  exact EQ.out; exact query_law (thenN n a b) _ (n + more) _ K5.out; rfl; rintro e wz ⟨rfl, hbz⟩; refine .inl ⟨_, rfl, HS.out _ (HWD.out.trans (hbz.mono HWD.out.size)), fun hHeld => ?_⟩; replace HWD := zH (HWD.out.trans (hbz.mono HWD.out.size)); replace K2 := zH (K2.out.below hbz); replace K3 := zH (K3.out.below hbz); replace K4 := zH (K4.out.below hbz); replace K5 := zH (K5.out.below hbz); clear hbz
  refine normA (h := ?_)
  refine callA [] (args := ?_) (R := ?_) (he := ?_) (hc := ?_) (hargs := ?_) (h := ?_)
  rotate_left 2
  exact ET.out; exact then_law (n + more) a b _ _ _ (HKA.out.below HWD.out) (HKB.out.below HWD.out); rfl; rintro e wz ⟨vv, rfl, hk, hbz⟩; refine .inl ⟨_, rfl, HS.out _ (HWD.out.trans (hbz.mono HWD.out.size)), fun hHeld => ?_⟩; replace HWD := zH (HWD.out.trans (hbz.mono HWD.out.size)); replace K2 := zH (K2.out.below hbz); replace K3 := zH (K3.out.below hbz); replace K4 := zH (K4.out.below hbz); replace K5 := zH (K5.out.below hbz); obtain ⟨z6, c6, rfl, _⟩ := id hk; have K6 := zH hk; clear hk; clear hbz
  refine normA (h := ?_)
  refine callA [] (args := ?_) (R := ?_) (he := ?_) (hc := ?_) (hargs := ?_) (h := ?_)
  rotate_left 2
  exact EQ.out; exact query_law (thenN (n + more) a b) _ (n + more) _ K6.out; rfl; rintro e wz ⟨rfl, hbz⟩; refine .inl ⟨_, rfl, HS.out _ (HWD.out.trans (hbz.mono HWD.out.size)), fun hHeld => ?_⟩; replace HWD := zH (HWD.out.trans (hbz.mono HWD.out.size)); replace K2 := zH (K2.out.below hbz); replace K3 := zH (K3.out.below hbz); replace K4 := zH (K4.out.below hbz); replace K5 := zH (K5.out.below hbz); replace K6 := zH (K6.out.below hbz); clear hbz
  refine normA (h := ?_)
  refine runA [] (hS := by exact HS.out _ (HWD.out.alloc HWD.out.size _)) (h := fun hHeld => ?_)
  repeat refine takeA [] (h := ?_)
  refine wpAnyH_done (by kernel_rfl) ?_ _
  clear hHeld
  go_wp2_with fail
  go_meet
  case rel =>
   have hal := (Below.refl wz.heap.size wz).alloc (Nat.le_refl _) (.cells (Array.mk (([((a, .slice aa a.ks.len ca), n), ((b, .slice ab b.ks.len cb), n), ((orN a b, .slice z2 (orN a b).ks.len c2), n), ((thenN n a b, .slice z3 (thenN n a b).ks.len c3), n), ((lackN n a (oneN t) b, .slice z4 (lackN n a (oneN t) b).ks.len c4), n), ((thenN n a b, .slice z5 (thenN n a b).ks.len c5), n + more), ((thenN (n + more) a b, .slice z6 (thenN (n + more) a b).ks.len c6), n + more)] : List ((Node × Value) × Int)).flatMap qC)) 29)
   refine ⟨wz.heap.size, [((a, .slice aa a.ks.len ca), n), ((b, .slice ab b.ks.len cb), n), ((orN a b, .slice z2 (orN a b).ks.len c2), n), ((thenN n a b, .slice z3 (thenN n a b).ks.len c3), n), ((lackN n a (oneN t) b, .slice z4 (lackN n a (oneN t) b).ks.len c4), n), ((thenN n a b, .slice z5 (thenN n a b).ks.len c5), n + more), ((thenN (n + more) a b, .slice z6 (thenN (n + more) a b).ks.len c6), n + more)], rfl, rd_box (enc := qC) (k := 8) q_len 29 _ _ 7 _ (heap_alloc_new wz _) rfl rfl (by decide), fun x hx => ?_, rfl, HWD.out.trans (hal.mono HWD.out.size)⟩
   simp only [List.mem_cons, List.mem_nil_iff, or_false] at hx
   rcases hx with rfl | rfl | rfl | rfl | rfl | rfl | rfl
   ·exact (HKA.out.below HWD.out).below hal
   ·exact (HKB.out.below HWD.out).below hal
   ·exact K2.out.below hal
   ·exact K3.out.below hal
   ·exact K4.out.below hal
   ·exact K5.out.below hal
   ·exact K6.out.below hal
 case rest =>
  obtain ⟨bq, qs, rfl, hq, hks, hqs, hb⟩ := hcut
  clear HS
  have hql : qs.length = 7 := by have := congrArg List.length hqs; simpa [partsQ] using this
  have HL2 := zH (HL.out.below hb)
  have HB2 := zH (HB.out.trans (hb.mono HB.out.size))
  have HQ := zH (zA hq (zA hks hqs))
  clear hq hks hqs hb HKA HKB HL HB
  go_upto_region 5 with (fail)
  refine zX (G := fun W => Code.wp _ _ _ _ W) wc _ _ fun w2 hb2 hz2 hx2 => ?_
  have H2 := zH (zA hb2 hx2)
  clear hb2 hx2 hz2
  go_wp2
  go_loopw [75] (fun i W => ∃ (k : Nat) (v : Value) (vs : List Value), i = .int .i64 k ∧ k ≤ 7 ∧ W.heap[wc.heap.size]? = some (.cells #[v] 66 (0, 0)) ∧ WinC 1 44 W v (fun i => wc.heap.size < i) k vs ∧ Got srcs l (partsQ a b t n more) W vs ∧ Below wc.heap.size wc W) (fun i _ => 7 - (intOf i).toNat)
  case atStart => exact ⟨0, .slice none 0 0, [], rfl, by omega, H2.out.2, winC_nil _ _ _ _, fun i x h => by simp at h, H2.out.1⟩
  case round =>
   obtain ⟨k, v, vs, rfl, hk, hx, hwin, hgot, hB⟩ := hrel
   obtain ⟨av, cv, rfl, _, _⟩ := zS hwin
   by_cases hlt : k < 7
   ·have hxq := List.getElem?_eq_getElem (show k < qs.length by omega)
    generalize qs[k] = q at hxq
    obtain ⟨⟨nd, nv⟩, nr⟩ := q
    have hkk := HQ.out.2.1 _ (List.mem_of_getElem? hxq)
    obtain ⟨zz, cc, e, _⟩ := id hkk
    dsimp only at e hkk
    subst e
    have hqk : (partsQ a b t n more)[k]? = some (nd, nr) := by rw [← HQ.out.2.2, List.getElem?_map, hxq]; rfl
    obtain ⟨b', off', e2, _, hc⟩ := rd_at (HQ.out.1.below hB) hxq
    obtain ⟨rfl, rfl⟩ : bq = b' ∧ 0 = off' := by simpa using e2
    have q0 : wr.cell? ⟨bq, k * 8, none⟩ = some (.int .i64 nd.op) := by have := hc 0 _ rfl; simpa using this
    have q1 : wr.cell? ⟨bq, k * 8 + 1, none⟩ = some (.int .i64 nd.t.src) := by have := hc 1 _ rfl; simpa using this
    have q2 : wr.cell? ⟨bq, k * 8 + 2, none⟩ = some (.int .i64 nd.t.low) := by have := hc 2 _ rfl; simpa using this
    have q3 : wr.cell? ⟨bq, k * 8 + 3, none⟩ = some (.int .i64 nd.t.high) := by have := hc 3 _ rfl; simpa using this
    have q4 : wr.cell? ⟨bq, k * 8 + 4, none⟩ = some (.int .i64 nd.n) := by have := hc 4 _ rfl; simpa using this
    have q5 : wr.cell? ⟨bq, k * 8 + 5, none⟩ = some (.slice zz nd.ks.len cc) := by have := hc 5 _ rfl; simpa using this
    have q6 : wr.cell? ⟨bq, k * 8 + 6, none⟩ = some (.int .i64 nr) := by have := hc 6 _ rfl; simpa using this
    have q7 : wr.cell? ⟨bq, k * 8 + 7, none⟩ = some (.bool false) := by have := hc 7 _ rfl; simpa using this
    have n1 : (k : Int) < 7 := by omega
    have hall := fun W (hW : Below wc.heap.size wc W) => all_out l al cl hcl nd _ nr false srcs W (HL2.out.below hW) (hkk.below hW)
    have hcs := allRes_cases srcs l nd nr false
    obtain ⟨r, hr⟩ : ∃ r, r = allRes srcs l nd nr false := ⟨_, rfl⟩
    rw [← hr] at hall hcs
    have HALL := zH hall
    have HX := zH (zA hx (zA hwin (zA hgot (zA hB (zA hqk hr)))))
    have HCS := zH hcs
    clear hall hcs hx hwin hgot hB hqk hr hc hkk hxq
    go_upto_region 8 with (fail)
    refine zX (G := fun W => Code.wp _ _ _ _ W) wr _ _ fun w5 hb5 hz5 hx5 => ?_
    clear q0 q1 q2 q3 q4 q5 q6 q7
    have q0 := zC hx5 0
    have q1 := zC hx5 1
    have q2 := zC hx5 2
    have q3 := zC hx5 3
    have q4 := zC hx5 4
    have q5 := zC hx5 5
    have q6 := zC hx5 6
    have q7 := zC hx5 7
    have H5 := zH hb5
    clear hx5 hb5 hz5
    go_wp2_with fail
    refine (HALL.out w5 (HX.out.2.2.2.1.trans (H5.out.mono HX.out.2.2.2.1.size))).mono ?_
    rintro e w6 ⟨v21, rfl, hown, hb6⟩
    have H6 := zH (zA (H5.out.trans (hb6.mono H5.out.size)) hown)
    clear hb6 hown q0 q1 q2 q3 q4 q5 q6 q7 HALL
    have hB6 := zH (HX.out.2.2.2.1.trans (H6.out.1.mono HX.out.2.2.2.1.size))
    rcases HCS.out with ⟨m, rfl⟩ | rfl | rfl
    rotate_left
    ·obtain ⟨a21, e21⟩ := H6.out.2.form
     subst e21
     go_wp2_with (go_at_call 17; refine (known_law _).mono ?_; rintro e w7 ⟨rfl, hb7⟩; have H7 := zH hb7; clear hb7)
     go_ret
     exact ⟨rfl, HB2.out.trans ((hB6.out.trans (H7.out.mono hB6.out.size)).mono HB2.out.size)⟩
    ·obtain ⟨a21, e21⟩ := H6.out.2.form
     subst e21
     go_wp2_with (go_at_call 17; refine (known_law _).mono ?_; rintro e w7 ⟨rfl, hb7⟩; have H7 := zH hb7; clear hb7)
     go_ret
     exact ⟨rfl, HB2.out.trans ((hB6.out.trans (H7.out.mono hB6.out.size)).mono HB2.out.size)⟩
    ·obtain ⟨a21, e21⟩ := H6.out.2.form
     obtain ⟨g21, hg21, hl21⟩ := H6.out.2.ll
     subst e21
     have hx6 : w6.heap[wc.heap.size]? = some (.cells #[.slice av k cv] 66 (0, 0)) := (H6.out.1.block _ (Array.getElem?_eq_some_iff.1 HX.out.1).1).trans HX.out.1
     have t0 := zC hx6 0
     have z0 := zK hx6 0
     dsimp only at hg21 hl21 ⊢
     have hnews := (Below.refl w6.heap.size w6).alloc (Nat.le_refl _) (.cells #[.slice a21 m.length m.length] 44)
     have t1 := zB hnews t0
     have hwin6 : WinC 1 44 (w6.alloc (.cells #[.slice a21 m.length m.length] 44)) (.slice av k cv) (fun i => wc.heap.size < i) k vs := zM HX.out.2.1 (zF (S := fun _ => False) (H6.out.1.trans (hnews.mono H6.out.1.size))) (fun _ _ h => h)
     have hob6 := winC_ob hwin6
     have hty6 := winC_type hwin6
     have HT := zH (show ∀ W, Fr (fun i => some i = (Value.slice av k cv).ownBlock) (w6.alloc (.cells #[.slice a21 m.length m.length] 44)) W → W.heap[wc.heap.size]? = some (.cells #[.slice av k cv] 66 (0, 0)) from fun W hf =>
      (hf.block _ (by have := (Array.getElem?_eq_some_iff.1 hx6).1; rw [World.size_alloc]; omega) fun hi => by have := (hob6 _ hi).1; omega).trans ((hnews.block _ (Array.getElem?_eq_some_iff.1 hx6).1).trans hx6))
     have H7 := zH (zA hx6 (zA hg21 (zA hl21 (zA hwin6 (zA hob6 hty6)))))
     clear hx6 hg21 hl21 hnews hwin6 hob6 hty6
     go_wp2_with (at_builtin; (refine wpList_append_win _ (by rfl) _ _ _ (by rfl) 44 1 24 _ Tryz.underlying66 info_rows rfl (by decide) _ _ k _ (by rfl) (winC_block H7.out.2.2.2.1) _ _ _ [.slice a21 m.length m.length] (by rfl) (by rfl) (news1 w6 _ _) (by simp [Value.oneCell']) (by decide) (by unfold maxLen; omega) (by omega) ?_); intro u w10 hwin10 hfr10 hsz10; obtain ⟨a10, c10, rfl, hc10, hm10⟩ := zS hwin10; have hx10 := HT.out w10 hfr10; have s0 := zC hx10 0; have s1 := zK hx10 0; have H10 := zH (zA hwin10 (zA hfr10 hx10)); clear hwin10 hfr10 hsz10 hx10)
     go_roundw
     case rel =>
      obtain ⟨hwin10, hfr10, hx10⟩ := H10.out
      have hnews := (Below.refl w6.heap.size w6).alloc (Nat.le_refl _) (.cells #[.slice a21 m.length m.length] 44)
      have hfs := fr_setCell w10 ⟨wc.heap.size, 0, none⟩ (.slice a10 (k + 1) c10)
      have hlen : vs.length = k := by have := HX.out.2.1.1; omega
      have hmv : ∀ {v' : Value} {gs' : List Row}, LL w6 0 v' gs' → LL (w10.setCell ⟨wc.heap.size, 0, none⟩ (.slice a10 (k + 1) c10)) 0 v' gs' := fun h =>
       ((h.below hnews).other 44 (by decide) (by decide) hfr10 H7.out.2.2.2.2.2).other 66 (by decide) (by decide) hfs fun i hi => by
         have hi : i = wc.heap.size := hi
         subst hi
         exact ⟨_, _, hx10⟩
      refine ⟨k + 1, _, vs ++ [.slice a21 m.length m.length], by go_num, by omega, setCell_blk (o := 0) hx10 _, zM (zN hwin10 fun i hi => ?_) hfs fun i hi h => ?_, Got.snoc (fun i x hx => ?_) (by rw [hlen]; exact HX.out.2.2.2.2.1) (by rw [← HX.out.2.2.2.2.2, H7.out.2.1]) (hmv H7.out.2.2.1), ?_⟩
      ·rcases hi with h | h
       ·exact h.1.2.1
       ·have h1 := (Array.getElem?_eq_some_iff.1 H7.out.1).1
        rw [World.size_alloc] at h
        omega
      ·have h : i = wc.heap.size := h
       have hi : wc.heap.size < i := hi
       omega
      ·obtain ⟨gs', nd', nr', k1, k2, k3⟩ := HX.out.2.2.1 i x hx
       exact ⟨gs', nd', nr', k1, k2, hmv (k3.below H6.out.1)⟩
      ·have hb1 := hB6.out.trans (hnews.mono hB6.out.size)
       have hb2 := hb1.trans (zO hfr10 hb1.size fun i hi => by have := (H7.out.2.2.2.2.1 i hi).1; omega)
       exact hb2.trans (zO hfs hb2.size fun i hi => by have hi : i = wc.heap.size := hi; omega)
     case measure => simp [intOf]; omega
   ·obtain rfl : k = 7 := by omega
    have hlen : vs.length = 7 := by have := hwin.1; omega
    obtain ⟨g, off, rfl⟩ : ∃ g off, av = some ⟨g, off, none⟩ := by
     rcases hwin.2 with ⟨_, h⟩ | ⟨g, o, cp, cur, e, _⟩
     ·omega
     ·injection e with e
      exact ⟨g, o, e⟩
    obtain ⟨x0, x1, x2, x3, x4, x5, x6, rfl⟩ := list7 hlen
    have hcell := fun j u (h : [x0, x1, x2, x3, x4, x5, x6][j]? = some u) => winC_cells hwin j u h
    obtain ⟨g0, nd, nr, e, r0, l0⟩ := hgot 0 x0 rfl
    injection e with e
    injection e with e1 e2
    subst e1; subst e2
    obtain ⟨g1, nd, nr, e, r1, l1⟩ := hgot 1 x1 rfl
    injection e with e
    injection e with e1 e2
    subst e1; subst e2
    obtain ⟨g2, nd, nr, e, r2, l2⟩ := hgot 2 x2 rfl
    injection e with e
    injection e with e1 e2
    subst e1; subst e2
    obtain ⟨g3, nd, nr, e, r3, l3⟩ := hgot 3 x3 rfl
    injection e with e
    injection e with e1 e2
    subst e1; subst e2
    obtain ⟨g4, nd, nr, e, r4, l4⟩ := hgot 4 x4 rfl
    injection e with e
    injection e with e1 e2
    subst e1; subst e2
    obtain ⟨g5, nd, nr, e, r5, l5⟩ := hgot 5 x5 rfl
    injection e with e
    injection e with e1 e2
    subst e1; subst e2
    obtain ⟨g6, nd, nr, e, r6, l6⟩ := hgot 6 x6 rfl
    injection e with e
    injection e with e1 e2
    subst e1; subst e2
    obtain ⟨z0, k0, rfl, _, _⟩ := l0.form
    obtain ⟨z1, k1, rfl, _, _⟩ := l1.form
    obtain ⟨z2, k2, rfl, _, _⟩ := l2.form
    obtain ⟨z3, k3, rfl, _, _⟩ := l3.form
    obtain ⟨z4, k4, rfl, _, _⟩ := l4.form
    obtain ⟨z5, k5, rfl, _, _⟩ := l5.form
    obtain ⟨z6, k6, rfl, _, _⟩ := l6.form
    have d0 : wr.cell? ⟨g, off, none⟩ = some (.slice z0 g0.length k0) := by have := hcell 0 _ rfl; simpa using this
    have d1 : wr.cell? ⟨g, off + 1, none⟩ = some (.slice z1 g1.length k1) := by have := hcell 1 _ rfl; simpa using this
    have d2 : wr.cell? ⟨g, off + 2, none⟩ = some (.slice z2 g2.length k2) := by have := hcell 2 _ rfl; simpa using this
    have d3 : wr.cell? ⟨g, off + 3, none⟩ = some (.slice z3 g3.length k3) := by have := hcell 3 _ rfl; simpa using this
    have d4 : wr.cell? ⟨g, off + 4, none⟩ = some (.slice z4 g4.length k4) := by have := hcell 4 _ rfl; simpa using this
    have d5 : wr.cell? ⟨g, off + 5, none⟩ = some (.slice z5 g5.length k5) := by have := hcell 5 _ rfl; simpa using this
    have d6 : wr.cell? ⟨g, off + 6, none⟩ = some (.slice z6 g6.length k6) := by have := hcell 6 _ rfl; simpa using this
    have t0 : wr.cell? ⟨wc.heap.size, 0, none⟩ = some (.slice (some ⟨g, off, none⟩) 7 cv) := zC hx 0
    obtain ⟨q0, he, m0⟩ := allRes_ok r0
    obtain ⟨q1, he, m1⟩ := allRes_ok r1
    obtain ⟨q2, he, m2⟩ := allRes_ok r2
    obtain ⟨q3, he, m3⟩ := allRes_ok r3
    obtain ⟨q4, he, m4⟩ := allRes_ok r4
    obtain ⟨q5, he, m5⟩ := allRes_ok r5
    obtain ⟨q6, he, m6⟩ := allRes_ok r6
    have hp := parts_spec he HN.out.2.1 q0 q1 m0 m1 m2 m3 m4 m5 m6
    have f0 := found_fit he m0
    have f1 := found_fit he m1
    have f2 := found_fit he m2
    have f3 := found_fit he m3
    have f4 := found_fit he m4
    have f5 := found_fit he m5
    have f6 := found_fit he m6
    have wi := fun {u v : Value} {ga gb : List Row} (la : LL wr 0 u ga) (lb : LL wr 0 v gb) (fa : ∀ x ∈ nums ga, fitL x) (fb : ∀ x ∈ nums gb, fitL x) (hs : sub (nums ga) (nums gb) = true) W (hW : Below wr.heap.size wr W) => within_true u v ga gb W (la.below hW) (lb.below hW) fa fb hs
    have HW02 := zH (wi l0 l2 f0 f2 hp.h02)
    have HW12 := zH (wi l1 l2 f1 f2 hp.h12)
    have HW43 := zH (wi l4 l3 f4 f3 hp.h43)
    have HW35 := zH (wi l3 l5 f3 f5 hp.h35)
    have HW56 := zH (wi l5 l6 f5 f6 hp.h56)
    have hg2 := found_len he m2
    have HCL := zH (fun W (hW : Below wr.heap.size wr W) => cloneRows _ g2 0 W (l2.below hW) (by omega))
    have HDEL := zH (delAll wr wc.heap.size g off cv _ _ g0 g1 g2 l0 l1 l2.2 f0 f1 f2 t0 d0 d1 hp.h2 (by omega))
    have HS := zH (show ∀ W, Below wr.heap.size wr W → W.cell? ⟨wc.heap.size, 0, none⟩ = some (.slice (some ⟨g, off, none⟩) 7 cv) ∧ W.cell? ⟨g, off, none⟩ = some (.slice z0 g0.length k0) ∧ W.cell? ⟨g, off + 1, none⟩ = some (.slice z1 g1.length k1) ∧ W.cell? ⟨g, off + 2, none⟩ = some (.slice z2 g2.length k2) ∧ W.cell? ⟨g, off + 3, none⟩ = some (.slice z3 g3.length k3) ∧ W.cell? ⟨g, off + 4, none⟩ = some (.slice z4 g4.length k4) ∧ W.cell? ⟨g, off + 5, none⟩ = some (.slice z5 g5.length k5) ∧ W.cell? ⟨g, off + 6, none⟩ = some (.slice z6 g6.length k6) from fun W hW => ⟨zB hW t0, zB hW d0, zB hW d1, zB hW d2, zB hW d3, zB hW d4, zB hW d5, zB hW d6⟩)
    have HBR := zH (HB2.out.trans (hB.mono HB2.out.size))
    have HWD := zH ((Below.refl wr.heap.size wr).drew)
    have EW := zH (enters_of Tryz.func31 (by kernel_rfl) rfl)
    have EC := zH (enters_of Tryz.func44 (by kernel_rfl) rfl)
    have ED := zH (enters_of Tryz.func43 (by kernel_rfl) rfl)
    have EN := zH (enters_of Tryz.func17 (by kernel_rfl) rfl)
    clear wi hp hcell hx hwin hgot hB hlen t0 he hg2 l0 l1 l2 l3 l4 l5 l6 r0 r1 r2 r3 r4 r5 r6 q0 q1 q2 q3 q4 q5 q6 m0 m1 m2 m3 m4 m5 m6 f0 f1 f2 f3 f4 f5 f6 d0 d1 d2 d3 d4 d5 d6
    go_upto_region 13 with (fail)
    refine zR 28 (S := fun W => W.cell? ⟨wc.heap.size, 0, none⟩ = some (.slice (some ⟨g, off, none⟩) 7 cv) ∧ W.cell? ⟨g, off, none⟩ = some (.slice z0 g0.length k0) ∧ W.cell? ⟨g, off + 1, none⟩ = some (.slice z1 g1.length k1) ∧ W.cell? ⟨g, off + 2, none⟩ = some (.slice z2 g2.length k2) ∧ W.cell? ⟨g, off + 3, none⟩ = some (.slice z3 g3.length k3) ∧ W.cell? ⟨g, off + 4, none⟩ = some (.slice z4 g4.length k4) ∧ W.cell? ⟨g, off + 5, none⟩ = some (.slice z5 g5.length k5) ∧ W.cell? ⟨g, off + 6, none⟩ = some (.slice z6 g6.length k6)) (by kernel_rfl) (by kernel_rfl) rfl (HS.out _ HWD.out) (fun hHeld => ?_)
    try simp only [List.reduceReplicate]
    repeat (first
     | refine takeA [22] (h := ?_)
     | (refine callA [] (args := ?_) (R := ?_) (he := ?_) (hc := ?_) (hargs := ?_) (h := ?_)
        rotate_left 2
        first | (exact EW.out; exact HW02.out _ HWD.out; rfl; rintro e wz ⟨rfl, hbz⟩; refine .inl ⟨_, rfl, HS.out _ (HWD.out.trans (hbz.mono HWD.out.size)), fun hHeld => ?_⟩; replace HWD := zH (HWD.out.trans (hbz.mono HWD.out.size)); clear hbz) | (exact EW.out; exact HW12.out _ HWD.out; rfl; rintro e wz ⟨rfl, hbz⟩; refine .inl ⟨_, rfl, HS.out _ (HWD.out.trans (hbz.mono HWD.out.size)), fun hHeld => ?_⟩; replace HWD := zH (HWD.out.trans (hbz.mono HWD.out.size)); clear hbz) | (exact EC.out; exact HCL.out _ HWD.out; rfl; rintro e wz ⟨ac, cc, rfl, hwc, hbz⟩; have HWC := zH (zN hwc fun i hi => Nat.le_trans HWD.out.size hi); refine .inl ⟨_, rfl, HS.out _ (HWD.out.trans (hbz.mono HWD.out.size)), fun hHeld => ?_⟩; replace HWC := zH HWC.out; replace HWD := zH (HWD.out.trans (hbz.mono HWD.out.size)); clear hbz hwc) | (exact ED.out; exact HDEL.out ac cc _ HWD.out HWC.out; rfl; rintro e wz ⟨ad, rfl, hbz⟩; refine .inl ⟨_, rfl, HS.out _ hbz, fun hHeld => ?_⟩; replace HWD := zH hbz; clear hbz)
        refine normA (h := ?_)))
    refine wpAnyH_done (by kernel_rfl) ?_ _
    clear hHeld
    go_upto_region 15 with (fail)
    replace HWD := zH HWD.out.drew
    refine zR 29 (S := fun W => W.cell? ⟨wc.heap.size, 0, none⟩ = some (.slice (some ⟨g, off, none⟩) 7 cv) ∧ W.cell? ⟨g, off, none⟩ = some (.slice z0 g0.length k0) ∧ W.cell? ⟨g, off + 1, none⟩ = some (.slice z1 g1.length k1) ∧ W.cell? ⟨g, off + 2, none⟩ = some (.slice z2 g2.length k2) ∧ W.cell? ⟨g, off + 3, none⟩ = some (.slice z3 g3.length k3) ∧ W.cell? ⟨g, off + 4, none⟩ = some (.slice z4 g4.length k4) ∧ W.cell? ⟨g, off + 5, none⟩ = some (.slice z5 g5.length k5) ∧ W.cell? ⟨g, off + 6, none⟩ = some (.slice z6 g6.length k6)) (by kernel_rfl) (by kernel_rfl) rfl (HS.out _ HWD.out) (fun hHeld => ?_)
    try simp only [List.reduceReplicate]
    repeat (first
     | refine takeA [] (h := ?_)
     | (refine callA [] (args := ?_) (R := ?_) (he := ?_) (hc := ?_) (hargs := ?_) (h := ?_)
        rotate_left 2
        first | (exact EW.out; exact HW43.out _ HWD.out; rfl; rintro e wz ⟨rfl, hbz⟩; refine .inl ⟨_, rfl, HS.out _ (HWD.out.trans (hbz.mono HWD.out.size)), fun hHeld => ?_⟩; replace HWD := zH (HWD.out.trans (hbz.mono HWD.out.size)); clear hbz) | (exact EW.out; exact HW35.out _ HWD.out; rfl; rintro e wz ⟨rfl, hbz⟩; refine .inl ⟨_, rfl, HS.out _ (HWD.out.trans (hbz.mono HWD.out.size)), fun hHeld => ?_⟩; replace HWD := zH (HWD.out.trans (hbz.mono HWD.out.size)); clear hbz) | (exact EW.out; exact HW56.out _ HWD.out; rfl; rintro e wz ⟨rfl, hbz⟩; refine .inl ⟨_, rfl, HS.out _ (HWD.out.trans (hbz.mono HWD.out.size)), fun hHeld => ?_⟩; replace HWD := zH (HWD.out.trans (hbz.mono HWD.out.size)); clear hbz) | (exact EN.out; exact known_law _; rfl; rintro e wz ⟨rfl, hbz⟩; refine .inl ⟨_, rfl, HS.out _ (HWD.out.trans (hbz.mono HWD.out.size)), fun hHeld => ?_⟩; replace HWD := zH (HWD.out.trans (hbz.mono HWD.out.size)); clear hbz)
        refine normA (h := ?_)))
    refine wpAnyH_done (by kernel_rfl) ?_ _
    clear hHeld
    go_wp2
    go_ret
    exact ⟨rfl, HBR.out.trans (HWD.out.mono HBR.out.size)⟩
theorem w_MatchParts (a : Node) (va : Value) (b : Node) (vb : Value) (t : Test) (n more : Int) (srcs : Int) (u : Value) (l : List Ev) (w : World) (hka : RdK w a.ks va) (hkb : RdK w b.ks vb) (hn : 0 ≤ n ∧ n ≤ 255) (hm : 0 ≤ more ∧ more ≤ 255) (hr : Rd Ev.cells 5 w u l) (ok : SlOk u) :
 Calls Tryz.prog 8 #[.agg (patA a va), .agg (patA b vb), .agg #[.int .i64 t.src, .int .i64 t.low, .int .i64 t.high], .int .u8 n, .int .u8 more, .int .i64 srcs, u] w fun e w' => e = .returned (.bool true) ∧ Below w.heap.size w w' :=
 parts_law a b va vb t n more srcs u l w hka hkb hn hm hr ok
end
end Go.Proofs.YtgiploddoffmjaaGreat
