/- My texts, joined: W68. -/
import Derived.Below
import Derived.BigQuiet
import Derived.Deep.AppendLies
import Derived.Deep.CutBlock
import Derived.Deep.DeepCutAuto
import Derived.Deep.LoopGhost
import Derived.Deep.QuietTactic
import Derived.Deep.RegionHeld
import Derived.Deep.RegionHeld3
import Derived.Deep.RegionLaw
import Derived.Defers
import Derived.Ground.Names2Prog
import Derived.Ground.Names8Prog
import Derived.Ground.SlsfProg
import Derived.Handy
import Derived.KernelRfl
import Derived.Laws.AppendOwn
import Derived.Laws.AppendOwnNone
import Derived.Laws.CopyRow
import Derived.Laws.Pointers
import Derived.Laws.StructEq
import Derived.Lib.Hide
import Derived.Lib.Overlaps
import Derived.LoopIn
import Derived.LoopN
import Derived.LoopNIn
import Derived.LoopTactic
import Derived.MapKept
import Derived.Maps.AppendAt
import Derived.Maps.OwnOps
import Derived.Maps.RangeRun
import Derived.Maps.RangeWalk
import Derived.Outline
import Derived.OwnWalk
import Derived.OwnWalkIn
import Derived.RangeFuncBound
import Derived.RangeFuncCalls
import Derived.RangeFuncLeaves
import Derived.RangeFuncNested
import Derived.Recover
import Derived.Shelf.Abstract
import Derived.Shelf.RegionOpen
import Derived.Shelf.SlGeneric
import Derived.Shelf.SlLaysF0
import Derived.Shelf.SlSortCmp.HeapSort1
import Derived.Shelf.SlSortCmp.Insertion
import Derived.Shelf.SlSortCmp.Insertion1
import Derived.Shelf.SlSortCmp.Median1
import Derived.Shelf.SlSortCmp.NoneTotal
import Derived.Shelf.SlSortCmp.PartialInsertion1
import Derived.Shelf.SlSortCmp.Partition1
import Derived.Shelf.SlSortCmp.PartitionEqual1
import Derived.Shelf.SlSortCmp.Pdq1
import Derived.Shelf.SlSortCmp.Pivot1
import Derived.Shelf.SlSortCmp.ReverseRange1
import Derived.Shelf.SlSortCmp.SiftDown1
import Derived.Shelf.SlSortCmp.Whole1
import Derived.Shelf.SlSortCmp.WholeK
import Derived.Shelf.Slices.In.SortNone
import Derived.Shelf.Small.Bits
import Derived.Shelf.Sort.Plain
import Derived.Shelf.Spec.SlicesGrow
import Derived.TacticsInMore
import Derived.Test.YtgiploddoffmjaaGreatProg
import Derived.WalkKit
import Derived.WalkLawsBesides
import Derived.WalkSpells
import Derived.Test.YtgiploddoffmjaaGreatM0
import Derived.Test.YtgiploddoffmjaaGreatM1
import Derived.Test.YtgiploddoffmjaaGreatM2
import Derived.Test.YtgiploddoffmjaaGreatM3
import Derived.Test.YtgiploddoffmjaaGreatM4
import Derived.Test.YtgiploddoffmjaaGreatM5
import Derived.Test.YtgiploddoffmjaaGreatM6
import Derived.Test.YtgiploddoffmjaaGreatM8
import Derived.Test.YtgiploddoffmjaaGreatM9
import Derived.Test.YtgiploddoffmjaaGreatM10
import Derived.Test.YtgiploddoffmjaaGreatM11
import Derived.Test.YtgiploddoffmjaaGreatM12
import Derived.Test.YtgiploddoffmjaaGreatM13
import Derived.Test.YtgiploddoffmjaaGreatM18
import Derived.Test.YtgiploddoffmjaaGreatM19
import Derived.Test.YtgiploddoffmjaaGreatM20
import Derived.Test.YtgiploddoffmjaaGreatM21
import Derived.Test.YtgiploddoffmjaaGreatM22
set_option linter.unusedVariables false
set_option linter.unusedSimpArgs false
set_option linter.unusedSectionVars false
set_option maxRecDepth 10000
namespace Go.Proofs.YtgiploddoffmjaaGreat
section
open Go.RowKit Go.Shelf
theorem firstC_snoc {a : Auto} {l : List Ev} {i p : Int} {fs : List Int} {m : Nat} {f : Int} (h : fs[m]? = some f) : firstC a l i p (fs.take (m + 1)) = firstC a l i p (fs.take m) ++ if f = p ∧ holdsP (testAt a f) (evAt l i) = true then [[i]] else [] := by
 unfold firstC
 rw [List.take_add_one, h, List.filter_append, List.map_append]
 congr 1
 by_cases h1 : f = p
 ·subst h1
  by_cases h2 : holdsP (testAt a f) (evAt l i) = true <;> simp [h2, List.filter_cons]
 ·simp [h1, List.filter_cons]
theorem followC_snoc {a : Auto} {l : List Ev} {An : Nat → List (List Int)} {i p : Int} {es : List Edge} {m : Nat} {e : Edge} (h : es[m]? = some e) : followC a l An i p (es.take (m + 1)) = followC a l An i p (es.take m) ++ if e.to_ = p ∧ holdsP (testAt a e.to_) (evAt l i) = true then onC l An i e else [] := by
 unfold followC
 rw [List.take_add_one, h, List.flatMap_append]
 simp
theorem own_nums_upA {C : Nat → List Row} {p q : Nat} {l : List Row} : nums (upA C p l q) = nums (C q) ++ if q = p then nums l else [] := by
 unfold upA
 split
 ·rw [nums, nums, nums, List.map_append]
 ·rw [List.append_nil]
theorem fr_low {S T : Nat → Prop} {w W : World} (h : Fr T w W) (hT : ∀ j, j < w.heap.size → T j → S j) : Fr S w W := ⟨h.os, h.tape, h.output, h.size, fun k hk hs => h.block k hk fun ht => hs (hT k hk ht)⟩
theorem lack_blk {w W : World} {p : Option Addr} {t : Option Test} (h : LackAt w p t) (hz : w.heap.size ≤ W.heap.size) (hS : ∀ b o, p = some ⟨b, o, none⟩ → W.heap[b]? = w.heap[b]?) : LackAt W p t := by
 cases t with
 | none => exact h
 | some t =>
  obtain ⟨b, o, rfl, hb, h0, h1, h2⟩ := h
  have hB := hS b o rfl
  exact ⟨b, o, rfl, Nat.lt_of_lt_of_le hb hz, (World.cell?_of_block (a := ⟨b, o, none⟩) hB).trans h0, (World.cell?_of_block (a := ⟨b, o + 1, none⟩) hB).trans h1, (World.cell?_of_block (a := ⟨b, o + 2, none⟩) hB).trans h2⟩
theorem index12 (ns : Nat → Value) (k : Nat) (hk : k < 12) (w : World) : (Instr.index 137 (.agg #[ns 0, ns 1, ns 2, ns 3, ns 4, ns 5, ns 6, ns 7, ns 8, ns 9, ns 10, ns 11]) (.int .i64 k)).run Tryz.prog w = .ok (ns k) w := by
 have u1 := Tryz.underlying137
 have z1 := Tryz.sizeOf44
 have a1 := Tryz.isAgg44
 have h : k = 0 ∨ k = 1 ∨ k = 2 ∨ k = 3 ∨ k = 4 ∨ k = 5 ∨ k = 6 ∨ k = 7 ∨ k = 8 ∨ k = 9 ∨ k = 10 ∨ k = 11 := by omega
 rcases h with rfl | rfl | rfl | rfl | rfl | rfl | rfl | rfl | rfl | rfl | rfl | rfl <;> simp [Instr.index, Sem.run_bind, go_sem, u1, z1, a1, Result.andThen, part]
structure TakeH (R lo cnt i n : Nat) (al : Option Addr) (cl : Nat) (l : List Ev) (vs : Nat → Value) (A : Nat → List Row) (v1 v2 v3 v4 : Value) (au : Auto) (w : World) : Prop where
 run : RunAt w R lo (.slice al l.length cl) vs A cnt
 auto : AutoAt w v1 v2 v3 v4 au
 evs : Rd Ev.cells 5 w (.slice al l.length cl) l
 hcl : l.length ≤ cl
 hat : ∀ e ∈ l, 0 ≤ e.at_ ∧ e.at_ ≤ 200
 l60 : l.length ≤ 60
 hi : i < l.length
 hlo : lo ≤ w.heap.size
 cntL : cnt ≤ 1000
 sum : sumA (fun p => nums (A p)) 12 = cnt
 tests : au.tests.length = n
 n12 : n ≤ 12
 first : ∀ f ∈ au.first, 0 ≤ f ∧ f < n
 follow : ∀ e ∈ au.follow, (0 ≤ e.from_ ∧ e.from_ < n) ∧ 0 ≤ e.to_ ∧ e.to_ < n
 firstL : au.first.length ≤ 12
 followL : au.follow.length ≤ 200000
 inc : ∀ p, p < 12 → ∀ x ∈ nums (A p), x ≠ [] ∧ (∀ j ∈ x, 0 ≤ j) ∧ x.length ≤ 60
set_option maxRecDepth 1000000 in
set_option maxHeartbeats 64000000 in
theorem take_any (R lo cnt i n : Nat) (al : Option Addr) (cl : Nat) (l : List Ev) (vs : Nat → Value) (A : Nat → List Row) (v1 v2 v3 v4 : Value) (au : Auto) (w : World) (h : TakeH R lo cnt i n al cl l vs A v1 v2 v3 v4 au w) :
 Calls Tryz.prog 93 #[.pointer (some ⟨R, 0, none⟩), .agg #[v1, v2, v3, v4], .int .i64 i] w fun e w' => Fr (fun j => j = R ∨ ∃ p, p < 12 ∧ some j = (vs p).ownBlock) w w' ∧
  ((e = .returned (.tuple #[]) ∧ ∃ vs' A', RunAt w' R lo (.slice al l.length cl) vs' A' (cnt + sumA (fun p => setO ordL (progC au l (fun p => nums (A p)) i p)) 12) ∧ cnt + sumA (fun p => setO ordL (progC au l (fun p => nums (A p)) i p)) 12 ≤ 1000 ∧ ∀ p, p < 12 → nums (A' p) = nums (A p) ++ setO ordL (progC au l (fun p => nums (A p)) i p)) ∨
   (e = .panicked tooMany ∧ 1000 < cnt + sumA (fun p => setO ordL (progC au l (fun p => nums (A p)) i p)) 12)) := by
 obtain ⟨a1, c1, rfl⟩ : ∃ a c, v1 = .slice a au.tests.length c := by obtain ⟨_, a, c, e, _⟩ := h.auto.tests; exact ⟨a, c, e⟩
 obtain ⟨a2, c2, rfl⟩ : ∃ a c, v2 = .slice a au.first.length c := by obtain ⟨_, a, c, e, _⟩ := h.auto.first; exact ⟨a, c, e⟩
 obtain ⟨a4, c4, rfl⟩ : ∃ a c, v4 = .slice a au.follow.length c := by obtain ⟨_, a, c, e, _⟩ := h.auto.follow; exact ⟨a, c, e⟩
 have hRl := h.run.lt
 have hil := h.hi
 have h60 := h.l60
 have hn12 := h.n12
 have htn := h.tests
 have hfl := h.firstL
 have HT := zH htn
 have HH := zH h
 clear h htn
 go_enter Tryz.func93, Tryz.ntmps93
 go_upto_block 0 with fail
 refine named_box2 (G := fun W => Code.wp _ _ _ _ W) w _ _ _ _ fun W1 hb1 hz1 hx1 hy1 => ?_
 have hz1' : w.heap.size + 1 < W1.heap.size := by rw [hz1]; omega
 have H1 := zH (zA hb1 (zA hx1 (NextAt.zero (lo := W1.heap.size) hy1)))
 clear hb1 hz1 hx1 hy1
 have E156 := zH (enters_of Tryz.func156 (by kernel_rfl) rfl)
 go_cut [] (fun W => ∃ (ns : Nat → Value) (C : Nat → List Row), NextAt W (w.heap.size + 1) W1.heap.size ns C ∧ (∀ p, p < 12 → nums (C p) = firstC au l i p au.first) ∧ (∀ p, p < 12 → (C p).length ≤ 12) ∧ Fr (fun j => j = w.heap.size + 1) W1 W)
 case first =>
  go_wp2_with fail
  go_loopw [19] (fun j W => ∃ (m : Nat) (ns : Nat → Value) (C : Nat → List Row), j = .int .i64 m ∧ m ≤ au.first.length ∧ NextAt W (w.heap.size + 1) W1.heap.size ns C ∧ (∀ p, p < 12 → nums (C p) = firstC au l i p (au.first.take m)) ∧ (∀ p, p < 12 → (C p).length ≤ m) ∧ Fr (fun j => j = w.heap.size + 1) W1 W) (fun j _ => au.first.length - (intOf j).toNat)
  case atStart => exact ⟨0, _, _, rfl, by omega, H1.out.2.2, fun p hp => rfl, fun p hp => Nat.le_refl _, fr_refl _ _⟩
  case round =>
   obtain ⟨m, ns, C, rfl, hm, hN, hC, hCl, hF⟩ := hrel
   by_cases hlt : m < au.first.length
   rotate_left
   ·obtain rfl : m = au.first.length := by omega
    have HX := zH (zA hN (zA hC (zA hCl hF)))
    clear hN hC hCl hF
    go_wp2_with fail
    go_meet
    case rel => exact ⟨ns, C, HX.out.1, by have := HX.out.2.1; rw [List.take_length] at this; exact this, fun p hp => Nat.le_trans (HX.out.2.2.1 p hp) hfl, HX.out.2.2.2⟩
   have hx := List.getElem?_eq_getElem hlt
   generalize au.first[m] = f0 at hx
   have hf0 := HH.out.first f0 (List.mem_of_getElem? hx)
   obtain ⟨p0, rfl⟩ : ∃ p0 : Nat, f0 = p0 := ⟨f0.toNat, by omega⟩
   have hp0 : p0 < 12 := by omega
   have hp0t : p0 < au.tests.length := by rw [HT.out]; omega
   have ht := List.getElem?_eq_getElem hp0t
   have htau : testAt au p0 = au.tests[p0] := by unfold testAt; rw [Int.toNat_natCast, ht]; rfl
   have hev := evAt_get hil
   have hsn := fun p : Nat => firstC_snoc (a := au) (l := l) (i := i) (p := p) hx
   rw [htau] at hsn
   generalize au.tests[p0] = t0 at ht hsn
   generalize evAt l i = x0 at hev hsn
   have hBw : Below w.heap.size w wr := H1.out.1.trans (zO hF (by omega) fun j hj => by have h : j = w.heap.size + 1 := hj; omega)
   have hbx := (hF.block w.heap.size (by omega) (fun h => by have h : w.heap.size = w.heap.size + 1 := h; omega)).trans H1.out.2.1
   obtain ⟨b2, o2, rfl, _, hc2⟩ := rd_at (HH.out.auto.first.below hBw) hx
   obtain ⟨b1, o1, rfl, _, hc1⟩ := rd_at (HH.out.auto.tests.below hBw) ht
   obtain ⟨bl, ol, rfl, _, hcl⟩ := rd_at (HH.out.evs.below hBw) hev
   obtain ⟨t0s, t0l, t0h⟩ := t0
   obtain ⟨xs, xid, xat, xk, xv⟩ := x0
   obtain ⟨r, hr⟩ : ∃ r, r = holdsP ⟨t0s, t0l, t0h⟩ ⟨xs, xid, xat, xk, xv⟩ := ⟨_, rfl⟩
   have hcall := fun W => holds_any ⟨t0s, t0l, t0h⟩ ⟨xs, xid, xat, xk, xv⟩ W
   rw [← hr] at hcall
   simp only [← hr] at hsn
   have HCALL := zH hcall
   have q2 : wr.cell? ⟨b2, o2 + m, none⟩ = some (.int .i64 p0) := by have := hc2 0 _ rfl; simpa using this
   have hs : ∀ W, Below w.heap.size w W → W.heap[w.heap.size]? = wr.heap[w.heap.size]? → W.cell? ⟨w.heap.size, 0, none⟩ = some (.slice (some ⟨b1, o1, none⟩) au.tests.length c1) ∧ W.cell? ⟨b1, o1 + p0 * 3, none⟩ = some (.int .i64 t0s) ∧ W.cell? ⟨b1, o1 + p0 * 3 + 1, none⟩ = some (.int .i64 t0l) ∧ W.cell? ⟨b1, o1 + p0 * 3 + 2, none⟩ = some (.int .i64 t0h) ∧ W.cell? ⟨R, 0, none⟩ = some (.slice (some ⟨bl, ol, none⟩) l.length cl) ∧ W.cell? ⟨bl, ol + i * 5, none⟩ = some (.int .i64 xs) ∧ W.cell? ⟨bl, ol + i * 5 + 1, none⟩ = some (.int .i64 xid) ∧ W.cell? ⟨bl, ol + i * 5 + 2, none⟩ = some (.int .i64 xat) ∧ W.cell? ⟨bl, ol + i * 5 + 3, none⟩ = some (.int .i64 xk) ∧ W.cell? ⟨bl, ol + i * 5 + 4, none⟩ = some (.int .i64 xv) := fun W hW hb => by
    obtain ⟨b1', o1', e1, _, hc1⟩ := rd_at (HH.out.auto.tests.below hW) ht
    obtain ⟨bl', ol', el, _, hcl⟩ := rd_at (HH.out.evs.below hW) hev
    injection e1 with e1; injection e1 with e1 e1'; subst e1; subst e1'
    injection el with el; injection el with el el'; subst el; subst el'
    exact ⟨zC (hb.trans hbx) 0, hc1 0 _ rfl, hc1 1 _ rfl, hc1 2 _ rfl, (HH.out.run.below hW).cells.1, hcl 0 _ rfl, hcl 1 _ rfl, hcl 2 _ rfl, hcl 3 _ rfl, hcl 4 _ rfl⟩
   have HS := zH hs
   have hNl := hN.lt
   have HX := zH (zA hN (zA hC (zA hCl (zA hF (zA hBw hbx)))))
   have HSN := zH hsn
   have n1 : (m : Int) < (au.first.length : Int) := by omega
   have n2 : (p0 : Int) < (au.tests.length : Int) := by omega
   have n3 : (i : Int) < (l.length : Int) := by omega
   have n4 : (p0 : Int) < 12 := by omega
   clear hN hC hCl hF hBw hbx hx ht hev hc1 hc2 hcl hcall hsn hs hr htau hf0
   go_wp2_with fail
   refine zR 13 (S := fun W => W.cell? ⟨w.heap.size, 0, none⟩ = some (.slice (some ⟨b1, o1, none⟩) au.tests.length c1) ∧ W.cell? ⟨b1, o1 + p0 * 3, none⟩ = some (.int .i64 t0s) ∧ W.cell? ⟨b1, o1 + p0 * 3 + 1, none⟩ = some (.int .i64 t0l) ∧ W.cell? ⟨b1, o1 + p0 * 3 + 2, none⟩ = some (.int .i64 t0h) ∧ W.cell? ⟨R, 0, none⟩ = some (.slice (some ⟨bl, ol, none⟩) l.length cl) ∧ W.cell? ⟨bl, ol + i * 5, none⟩ = some (.int .i64 xs) ∧ W.cell? ⟨bl, ol + i * 5 + 1, none⟩ = some (.int .i64 xid) ∧ W.cell? ⟨bl, ol + i * 5 + 2, none⟩ = some (.int .i64 xat) ∧ W.cell? ⟨bl, ol + i * 5 + 3, none⟩ = some (.int .i64 xk) ∧ W.cell? ⟨bl, ol + i * 5 + 4, none⟩ = some (.int .i64 xv)) (by kernel_rfl) (by kernel_rfl) rfl (HS.out _ (HX.out.2.2.2.2.1.trans ((Below.refl _ _).drew.mono HX.out.2.2.2.2.1.size)) rfl) (fun hHeld => ?_)
   try simp only [List.reduceReplicate]
   repeat (first
    | refine takeA [] (h := ?_)
    | (refine callA [] (args := ?_) (R := ?_) (he := ?_) (hc := ?_) (hargs := ?_) (h := ?_)
       rotate_left 2
       (exact E156.out; exact HCALL.out _; rfl; rintro e wz ⟨rfl, hbz⟩; have hbz' : Below wr.heap.size wr wz := (Below.refl _ _).drew.trans hbz; refine .inl ⟨_, rfl, HS.out _ (HX.out.2.2.2.2.1.trans (hbz'.mono HX.out.2.2.2.2.1.size)) (hbz'.block _ (by omega)), fun hHeld => ?_⟩; have HBZ := zH hbz'; clear hbz hbz')
       refine normA (h := ?_)))
   refine wpAnyH_done (by kernel_rfl) ?_ _
   clear hHeld
   have hNz := HX.out.1.below HBZ.out
   have hcz := hNz.cells
   have hLz := hNz.at_ p0 hp0
   obtain ⟨an, cn, en, _, _⟩ := hLz.form
   have c0 := hcz.1 p0 hp0
   rw [en] at c0
   have hzz := HBZ.out.size
   cases r with
   | false =>
    clear hcz hLz hNz c0 en
    go_wp2
    go_roundw
    case rel =>
     refine ⟨m + 1, ns, C, by go_num, by omega, HX.out.1.below HBZ.out, fun p hp => ?_, fun p hp => Nat.le_succ_of_le (HX.out.2.2.1 p hp), zT HX.out.2.2.2.1 (zF (S := fun j => j = w.heap.size + 1) HBZ.out) fun _ _ h => h⟩
     rw [HX.out.2.1 p hp, HSN.out p, if_neg (by simp), List.append_nil]
    case measure => simp [intOf]; omega
   | true =>
    have hal := fun o1 o2 => (hLz.below (((Below.refl wz.heap.size wz).alloc (Nat.le_refl _) o1).alloc (by simp) o2))
    rw [en] at hal
    have hCl := HX.out.2.2.1 p0 hp0
    have al0 := fun o1 o2 => zB (((Below.refl wz.heap.size wz).alloc (Nat.le_refl _) o1).alloc (by simp) o2) c0
    have HAL := zH hal
    have HZ := zH (zA hNz en)
    have AL0 := zH al0
    clear hcz hLz hNz en hal al0
    go_wp2_with (at_builtin; (refine wpList_append_win _ (by rfl) _ _ _ (by rfl) 31 1 24 _ Tryz.underlying44 info_row rfl (by decide) _ _ (C p0).length _ (by rfl) (winC_block (HAL.out _ _).1) _ _ _ [.slice (some ⟨wz.heap.size, 0, none⟩) 1 1] (by rfl) (by rfl) (news2 wz _ _ _) (by simp [Value.oneCell']) (by decide) (by unfold maxLen; omega) (by omega) ?_); intro u w4 hwin4 hfr4 hsz4; obtain ⟨a5, c5, rfl, hc5, hm5⟩ := zS hwin4; have hb4 : w4.heap[w.heap.size + 1]? = wz.heap[w.heap.size + 1]? := (hfr4.block _ (by simp; omega) (fun hi => HZ.out.1.other (HZ.out.1.at_ p0 hp0) _ (by rw [HZ.out.2]; exact hi) rfl)).trans ((((Below.refl wz.heap.size wz).alloc (Nat.le_refl _) _).alloc (by simp) _).block _ (by omega)); have x4 := (World.cell?_of_block (a := ⟨w.heap.size + 1, p0, none⟩) hb4).trans c0; have f4 := (World.frozen?_of_block (a := ⟨w.heap.size + 1, p0, none⟩) hb4).trans (HZ.out.1.cells.2 p0); have H4 := zH (zA hwin4 hfr4); clear hwin4 hfr4 hb4 hsz4)
    go_roundw
    case rel =>
     obtain ⟨hNz, en⟩ := HZ.out
     have hb5 : Below wz.heap.size wz ((wz.alloc (.cells #[.int .i64 i] 3)).alloc (.cells #[.slice (some ⟨wz.heap.size, 0, none⟩) 1 1] 31)) := ((Below.refl wz.heap.size wz).alloc (Nat.le_refl _) _).alloc (by simp) _
     have hb6 : Below (wz.heap.size + 1) (wz.alloc (.cells #[.int .i64 i] 3)) ((wz.alloc (.cells #[.int .i64 i] 3)).alloc (.cells #[.slice (some ⟨wz.heap.size, 0, none⟩) 1 1] 31)) := (Below.refl _ _).alloc (by simp) _
     have hFz := zT HX.out.2.2.2.1 (zF (S := fun j => j = w.heap.size + 1) HBZ.out) fun _ _ h => h
     have hrow : RowAt (wz.alloc (.cells #[.int .i64 i] 3)) W1.heap.size (.slice (some ⟨wz.heap.size, 0, none⟩) 1 1, [(i : Int)]) := by
      refine RowAt.of_win (?_ : WinC _ _ _ _ _ _ _) (by simp)
      exact ⟨rfl, .inr ⟨wz.heap.size, 0, 1, _, rfl, hFz.size, heap_alloc_new wz _, by simp, by unfold maxLen; omega, by simp, rfl⟩⟩
     have hrow2 := hrow.below (W := (wz.alloc (.cells #[.int .i64 i] 3)).alloc (.cells #[.slice (some ⟨wz.heap.size, 0, none⟩) 1 1] 31)) (by simpa using hb6)
     have hN5 := hNz.below hb5
     have hL5 := hN5.at_ p0 hp0
     rw [en] at hL5
     have hsz5 := hb5.size
     have hp := LL.push (ps := [(.slice (some ⟨wz.heap.size, 0, none⟩) 1 1, [(i : Int)])]) hL5 (by intro p hp; rw [List.mem_singleton] at hp; subst hp; exact hrow2) (Nat.le_trans hFz.size hsz5) (m := 1) rfl (zN H4.out.1 fun j hj => hj.imp (fun h => ⟨h.1.2.1, h.2⟩) id) H4.out.2
     have hput := hN5.put hp0 (by rw [en]; exact H4.out.2) hp.1 (fun j hj => by
      rw [en]
      rcases (winC_ob H4.out.1 j hj).1 with h | h
      ·exact .inl h.1.1
      ·exact .inr (Nat.le_of_eq h.symm))
     refine ⟨m + 1, _, _, by go_num, by omega, hput, fun p hp => ?_, fun p hp => ?_, ?_⟩
     ·rw [own_nums_upA, HX.out.2.1 p hp, HSN.out p]
      congr 1
      by_cases e : p = p0
      ·subst e; simp [nums]
      ·rw [if_neg e, if_neg (by simp; omega)]
     ·unfold upA
      have := HX.out.2.2.1 p hp
      split
      ·rw [List.length_append]; simp; omega
      ·omega
     ·refine fr_low (T := fun j => j = w.heap.size + 1 ∨ W1.heap.size ≤ j) (zT (fr_mono hFz fun j hj => .inl hj) (zT (zF hb5) (zT (fr_mono H4.out.2 fun j hj => .inr (hL5.ob j hj).1) (fr_mono (fr_setCell w4 ⟨w.heap.size + 1, p0, none⟩ _) fun j hj => .inl hj) fun _ _ h => h) fun _ _ h => h) fun _ _ h => h) fun j hj hT => by omega
    case measure => simp [intOf]; omega
 case rest =>
  obtain ⟨ns, C, hN, hC, hCl, hF⟩ := hcut
  have hBw : Below w.heap.size w wc := H1.out.1.trans (zO hF (by omega) fun j hj => by have h : j = w.heap.size + 1 := hj; omega)
  have hbx := (hF.block w.heap.size (by omega) (fun h => by have h : w.heap.size = w.heap.size + 1 := h; omega)).trans H1.out.2.1
  have k3 : wc.cell? ⟨w.heap.size, 3, none⟩ = some (.slice a4 au.follow.length c4) := zC hbx 3
  have HC1 := zH (zA hN (zA hC (zA hCl hF)))
  have hfo := HH.out.followL
  clear hN hC hCl hF hBw hbx
  go_upto_block 2 with fail
  clear k3
  go_cut [] (fun W => ∃ (ns : Nat → Value) (C : Nat → List Row), NextAt W (w.heap.size + 1) W1.heap.size ns C ∧ (∀ p : Nat, p < 12 → nums (C p) = progC au l (fun p => nums (A p)) i p) ∧ (∀ p, p < 12 → (C p).length ≤ 300000000) ∧ Fr (fun j => j = w.heap.size + 1) W1 W)
  case first =>
   go_wp2_with fail
   go_loopw [49] (fun j W => ∃ (m : Nat) (ns : Nat → Value) (C : Nat → List Row), j = .int .i64 m ∧ m ≤ au.follow.length ∧ NextAt W (w.heap.size + 1) W1.heap.size ns C ∧ (∀ p : Nat, p < 12 → nums (C p) = firstC au l i p au.first ++ followC au l (fun p => nums (A p)) i p (au.follow.take m)) ∧ (∀ p, p < 12 → (C p).length ≤ 12 + m * 1000) ∧ Fr (fun j => j = w.heap.size + 1) W1 W) (fun j _ => au.follow.length - (intOf j).toNat)
   case atStart => exact ⟨0, _, _, rfl, by omega, HC1.out.1, fun p hp => by rw [HC1.out.2.1 p hp, List.take_zero]; simp [followC], fun p hp => by have := HC1.out.2.2.1 p hp; omega, HC1.out.2.2.2⟩
   case round =>
    obtain ⟨m, ns, C, rfl, hm, hN, hC, hCl, hF⟩ := hrel
    by_cases hlt : m < au.follow.length
    rotate_left
    ·obtain rfl : m = au.follow.length := by omega
     have HX := zH (zA hN (zA hC (zA hCl hF)))
     clear hN hC hCl hF
     go_wp2_with fail
     go_meet
     case rel => exact ⟨ns, C, HX.out.1, by have := HX.out.2.1; rw [List.take_length] at this; exact this, fun p hp => by have := HX.out.2.2.1 p hp; omega, HX.out.2.2.2⟩
    have hx := List.getElem?_eq_getElem hlt
    generalize au.follow[m] = e0 at hx
    have he0 := HH.out.follow e0 (List.mem_of_getElem? hx)
    have hsn := fun p : Nat => followC_snoc (a := au) (l := l) (An := fun p => nums (A p)) (i := i) (p := p) hx
    obtain ⟨ef, et, en, el, ⟨es, elo, ehi⟩⟩ := e0
    dsimp only at he0 hsn
    obtain ⟨p1, rfl⟩ : ∃ p1 : Nat, et = p1 := ⟨et.toNat, by omega⟩
    obtain ⟨p2, rfl⟩ : ∃ p2 : Nat, ef = p2 := ⟨ef.toNat, by omega⟩
    have hp1 : p1 < 12 := by omega
    have hp2 : p2 < 12 := by omega
    have hp1t : p1 < au.tests.length := by rw [HT.out]; omega
    have ht := List.getElem?_eq_getElem hp1t
    have htau : testAt au p1 = au.tests[p1] := by unfold testAt; rw [Int.toNat_natCast, ht]; rfl
    have hev := evAt_get hil
    rw [htau] at hsn
    generalize au.tests[p1] = t0 at ht hsn
    have hevg : ∃ x0, x0 = evAt l i := ⟨_, rfl⟩
    obtain ⟨x0, hx0⟩ := hevg
    rw [← hx0] at hev
    have hBw : Below w.heap.size w wr := H1.out.1.trans (zO hF (by omega) fun j hj => by have h : j = w.heap.size + 1 := hj; omega)
    have hbx := (hF.block w.heap.size (by omega) (fun h => by have h : w.heap.size = w.heap.size + 1 := h; omega)).trans H1.out.2.1
    obtain ⟨b4, o4, rfl, _, hc4⟩ := rd_at (HH.out.auto.follow.below hBw) hx
    obtain ⟨b1, o1, rfl, _, hc1⟩ := rd_at (HH.out.auto.tests.below hBw) ht
    obtain ⟨bl, ol, rfl, _, hcl⟩ := rd_at (HH.out.evs.below hBw) hev
    obtain ⟨t0s, t0l, t0h⟩ := t0
    obtain ⟨xs, xid, xat, xk, xv⟩ := x0
    obtain ⟨r, hr⟩ : ∃ r, r = holdsP ⟨t0s, t0l, t0h⟩ ⟨xs, xid, xat, xk, xv⟩ := ⟨_, rfl⟩
    have hcall := fun W => holds_any ⟨t0s, t0l, t0h⟩ ⟨xs, xid, xat, xk, xv⟩ W
    rw [← hr] at hcall
    simp only [← hx0, ← hr] at hsn
    have HCALL := zH hcall
    have c0 : wr.cell? ⟨b4, o4 + m * 7, none⟩ = some (.int .i64 p2) := hc4 0 _ rfl
    have e1 : wr.cell? ⟨b4, o4 + m * 7 + 1, none⟩ = some (.int .i64 p1) := hc4 1 _ rfl
    have e2 : wr.cell? ⟨b4, o4 + m * 7 + 2, none⟩ = some (.int .i64 en) := hc4 2 _ rfl
    have e3 : wr.cell? ⟨b4, o4 + m * 7 + 3, none⟩ = some (.bool el) := hc4 3 _ rfl
    have e4 : wr.cell? ⟨b4, o4 + m * 7 + 4, none⟩ = some (.int .i64 es) := hc4 4 _ rfl
    have e5 : wr.cell? ⟨b4, o4 + m * 7 + 5, none⟩ = some (.int .i64 elo) := hc4 5 _ rfl
    have e6 : wr.cell? ⟨b4, o4 + m * 7 + 6, none⟩ = some (.int .i64 ehi) := hc4 6 _ rfl
    have hs : ∀ W, Below w.heap.size w W → W.heap[w.heap.size]? = wr.heap[w.heap.size]? → W.cell? ⟨w.heap.size, 0, none⟩ = some (.slice (some ⟨b1, o1, none⟩) au.tests.length c1) ∧ W.cell? ⟨b1, o1 + p1 * 3, none⟩ = some (.int .i64 t0s) ∧ W.cell? ⟨b1, o1 + p1 * 3 + 1, none⟩ = some (.int .i64 t0l) ∧ W.cell? ⟨b1, o1 + p1 * 3 + 2, none⟩ = some (.int .i64 t0h) ∧ W.cell? ⟨R, 0, none⟩ = some (.slice (some ⟨bl, ol, none⟩) l.length cl) ∧ W.cell? ⟨bl, ol + i * 5, none⟩ = some (.int .i64 xs) ∧ W.cell? ⟨bl, ol + i * 5 + 1, none⟩ = some (.int .i64 xid) ∧ W.cell? ⟨bl, ol + i * 5 + 2, none⟩ = some (.int .i64 xat) ∧ W.cell? ⟨bl, ol + i * 5 + 3, none⟩ = some (.int .i64 xk) ∧ W.cell? ⟨bl, ol + i * 5 + 4, none⟩ = some (.int .i64 xv) := fun W hW hb => by
     obtain ⟨b1', o1', e1, _, hc1⟩ := rd_at (HH.out.auto.tests.below hW) ht
     obtain ⟨bl', ol', el, _, hcl⟩ := rd_at (HH.out.evs.below hW) hev
     injection e1 with e1; injection e1 with e1 e1'; subst e1; subst e1'
     injection el with el; injection el with el el'; subst el; subst el'
     exact ⟨zC (hb.trans hbx) 0, hc1 0 _ rfl, hc1 1 _ rfl, hc1 2 _ rfl, (HH.out.run.below hW).cells.1, hcl 0 _ rfl, hcl 1 _ rfl, hcl 2 _ rfl, hcl 3 _ rfl, hcl 4 _ rfl⟩
    have HS := zH hs
    have hNl := hN.lt
    have HX := zH (zA hN (zA hC (zA hCl (zA hF (zA hBw hbx)))))
    have HSN := zH hsn
    have HR := zH (zA hr hx0)
    have n1 : (m : Int) < (au.follow.length : Int) := by omega
    have n2 : (p1 : Int) < (au.tests.length : Int) := by omega
    have n3 : (i : Int) < (l.length : Int) := by omega
    have n4 : (p1 : Int) < 12 := by omega
    have n5 : (p2 : Int) < 12 := by omega
    clear hN hC hCl hF hBw hbx hx ht hev hc1 hc4 hcl hcall hsn hs hr htau he0 hx0
    go_wp2_with fail
    refine zX (G := fun W => Code.wp _ _ _ _ W) wr _ _ fun W2 hb2 hz2 hx2 => ?_
    have hz2' : wr.heap.size < W2.heap.size := by rw [hz2]; omega
    have HB := zH (zA hb2 hx2)
    have hs2 : ∀ W, Below W2.heap.size W2 W → (W.cell? ⟨w.heap.size, 0, none⟩ = some (.slice (some ⟨b1, o1, none⟩) au.tests.length c1) ∧ W.cell? ⟨b1, o1 + p1 * 3, none⟩ = some (.int .i64 t0s) ∧ W.cell? ⟨b1, o1 + p1 * 3 + 1, none⟩ = some (.int .i64 t0l) ∧ W.cell? ⟨b1, o1 + p1 * 3 + 2, none⟩ = some (.int .i64 t0h) ∧ W.cell? ⟨R, 0, none⟩ = some (.slice (some ⟨bl, ol, none⟩) l.length cl) ∧ W.cell? ⟨bl, ol + i * 5, none⟩ = some (.int .i64 xs) ∧ W.cell? ⟨bl, ol + i * 5 + 1, none⟩ = some (.int .i64 xid) ∧ W.cell? ⟨bl, ol + i * 5 + 2, none⟩ = some (.int .i64 xat) ∧ W.cell? ⟨bl, ol + i * 5 + 3, none⟩ = some (.int .i64 xk) ∧ W.cell? ⟨bl, ol + i * 5 + 4, none⟩ = some (.int .i64 xv)) ∧ W.cell? ⟨wr.heap.size, 1, none⟩ = some (.int .i64 p1) := fun W hW => ⟨HS.out W (HX.out.2.2.2.2.1.trans ((HB.out.1.trans (hW.mono HB.out.1.size)).mono HX.out.2.2.2.2.1.size)) ((hW.block _ (by omega)).trans (HB.out.1.block _ (by omega))), zC ((hW.block _ hz2').trans HB.out.2) 1⟩
    have HS2 := zH hs2
    clear hb2 hz2 hx2 hs2 c0 e1 e2 e3 e4 e5 e6
    refine zR 15 (S := fun W => (W.cell? ⟨w.heap.size, 0, none⟩ = some (.slice (some ⟨b1, o1, none⟩) au.tests.length c1) ∧ W.cell? ⟨b1, o1 + p1 * 3, none⟩ = some (.int .i64 t0s) ∧ W.cell? ⟨b1, o1 + p1 * 3 + 1, none⟩ = some (.int .i64 t0l) ∧ W.cell? ⟨b1, o1 + p1 * 3 + 2, none⟩ = some (.int .i64 t0h) ∧ W.cell? ⟨R, 0, none⟩ = some (.slice (some ⟨bl, ol, none⟩) l.length cl) ∧ W.cell? ⟨bl, ol + i * 5, none⟩ = some (.int .i64 xs) ∧ W.cell? ⟨bl, ol + i * 5 + 1, none⟩ = some (.int .i64 xid) ∧ W.cell? ⟨bl, ol + i * 5 + 2, none⟩ = some (.int .i64 xat) ∧ W.cell? ⟨bl, ol + i * 5 + 3, none⟩ = some (.int .i64 xk) ∧ W.cell? ⟨bl, ol + i * 5 + 4, none⟩ = some (.int .i64 xv)) ∧ W.cell? ⟨wr.heap.size, 1, none⟩ = some (.int .i64 p1)) (by kernel_rfl) (by kernel_rfl) rfl (HS2.out _ ((Below.refl _ _).drew)) (fun hHeld => ?_)
    try simp only [List.reduceReplicate]
    repeat (first
     | refine takeA [] (h := ?_)
     | (refine callA [] (args := ?_) (R := ?_) (he := ?_) (hc := ?_) (hargs := ?_) (h := ?_)
        rotate_left 2
        (exact E156.out; exact HCALL.out _; rfl; rintro e wz ⟨rfl, hbz⟩; have hbz' : Below W2.heap.size W2 wz := (Below.refl _ _).drew.trans hbz; refine .inl ⟨_, rfl, HS2.out _ hbz', fun hHeld => ?_⟩; have HBZ := zH hbz'; clear hbz hbz')
        refine normA (h := ?_)))
    refine wpAnyH_done (by kernel_rfl) ?_ _
    clear hHeld
    have hzz := HBZ.out.size
    have hBz : Below wr.heap.size wr wz := HB.out.1.trans (HBZ.out.mono (by omega))
    cases r with
    | false =>
     clear hzz
     have HBW := zH hBz
     clear hBz
     go_wp2
     go_roundw
     case rel =>
      refine ⟨m + 1, ns, C, by go_num, by omega, HX.out.1.below HBW.out, fun p hp => ?_, fun p hp => by have := HX.out.2.2.1 p hp; omega, zT HX.out.2.2.2.1 (zF (S := fun j => j = w.heap.size + 1) HBW.out) fun _ _ h => h⟩
      rw [HX.out.2.1 p hp, HSN.out p, if_neg (by simp), List.append_nil]
     case measure => simp [intOf]; omega
    | true =>
     have hxz := (HBZ.out.block _ hz2').trans HB.out.2
     have e0 : wz.cell? ⟨wr.heap.size, 0, none⟩ = some (.int .i64 p2) := zC hxz 0
     have e2 : wz.cell? ⟨wr.heap.size, 2, none⟩ = some (.int .i64 en) := zC hxz 2
     have e3 : wz.cell? ⟨wr.heap.size, 3, none⟩ = some (.bool el) := zC hxz 3
     have HXZ := zH (zA hxz hBz)
     clear hxz hBz
     go_upto_if 69 with fail
     go_cut [11] (fun q W => q = .pointer (if el = true then some ⟨wr.heap.size, 4, none⟩ else none) ∧ W = wz)
     case first =>
      cases el
      ·go_wp2_with fail
       go_meet
       case rel => exact ⟨rfl, rfl⟩
      ·go_wp2_with fail
       go_meet
       case rel => exact ⟨rfl, rfl⟩
     case rest =>
      obtain ⟨rfl, hwz⟩ := hcut
      obtain rfl : wz = wc := hwz.symm
      clear hwz
      obtain ⟨wr1, hwr1⟩ : ∃ w9, w9 = wr := ⟨_, rfl⟩
      subst hwr1
      obtain ⟨hxz, hBz⟩ := HXZ.out
      have hBwz : Below w.heap.size w wz := HX.out.2.2.2.2.1.trans (hBz.mono HX.out.2.2.2.2.1.size)
      have hlk : LackAt wz (if el = true then some ⟨wr1.heap.size, 4, none⟩ else none) (lkOf ⟨p2, p1, en, el, ⟨es, elo, ehi⟩⟩) := by
       cases el
       ·exact rfl
       ·exact ⟨wr1.heap.size, 4, rfl, (Array.getElem?_eq_some_iff.1 hxz).1, zC hxz 4, zC hxz 5, zC hxz 6⟩
      obtain ⟨lp, hlp⟩ : ∃ lp : Option Addr, lp = (if el = true then some ⟨wr1.heap.size, 4, none⟩ else none) := ⟨_, rfl⟩
      obtain ⟨lk, hlkk⟩ : ∃ lk, lk = lkOf ⟨p2, p1, en, el, ⟨es, elo, ehi⟩⟩ := ⟨_, rfl⟩
      rw [← hlp, ← hlkk] at hlk
      rw [← hlp]
      have hrz := HH.out.run.below hBwz
      have hA2 := hrz.at_ p2 hp2
      obtain ⟨aA, cA, eA, _, _⟩ := hA2.form
      have hR1 := hrz.cells.2.1 p2 hp2
      rw [eA] at hR1
      have hx0z : ∀ W, Below wz.heap.size wz W → W.cell? ⟨wr1.heap.size, 0, none⟩ = some (.int .i64 p2) ∧ W.cell? ⟨R, 1 + p2, none⟩ = some (.slice aA (A p2).length cA) := fun W hW => ⟨zB hW e0, zB hW hR1⟩
      have HX0 := zH hx0z
      have HZ := zH (zA hxz (zA hBz (zA hBwz (zA hlk (zA hlkk (zA hrz eA))))))
      have HLP := zH hlp
      have hA1000 : (A p2).length ≤ 1000 := by
       have h1 := kept_le (A := fun p => nums (A p)) 12 p2 hp2
       rw [HH.out.sum] at h1
       rw [nums_len] at h1
       have := HH.out.cntL
       omega
      have E157 := zH (enters_of Tryz.func157 (by kernel_rfl) rfl)
      have E141 := zH (enters_of Tryz.func141 (by kernel_rfl) rfl)
      have hRX : R ≠ w.heap.size + 1 := by omega
      clear hxz hBz hBwz hlk hlkk hrz hA2 eA hR1 hx0z hlp e0 e2 e3
      go_wp2_with fail
      refine zR 9 (S := fun W => W.cell? ⟨wr1.heap.size, 0, none⟩ = some (.int .i64 p2) ∧ W.cell? ⟨R, 1 + p2, none⟩ = some (.slice aA (A p2).length cA)) (by kernel_rfl) (by kernel_rfl) rfl (HX0.out _ ((Below.refl _ _).drew)) (fun hHeld => ?_)
      try simp only [List.reduceReplicate]
      repeat refine takeA [] (h := ?_)
      refine wpAnyH_done (by kernel_rfl) ?_ _
      clear hHeld
      go_wp2_with fail
      go_loopw [79] (fun j W => ∃ (k : Nat) (ns : Nat → Value) (C : Nat → List Row), j = .int .i64 k ∧ k ≤ (A p2).length ∧ NextAt W (w.heap.size + 1) W1.heap.size ns C ∧ (∀ p : Nat, p < 12 → nums (C p) = (firstC au l i p au.first ++ followC au l (fun p => nums (A p)) i p (au.follow.take m)) ++ if p = p1 then (((nums (A p2)).take k).filter fun x => linkP l en lk (lastI x) i).map (· ++ [(i : Int)]) else []) ∧ (∀ p, p < 12 → (C p).length ≤ 12 + m * 1000 + k) ∧ Fr (fun j => j = w.heap.size + 1) W1 W ∧ W.heap[wr1.heap.size]? = wz.heap[wr1.heap.size]? ∧ wz.heap.size ≤ W.heap.size) (fun j _ => (A p2).length - (intOf j).toNat)
      case atStart => exact ⟨0, ns, C, rfl, by omega, (HX.out.1.below HZ.out.2.1).below (Below.refl _ _).drew, fun p hp => by rw [HX.out.2.1 p hp]; split <;> simp, fun p hp => by have := HX.out.2.2.1 p hp; omega, zT HX.out.2.2.2.1 (zF (S := fun j => j = w.heap.size + 1) (HZ.out.2.1.trans ((Below.refl wz.heap.size wz).drew.mono HZ.out.2.1.size))) fun _ _ h => h, rfl, Nat.le_refl _⟩
      case round =>
       obtain ⟨k, ns2, C2, rfl, hk, hN, hC, hCl, hF, hE, hZs⟩ := hrel
       by_cases hlt2 : k < (A p2).length
       rotate_left
       ·obtain rfl : k = (A p2).length := by omega
        have HY := zH (zA hN (zA hC (zA hCl hF)))
        clear hN hC hCl hF hE hZs
        go_wp2
        go_roundw
        case rel =>
         obtain ⟨hN, hC, hCl, hF⟩ := HY.out
         refine ⟨m + 1, ns2, C2, by go_num, by omega, hN, fun p hp => ?_, fun p hp => by have := hCl p hp; omega, hF⟩
         rw [hC p hp, HSN.out p, List.append_assoc]
         congr 2
         have e : List.take (A p2).length (nums (A p2)) = nums (A p2) := List.take_of_length_le (by rw [nums_len]; exact Nat.le_refl _)
         rw [e]
         by_cases e2 : p = p1
         ·subst e2
          simp [onC, HZ.out.2.2.2.2.1]
         ·rw [if_neg e2, if_neg (by simp; omega)]
        case measure => simp [intOf]; omega
       have hx := List.getElem?_eq_getElem hlt2
       generalize (A p2)[k] = row at hx
       have hXl : w.heap.size + 1 < wz.heap.size := by have := HZ.out.2.1.size; omega
       have hBwr : Below w.heap.size w wr := H1.out.1.trans (zO hF (by omega) fun j hj => by have h : j = w.heap.size + 1 := hj; omega)
       have hrr := HH.out.run.below hBwr
       have hAr := hrr.at_ p2 hp2
       rw [HZ.out.2.2.2.2.2.2] at hAr
       have hni := HH.out.inc p2 hp2 row.2 (List.mem_map.2 ⟨row, List.mem_of_getElem? hx, rfl⟩)
       obtain ⟨rv, x⟩ := row
       obtain ⟨bA, oA, bx, ox, cx, rfl, ex, q1, ry⟩ := hAr.cell hx
       dsimp only at ex q1 hni
       subst ex
       obtain ⟨_, qx, lx, _⟩ := ry.ends
       have lx0 := hni.2.1 _ (lastI_mem hni.1)
       obtain ⟨na, hna⟩ : ∃ na : Nat, lastI x = (na : Int) := ⟨(lastI x).toNat, by omega⟩
       rw [hna] at qx
       obtain ⟨px, hpx⟩ : ∃ px, px = x.length - 1 := ⟨_, rfl⟩
       have hwx : IntKind.i64.wrap ((x.length : Int) - 1) = (px : Int) := by rw [Go.IntWalk.i64_in _ (by omega)]; omega
       rw [← hpx] at qx
       have n6 : (k : Int) < ((A p2).length : Int) := by omega
       have n7 : (px : Int) < (x.length : Int) := by omega
       have hxr := hE.trans HZ.out.1
       have hlkr : LackAt wr lp lk := lack_blk HZ.out.2.2.2.1 hZs (fun b o hb => by
        rw [HLP.out] at hb
        split at hb
        ·injection hb with hb
         injection hb with hb
         rw [← hb]; exact hE
        ·cases hb)
       obtain ⟨r2, hr2⟩ : ∃ r2, r2 = linkP l en lk na i := ⟨_, rfl⟩
       have hfo2 := fun W (hW : Below wr.heap.size wr W) => follows_any l (some ⟨bl, ol, none⟩) cl na i en lp lk W (HH.out.evs.below (hBwr.trans (hW.mono hBwr.size))) HH.out.hcl HH.out.hat HH.out.l60 (hlkr.below hW) hil
       rw [← hr2] at hfo2
       have hsn2 := filter_snoc (p := fun x => linkP l en lk (lastI x) i) (nums_get hx)
       dsimp only at hsn2
       rw [hna, ← hr2] at hsn2
       have hs18 : ∀ W, Below wr.heap.size wr W → W.cell? ⟨R, 0, none⟩ = some (.slice (some ⟨bl, ol, none⟩) l.length cl) ∧ W.cell? ⟨bx, ox + px, none⟩ = some (.int .i64 na) ∧ W.cell? ⟨wr1.heap.size, 2, none⟩ = some (.int .i64 en) := fun W hW => ⟨zB hW hrr.cells.1, zB hW qx, zB hW (zC hxr 2)⟩
       have HFO := zH hfo2
       have HS18 := zH hs18
       have HSN2 := zH hsn2
       have HY := zH (zA hN (zA hC (zA hCl (zA hF (zA hBwr (zA hxr (zA ry (zA hni (zA hna (zA hE hZs))))))))))
       have hxl := hni.2.2
       clear hN hC hCl hF hBwr hrr hAr hni hx ry lx qx lx0 hna hpx hxr hlkr hr2 hfo2 hsn2 hs18 hE hZs
       go_wp2_with fail
       refine zR 15 (S := fun W => W.cell? ⟨R, 0, none⟩ = some (.slice (some ⟨bl, ol, none⟩) l.length cl) ∧ W.cell? ⟨bx, ox + px, none⟩ = some (.int .i64 na) ∧ W.cell? ⟨wr1.heap.size, 2, none⟩ = some (.int .i64 en)) (by kernel_rfl) (by kernel_rfl) rfl (HS18.out _ ((Below.refl _ _).drew)) (fun hHeld => ?_)
       try simp only [List.reduceReplicate]
       repeat (first
        | refine takeA [] (h := ?_)
        | (refine callA [] (args := ?_) (R := ?_) (he := ?_) (hc := ?_) (hargs := ?_) (h := ?_)
           rotate_left 2
           (exact E157.out; exact HFO.out _ ((Below.refl _ _).drew); rfl; rintro e w5 ⟨rfl, hb5⟩; have hb5' : Below wr.heap.size wr w5 := (Below.refl _ _).drew.trans hb5; refine .inl ⟨_, rfl, HS18.out _ hb5', fun hHeld => ?_⟩; have HB5 := zH hb5'; clear hb5 hb5')
           refine normA (h := ?_)))
       refine wpAnyH_done (by kernel_rfl) ?_ _
       clear hHeld
       cases r2 with
       | false =>
        clear q1
        go_wp2
        go_roundw
        case rel =>
         obtain ⟨hN, hC, hCl, hF, _, hxr, _, _, _, hE, hZs⟩ := HY.out
         refine ⟨k + 1, ns2, C2, by go_num, by omega, hN.below HB5.out, fun p hp => ?_, fun p hp => by have := hCl p hp; omega, zT hF (zF (S := fun j => j = w.heap.size + 1) HB5.out) (fun _ _ h => h), (HB5.out.block _ (Array.getElem?_eq_some_iff.1 hxr).1).trans hE, Nat.le_trans hZs HB5.out.size⟩
         rw [hC p hp, HSN2.out]
         simp
        case measure => simp [intOf]; omega
       | true =>
        have hsw5 := HB5.out.size
        have hwzr : wr1.heap.size < wr.heap.size := (Array.getElem?_eq_some_iff.1 HY.out.2.2.2.2.2.1).1
        have hN5 := HY.out.1.below HB5.out
        have hXl5 := hN5.lt
        obtain ⟨aN, cN, eN, _, _⟩ := (hN5.at_ p1 hp1).form
        have hx5 := (HB5.out.block wr1.heap.size hwzr).trans HY.out.2.2.2.2.2.1
        have hcN := hN5.cells.1 p1 hp1
        rw [eN] at hcN
        have hs19 := fun (W : World) (h1 : W.heap[wr1.heap.size]? = w5.heap[wr1.heap.size]?) (h2 : W.heap[w.heap.size + 1]? = w5.heap[w.heap.size + 1]?) => zA ((World.cell?_of_block (a := ⟨wr1.heap.size, 1, none⟩) h1).trans (zC hx5 1)) ((World.cell?_of_block (a := ⟨w.heap.size + 1, p1, none⟩) h2).trans hcN)
        have HS19 := zH hs19
        have hk19 := fun (W : World) (hW : Below w5.heap.size w5 W) => HS19.out W (hW.block _ (by omega)) (hW.block _ hXl5)
        have HK19 := zH hk19
        have hal1 := fun o => ((Below.refl w5.heap.size w5).alloc (Nat.le_refl _) o).drew
        have hal2 := fun o o' => (((Below.refl w5.heap.size w5).alloc (Nat.le_refl _) o).alloc (by simp) o').drew
        have HAL1 := zH hal1
        have HAL2 := zH hal2
        have hCl5 := HY.out.2.2.1 p1 hp1
        have HN5 := zH (zA hN5 (zA eN hx5))
        clear hN5 eN hx5 hcN hs19 hk19 hal1 hal2 q1
        go_wp2_with fail
        refine wp_region_takesL 15 14 (S := fun W => W.cell? ⟨wr1.heap.size, 1, none⟩ = some (.int .i64 p1) ∧ W.cell? ⟨w.heap.size + 1, p1, none⟩ = some (.slice aN (C2 p1).length cN)) (by kernel_rfl) (by kernel_rfl) rfl (HS19.out _ rfl rfl) (fun hHeld => ?_)
        try simp only [List.reduceReplicate]
        repeat refine takeLA [8, 9, 10, 11, 12, 13, 14] (h := ?_)
        refine runLA [] (hS := by exact HK19.out _ (HAL1.out _)) (h := fun hHeld => ?_)
        refine runLA [] (hS := by exact HK19.out _ (HAL2.out _ _)) (h := fun hHeld => ?_)
        have hBd := HAL2.out (.cells #[.int .i64 i] 3) (.cells #[.slice (some ⟨bx, ox, none⟩) x.length cx, .slice (some ⟨w5.heap.size, 0, none⟩) 1 1] 31)
        have hb2d : (((w5.alloc (.cells #[.int .i64 i] 3)).alloc (.cells #[.slice (some ⟨bx, ox, none⟩) x.length cx, .slice (some ⟨w5.heap.size, 0, none⟩) 1 1] 31)).drew).heap[w5.heap.size + 1]? = some (.cells #[.slice (some ⟨bx, ox, none⟩) x.length cx, .slice (some ⟨w5.heap.size, 0, none⟩) 1 1] 31 (0, 0)) := by
         have := heap_alloc_new (w5.alloc (.cells #[.int .i64 i] 3)) (.cells #[.slice (some ⟨bx, ox, none⟩) x.length cx, .slice (some ⟨w5.heap.size, 0, none⟩) 1 1] 31)
         rw [World.size_alloc] at this
         exact this
        have hri : Rd intC 1 (((w5.alloc (.cells #[.int .i64 i] 3)).alloc (.cells #[.slice (some ⟨bx, ox, none⟩) x.length cx, .slice (some ⟨w5.heap.size, 0, none⟩) 1 1] 31)).drew) (.slice (some ⟨w5.heap.size, 0, none⟩) 1 1) [(i : Int)] := by
         have h1 := win_rd intC_len (win_box (enc := intC) (k := 1) (e := 3) w5 (i : Int) #[.int .i64 i] 0 (by omega) rfl rfl)
         exact h1.below ((Below.refl _ _).alloc (Nat.le_refl _) _).drew
        generalize hWd : World.drew (World.alloc (World.alloc w5 _) _) = Wd at hHeld hBd hb2d hri ⊢
        obtain ⟨zs, hzs⟩ : ∃ zs, zs = x ++ [(i : Int)] := ⟨_, rfl⟩
        have hcc := intsConcat_any (w5.heap.size + 1) _ _ x [(i : Int)] Wd ((HY.out.2.2.2.2.2.2.1.below (HB5.out.trans (hBd.mono hsw5))).2.1) hri (zC hb2d 0) (zC hb2d 1) (by omega) (by simp)
        rw [← hzs] at hcc
        have HCC := zH hcc
        have HZS := zH hzs
        have HBD := zH hBd
        have hsd := hBd.size
        have HWD := zH hWd
        clear hcc hzs hBd hb2d hri hWd
        refine callLA [] (args := ?_) (R := ?_) (he := ?_) (hc := ?_) (hargs := ?_) (h := ?_)
        rotate_left 2
        exact E141.out; exact HCC.out; rfl; rintro e w6 ⟨v6, rfl, hw6, hb6⟩; obtain ⟨a6, c6, rfl, _, _⟩ := zS hw6; have hb56 : Below w5.heap.size w5 w6 := HBD.out.trans (hb6.mono hsd); have H6 := zH (zA hw6 (zA hb56 hb6)); clear hw6 hb6 hb56; refine .inl ⟨_, rfl, HK19.out _ H6.out.2.1, fun hHeld => ?_⟩
        refine normLA (h := ?_)
        refine runLA [] (hS := by exact HK19.out _ (H6.out.2.1.trans (((Below.refl w6.heap.size w6).alloc (Nat.le_refl _) _).mono H6.out.2.1.size))) (h := fun hHeld => ?_)
        have hB7 := (Below.refl w6.heap.size w6).alloc (Nat.le_refl _) (.cells #[.slice a6 zs.length c6] 31)
        have hrd : RdC 1 (w6.alloc (.cells #[.slice a6 zs.length c6] 31)) (.slice (some ⟨w6.heap.size, 0, none⟩) 1 1) 1 [.slice a6 zs.length c6] := rdC_box w6 #[.slice a6 zs.length c6] 31 1 rfl (by simp [Value.oneCell'])
        generalize hW7 : World.alloc w6 _ = W7 at hHeld hB7 hrd ⊢
        have hs6 := H6.out.2.1.size
        have hs7 := hB7.size
        have hB57 : Below w5.heap.size w5 W7 := H6.out.2.1.trans (hB7.mono hs6)
        have hN7 := HN5.out.1.below hB57
        obtain ⟨i0, hi0, hz0⟩ := Option.map_eq_some_iff.1 info_row
        simp only [Prod.mk.injEq] at hz0
        have hap := run_append_rd (P := Tryz.prog) W7 44 44 31 i0 _ 1 24 Tryz.underlying44 hi0 hz0.1 hz0.2.1 hz0.2.2 rfl (by decide) _ _ (C2 p1).length _ (winC_block (hN7.at_ p1 hp1).1) _ 1 _ hrd (by unfold maxLen; omega) (by omega)
        rw [HN5.out.2.1] at hap
        have HAP := zH hap
        have HW7 := zH hW7
        have H7 := zH (zA hN7 (zA hB57 hB7))
        clear hap hN7 hB57 hB7 hrd hi0 hz0 hW7
        refine appendL [] (i := ?_) (oi := ?_) (s := ?_) (x := ?_) (t := ?_) (v := ?_) (xv := ?_) (R := ?_) ?_ ?_ ?_ ?_ ?_ ?_ ?_ ?_ ?_
        rotate_left 8
        ·simp only [nxt, List.contains_cons, List.contains_nil, Bool.or_false, Bool.or_self, Bool.true_or, cond_true, cond_false, Nat.zero_add, Nat.reduceAdd, Nat.reduceBEq, Bool.false_or]; rfl
        ·rfl
        ·kernel_rfl
        ·rfl
        ·rfl
        ·rfl
        ·rfl
        ·exact HAP.out
        rintro v8 w8 ⟨hwin8, hfr8, hsz8⟩
        obtain ⟨a8, c8, rfl, _, _⟩ := zS hwin8
        have hfr8' : Fr (fun j => some j = (ns2 p1).ownBlock) W7 w8 := by rw [HN5.out.2.1]; exact hfr8
        have hX8 : w8.heap[w.heap.size + 1]? = w5.heap[w.heap.size + 1]? := (hfr8'.block _ H7.out.1.lt (fun hj => H7.out.1.other (H7.out.1.at_ p1 hp1) _ hj rfl)).trans (H7.out.2.1.block _ hXl5)
        have hE8 : w8.heap[wr1.heap.size]? = w5.heap[wr1.heap.size]? := (hfr8'.block _ (by omega) (fun hj => win_not_at (H7.out.1.at_ p1 hp1).1 ((H7.out.2.1.block _ (by omega)).trans HN5.out.2.2) (by decide) _ hj rfl)).trans (H7.out.2.1.block _ (by omega))
        have f8 := (World.frozen?_of_block (a := ⟨w.heap.size + 1, p1, none⟩) hX8).trans (HN5.out.1.cells.2 p1)
        have H8 := zH (zA hwin8 hfr8')
        have HE8 := zH hE8
        have hH8 := HS19.out w8 hE8 hX8
        clear hwin8 hfr8 hfr8' hX8 hE8 hsz8
        refine ⟨hH8, fun hHeld => ?_⟩
        simp only [Act.put, List.getElem_toArray, List.getElem_cons_zero, List.getElem_cons_succ, List.setIfInBounds_toArray, List.set_cons_zero, List.set_cons_succ]
        try simp only [List.reduceReplicate]
        repeat refine takeLA [14] (h := ?_)
        refine lastA [] (h := ?_)
        refine wpAnyL_done (by kernel_rfl) ?_ _
        clear hHeld hH8 f8
        go_wp2
        go_roundw
        case rel =>
         obtain ⟨hN, hC, hCl, hF, hBwr, hxr, ry, hni, hna, hE, hZs⟩ := HY.out
         obtain ⟨hN7, hB57, hB7⟩ := H7.out
         have hF5 := zT hF (zF (S := fun j => j = w.heap.size + 1) HB5.out) fun _ _ h => h
         have hW17 : W1.heap.size ≤ W7.heap.size := by
          have h3 := hF5.size
          have h4 := hB57.size
          omega
         have hrow : RowAt w6 W1.heap.size (.slice a6 zs.length c6, zs) := RowAt.of_win (zN H6.out.1 fun j hj => by have h3 := hF5.size; omega) (by rw [HZS.out]; simp)
         have hrow7 := hrow.below hB7
         have hL7 := hN7.at_ p1 hp1
         have hp := LL.push (ps := [(.slice a6 zs.length c6, zs)]) hL7 (by intro p hp; rw [List.mem_singleton] at hp; subst hp; exact hrow7) hW17 (m := 1) rfl (zN H8.out.1 fun j hj => hj.imp (fun h => ⟨h.1.2.1, h.2⟩) id) H8.out.2
         have hput := hN7.put hp1 H8.out.2 hp.1 (fun j hj => by
          rcases (winC_ob H8.out.1 j hj).1 with h | h
          ·exact .inl (by rw [HN5.out.2.1]; exact h.1.1)
          ·exact .inr (Nat.le_of_eq h.symm))
         refine ⟨k + 1, _, _, by go_num, by omega, hput, fun p hp => ?_, fun p hp => ?_, ?_, ?_, ?_⟩
         ·rw [own_nums_upA, hC p hp, HSN2.out]
          by_cases e : p = p1
          ·subst e; simp [nums, HZS.out]
          ·rw [if_neg e, if_neg e, if_neg e, List.append_nil]
         ·unfold upA
          have := hCl p hp
          split
          ·rw [List.length_append]; simp; omega
          ·omega
         ·exact fr_low (T := fun j => j = w.heap.size + 1 ∨ W1.heap.size ≤ j) (zT (fr_mono hF5 fun j hj => .inl hj) (zT (zF hB57) (zT (fr_mono H8.out.2 fun j hj => .inr (hL7.ob j hj).1) (fr_mono (fr_setCell w8 ⟨w.heap.size + 1, p1, none⟩ _) fun j hj => .inl hj) fun _ _ h => h) fun _ _ h => h) fun _ _ h => h) fun j hj hT => by omega
         ·have hfs := fr_setCell w8 ⟨w.heap.size + 1, p1, none⟩ (.slice a8 ((C2 p1).length + 1) c8)
          exact (hfs.block wr1.heap.size (by have := (H8.out.2).size; omega) (fun h => by have h : wr1.heap.size = w.heap.size + 1 := h; omega)).trans (HE8.out.trans ((HB5.out.block _ hwzr).trans hE))
         ·have h1 := hF5.size
          have h2 := H8.out.2.size
          have h3 := hB57.size
          have h4 := HB5.out.size
          have h5 : (w8.setCell ⟨w.heap.size + 1, p1, none⟩ (.slice a8 ((C2 p1).length + 1) c8)).heap.size = w8.heap.size := by simp [World.setCell]
          omega
        case measure => simp [intOf]; omega
  case rest =>
   obtain ⟨ns, C, hN, hC, hCl, hF⟩ := hcut
   have hBw : Below w.heap.size w wc := H1.out.1.trans (zO hF (by omega) fun j hj => by have h : j = w.heap.size + 1 := hj; omega)
   have x0 : wc.cell? ⟨w.heap.size + 1, 0, none⟩ = some (ns 0) := hN.cells.1 0 (by omega)
   have x1 : wc.cell? ⟨w.heap.size + 1, 1, none⟩ = some (ns 1) := hN.cells.1 1 (by omega)
   have x2 : wc.cell? ⟨w.heap.size + 1, 2, none⟩ = some (ns 2) := hN.cells.1 2 (by omega)
   have x3 : wc.cell? ⟨w.heap.size + 1, 3, none⟩ = some (ns 3) := hN.cells.1 3 (by omega)
   have x4 : wc.cell? ⟨w.heap.size + 1, 4, none⟩ = some (ns 4) := hN.cells.1 4 (by omega)
   have x5 : wc.cell? ⟨w.heap.size + 1, 5, none⟩ = some (ns 5) := hN.cells.1 5 (by omega)
   have x6 : wc.cell? ⟨w.heap.size + 1, 6, none⟩ = some (ns 6) := hN.cells.1 6 (by omega)
   have x7 : wc.cell? ⟨w.heap.size + 1, 7, none⟩ = some (ns 7) := hN.cells.1 7 (by omega)
   have x8 : wc.cell? ⟨w.heap.size + 1, 8, none⟩ = some (ns 8) := hN.cells.1 8 (by omega)
   have x9 : wc.cell? ⟨w.heap.size + 1, 9, none⟩ = some (ns 9) := hN.cells.1 9 (by omega)
   have x10 : wc.cell? ⟨w.heap.size + 1, 10, none⟩ = some (ns 10) := hN.cells.1 10 (by omega)
   have x11 : wc.cell? ⟨w.heap.size + 1, 11, none⟩ = some (ns 11) := hN.cells.1 11 (by omega)
   obtain ⟨N, hNN⟩ : ∃ N : Nat → List (List Int), N = fun p : Nat => setO ordL (progC au l (fun p => nums (A p)) i p) := ⟨_, rfl⟩
   have HNN := zH hNN
   have hszc := hF.size
   have H5 := zH (zA hN (zA hC (zA hCl (zA hF hBw))))
   clear hN hC hCl hF hBw hNN
   go_wp2_with fail
   go_loopw [115] (fun j W => ∃ (k : Nat) (vs' : Nat → Value) (A' : Nat → List Row), j = .int .i64 k ∧ k ≤ 12 ∧ RunAt W R lo (.slice al l.length cl) vs' A' (cnt + sumA N k) ∧ cnt + sumA N k ≤ 1000 ∧ (∀ p, p < 12 → nums (A' p) = nums (A p) ++ if p < k then N p else []) ∧ (∀ q, k ≤ q → q < 12 → LL W W1.heap.size (ns q) (C q) ∧ ∀ p, p < 12 → ∀ j, some j = (ns q).ownBlock → some j ≠ (vs' p).ownBlock) ∧ (Fr (fun j => j = R ∨ ∃ p, p < 12 ∧ some j = (vs p).ownBlock) w W ∧ ∀ p, p < 12 → ∀ j, some j = (vs' p).ownBlock → some j = (vs p).ownBlock ∨ w.heap.size ≤ j) ∧ wc.heap.size ≤ W.heap.size) (fun j _ => 12 - (intOf j).toNat)
   case atStart => exact ⟨0, vs, A, rfl, by omega, HH.out.run.below H5.out.2.2.2.2, by have := HH.out.cntL; simp [sumA]; omega, fun p hp => by simp, fun q _ hq => ⟨H5.out.1.at_ q hq, fun p hp j hj hj2 => by
    have h1 := ((H5.out.1.at_ q hq).ob j hj).1
    have h2 := ((HH.out.run.at_ p hp).ob j hj2).2
    omega⟩, ⟨zF H5.out.2.2.2.2, fun p hp j hj => .inl hj⟩, Nat.le_refl _⟩
   case round =>
    obtain ⟨k, vs', A', rfl, hk, hRun, hle, hA', hQ, hB, hsw⟩ := hrel
    by_cases hlt : k < 12
    rotate_left
    ·obtain rfl : k = 12 := by omega
     have HX := zH (zA hRun (zA hle (zA hA' hB)))
     clear hRun hle hA' hQ hB
     go_wp2
     go_end0
     refine ⟨HX.out.2.2.2.1, .inl ⟨rfl, vs', A', ?_, ?_, fun p hp => ?_⟩⟩
     ·have := HX.out.1; rw [HNN.out] at this; exact this
     ·have := HX.out.2.1; rw [HNN.out] at this; exact this
     ·have := HX.out.2.2.1 p hp; rw [if_pos hp, HNN.out] at this; exact this
    have hkk := hQ k (Nat.le_refl _) hlt
    have hAk : (A' k).length ≤ 1000 := by
     have h0 := hA' k hlt
     rw [if_neg (by omega), List.append_nil] at h0
     have h1 := kept_le (A := fun p => nums (A p)) 12 k hlt
     rw [HH.out.sum] at h1
     have h2 := HH.out.cntL
     have h3 : (A' k).length = (nums (A k)).length := by rw [← h0, nums_len]
     omega
    have hW1 : lo ≤ W1.heap.size := by have := HH.out.hlo; omega
    have hcall := begin_any R lo k (cnt + sumA N k) (.slice al l.length cl) (ns k) vs' A' (C k) wr hRun (hkk.1.mono hW1) hlt (Nat.le_trans hW1 (by omega)) (by have := H5.out.2.2.1 k hlt; omega) hAk hle (fun q hq j hj => hkk.2 q hq j hj)
    have hnk : setO ordL (nums (C k)) = N k := by rw [H5.out.2.1 k hlt, HNN.out]
    rw [hnk] at hcall
    have HCALL := zH hcall
    have HX := zH (zA hRun (zA hle (zA hA' (zA hQ (zA hB (zA hkk hW1))))))
    have hidx := fun W => index12 ns k hlt W
    clear hRun hle hA' hQ hB hkk hAk hcall
    have HNK := zH hnk
    clear hnk
    go_wp2_with fail
    refine HCALL.out.mono ?_
    clear hidx
    rintro e w7 ⟨v4, gs', hn, hsub, hR7, hF7, how, hres⟩
    have hgl : gs'.length = (N k).length := by rw [← hn, nums_len]
    have hsk : sumA N (k + 1) = sumA N k + (N k).length := rfl
    obtain ⟨hRun, hle, hA', hQ, hB, hkk, hW1⟩ := HX.out
    have hB7 : Fr (fun j => j = R ∨ ∃ p, p < 12 ∧ some j = (vs p).ownBlock) w w7 := zT hB.1 hF7 fun j hj hS => by
     have hw1 := H1.out.1.size
     rcases hS with rfl | hS | hS
     ·exact .inl rfl
     ·have := (hkk.1.ob j hS).1; omega
     ·rcases hB.2 k hlt j hS with h | h
      ·exact .inr ⟨k, hlt, h⟩
      ·omega
    have hO7 : ∀ p, p < 12 → ∀ j, some j = (upV vs' k v4 p).ownBlock → some j = (vs p).ownBlock ∨ w.heap.size ≤ j := fun p hp j hj => by
     have hw1 := hB.1.size
     unfold upV at hj
     split at hj
     ·rename_i e
      subst e
      rcases how j hj with h | h
      ·exact hB.2 p hp j h
      ·exact .inr (by omega)
     ·exact hB.2 p hp j hj
    rcases hres with ⟨rfl, hle7⟩ | ⟨rfl, hgt7⟩
    ·have HY := zH (zA hn (zA hR7 (zA hF7 (zA how (zA hle7 (zA hgl (zA hsk (zA hB7 hO7))))))))
     clear hn hsub hR7 hF7 how hle7 hgl hsk hB7 hO7 hRun hle hA' hQ hB hkk hW1
     go_wp2
     go_roundw
     case rel =>
      obtain ⟨hn, hR7, hF7, how, hle7, hgl, hsk, hB7, hO7⟩ := HY.out
      obtain ⟨hRun, hle, hA', hQ, hB, hkk, hW1⟩ := HX.out
      refine ⟨k + 1, upV vs' k v4, upA A' k gs', by go_num, by omega, ?_, by omega, fun p hp => ?_, fun q hq hq2 => ?_, ⟨hB7, hO7⟩, Nat.le_trans hsw hF7.size⟩
      ·have e : cnt + sumA N (k + 1) = cnt + sumA N k + gs'.length := by omega
       rw [e]; exact hR7
      ·rw [own_nums_upA, hA' p hp, List.append_assoc]
       congr 1
       by_cases e : p = k
       ·subst e
        rw [if_neg (by omega), if_pos rfl, if_pos (by omega), List.nil_append, hn]
       ·rw [if_neg e, List.append_nil]
        by_cases e2 : p < k
        ·rw [if_pos e2, if_pos (by omega)]
        ·rw [if_neg e2, if_neg (by omega)]
      ·obtain ⟨hLq, hap⟩ := hQ q (by omega) hq2
       refine ⟨hLq.fr hF7 (fun j hj hS => ?_) (fun j hS => ?_), fun p hp j hj hj2 => ?_⟩
       ·rcases hS with hS | hS | hS
        ·exact hRun.other hLq j hj hS
        ·exact H5.out.1.apart q k hq2 hlt (by omega) j hj hS
        ·exact hap k hlt j hj hS
       ·rcases hS with rfl | hS | hS
        ·exact hRun.type
        ·exact hkk.1.type j hS
        ·exact (hRun.at_ k hlt).type j hS
       ·unfold upV at hj2
        split at hj2
        ·rcases how j hj2 with h | h
         ·exact hap k hlt j hj h
         ·have := (hLq.ob j hj).2; omega
        ·exact hap p hp j hj hj2
     case measure => simp [intOf]; omega
    ·have hmo := sumA_mono N (show k + 1 ≤ 12 by omega)
     refine ⟨rfl, hB7, .inr ⟨rfl, ?_⟩⟩
     rw [HNN.out] at hmo hsk hgt7
     rw [HNN.out] at hgl
     omega
end
end Go.Proofs.YtgiploddoffmjaaGreat
