/- My texts, joined: N22, W69, W52. -/
import Derived.Below
import Derived.BigQuiet
import Derived.Deep.AppendLies
import Derived.Deep.CutBlock
import Derived.Deep.DeepCutAuto
import Derived.Deep.LoopGhost
import Derived.Deep.QuietTactic
import Derived.Deep.RegionHeld
import Derived.Deep.RegionHeld3
import Derived.Deep.RegionLaw
import Derived.Defers
import Derived.Ground.Names2Prog
import Derived.Ground.Names8Prog
import Derived.Ground.SlsfProg
import Derived.Handy
import Derived.KernelRfl
import Derived.Laws.AppendOwn
import Derived.Laws.AppendOwnNone
import Derived.Laws.CopyRow
import Derived.Laws.Pointers
import Derived.Laws.StructEq
import Derived.Lib.Hide
import Derived.Lib.Overlaps
import Derived.LoopIn
import Derived.LoopN
import Derived.LoopNIn
import Derived.LoopTactic
import Derived.MapKept
import Derived.Maps.AppendAt
import Derived.Maps.OwnOps
import Derived.Maps.RangeRun
import Derived.Maps.RangeWalk
import Derived.Outline
import Derived.OwnWalk
import Derived.OwnWalkIn
import Derived.RangeFuncBound
import Derived.RangeFuncCalls
import Derived.RangeFuncLeaves
import Derived.RangeFuncNested
import Derived.Recover
import Derived.Shelf.Abstract
import Derived.Shelf.RegionOpen
import Derived.Shelf.SlGeneric
import Derived.Shelf.SlLaysF0
import Derived.Shelf.SlSortCmp.HeapSort1
import Derived.Shelf.SlSortCmp.Insertion
import Derived.Shelf.SlSortCmp.Insertion1
import Derived.Shelf.SlSortCmp.Median1
import Derived.Shelf.SlSortCmp.NoneTotal
import Derived.Shelf.SlSortCmp.PartialInsertion1
import Derived.Shelf.SlSortCmp.Partition1
import Derived.Shelf.SlSortCmp.PartitionEqual1
import Derived.Shelf.SlSortCmp.Pdq1
import Derived.Shelf.SlSortCmp.Pivot1
import Derived.Shelf.SlSortCmp.ReverseRange1
import Derived.Shelf.SlSortCmp.SiftDown1
import Derived.Shelf.SlSortCmp.Whole1
import Derived.Shelf.SlSortCmp.WholeK
import Derived.Shelf.Slices.In.SortNone
import Derived.Shelf.Small.Bits
import Derived.Shelf.Sort.Plain
import Derived.Shelf.Spec.SlicesGrow
import Derived.TacticsInMore
import Derived.Test.YtgiploddoffmjaaGreatProg
import Derived.WalkKit
import Derived.WalkLawsBesides
import Derived.WalkSpells
import Derived.Test.YtgiploddoffmjaaGreatM0
import Derived.Test.YtgiploddoffmjaaGreatM1
import Derived.Test.YtgiploddoffmjaaGreatM2
import Derived.Test.YtgiploddoffmjaaGreatM3
import Derived.Test.YtgiploddoffmjaaGreatM4
import Derived.Test.YtgiploddoffmjaaGreatM5
import Derived.Test.YtgiploddoffmjaaGreatM6
import Derived.Test.YtgiploddoffmjaaGreatM8
import Derived.Test.YtgiploddoffmjaaGreatM9
import Derived.Test.YtgiploddoffmjaaGreatM10
import Derived.Test.YtgiploddoffmjaaGreatM11
import Derived.Test.YtgiploddoffmjaaGreatM12
import Derived.Test.YtgiploddoffmjaaGreatM13
import Derived.Test.YtgiploddoffmjaaGreatM18
import Derived.Test.YtgiploddoffmjaaGreatM19
import Derived.Test.YtgiploddoffmjaaGreatM20
import Derived.Test.YtgiploddoffmjaaGreatM21
import Derived.Test.YtgiploddoffmjaaGreatM22
import Derived.Test.YtgiploddoffmjaaGreatM23
set_option linter.unusedVariables false
set_option linter.unusedSimpArgs false
set_option linter.unusedSectionVars false
set_option maxRecDepth 10000
namespace Go.Proofs.YtgiploddoffmjaaGreat
section
theorem progC_congr {a : Auto} {l : List Ev} {An Bn : Nat → List (List Int)} {i p : Int} (h : ∀ q, q < 12 → An q = Bn q) (hf : ∀ e ∈ a.follow, 0 ≤ e.from_ ∧ e.from_ < 12) : progC a l An i p = progC a l Bn i p := by
 unfold progC followC
 congr 1
 have key : ∀ es : List Edge, (∀ e ∈ es, e ∈ a.follow) → (es.flatMap fun e => if e.to_ = p ∧ holdsP (testAt a e.to_) (evAt l i) = true then onC l An i e else []) = es.flatMap fun e => if e.to_ = p ∧ holdsP (testAt a e.to_) (evAt l i) = true then onC l Bn i e else [] := by
  intro es
  induction es with
  | nil => intro _; rfl
  | cons e es ih =>
   intro hs
   rw [List.flatMap_cons, List.flatMap_cons, ih fun x hx => hs x (List.mem_cons_of_mem _ hx)]
   have he := hf e (hs e List.mem_cons_self)
   have : onC l An i e = onC l Bn i e := by unfold onC; rw [h e.from_.toNat (by omega)]
   rw [this]
 exact key a.follow fun e he => he
theorem sumA_congr {A B : Nat → List (List Int)} : ∀ k, (∀ p, p < k → A p = B p) → sumA A k = sumA B k
 | 0, _ => rfl
 | k + 1, h => by rw [sumA, sumA, sumA_congr k fun p hp => h p (by omega), h k (by omega)]
theorem step_count {a : Auto} {l : List Ev} {An : Nat → List (List Int)} {own : List Beg} {i : Int} (h : KeptI An own i) (hi : 0 ≤ i) (hp : ∀ f ∈ a.first, 0 ≤ f ∧ f < 12) (hf : ∀ e ∈ a.follow, 0 ≤ e.from_ ∧ 0 ≤ e.to_ ∧ e.to_ < 12) :
 own.length + sumA (fun p => setO ordL (progC a l An i p)) 12 = (own ++ dedupB (candB a l own i)).length := by
 have h1 := kept_count h.kept
 have h2 := kept_count (keptI_step (a := a) (l := l) h hi hp hf).kept
 rw [sumA_app] at h2
 omega
theorem runFrom_add (a : Auto) (l : List Ev) : ∀ (m k : Nat) (i : Int) (own : List Beg), runFrom a l (m + k) i own = (runFrom a l m i own).bind fun o => runFrom a l k (i + m) o
 | 0, k, i, own => by simp [runFrom]
 | m + 1, k, i, own => by
  rw [Nat.add_right_comm, runFrom, runFrom]
  cases stepB a l own i with
  | none => rfl
  | some o => simp only []; rw [runFrom_add a l m k (i + 1) o]; congr; funext o'; congr 1; omega
theorem runFrom_one (a : Auto) (l : List Ev) (m : Nat) (own : List Beg) (h : runFrom a l m 0 [] = some own) : runFrom a l (m + 1) 0 [] = stepB a l own m := by
 rw [runFrom_add, h]
 simp only [Option.bind_some, runFrom, Int.zero_add]
 cases stepB a l own m <;> rfl
theorem runFrom_none (a : Auto) (l : List Ev) {m n : Nat} (hmn : m ≤ n) (h : runFrom a l m 0 [] = none) : runFrom a l n 0 [] = none := by
 obtain ⟨k, rfl⟩ : ∃ k, n = m + k := ⟨n - m, by omega⟩
 rw [runFrom_add, h]; rfl
theorem inc_60 {x : List Int} {i : Int} (h : x.Pairwise (· < ·)) (hr : ∀ j ∈ x, 0 ≤ j ∧ j < i) (hi : 0 ≤ i) (h60 : i ≤ 60) : x.length ≤ 60 := by
 have := inc_len x 0 i h hr hi
 omega
end
section
open Go.RowKit Go.Shelf
structure RunH (R Lb Rv Ab n : Nat) (al : Option Addr) (cl : Nat) (l : List Ev) (v1 v2 v3 v4 : Value) (au : Auto) (w : World) : Prop where
 bl : w.heap[Lb]? = some (.cells #[.slice al l.length cl] 41 (0, 0))
 br : w.heap[Rv]? = some (.cells #[.pointer (some ⟨R, 0, none⟩)] 135 (0, 0))
 ba : w.heap[Ab]? = some (.cells #[v1, v2, v3, v4] 34 (0, 0))
 run : RunAt w R w.heap.size (.slice al l.length cl) (fun _ => .slice none 0 0) (fun _ => []) 0
 keep : ∀ W, Fr (fun j => j = R) w W → AutoAt W v1 v2 v3 v4 au ∧ Rd Ev.cells 5 W (.slice al l.length cl) l
 hcl : l.length ≤ cl
 hat : ∀ e ∈ l, 0 ≤ e.at_ ∧ e.at_ ≤ 200
 l60 : l.length ≤ 60
 nl : Lb ≠ R
 nr : Rv ≠ R
 na : Ab ≠ R
 tests : au.tests.length = n
 n12 : n ≤ 12
 first : ∀ f ∈ au.first, 0 ≤ f ∧ f < n
 follow : ∀ e ∈ au.follow, (0 ≤ e.from_ ∧ e.from_ < n) ∧ 0 ≤ e.to_ ∧ e.to_ < n
 firstL : au.first.length ≤ 12
 followL : au.follow.length ≤ 200000
def RunD (R : Nat) (fv : Value) (l : List Ev) (au : Auto) (w : World) (b : Bool) (w' : World) : Prop :=
 Fr (fun j => j = R) w w' ∧ if b then ∃ vs A An own, runFrom au l l.length 0 [] = some own ∧ RunAt w' R w.heap.size fv vs A own.length ∧ KeptI An own l.length ∧ (∀ p, p < 12 → nums (A p) = An p) ∧ own.length ≤ 1000 else runFrom au l l.length 0 [] = none
set_option maxHeartbeats 16000000 in
theorem run1_any (R Lb Rv Ab n : Nat) (al : Option Addr) (cl : Nat) (l : List Ev) (v1 v2 v3 v4 : Value) (au : Auto) (w : World) (h : RunH R Lb Rv Ab n al cl l v1 v2 v3 v4 au w) :
 Calls Tryz.prog 92 #[.pointer (some ⟨Lb, 0, none⟩), .pointer (some ⟨Rv, 0, none⟩), .pointer (some ⟨Ab, 0, none⟩)] w fun e w' => (e = .returned (.tuple #[]) ∧ RunD R (.slice al l.length cl) l au w true w') ∨ (e = .panicked tooMany ∧ RunD R (.slice al l.length cl) l au w false w') := by
 have c0 : w.cell? ⟨Lb, 0, none⟩ = some (.slice al l.length cl) := zC h.bl 0
 have hf12 : ∀ e ∈ au.follow, 0 ≤ e.from_ ∧ 0 ≤ e.to_ ∧ e.to_ < 12 := fun e he => by have := h.follow e he; have := h.n12; omega
 have hp12 : ∀ f ∈ au.first, 0 ≤ f ∧ f < 12 := fun f hf => by have := h.first f hf; have := h.n12; omega
 have h60 := h.l60
 have HH := zH h
 have HF := zH (zA hf12 hp12)
 clear h hf12 hp12
 go_enter Tryz.func92, Tryz.ntmps92
 go_wp2_with fail
 clear c0
 go_loopw [6] (fun j W => ∃ (m : Nat) (vs : Nat → Value) (A : Nat → List Row) (An : Nat → List (List Int)) (own : List Beg), j = .int .i64 m ∧ m ≤ l.length ∧ runFrom au l m 0 [] = some own ∧ RunAt W R w.heap.size (.slice al l.length cl) vs A own.length ∧ own.length ≤ 1000 ∧ KeptI An own m ∧ (∀ p, p < 12 → nums (A p) = An p) ∧ Fr (fun j => j = R) w W) (fun j _ => l.length - (intOf j).toNat)
 case atStart => exact ⟨0, _, _, fun _ => [], [], rfl, by omega, rfl, HH.out.run, by simp, keptI_zero, fun p hp => rfl, fr_refl _ _⟩
 case round =>
  obtain ⟨m, vs, A, An, own, rfl, hm, hrf, hR, hle, hK, hA, hF⟩ := hrel
  by_cases hlt : m < l.length
  rotate_left
  ·obtain rfl : m = l.length := by omega
   have HX := zH (zA hrf (zA hR (zA hK (zA hA (zA hF hle)))))
   clear hrf hR hK hA hF
   go_wp2
   go_end0
   exact .inl ⟨rfl, HX.out.2.2.2.2.1, by rw [if_pos rfl]; exact ⟨vs, A, An, own, HX.out.1, HX.out.2.1, HX.out.2.2.1, HX.out.2.2.2.1, HX.out.2.2.2.2.2⟩⟩
  have hkeep := HH.out.keep wr hF
  have hl : ∀ {i o}, w.heap[i]? = some o → i < w.heap.size := fun h => (Array.getElem?_eq_some_iff.1 h).1
  have hbl := (hF.block _ (hl HH.out.bl) HH.out.nl).trans HH.out.bl
  have hbr := (hF.block _ (hl HH.out.br) HH.out.nr).trans HH.out.br
  have hba := (hF.block _ (hl HH.out.ba) HH.out.na).trans HH.out.ba
  have r0 : wr.cell? ⟨Rv, 0, none⟩ = some (.pointer (some ⟨R, 0, none⟩)) := zC hbr 0
  have a0 : wr.cell? ⟨Ab, 0, none⟩ = some v1 := zC hba 0
  have a1 : wr.cell? ⟨Ab, 1, none⟩ = some v2 := zC hba 1
  have a2 : wr.cell? ⟨Ab, 2, none⟩ = some v3 := zC hba 2
  have a3 : wr.cell? ⟨Ab, 3, none⟩ = some v4 := zC hba 3
  have hsum : sumA (fun p => nums (A p)) 12 = own.length := by rw [sumA_congr 12 hA]; exact kept_count hK.kept
  have ht := take_any R w.heap.size own.length m n al cl l vs A v1 v2 v3 v4 au wr ⟨hR, hkeep.1, hkeep.2, HH.out.hcl, HH.out.hat, h60, hlt, hF.size, hle, hsum, HH.out.tests, HH.out.n12, HH.out.first, HH.out.follow, HH.out.firstL, HH.out.followL, fun p hp x hx => by
   rw [hA p hp] at hx
   obtain ⟨h1, h2, h3⟩ := hK.inc _ ((hK.kept.mem p x).1 hx)
   exact ⟨h1, fun j hj => (h3 j hj).1, inc_60 h2 h3 (by omega) (by omega)⟩⟩
  have hpc : ∀ p : Nat, progC au l (fun p => nums (A p)) m p = progC au l An m p := fun p => progC_congr hA fun e he => by have h1 := HH.out.follow e he; have h2 := HH.out.n12; omega
  have hN : (fun p : Nat => setO ordL (progC au l (fun p => nums (A p)) m p)) = fun p : Nat => setO ordL (progC au l An m p) := funext fun p => by rw [hpc p]
  rw [hN] at ht
  have hct := step_count (a := au) (l := l) hK (by omega) HF.out.2 HF.out.1
  have hks := keptI_step (a := au) (l := l) hK (by omega) HF.out.2 HF.out.1
  have hst : runFrom au l (m + 1) 0 [] = stepB au l own m := runFrom_one au l m own hrf
  have hown : ∀ p, p < 12 → ∀ j, some j = (vs p).ownBlock → w.heap.size ≤ j := fun p hp j hj => ((hR.at_ p hp).ob j hj).1
  rw [hct] at ht
  have HT := zH ht
  have n1 : (m : Int) < (l.length : Int) := by omega
  have HX := zH (zA hks (zA hst (zA hA (zA hF (zA hown (zA hct hN))))))
  clear hkeep hbl hbr hba hsum ht hpc hN hct hks hst hown hrf hR hK hA hF hle
  go_wp2_with fail
  refine HT.out.mono ?_
  clear r0 a0 a1 a2 a3
  rintro e w2 ⟨hF2, hres⟩
  have hF3 : Fr (fun j => j = R) w w2 := zT HX.out.2.2.2.1 hF2 fun j hj hT => by
   rcases hT with hT | ⟨p, hp, hT⟩
   ·exact hT
   ·have := HX.out.2.2.2.2.1 p hp j hT; omega
  rcases hres with ⟨rfl, vs2, A2, hR2, hle2, hA2⟩ | ⟨rfl, hgt⟩
  ·have HY := zH (zA hF3 (zA hR2 (zA hle2 hA2)))
   clear hF3 hF2 hR2 hle2 hA2
   go_wp2
   go_roundw
   case rel =>
    obtain ⟨hks, hst, hA, hF, hown, hct, hN⟩ := HX.out
    obtain ⟨hF3, hR2, hle2, hA2⟩ := HY.out
    refine ⟨m + 1, vs2, A2, fun p => An p ++ setO ordL (progC au l An m p), own ++ dedupB (candB au l own m), by go_num, by omega, ?_, hR2, hle2, ?_, fun p hp => ?_, hF3⟩
    ·rw [hst]
     unfold stepB
     rw [List.length_append] at hle2
     simp only []
     rw [if_pos hle2]
    ·rw [show ((m + 1 : Nat) : Int) = (m : Int) + 1 by omega]; exact hks
    ·rw [hA2 p hp, hA p hp, congrFun hN p]
   case measure => simp [intOf]; omega
  ·refine ⟨rfl, .inr ⟨rfl, hF3, ?_⟩⟩
   rw [if_neg (by decide)]
   refine runFrom_none au l (show m + 1 ≤ l.length by omega) ?_
   rw [HX.out.2.1]
   unfold stepB
   rw [List.length_append] at hgt
   simp only []
   rw [if_neg (by omega)]
end
section
open Go.RowKit Go.Shelf
def testA (t : Test) : Array Value := #[.int .i64 t.src, .int .i64 t.low, .int .i64 t.high]
set_option maxHeartbeats 1000000 in
theorem tests_idx (G : FuncId) (caps : Array Value) (p : Test → Bool) (v : Value) (xs : List Test) (w : World) (hr : Rd Test.cells 3 w v xs) (he : ∀ args w, (callFunc G args).run Tryz.prog w = .ok (.enter G args) w)
 (hp : ∀ W x, x ∈ xs → Below w.heap.size w W → Calls Tryz.prog G (#[.agg (testA x)] ++ caps) W fun e w' => e = .returned (.bool (p x)) ∧ Below W.heap.size W w') :
 Calls Tryz.prog 114 #[v, .func (.func G) #[] caps] w fun e w' => e = .returned (.int .i64 (idxFrom p xs 0)) ∧ Below w.heap.size w w' := by
 obtain ⟨a, c, rfl⟩ : ∃ a c, v = .slice a xs.length c := by obtain ⟨_, a, c, rfl, _⟩ := hr; exact ⟨a, c, rfl⟩
 have hl63 := hr.1
 have HR := zH hr
 have HP := zH hp
 have HB := zH (Below.refl w.heap.size w)
 clear hr hp
 go_enter Tryz.func114, Tryz.ntmps114
 go_wp2
 go_loopw [8] (fun i W => ∃ (n : Nat), i = .int .i64 n ∧ n ≤ xs.length ∧ idxFrom p (xs.drop n) n = idxFrom p xs 0 ∧ Below w.heap.size w W) (fun i _ => xs.length - (intOf i).toNat)
 case atStart => exact ⟨0, rfl, by omega, rfl, HB.out⟩
 case round =>
  obtain ⟨n, rfl, hnl, hi, hB⟩ := hrel
  by_cases hlt : n < xs.length
  ·have hx := List.getElem?_eq_getElem hlt
   have hmem : xs[n] ∈ xs := List.getElem_mem hlt
   generalize xs[n] = x at hx hmem
   obtain ⟨ts, tl, th⟩ := x
   obtain ⟨b, off, rfl, hbl, hc⟩ := rd_at (HR.out.below hB) hx
   have q0 : wr.cell? ⟨b, off + n * 3, none⟩ = some (.int .i64 ts) := hc 0 _ rfl
   have q1 : wr.cell? ⟨b, off + n * 3 + 1, none⟩ = some (.int .i64 tl) := hc 1 _ rfl
   have q2 : wr.cell? ⟨b, off + n * 3 + 2, none⟩ = some (.int .i64 th) := hc 2 _ rfl
   have hd := idxFrom_drop (p := p) hx
   rw [hi] at hd
   have hcl := HP.out wr ⟨ts, tl, th⟩ hmem hB
   simp only [testA] at hcl
   have HX := zH (zA hd (zA hB hcl))
   clear hd hB hi hc hx hmem hcl
   cases hpx : p ⟨ts, tl, th⟩ with
   | true =>
    have HPX := zH hpx
    clear hpx
    go_wp2_with (refine (HX.out.2.2).mono ?_; rintro e w2 ⟨rfl, hb2⟩; rw [HPX.out])
    go_ret
    exact ⟨ret_int (by rw [HX.out.1, if_pos HPX.out]), HX.out.2.1.trans (hb2.mono HX.out.2.1.size)⟩
   | false =>
    have HPX := zH hpx
    clear hpx
    go_wp2_with (refine (HX.out.2.2).mono ?_; rintro e w2 ⟨rfl, hb2⟩; rw [HPX.out])
    go_roundw
    case rel => exact ⟨n + 1, by go_num, by omega, by rw [HX.out.1, HPX.out]; rfl, HX.out.2.1.trans (hb2.mono HX.out.2.1.size)⟩
    case measure => simp [intOf]; omega
  ·obtain rfl : n = xs.length := by omega
   have HX := zH (zA hi hB)
   clear hi hB
   go_wp2
   go_ret
   exact ⟨ret_int (by rw [← HX.out.1, List.drop_length]; rfl), HX.out.2⟩
theorem tests_has (G : FuncId) (caps : Array Value) (q : Test → Bool) (v : Value) (xs : List Test) (w : World) (hr : Rd Test.cells 3 w v xs) (he : ∀ args w, (callFunc G args).run Tryz.prog w = .ok (.enter G args) w)
 (hp : ∀ W x, x ∈ xs → Below w.heap.size w W → Calls Tryz.prog G (#[.agg (testA x)] ++ caps) W fun e w' => e = .returned (.bool (q x)) ∧ Below W.heap.size W w') :
 Calls Tryz.prog 46 #[v, .func (.func G) #[] caps] w fun e w' => e = .returned (.bool (xs.any q)) ∧ Below w.heap.size w w' := by
 have HI := zH (tests_idx G caps q v xs w hr he hp)
 have ha := idxFrom_any q xs 0
 have HA := zH ha
 clear ha hr hp he
 generalize idxFrom q xs 0 = r at *
 go_enter Tryz.func46, Tryz.ntmps46
 go_wp2_with (go_at_call 114; refine HI.out.mono ?_; rintro e w2 ⟨rfl, hb2⟩)
 go_ret
 exact ⟨ret_bool HA.out, hb2⟩
theorem noTest_any (t : Test) (srcs : Int) (hs : 1 ≤ srcs ∧ srcs ≤ 4) (p : Addr) (w : World) (hc : w.cell? p = some (.int .i64 srcs)) : Calls Tryz.prog 150 #[.agg (testA t), .pointer (some p)] w fun e w' => e = .returned (.bool (!isTestP t srcs)) ∧ Below w.heap.size w w' := by
 obtain ⟨ts, tl, th⟩ := t
 have hc' : ∀ o, (w.alloc o).cell? p = some (.int .i64 srcs) := fun o => zB ((Below.refl w.heap.size w).alloc (Nat.le_refl _) o) hc
 have HT := zH (fun W => isTest_any ⟨ts, tl, th⟩ srcs hs W)
 clear hs
 simp only [testA]
 go_enter Tryz.func150, Tryz.ntmps150
 go_wp2_with (go_at_call 151; refine (HT.out _).mono ?_; rintro e w9 ⟨rfl, hb9⟩)
 go_ret
 exact ⟨rfl, ((Below.refl w.heap.size w).alloc (Nat.le_refl _) _).trans (hb9.mono (by simp))⟩
theorem tests_good (v : Value) (xs : List Test) (srcs : Int) (hs : 1 ≤ srcs ∧ srcs ≤ 4) (p : Addr) (w : World) (hr : Rd Test.cells 3 w v xs) (hc : w.cell? p = some (.int .i64 srcs)) :
 Calls Tryz.prog 46 #[v, .func (.func 150) #[] #[.pointer (some p)]] w fun e w' => e = .returned (.bool (xs.any fun t => !isTestP t srcs)) ∧ Below w.heap.size w w' :=
 tests_has _ _ _ v xs w hr (enters_of Tryz.func150 (by kernel_rfl) rfl) fun W x _ hW => noTest_any x srcs hs p W (zB hW hc)
end
end Go.Proofs.YtgiploddoffmjaaGreat
