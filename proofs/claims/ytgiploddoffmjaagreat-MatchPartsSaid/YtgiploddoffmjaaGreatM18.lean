/- My texts, joined: W83, W37, N25, W84, W73, Base15, N20, W66, N21. -/
import Derived.Below
import Derived.BigQuiet
import Derived.ChangeKeysEq
import Derived.Deep.AppendLies
import Derived.Deep.DeepCutAuto
import Derived.Deep.LoopGhost
import Derived.Deep.QuietTactic
import Derived.Deep.RegionHeld
import Derived.Deep.RegionHeld3
import Derived.Deep.RegionLaw
import Derived.Defers
import Derived.Ground.Names2Prog
import Derived.Ground.Names8Prog
import Derived.Ground.SlsfProg
import Derived.Handy
import Derived.KernelRfl
import Derived.Laws.AppendOwn
import Derived.Laws.AppendOwnNone
import Derived.Laws.CopyRow
import Derived.Laws.Pointers
import Derived.Laws.StructEq
import Derived.Lib.Hide
import Derived.Lib.Overlaps
import Derived.LoopIn
import Derived.LoopN
import Derived.LoopNIn
import Derived.LoopTactic
import Derived.MapKept
import Derived.Maps.AppendAt
import Derived.Maps.OwnOps
import Derived.Maps.RangeRun
import Derived.Maps.RangeWalk
import Derived.Outline
import Derived.OwnWalk
import Derived.OwnWalkIn
import Derived.RangeFuncBound
import Derived.RangeFuncCalls
import Derived.RangeFuncLeaves
import Derived.RangeFuncNested
import Derived.Recover
import Derived.Shelf.Abstract
import Derived.Shelf.RegionOpen
import Derived.Shelf.SlGeneric
import Derived.Shelf.SlLaysF0
import Derived.Shelf.SlSortCmp.HeapSort1
import Derived.Shelf.SlSortCmp.Insertion
import Derived.Shelf.SlSortCmp.Insertion1
import Derived.Shelf.SlSortCmp.Median1
import Derived.Shelf.SlSortCmp.NoneTotal
import Derived.Shelf.SlSortCmp.PartialInsertion1
import Derived.Shelf.SlSortCmp.Partition1
import Derived.Shelf.SlSortCmp.PartitionEqual1
import Derived.Shelf.SlSortCmp.Pdq1
import Derived.Shelf.SlSortCmp.Pivot1
import Derived.Shelf.SlSortCmp.ReverseRange1
import Derived.Shelf.SlSortCmp.SiftDown1
import Derived.Shelf.SlSortCmp.Whole1
import Derived.Shelf.SlSortCmp.WholeK
import Derived.Shelf.Slices.In.SortNone
import Derived.Shelf.Small.Bits
import Derived.Shelf.Sort.Plain
import Derived.Shelf.Spec.SlicesGrow
import Derived.TacticsInMore
import Derived.Test.YtgiploddoffmjaaGreatProg
import Derived.WalkKit
import Derived.WalkLawsBesides
import Derived.WalkSpells
import Derived.Test.YtgiploddoffmjaaGreatM0
import Derived.Test.YtgiploddoffmjaaGreatM1
import Derived.Test.YtgiploddoffmjaaGreatM2
import Derived.Test.YtgiploddoffmjaaGreatM3
import Derived.Test.YtgiploddoffmjaaGreatM4
import Derived.Test.YtgiploddoffmjaaGreatM5
import Derived.Test.YtgiploddoffmjaaGreatM6
import Derived.Test.YtgiploddoffmjaaGreatM7
import Derived.Test.YtgiploddoffmjaaGreatM8
import Derived.Test.YtgiploddoffmjaaGreatM9
import Derived.Test.YtgiploddoffmjaaGreatM10
import Derived.Test.YtgiploddoffmjaaGreatM11
import Derived.Test.YtgiploddoffmjaaGreatM12
import Derived.Test.YtgiploddoffmjaaGreatM13
import Derived.Test.YtgiploddoffmjaaGreatM14
import Derived.Test.YtgiploddoffmjaaGreatM15
import Derived.Test.YtgiploddoffmjaaGreatM16
import Derived.Test.YtgiploddoffmjaaGreatM17
set_option linter.unusedVariables false
set_option linter.unusedSimpArgs false
set_option linter.unusedSectionVars false
set_option maxRecDepth 10000
namespace Go.Proofs.YtgiploddoffmjaaGreat
section
open Go.RowKit Go.Shelf
section
variable {l : List Ev} {m : List Int} {L : List Form} {al : Option Addr} {cl : Nat} {am : Option Addr} {cm B C r : Nat}
theorem SubAt.size {L : List Form} {n : Nat} {f : Form} (h : SubAt L n f) : fsize f ≤ L.length := by
 obtain ⟨r, h⟩ := h
 have := congrArg List.length h
 rw [List.length_drop, List.length_append, subs_len] at this
 omega
theorem look_step (hinc : incI l m) (hcl : l.length ≤ cl) (hat : ∀ e ∈ l, 0 ≤ e.at_ ∧ e.at_ ≤ 200) (hl60 : l.length ≤ 60) (hm60 : m.length ≤ 1000) (hL : L.length ≤ 12) {q : Nat} (hI : IsAt l m L al cl am cm B C r 103 q) :
 IsAt l m L al cl am cm B C r 176 (q + 1) := by
 intro f x v n i k w hsh hk hsub hik hkm hq hck
 have hsz := hsub.size
 obtain ⟨op, t, pn, ks⟩ := x
 have hnl := hsub.lt
 cases f with
 | one t' =>
  obtain ⟨rfl, rfl, rfl, rfl⟩ := hsh
  exact look_one hinc t v n i k w hik hkm hck (by omega) hm60
 | thn nn a b =>
  obtain ⟨rfl, rfl, rfl, o1, t1, n1, k1, o2, t2, n2, k2, rfl, sa, sb⟩ := hsh
  exact look_thn hI hinc hcl hat hl60 hm60 a b _ _ o1 n1 t1 k1 o2 n2 t2 k2 v n i k w hk sa sb hsub hik hkm hq hck (Nat.le_trans hsz hL) (by omega)
 | or a b =>
  obtain ⟨rfl, rfl, rfl, o1, t1, n1, k1, o2, t2, n2, k2, rfl, sa, sb⟩ := hsh
  exact look_or hI a b _ o1 n1 o2 n2 t1 t2 k1 k2 v n i k w hk sa sb hsub hik hkm hq hck (Nat.le_trans hsz hL) (by omega)
 | many nn a =>
  obtain ⟨rfl, rfl, rfl, o1, t1, n1, k1, rfl, sa⟩ := hsh
  exact look_many hI hinc hcl hat hl60 hm60 a _ _ o1 n1 t1 k1 v n i k w hk sa ⟨rfl, rfl, rfl, o1, t1, n1, k1, rfl, sa⟩ hsub hik hkm hq hck (Nat.le_trans hsz hL) (by omega)
 | lack nn a tc b =>
  obtain ⟨rfl, rfl, rfl, o1, t1, n1, k1, o2, t2, n2, k2, rfl, sa, sb⟩ := hsh
  exact look_lack hI hinc hcl hat hl60 hm60 a b _ _ tc o1 n1 t1 k1 o2 n2 t2 k2 v n i k w hk sa sb hsub hik hkm hq hck (Nat.le_trans hsz hL) (by omega)
theorem is_any (hinc : incI l m) (hcl : l.length ≤ cl) (hat : ∀ e ∈ l, 0 ≤ e.at_ ∧ e.at_ ≤ 200) (hl60 : l.length ≤ 60) (hm60 : m.length ≤ 1000) (hL : L.length ≤ 12) : ∀ q, IsAt l m L al cl am cm B C r 103 q
 | 0 => fun f x v n i k w _ _ _ _ _ hq _ => absurd hq (by omega)
 | q + 1 => is_step l m L al cl am cm B C r (q + 1) (look_step hinc hcl hat hl60 hm60 hL (is_any hinc hcl hat hl60 hm60 hL q))
end
end
section
open Go.RowKit Go.Shelf
def OwnRows (w w' : World) (v : Value) (m : List (List Int)) : Prop := ∃ a gs, v = .slice a gs.length gs.length ∧ nums gs = m ∧ LL w' w.heap.size v gs ∧ gs.length ≤ 200
theorem OwnRows.nil (w w' : World) : OwnRows w w' (.slice none 0 0) [] := ⟨none, [], rfl, rfl, LL.nil _ _, by simp⟩
set_option maxHeartbeats 4000000 in
theorem all_out (l : List Ev) (al : Option Addr) (cl : Nat) (hcl : l.length ≤ cl) (x : Node) (v : Value) (near : Int) (same : Bool) (srcs : Int) (w : World) (hr : Rd Ev.cells 5 w (.slice al l.length cl) l) (hk : RdK w x.ks v) :
 Calls Tryz.prog 21 #[.agg (queryA x v near same), .int .i64 srcs, .slice al l.length cl] w fun e w' => ∃ v', e = .returned (.tuple #[v', .int .i64 (allRes srcs l x near same).2]) ∧ OwnRows w w' v' (allRes srcs l x near same).1 ∧ Below w.heap.size w w' := by
 have hbx := fun o => (Below.refl w.heap.size w).alloc (Nat.le_refl _) o
 have HQ := zH (fun o => isQuery_any x v near same srcs _ (hk.below (hbx o)))
 obtain ⟨a0, c0, e0, _⟩ := id hk
 have HS := zH (zA hr (zA hk hbx))
 have HA := zH (show allRes srcs l x near same = if queryP srcs x near && eventsP srcs l then (match matchP l (formOf x) near same with | none => (([], 3) : List (List Int) × Int) | some m => (m, 0)) else ([], 2) from rfl)
 clear hr hk hbx
 cases hq : queryP srcs x near with
 | false =>
  rw [hq] at HQ HA
  clear hq
  subst e0
  go_enter Tryz.func21, Tryz.ntmps21
  go_wp2_with (go_at_call 76; refine (HQ.out _).mono ?_; rintro e w2 ⟨rfl, hb2⟩)
  go_ret2
  refine ⟨_, by rw [HA.out]; rfl, by rw [HA.out]; exact OwnRows.nil _ _, (HS.out.2.2 _).trans (hb2.mono (HS.out.2.2 _).size)⟩
 | true =>
  have hs : 1 ≤ srcs ∧ srcs ≤ 4 := by
   simp only [queryP, inP, Bool.and_eq_true, decide_eq_true_eq] at hq
   exact hq.1.1
  have hp : patP srcs x.op x.t x.n x.ks = true := by
   simp only [queryP, Bool.and_eq_true] at hq
   exact hq.1.2
  have HP := zH (formOf_shape hp)
  rw [hq] at HQ HA
  clear hq hp
  have hev := fun W (hW : Below w.heap.size w W) => areEvents_any l (.slice al l.length cl) srcs hs W (HS.out.1.below hW)
  have HEV := zH hev
  clear hev
  subst e0
  cases hE : eventsP srcs l with
  | false =>
   rw [hE] at HEV HA
   clear hE
   go_enter Tryz.func21, Tryz.ntmps21
   go_wp2_with (first | (go_at_call 76; refine (HQ.out _).mono ?_; rintro e w2 ⟨rfl, hb2⟩; have HB2 := zH ((HS.out.2.2 _).trans (hb2.mono (HS.out.2.2 _).size)); clear hb2) | (go_at_call 90; refine (HEV.out _ HB2.out).mono ?_; rintro e w3 ⟨rfl, hb3⟩))
   go_ret2
   exact ⟨_, by rw [HA.out]; rfl, by rw [HA.out]; exact OwnRows.nil _ _, HB2.out.trans (hb3.mono HB2.out.size)⟩
  | true =>
   have hsm := events_small hE
   have HM := zH (fun W (hW : Below w.heap.size w W) => matches_any l al cl hcl (fun e he => ev_at (hsm.2 e he)) hsm.1 (formOf x) x (.slice a0 x.ks.len c0) near same W HP.out (HS.out.1.below hW) (HS.out.2.1.below hW))
   rw [hE] at HEV HA
   clear hE hsm
   go_enter Tryz.func21, Tryz.ntmps21
   go_wp2_with (first | (go_at_call 76; refine (HQ.out _).mono ?_; rintro e w2 ⟨rfl, hb2⟩; have HB2 := zH ((HS.out.2.2 _).trans (hb2.mono (HS.out.2.2 _).size)); have HBB := zH hb2; clear hb2) | (go_at_call 90; refine (HEV.out _ HB2.out).mono ?_; rintro e w3 ⟨rfl, hb3⟩; have k0 : w3.cell? ⟨w.heap.size, 0, none⟩ = some (.int .i64 x.op) := zB hb3 (zB HBB.out (box_at w (queryA x (.slice a0 x.ks.len c0) near same) 29 0)); have k1 : w3.cell? ⟨w.heap.size, 1, none⟩ = some (.int .i64 x.t.src) := zB hb3 (zB HBB.out (box_at w (queryA x (.slice a0 x.ks.len c0) near same) 29 1)); have k2 : w3.cell? ⟨w.heap.size, 2, none⟩ = some (.int .i64 x.t.low) := zB hb3 (zB HBB.out (box_at w (queryA x (.slice a0 x.ks.len c0) near same) 29 2)); have k3 : w3.cell? ⟨w.heap.size, 3, none⟩ = some (.int .i64 x.t.high) := zB hb3 (zB HBB.out (box_at w (queryA x (.slice a0 x.ks.len c0) near same) 29 3)); have k4 : w3.cell? ⟨w.heap.size, 4, none⟩ = some (.int .i64 x.n) := zB hb3 (zB HBB.out (box_at w (queryA x (.slice a0 x.ks.len c0) near same) 29 4)); have k5 : w3.cell? ⟨w.heap.size, 5, none⟩ = some (.slice a0 x.ks.len c0) := zB hb3 (zB HBB.out (box_at w (queryA x (.slice a0 x.ks.len c0) near same) 29 5)); have k6 : w3.cell? ⟨w.heap.size, 6, none⟩ = some (.int .i64 near) := zB hb3 (zB HBB.out (box_at w (queryA x (.slice a0 x.ks.len c0) near same) 29 6)); have k7 : w3.cell? ⟨w.heap.size, 7, none⟩ = some (.bool same) := zB hb3 (zB HBB.out (box_at w (queryA x (.slice a0 x.ks.len c0) near same) 29 7)); have HB3 := zH (HB2.out.trans (hb3.mono HB2.out.size)); clear hb3))
   refine (HM.out _ HB3.out).mono ?_
   clear k0 k1 k2 k3 k4 k5 k6 k7
   rintro e w4 ⟨v4, b, rfl, hb4, hf⟩
   cases b with
   | true =>
    rw [if_pos rfl] at hf
    obtain ⟨a, gs, rfl, hm, hL, h200⟩ := hf
    have HF := zH (zA hm (zA hL (zA h200 hb4)))
    clear hm hL h200 hb4
    go_wp2
    go_ret2
    have hA := HA.out
    rw [HF.out.1] at hA
    exact ⟨_, by rw [hA]; rfl, by rw [hA]; exact ⟨a, gs, rfl, rfl, HF.out.2.1.mono HB3.out.size, HF.out.2.2.1⟩, HB3.out.trans (HF.out.2.2.2.mono HB3.out.size)⟩
   | false =>
    rw [if_neg (by decide)] at hf
    obtain ⟨hm, rfl⟩ := hf
    have HF := zH (zA hm hb4)
    clear hm hb4
    go_wp2
    go_ret2
    have hA := HA.out
    rw [HF.out.1] at hA
    exact ⟨_, by rw [hA]; rfl, by rw [hA]; exact OwnRows.nil _ _, HB3.out.trans (HF.out.2.mono HB3.out.size)⟩
end
section
def incStep (l : List Ev) (m : List Int) (i : Nat) : Bool := inP (numAt m i) 0 ((l.length : Int) - 1) && (decide (i = 0) || decide (numAt m (i - 1) < numAt m i))
def incB (l : List Ev) (m : List Int) : Bool := !m.isEmpty && (List.range m.length).all (incStep l m)
theorem numAt_get {m : List Int} {i : Nat} (h : i < m.length) : m[i]? = some (numAt m i) := by
 unfold numAt
 rw [List.getElem?_eq_getElem h]
 rfl
theorem inc_far {m : List Int} (h : ∀ i, i + 1 < m.length → numAt m i < numAt m (i + 1)) : ∀ (d i : Nat), i + d + 1 < m.length → numAt m i < numAt m (i + d + 1)
 | 0, i, hi => h i hi
 | d + 1, i, hi => by
  have h1 := inc_far h d i (by omega)
  have h2 := h (i + d + 1) (by omega)
  rw [show i + (d + 1) + 1 = i + d + 1 + 1 by omega]
  omega
theorem incB_iff {l : List Ev} {m : List Int} : incB l m = true ↔ incI l m := by
 unfold incB incI
 rw [Bool.and_eq_true, List.all_eq_true]
 constructor
 ·rintro ⟨h1, h2⟩
  have hs : ∀ i, i < m.length → incStep l m i = true := fun i hi => h2 i (List.mem_range.2 hi)
  refine ⟨by intro e; subst e; simp at h1, ?_, ?_⟩
  ·rw [List.pairwise_iff_getElem]
   intro i j hi hj hij
   have hf := inc_far (m := m) (fun i hi => by
    have := hs (i + 1) hi
    unfold incStep at this
    simp at this
    exact this.2) (j - i - 1) i (by omega)
   rw [show i + (j - i - 1) + 1 = j by omega] at hf
   have e1 := numAt_get hi
   have e2 := numAt_get hj
   rw [List.getElem?_eq_getElem hi] at e1
   rw [List.getElem?_eq_getElem hj] at e2
   injection e1 with e1
   injection e2 with e2
   rw [e1, e2]; exact hf
  ·intro x hx
   obtain ⟨i, hi, rfl⟩ := List.getElem_of_mem hx
   have := hs i hi
   have e1 := numAt_get hi
   rw [List.getElem?_eq_getElem hi] at e1
   injection e1 with e1
   unfold incStep inP at this
   simp only [Bool.and_eq_true, decide_eq_true_eq] at this
   rw [e1]
   omega
 ·rintro ⟨h1, h2, h3⟩
  refine ⟨by cases m with | nil => exact absurd rfl h1 | cons => rfl, fun i hi => ?_⟩
  have hi := List.mem_range.1 hi
  have e1 := numAt_get hi
  have hm := h3 _ (List.mem_of_getElem? e1)
  unfold incStep inP
  simp only [Bool.and_eq_true, Bool.or_eq_true, decide_eq_true_eq]
  refine ⟨⟨hm.1, by omega⟩, ?_⟩
  by_cases h0 : i = 0
  ·exact .inl h0
  ·right
   have hp : i - 1 < m.length := by omega
   have e2 := numAt_get hp
   rw [List.getElem?_eq_getElem hi] at e1
   rw [List.getElem?_eq_getElem hp] at e2
   injection e1 with e1
   injection e2 with e2
   rw [← e1, ← e2]
   exact List.pairwise_iff_getElem.1 h2 _ _ hp hi (by omega)
theorem incB_bad {l : List Ev} {m : List Int} {i : Nat} (hi : i < m.length) (h : incStep l m i = false) : incB l m = false := by
 unfold incB
 rw [Bool.and_eq_false_iff]
 exact .inr (List.all_eq_false.2 ⟨i, List.mem_range.2 hi, by simp [h]⟩)
theorem incB_good {l : List Ev} {m : List Int} (h0 : m ≠ []) (h : ∀ i, i < m.length → incStep l m i = true) : incB l m = true := by
 unfold incB
 rw [Bool.and_eq_true]
 exact ⟨by cases m with | nil => exact absurd rfl h0 | cons => rfl, List.all_eq_true.2 fun i hi => h i (List.mem_range.1 hi)⟩
theorem incI_len {l : List Ev} {m : List Int} (h : incI l m) : m.length ≤ l.length := by
 have := inc_len m 0 l.length h.2.1 h.2.2 (by omega)
 omega
noncomputable def isRes (srcs : Int) (l : List Ev) (x : Node) (near : Int) (same : Bool) (m : List Int) : Bool × Int :=
 if queryP srcs x near && eventsP srcs l then (incB l m && askedP l m near same && isP l m (formOf x) 0 m.length, 0) else (false, 2)
end
section
open Go.RowKit Go.Shelf
theorem map_box {w W0 : World} {o : Obj} {cs : Array Value} {T : TypeId} (h : (w.alloc o).alloc (.cells cs T) = W0) : Below w.heap.size w W0 ∧ W0.heap.size = w.heap.size + 2 ∧ W0.heap[w.heap.size]? = some o ∧ W0.heap[w.heap.size + 1]? = some (.cells cs T (0, 0)) := by
 subst h
 refine ⟨((Below.refl _ w).alloc (Nat.le_refl _) _).alloc (by simp) _, by simp, (Below.heap_alloc _ _ _ (by simp)).trans (heap_alloc_new w _), ?_⟩
 have := heap_alloc_new (w.alloc o) (.cells cs T)
 rwa [World.size_alloc] at this
set_option maxHeartbeats 8000000 in
theorem is_out (l : List Ev) (al : Option Addr) (cl : Nat) (hcl : l.length ≤ cl) (m : List Int) (am : Option Addr) (cm : Nat) (x : Node) (v : Value) (near : Int) (same : Bool) (srcs : Int) (w : World) (hr : Rd Ev.cells 5 w (.slice al l.length cl) l) (hm : Rd intC 1 w (.slice am m.length cm) m) (hk : RdK w x.ks v) :
 Calls Tryz.prog 24 #[.agg (queryA x v near same), .int .i64 srcs, .slice al l.length cl, .slice am m.length cm] w fun e w' => e = .returned (.tuple #[.bool (isRes srcs l x near same m).1, .int .i64 (isRes srcs l x near same m).2]) ∧ Below w.heap.size w w' := by
 have hbx := fun o => (Below.refl w.heap.size w).alloc (Nat.le_refl _) o
 have HQ := zH (fun o => isQuery_any x v near same srcs _ (hk.below (hbx o)))
 obtain ⟨a0, c0, e0, _⟩ := id hk
 have HS := zH (zA hr (zA hk (zA hbx hm)))
 have HA := zH (show isRes srcs l x near same m = if queryP srcs x near && eventsP srcs l then (incB l m && askedP l m near same && isP l m (formOf x) 0 m.length, 0) else (false, 2) from rfl)
 clear hr hk hbx hm
 cases hq : queryP srcs x near with
 | false =>
  rw [hq] at HQ HA
  clear hq
  subst e0
  go_enter Tryz.func24, Tryz.ntmps24
  go_wp2_with (go_at_call 76; refine (HQ.out _).mono ?_; rintro e w2 ⟨rfl, hb2⟩)
  go_ret2
  exact ⟨by rw [HA.out]; rfl, (HS.out.2.2.1 _).trans (hb2.mono (HS.out.2.2.1 _).size)⟩
 | true =>
  have hs : 1 ≤ srcs ∧ srcs ≤ 4 := by
   simp only [queryP, inP, Bool.and_eq_true, decide_eq_true_eq] at hq
   exact hq.1.1
  have hp : patP srcs x.op x.t x.n x.ks = true := by
   simp only [queryP, Bool.and_eq_true] at hq
   exact hq.1.2
  have HP := zH (zA (formOf_shape hp) (shape_small hp))
  rw [hq] at HQ HA
  clear hq hp
  have hev := fun W (hW : Below w.heap.size w W) => areEvents_any l (.slice al l.length cl) srcs hs W (HS.out.1.below hW)
  have HEV := zH hev
  clear hev
  subst e0
  cases hE : eventsP srcs l with
  | false =>
   rw [hE] at HEV HA
   clear hE
   go_enter Tryz.func24, Tryz.ntmps24
   go_wp2_with (first | (go_at_call 76; refine (HQ.out _).mono ?_; rintro e w2 ⟨rfl, hb2⟩; have HB2 := zH ((HS.out.2.2.1 _).trans (hb2.mono (HS.out.2.2.1 _).size)); clear hb2) | (go_at_call 90; refine (HEV.out _ HB2.out).mono ?_; rintro e w3 ⟨rfl, hb3⟩))
   go_ret2
   exact ⟨by rw [HA.out]; rfl, HB2.out.trans (hb3.mono HB2.out.size)⟩
  | true =>
   have hsm := events_small hE
   have HSM := zH (zA hsm.1 (fun e he => ev_at (hsm.2 e he)))
   have hl60 := hsm.1
   rw [hE] at HEV HA
   replace HA := zH (show isRes srcs l x near same m = (incB l m && askedP l m near same && isP l m (formOf x) 0 m.length, 0) from HA.out.trans (if_pos rfl))
   clear hE hsm
   obtain ⟨b, hb⟩ : ∃ b, b = (incB l m && askedP l m near same && isP l m (formOf x) 0 m.length) := ⟨_, rfl⟩
   rw [HA.out, ← hb]
   have HBE := zH hb
   clear hb HA
   go_enter Tryz.func24, Tryz.ntmps24
   go_wp2_with (first | (go_at_call 76; refine (HQ.out _).mono ?_; rintro e w2 ⟨rfl, hb2⟩; have HB2 := zH ((HS.out.2.2.1 _).trans (hb2.mono (HS.out.2.2.1 _).size)); have HBB := zH hb2; clear hb2) | (go_at_call 90; refine (HEV.out _ HB2.out).mono ?_; rintro e w3 ⟨rfl, hb3⟩))
   have hbox := (hb3.block w.heap.size (by have := HBB.out.size; simp at this; omega)).trans ((HBB.out.block w.heap.size (by simp)).trans (heap_alloc_new w (.cells (queryA x (.slice a0 x.ks.len c0) near same) 29)))
   have HB3 := zH (zA (HB2.out.trans (hb3.mono HB2.out.size)) hbox)
   have hm63 := HS.out.2.2.2.1
   clear hb3 hbox
   go_loopw [25] (fun i W => ∃ n : Nat, i = .int .i64 n ∧ n ≤ m.length ∧ (∀ k, k < n → incStep l m k = true) ∧ W = w3) (fun i _ => m.length - (intOf i).toNat)
   case atStart => exact ⟨0, rfl, by omega, fun k h => by omega, rfl⟩
   case round =>
    obtain ⟨n, rfl, hn, hgood, hwr⟩ := hrel
    subst hwr
    by_cases hlt : n < m.length
    ·obtain ⟨bm, om, rfl, _, hcm⟩ := rd_at (HS.out.2.2.2.below HB3.out.1) (numAt_get hlt)
     have q0 := hcm 0 _ rfl
     rw [Nat.mul_one, Nat.add_zero] at q0
     clear hcm
     have n1 : (n : Int) < (m.length : Int) := by omega
     have hwl : IntKind.i64.wrap ((l.length : Int) - 1) = (l.length : Int) - 1 := Go.IntWalk.i64_in _ (by omega)
     have hw1 : IntKind.i64.wrap ((n : Int) + 1) = (n : Int) + 1 := Go.IntWalk.i64_in _ (by omega)
     obtain ⟨u, hu⟩ : ∃ u, u = numAt m n := ⟨_, rfl⟩
     rw [← hu] at q0
     obtain ⟨r1, hr1⟩ : ∃ r1, r1 = inP u 0 ((l.length : Int) - 1) := ⟨_, rfl⟩
     have hcall := fun W => within_any u 0 ((l.length : Int) - 1) W
     rw [← hr1] at hcall
     have HCALL := zH hcall
     have HG := zH (zA hgood (zA hu hr1))
     clear hcall hgood hu hr1
     cases r1 with
     | false =>
      go_wp2_with (go_at_call 88; refine (HCALL.out _).mono ?_; rintro e w4 ⟨rfl, rfl⟩)
      go_ret2
      have hbad : incStep l m n = false := by unfold incStep; rw [← HG.out.2.1, ← HG.out.2.2]; rfl
      exact ⟨by rw [HBE.out, incB_bad hlt hbad]; rfl, HB3.out.1⟩
     | true =>
      cases n with
      | zero =>
       have q0' : wr.cell? ⟨bm, om, none⟩ = some (.int .i64 u) := q0
       have n0 : (0 : Int) < (m.length : Int) := by omega
       go_wp2_with (go_at_call 88; refine (HCALL.out _).mono ?_; rintro e w4 ⟨rfl, rfl⟩)
       go_roundw
       case rel =>
        refine ⟨0 + 1, by go_num, by omega, fun k hk => ?_, trivial⟩
        obtain rfl : k = 0 := by omega
        unfold incStep
        rw [← HG.out.2.1, ← HG.out.2.2]; rfl
       case measure => simp [intOf]; omega
      | succ p =>
       obtain ⟨bm', om', he, _, hcm⟩ := rd_at (HS.out.2.2.2.below HB3.out.1) (numAt_get (i := p) (by omega))
       injection he with he
       injection he with e1 e2
       subst e1; subst e2
       have q1 := hcm 0 _ rfl
       rw [Nat.mul_one, Nat.add_zero] at q1
       clear hcm
       obtain ⟨t, ht⟩ : ∃ t, t = numAt m p := ⟨_, rfl⟩
       rw [← ht] at q1
       have hwp : IntKind.i64.wrap (((p + 1 : Nat) : Int) - 1) = (p : Int) := by rw [Go.IntWalk.i64_in _ (by omega)]; omega
       have m1 : (p : Int) < (m.length : Int) := by omega
       have m2 : (0 : Int) < ((p + 1 : Nat) : Int) := by omega
       have HT := zH ht
       clear ht
       have hstep : incStep l m (p + 1) = decide (t < u) := by unfold incStep; rw [← HG.out.2.1, ← HG.out.2.2, Nat.add_sub_cancel, ← HT.out]; simp
       have HST := zH hstep
       clear hstep
       by_cases htu : t < u
       ·have htu2 : ¬ u ≤ t := by omega
        go_wp2_with (go_at_call 88; refine (HCALL.out _).mono ?_; rintro e w4 ⟨rfl, rfl⟩)
        go_roundw
        case rel =>
         refine ⟨p + 1 + 1, by go_num, by omega, fun k hk => ?_, trivial⟩
         by_cases hkp : k = p + 1
         ·subst hkp; rw [HST.out, decide_eq_true htu]
         ·exact HG.out.1 k (by omega)
        case measure => simp [intOf]; omega
       ·have htu2 : u ≤ t := by omega
        go_wp2_with (go_at_call 88; refine (HCALL.out _).mono ?_; rintro e w4 ⟨rfl, rfl⟩)
        go_ret2
        exact ⟨by rw [HBE.out, incB_bad hlt (by rw [HST.out, decide_eq_false (show ¬ t < u by omega)])]; rfl, HB3.out.1⟩
    ·obtain rfl : n = m.length := by omega
     have hlt2 : ¬ (m.length : Int) < (m.length : Int) := by omega
     by_cases h0 : m = []
     ·subst h0
      clear hgood
      go_wp2
      go_ret2
      exact ⟨by rw [HBE.out]; rfl, HB3.out.1⟩
     have hinB := incB_good h0 hgood
     have hinc := incB_iff.1 hinB
     have hml := incI_len hinc
     have hpos : 0 < m.length := by cases m with | nil => exact absurd rfl h0 | cons => simp
     have m0 : ¬ (m.length : Int) = 0 := by omega
     obtain ⟨_, h00, _, h01⟩ := num_at (i := 0) hinc hpos
     obtain ⟨bm, om, rfl, hbm, _⟩ := rd_at HS.out.2.2.2 h00
     obtain ⟨bl, ol, rfl, hbl, _⟩ := rd_at HS.out.1 (evAt_get h01)
     have HI := zH (zA hinc (zA hinB hml))
     clear hgood hinB hinc h00 h01 h0
     have hmm := @run_makeMap Tryz.prog
     go_wp2_with fail
     clear hmm
     generalize hW2 : World.alloc (World.alloc _ _) _ = W2
     obtain ⟨hb2, hz2, hx2, hy2⟩ := map_box hW2
     clear hW2
     have hBwr := HB3.out.1.size
     have hck : CkAt l m (subs (formOf x)) (some ⟨bl, ol, none⟩) cl (some ⟨bm, om, none⟩) cm w.heap.size (wr.heap.size + 1) wr.heap.size W2 :=
      ⟨hy2, HS.out.1.below (HB3.out.1.trans (hb2.mono hBwr)), HS.out.2.2.2.below (HB3.out.1.trans (hb2.mono hBwr)), fun i hi => by simp [Value.ownBlock] at hi; omega, fun i hi => by simp [Value.ownBlock] at hi; omega, ⟨by omega, by omega⟩, _, MapF.new enc3 hx2, fun n i k v h => by cases h⟩
     have hsr : ∀ W, Fr (fun i => i = wr.heap.size) W2 W → (W.cell? ⟨w.heap.size, 0, none⟩ = some (.int .i64 x.op) ∧ W.cell? ⟨w.heap.size, 1, none⟩ = some (.int .i64 x.t.src) ∧ W.cell? ⟨w.heap.size, 2, none⟩ = some (.int .i64 x.t.low) ∧ W.cell? ⟨w.heap.size, 3, none⟩ = some (.int .i64 x.t.high) ∧ W.cell? ⟨w.heap.size, 4, none⟩ = some (.int .i64 x.n) ∧ W.cell? ⟨w.heap.size, 5, none⟩ = some (.slice a0 x.ks.len c0) ∧ W.cell? ⟨w.heap.size, 6, none⟩ = some (.int .i64 near) ∧ W.cell? ⟨w.heap.size, 7, none⟩ = some (.bool same)) ∧ W.cell? ⟨wr.heap.size + 1, 0, none⟩ = some (.slice (some ⟨bl, ol, none⟩) l.length cl) := fun W hW => by
      have hxx := (hW.block w.heap.size (by have := (Array.getElem?_eq_some_iff.1 HB3.out.2).1; omega) (by have := (Array.getElem?_eq_some_iff.1 HB3.out.2).1; omega)).trans ((hb2.block w.heap.size (Array.getElem?_eq_some_iff.1 HB3.out.2).1).trans HB3.out.2)
      have hyy := (hW.block (wr.heap.size + 1) (by omega) (by omega)).trans hy2
      exact ⟨⟨zC hxx 0, zC hxx 1, zC hxx 2, zC hxx 3, zC hxx 4, zC hxx 5, zC hxx 6, zC hxx 7⟩, zC hyy 0⟩
     have hbw : ∀ W, Fr (fun i => i = wr.heap.size) W2 W → Below w.heap.size w W := fun W hW => HB3.out.1.trans ((hb2.trans (zO hW hb2.size fun i hi => by omega)).mono hBwr)
     obtain ⟨ra, hra⟩ : ∃ ra, ra = askedP l m near same := ⟨_, rfl⟩
     obtain ⟨rb, hrb⟩ : ∃ rb, rb = isP l m (formOf x) 0 m.length := ⟨_, rfl⟩
     have has : ∀ W, Below W2.heap.size W2 W → Calls Tryz.prog 94 #[.slice (some ⟨bl, ol, none⟩) l.length cl, .slice (some ⟨bm, om, none⟩) m.length cm, .int .i64 near, .bool same] W fun e w' => e = .returned (.bool ra) ∧ Below W.heap.size W w' := fun W hW => by
      have hw := hbw W (zF hW)
      rw [hra]
      exact asked_any l _ cl _ m near same W (HS.out.1.below hw) HSM.out.2 (HS.out.2.2.2.below hw) HI.out.1
     have his : ∀ W, Below W2.heap.size W2 W → Calls Tryz.prog 103 #[.pointer (some ⟨wr.heap.size + 1, 0, none⟩), .agg #[.int .i64 x.op, .int .i64 x.t.src, .int .i64 x.t.low, .int .i64 x.t.high, .int .i64 x.n, .slice a0 x.ks.len c0], .int .i64 0, .int .i64 0, .int .i64 m.length] W (CkOut l m (subs (formOf x)) (some ⟨bl, ol, none⟩) cl (some ⟨bm, om, none⟩) cm w.heap.size (wr.heap.size + 1) wr.heap.size W rb) := fun W hW => by
      have hw := hbw W (zF hW)
      rw [hrb]
      exact is_any HI.out.1 hcl HSM.out.2 HSM.out.1 (by omega) (by rw [subs_len]; exact HP.out.2) _ (formOf x) x (.slice a0 x.ks.len c0) 0 0 m.length W HP.out.1 (HS.out.2.1.keep hw) (SubAt.root _) (by omega) (by omega) (Nat.lt_succ_self _) (hck.below hW)
     have HSR := zH hsr
     have HAS := zH has
     have HIS := zH his
     have HBW := zH hbw
     have HRR := zH (zA HI.out.2.1 (zA hra.symm hrb))
     have E103 := zH (enters_of Tryz.func103 (by kernel_rfl) rfl)
     have E94 := zH (enters_of Tryz.func94 (by kernel_rfl) rfl)
     clear hsr has his hbw hra hrb hck hb2 hx2 hy2 hlt hlt2
     cases ra with
     | false =>
      refine zR 20 (S := fun W => (W.cell? ⟨w.heap.size, 0, none⟩ = some (.int .i64 x.op) ∧ W.cell? ⟨w.heap.size, 1, none⟩ = some (.int .i64 x.t.src) ∧ W.cell? ⟨w.heap.size, 2, none⟩ = some (.int .i64 x.t.low) ∧ W.cell? ⟨w.heap.size, 3, none⟩ = some (.int .i64 x.t.high) ∧ W.cell? ⟨w.heap.size, 4, none⟩ = some (.int .i64 x.n) ∧ W.cell? ⟨w.heap.size, 5, none⟩ = some (.slice a0 x.ks.len c0) ∧ W.cell? ⟨w.heap.size, 6, none⟩ = some (.int .i64 near) ∧ W.cell? ⟨w.heap.size, 7, none⟩ = some (.bool same)) ∧ W.cell? ⟨wr.heap.size + 1, 0, none⟩ = some (.slice (some ⟨bl, ol, none⟩) l.length cl)) (by kernel_rfl) (by kernel_rfl) rfl (HSR.out _ (zF ((Below.refl _ _).drew))) (fun hHeld => ?_)
      try simp only [List.reduceReplicate]
      repeat (first
       | refine takeA [] (h := ?_)
       | (refine callA [] (args := ?_) (R := ?_) (he := ?_) (hc := ?_) (hargs := ?_) (h := ?_)
          rotate_left 2
          first | (exact E103.out; exact HIS.out _ HB5.out; rfl; rintro e w6 ⟨rfl, hf6, hck6⟩; have h6 : Fr (fun i => i = wr.heap.size) W2 w6 := zT (zF HB5.out) hf6 fun _ _ h => h; refine .inl ⟨_, rfl, HSR.out _ h6, fun hHeld => ?_⟩; have HF6 := zH h6; clear hf6 h6 hck6) | (exact E94.out; exact HAS.out _ ((Below.refl _ _).drew); rfl; rintro e w5 ⟨rfl, hb5⟩; have h5 : Below W2.heap.size W2 w5 := (Below.refl _ _).drew.trans hb5; refine .inl ⟨_, rfl, HSR.out _ (zF h5), fun hHeld => ?_⟩; have HB5 := zH h5; clear hb5 h5)
          refine normA (h := ?_)))
      refine wpAnyH_done (by kernel_rfl) ?_ _
      clear hHeld
      go_wp2
      go_ret2
      exact ⟨by rw [HBE.out, HRR.out.1, HRR.out.2.1]; rfl, HBW.out _ (zF HB5.out)⟩
     | true =>
      refine zR 20 (S := fun W => (W.cell? ⟨w.heap.size, 0, none⟩ = some (.int .i64 x.op) ∧ W.cell? ⟨w.heap.size, 1, none⟩ = some (.int .i64 x.t.src) ∧ W.cell? ⟨w.heap.size, 2, none⟩ = some (.int .i64 x.t.low) ∧ W.cell? ⟨w.heap.size, 3, none⟩ = some (.int .i64 x.t.high) ∧ W.cell? ⟨w.heap.size, 4, none⟩ = some (.int .i64 x.n) ∧ W.cell? ⟨w.heap.size, 5, none⟩ = some (.slice a0 x.ks.len c0) ∧ W.cell? ⟨w.heap.size, 6, none⟩ = some (.int .i64 near) ∧ W.cell? ⟨w.heap.size, 7, none⟩ = some (.bool same)) ∧ W.cell? ⟨wr.heap.size + 1, 0, none⟩ = some (.slice (some ⟨bl, ol, none⟩) l.length cl)) (by kernel_rfl) (by kernel_rfl) rfl (HSR.out _ (zF ((Below.refl _ _).drew))) (fun hHeld => ?_)
      try simp only [List.reduceReplicate]
      repeat (first
       | refine takeA [] (h := ?_)
       | (refine callA [] (args := ?_) (R := ?_) (he := ?_) (hc := ?_) (hargs := ?_) (h := ?_)
          rotate_left 2
          first | (exact E103.out; exact HIS.out _ HB5.out; rfl; rintro e w6 ⟨rfl, hf6, hck6⟩; have h6 : Fr (fun i => i = wr.heap.size) W2 w6 := zT (zF HB5.out) hf6 fun _ _ h => h; refine .inl ⟨_, rfl, HSR.out _ h6, fun hHeld => ?_⟩; have HF6 := zH h6; clear hf6 h6 hck6) | (exact E94.out; exact HAS.out _ ((Below.refl _ _).drew); rfl; rintro e w5 ⟨rfl, hb5⟩; have h5 : Below W2.heap.size W2 w5 := (Below.refl _ _).drew.trans hb5; refine .inl ⟨_, rfl, HSR.out _ (zF h5), fun hHeld => ?_⟩; have HB5 := zH h5; clear hb5 h5)
          refine normA (h := ?_)))
      refine wpAnyH_done (by kernel_rfl) ?_ _
      clear hHeld
      go_wp2
      go_ret2
      exact ⟨by rw [HBE.out, HRR.out.1, HRR.out.2.1, ← HRR.out.2.2]; simp, HBW.out _ HF6.out⟩
end
section
open Go.RowKit Go.Shelf Go.Sort
set_option maxHeartbeats 4000000 in
theorem pickCmp_any (v1 v2 : Value) (xs ys : List Int) (w : World) (h1 : Rd intC 1 w v1 xs) (h2 : Rd intC 1 w v2 ys) (n1 : xs ≠ []) (n2 : ys ≠ []) (b1 : 0 ≤ lastI xs ∧ lastI xs < 1000) (b2 : 0 ≤ lastI ys ∧ lastI ys < 1000) :
 Calls Tryz.prog 106 #[v1, v2] w fun e w' => e = .returned (.int .i64 (lastI xs - lastI ys)) ∧ w' = w.drew := by
 obtain ⟨a1, c1, rfl⟩ : ∃ a c, v1 = .slice a xs.length c := by obtain ⟨_, a, c, e, _⟩ := h1; exact ⟨a, c, e⟩
 obtain ⟨a2, c2, rfl⟩ : ∃ a c, v2 = .slice a ys.length c := by obtain ⟨_, a, c, e, _⟩ := h2; exact ⟨a, c, e⟩
 have hx0 : 0 < xs.length := List.length_pos_iff.2 n1
 have hy0 : 0 < ys.length := List.length_pos_iff.2 n2
 have hxm : xs.length ≤ 9223372036854775807 := h1.1
 have hym : ys.length ≤ 9223372036854775807 := h2.1
 obtain ⟨bx, ox, rfl, _, hc1⟩ := rd_at h1 (last_get n1)
 obtain ⟨by_, oy, rfl, _, hc2⟩ := rd_at h2 (last_get n2)
 obtain ⟨px, hpx⟩ : ∃ px, px = xs.length - 1 := ⟨_, rfl⟩
 obtain ⟨py, hpy⟩ : ∃ py, py = ys.length - 1 := ⟨_, rfl⟩
 have q1 : w.cell? ⟨bx, ox + px, none⟩ = some (.int .i64 (lastI xs)) := by have := hc1 0 _ rfl; rw [← hpx] at this; simpa using this
 have q2 : w.cell? ⟨by_, oy + py, none⟩ = some (.int .i64 (lastI ys)) := by have := hc2 0 _ rfl; rw [← hpy] at this; simpa using this
 have hwx : IntKind.i64.wrap ((xs.length : Int) - 1) = (px : Int) := by rw [Go.IntWalk.i64_in _ (by omega)]; omega
 have hwy : IntKind.i64.wrap ((ys.length : Int) - 1) = (py : Int) := by rw [Go.IntWalk.i64_in _ (by omega)]; omega
 have hws : IntKind.i64.wrap (lastI xs - lastI ys) = lastI xs - lastI ys := Go.IntWalk.i64_in _ (by omega)
 have k1 : (px : Int) < (xs.length : Int) := by omega
 have k2 : (py : Int) < (ys.length : Int) := by omega
 have hS : w.drew.cell? ⟨bx, ox + px, none⟩ = some (.int .i64 (lastI xs)) ∧ w.drew.cell? ⟨by_, oy + py, none⟩ = some (.int .i64 (lastI ys)) := ⟨q1, q2⟩
 have HS := zH hS
 clear h1 h2 hc1 hc2 hpx hpy b1 b2 q1 q2 hS
 go_enter Tryz.func106, Tryz.ntmps106
 go_wp2_with fail
 refine zR 14 (S := fun W => W.cell? ⟨bx, ox + px, none⟩ = some (.int .i64 (lastI xs)) ∧ W.cell? ⟨by_, oy + py, none⟩ = some (.int .i64 (lastI ys))) (by kernel_rfl) (by kernel_rfl) rfl HS.out (fun hHeld => ?_)
 try simp only [List.reduceReplicate]
 repeat refine takeA [] (h := ?_)
 refine wpAnyH_done (by kernel_rfl) ?_ _
 clear hHeld
 go_wp2
 go_ret
 exact ⟨rfl, rfl⟩
def RN (w : World) (blk : Nat) := { p : Value × List Int // p.2 ≠ [] ∧ (0 ≤ lastI p.2 ∧ lastI p.2 < 1000) ∧ Rd intC 1 w p.1 p.2 ∧ ∀ i, some i = p.1.ownBlock → i ≠ blk }
def RN.enc {w : World} {blk : Nat} (x : RN w blk) : Value := x.1.1
def RN.nums {w : World} {blk : Nat} (x : RN w blk) : List Int := x.1.2
theorem RN.one {w : World} {blk : Nat} (x : RN w blk) : x.enc.oneCell' = true := by
 obtain ⟨⟨v, xs⟩, _, _, ⟨_, a, c, hv, _⟩, _⟩ := x
 show v.oneCell' = true
 dsimp only at hv
 rw [hv]
 rfl
theorem ins_id {α : Type} [Inhabited α] (lt : α → α → Bool) (d : Array α) (a b : Nat) (h : ∀ j, j + 1 < b → lt d[j + 1]! d[j]! = false) : ∀ (k i : Nat), i + k = b → insOuter lt a b i d = d
 | 0, i, hk => by rw [insOuter, if_neg (by omega)]
 | k + 1, i, hk => by
  rw [insOuter, if_pos (by omega)]
  have e : insInner lt a i d = d := by
   cases i with
   | zero => rfl
   | succ j =>
    rw [insInner, h j (by omega)]
    simp
  rw [e]
  exact ins_id lt d a b h k (i + 1) (by omega)
theorem insertion_id {α : Type} [Inhabited α] (lt : α → α → Bool) (d : Array α) (b : Nat) (hb : 0 < b) (h : ∀ j, j + 1 < b → lt d[j + 1]! d[j]! = false) : insertionSort lt d 0 b = d := by
 unfold insertionSort
 exact ins_id lt d 0 b h (b - 1) (0 + 1) (by omega)
theorem sortWorld_away {α : Type} [Inhabited α] {w : World} {blk off m : Nat} {dk : Array α} {enc : α → Value} {os : Array Obj} {v : Value} {xs : List Int} (h : Rd intC 1 w v xs) (hv : ∀ i, some i = v.ownBlock → i ≠ blk) : Rd intC 1 (sortWorld enc w blk off m dk os) v xs :=
 rd_move h (fr_sort1 enc w blk off m dk os) fun i hi hS => hv i hi hS
set_option maxHeartbeats 4000000 in
theorem stable_sorted (b off c : Nat) (S : Nat → Prop) (w : World) (gs : List (RN w b)) (hw : Win (fun x : RN w b => [x.enc]) 1 31 w (.slice (some ⟨b, off, none⟩) gs.length c) S gs) (hs : ∀ j x y, gs[j]? = some x → gs[j + 1]? = some y → lastI x.nums ≤ lastI y.nums) (hl : gs.length < 20) (hne : gs ≠ []) :
 Calls Tryz.prog 105 #[.slice (some ⟨b, off, none⟩) gs.length c, .func (.func 106) #[] #[]] w fun e w' => e = .returned (.tuple #[]) ∧ Below w.heap.size w w' := by
 letI : Inhabited (RN w b) := ⟨gs.head hne⟩
 have hpos : 0 < gs.length := List.length_pos_iff.2 hne
 have hH := holds_win1 RN.enc hw rfl
 have eg : ∀ args w, (callFunc 106 args).run Tryz.prog w = .ok (.enter 106 args) w := enters_of Tryz.func106 (by kernel_rfl) rfl
 have hcmp : CmpReads Tryz.prog 106 #[] (RN.enc (w := w) (blk := b)) (fun x y => lastI x.nums - lastI y.nums) b off gs.toArray.size w := by
  intro m os dk hdk x y
  refine (pickCmp_any x.enc y.enc x.nums y.nums _ (sortWorld_away x.2.2.2.1 x.2.2.2.2) (sortWorld_away y.2.2.2.1 y.2.2.2.2) x.2.1 y.2.1 x.2.2.1 y.2.2.1).mono ?_
  rintro e w' ⟨rfl, rfl⟩
  exact ⟨rfl, 1, rfl⟩
 have hcon := Tryz.insertionSortCmpFunc_one (RN.enc (w := w) (blk := b)) (fun x => x.one) (fun x y => lastI x.nums - lastI y.nums) 106 #[] b off c 0 gs.length gs.toArray w eg hcmp hH (by omega) (by simp) (by simp; omega)
 have hid : insertionSort (ltOf fun x y : RN w b => lastI x.nums - lastI y.nums) gs.toArray 0 gs.length = gs.toArray := by
  refine insertion_id _ _ _ hpos fun j hj => ?_
  have hx := List.getElem?_eq_getElem (l := gs) (i := j) (by omega)
  have hy := List.getElem?_eq_getElem (l := gs) (i := j + 1) hj
  have h1 := hs j _ _ hx hy
  rw [getElem!_pos gs.toArray (j + 1) (by simpa using hj), getElem!_pos gs.toArray j (by simp; omega)]
  unfold ltOf
  rw [decide_eq_false_iff_not]
  simp only [List.getElem_toArray]
  omega
 rw [hid, putRow_self RN.enc w b off gs.toArray hH] at hcon
 have hsz : gs.toArray.size = gs.length := by simp
 rw [hsz] at hcon
 have HC := zH hcon
 clear hcon hid hcmp eg hH hsz hw hs
 clear this hne
 have hst : Calls Tryz.prog 177 #[.slice (some ⟨b, off, none⟩) gs.length c, .int .i64 gs.length, .func (.func 106) #[] #[]] w fun e w' => e = .returned (.tuple #[]) ∧ Below w.heap.size w w' := by
  have n1 : ¬ (20 : Int) ≤ (gs.length : Int) := by omega
  have n2 : ¬ (20 : Int) < (gs.length : Int) := by omega
  have n3 : ¬ 20 ≤ gs.length := by omega
  have n4 : ¬ 20 < gs.length := by omega
  go_enter Tryz.func177, Tryz.ntmps177
  go_wp2_with fail
  go_loopw [7, 8] (fun x y W => x = .int .i64 0 ∧ y = .int .i64 20 ∧ W = w) (fun x y _ => 0)
  case atStart => exact ⟨rfl, rfl, rfl⟩
  case round =>
   obtain ⟨rfl, rfl, rfl⟩ := hrel
   go_wp2_with (go_at_call 226; refine HC.out.mono ?_; rintro e w2 ⟨rfl, nn, hw2⟩; have H2 := zH hw2; clear hw2)
   have hB : RowKit.Below wr.heap.size wr w2 := by rw [H2.out]; exact below_drewN (RowKit.Below.refl _ _) nn
   have HB := zH hB
   clear hB
   go_loopw [6] (fun x W => x = .int .i64 20 ∧ W = w2) (fun _ _ => 0)
   case atStart => exact ⟨rfl, rfl⟩
   case round =>
    obtain ⟨rfl, rfl⟩ := hrel
    go_wp2
    go_end0
    exact ⟨rfl, HB.out⟩
 have HST := zH hst
 clear hst
 go_enter Tryz.func105, Tryz.ntmps105
 go_wp2_with (go_at_call 177; refine HST.out.mono ?_; rintro e w2 ⟨rfl, hb2⟩)
 go_end0
 exact ⟨rfl, hb2⟩
end
section
open Go.RowKit
section
variable {P : Program} {ops : Array Oper} {Q : Exit → Act → World → Prop} {md : Region.Mode} {S : World → Prop} {L : Nat}
def chainOk (md : Region.Mode) (ops : Array Oper) (L i : Nat) (ch : List Nat) : Bool := (L :: ch).all fun c => match ops[c]? with | some o => o.after.any fun e => Region.binds md e && (i :: ch).contains e.on | none => false
def chainOff (listed : List Bool) (ch : List Nat) : Bool := ch.all fun c => (listed[c]?).getD true == false
theorem wpAnyL_first2 {i : Nat} {oi : Oper} {v : Value} (ch : List Nat) (hi : ops[i]? = some oi) (hch : chainOk md ops L i ch = true) (hsel : ∀ (j : Nat) (o : Oper) cs b, ops[j]? = some o → o.op ≠ .select cs b)
 (hQ : ∀ c a w, Q (.panic c) (a.put oi.dst v) w → Q (.panic c) a w) :
 ∀ (fuel : Nat) (listed : Array Bool) (a : Act) (w : World),
  (∀ j oj, ops[j]? = some oj → j ≠ i → listed.getD j true = false → (∀ e ∈ oj.after, Region.binds md e = true → e.on ≠ i) → oi.apart ops oj = true) →
  (∀ c ∈ ch, c ≠ i ∧ listed.getD c true = false) →
  i ∈ Region.ready md ops listed → YieldsIf P ops S oi v a → S w →
  wpAnyL P md ops Q S L fuel (listed.setIfInBounds i true) (a.put oi.dst v) w → wpAnyL P md ops Q S L (fuel + 1) listed a w := by
 have hno : ∀ (listed : Array Bool) (j : Nat), (∀ c ∈ ch, listed.getD c true = false) → i ∈ Region.ready md ops listed → j ∈ Region.ready md ops listed → j ∉ L :: ch := fun listed j hun hr hj hmem => by
  have h1 := (List.all_eq_true.1 hch) j hmem
  obtain ⟨hjun, oj, hoj, hall⟩ := mem_ready.1 hj
  rw [hoj] at h1
  simp only [Array.any_eq_true, Bool.and_eq_true] at h1
  obtain ⟨k, hk, hb, hc⟩ := h1
  have h2 := hall _ (Array.getElem_mem hk) hb
  rcases List.mem_cons.1 (by simpa using hc : oj.after[k].on ∈ i :: ch) with h3 | h3
  ·have h0 := (mem_ready.1 hr).1
   rw [h3] at h2
   rcases Nat.lt_or_ge i listed.size with h' | h'
   ·simp [h'] at h0 h2; rw [h0] at h2; cases h2
   ·simp [Array.getElem?_eq_none h'] at h2
  ·have h0 := hun _ h3
   rcases Nat.lt_or_ge oj.after[k].on listed.size with h' | h'
   ·simp [h'] at h0 h2; rw [h0] at h2; cases h2
   ·simp [h'] at h0
 intro fuel
 induction fuel with
 | zero =>
  intro listed a w _ _ hr hy hS H
  refine ⟨fun h => (by rw [h] at hr; cases hr), fun j hj => ?_⟩
  by_cases hji : j = i
  ·subst hji; exact hy.wpOp hi hS ⟨fun _ => hS, H⟩
  ·have := ready_mono hj hji
   rw [H.1] at this
   cases this
 | succ fuel ih =>
  intro listed a w hfree hun hr hy hS H
  refine ⟨fun h => (by rw [h] at hr; cases hr), fun j hj => ?_⟩
  by_cases hji : j = i
  ·subst hji; exact hy.wpOp hi hS ⟨fun _ => hS, H⟩
  ·have h1 := H.2 j (ready_mono hj hji)
   obtain ⟨hjun, oj, hoj, hall⟩ := mem_ready.1 hj
   have hnot : ∀ e ∈ oj.after, Region.binds md e = true → e.on ≠ i := fun e he hb heq => by
    have h1 := hall e he hb
    have h0 := (mem_ready.1 hr).1
    rw [heq] at h1
    rcases Nat.lt_or_ge i listed.size with h' | h'
    ·simp [h'] at h0 h1; rw [h0] at h1; cases h1
    ·simp [Array.getElem?_eq_none h'] at h1
   have hjn := hno listed j (fun c hc => (hun c hc).2) hr hj
   have hjL : j ≠ L := fun h => hjn (h ▸ List.mem_cons_self)
   have h2 := wpOp_putIf hoj (hfree j oj hoj hji hjun hnot) (fun cs b => hsel i oi cs b hi) (fun cs b => hsel j oj cs b hoj) hQ hy h1
   have hfree' : ∀ k ok, ops[k]? = some ok → k ≠ i → (listed.setIfInBounds j true).getD k true = false →
    (∀ e ∈ ok.after, Region.binds md e = true → e.on ≠ i) → oi.apart ops ok = true := fun k ok hk hki hun hno => by
    refine hfree k ok hk hki ?_ hno
    by_cases hjk : j = k
    ·subst hjk; exact hjun
    ·rw [getD_set_ne true hjk] at hun; exact hun
   have hun' : ∀ c ∈ ch, c ≠ i ∧ (listed.setIfInBounds j true).getD c true = false := fun c hc => ⟨(hun c hc).1, by
    have hjc : j ≠ c := fun h => hjn (h ▸ List.mem_cons_of_mem _ hc)
    rw [getD_set_ne true hjc]; exact (hun c hc).2⟩
   refine wpOp_mono (fun a' w' h3 => ⟨fun _ => h3.2.1 hjL, ih (listed.setIfInBounds j true) a' w' hfree' hun' (ready_mono hr (Ne.symm hji)) h3.1 (h3.2.1 hjL) ?_⟩) h2
   rw [Array.setIfInBounds_comm _ _ hji]
   exact h3.2.2
theorem take1C (ch : List Nat) (skip : List Nat) {i : Nat} {oi : Oper} {v : Value} {fuel : Nat} {listed : List Bool} {a : Act} {w : World} (hn : nxt skip listed 0 = i) (hi : ops[i]? = some oi)
 (hs : Region.noSelect ops = true) (hwt : chainOk md ops L i ch = true) (hof : chainOff listed ch = true) (hni : ch.contains i = false) (hf : Region.free md ops listed.toArray i = true) (hr : (Region.ready md ops listed.toArray).contains i = true)
 (hQ : ∀ c a w, Q (.panic c) (a.put oi.dst v) w → Q (.panic c) a w) (hy : YieldsIf P ops S oi v a) (hS : S w)
 (h : wpAnyL P md ops Q S L fuel (listed.set i true).toArray (a.put oi.dst v) w) : wpAnyL P md ops Q S L (fuel + 1) listed.toArray a w := by
 refine wpAnyL_first2 ch hi hwt (Region.noSelect_spec hs) hQ fuel _ a w (Region.free_spec hi hf) (fun c hc => ⟨fun he => ?_, ?_⟩) (by simpa using hr) hy hS (by simpa using h)
 ·rw [he] at hc
  rw [List.contains_eq_mem, decide_eq_false_iff_not] at hni
  exact hni hc
 ·have := (List.all_eq_true.1 hof) c hc
  rw [beq_iff_eq] at this
  rw [Array.getD_eq_getD_getElem?, List.getElem?_toArray]
  exact this
theorem takeCA (ch : List Nat) (skip : List Nat) {i : Nat} {oi : Oper} {v : Value} {fuel : Nat} {listed l' : List Bool} {a a' : Act} {w : World}
 (hn : nxt skip listed 0 = i := by simp only [nxt, List.contains_cons, List.contains_nil, Bool.or_false, Bool.or_self, Bool.true_or, cond_true, cond_false, Nat.zero_add, Nat.reduceAdd, Nat.reduceBEq, Bool.false_or]; rfl)
 (hi : ops[i]? = some oi := by rfl) (hs : Region.noSelect ops = true := by kernel_rfl) (hwt : chainOk md ops L i ch = true := by kernel_rfl) (hof : chainOff listed ch = true := by kernel_rfl) (hni : ch.contains i = false := by kernel_rfl) (hf : Region.free md ops listed.toArray i = true := by kernel_rfl) (hr : (Region.ready md ops listed.toArray).contains i = true := by kernel_rfl)
 (hy : YieldsIf P ops S oi v a := by first | (refine Or.inr ⟨by rfl, ?_⟩; rfl) | (refine Or.inl ⟨by rfl, ?_⟩; intro w hSw; (try dsimp only at hSw); go_simp; done) | (refine Or.inl ⟨by rfl, ?_⟩; intro w hSw; (try dsimp only at hSw); go_simp; with_reducible rfl))
 (hp : a.put oi.dst v = a' := by simp only [Act.put, List.getElem_toArray, List.getElem_cons_zero, List.getElem_cons_succ, List.setIfInBounds_toArray, List.set_cons_zero, List.set_cons_succ]; rfl) (hl : listed.set i true = l' := by simp only [List.set_cons_zero, List.set_cons_succ]; rfl) (hS : S w := by assumption)
 (hQ : ∀ c a w, Q (.panic c) (a.put oi.dst v) w → Q (.panic c) a w := by exact fun _ _ _ h => h) (h : wpAnyL P md ops Q S L fuel l'.toArray a' w) : wpAnyL P md ops Q S L (fuel + 1) listed.toArray a w := by
 subst hp; subst hl
 exact take1C ch skip hn hi hs hwt hof hni hf hr hQ hy hS h
end
end
section
section
variable {α : Type} [DecidableEq α] {o : α → α → Int}
theorem putO_len (m : α) : ∀ l : List α, (putO o l m).length ≤ l.length + 1
 | [] => by simp [putO]
 | u :: l => by
  rw [putO]
  split
  ·have := putO_len m l; simp only [List.length_cons]; omega
  ·split <;> simp
theorem foldl_len : ∀ (l m : List α), (l.foldl (putO o) m).length ≤ m.length + l.length
 | [], m => by simp
 | x :: l, m => by
  rw [List.foldl_cons]
  have h1 := foldl_len l (putO o m x)
  have h2 := putO_len (o := o) x m
  simp only [List.length_cons]
  omega
theorem setO_len (l : List α) : (setO o l).length ≤ l.length := by have := foldl_len (o := o) l []; simpa [setO] using this
end
end
section
open Go.RowKit Go.Shelf
structure RunAt (w : World) (R lo : Nat) (fv : Value) (vs : Nat → Value) (A : Nat → List Row) (cnt : Nat) : Prop where
 blk : ∃ cur : Array Value, w.heap[R]? = some (.cells cur 139 (0, 0)) ∧ cur[0]? = some fv ∧ (∀ p, p < 12 → cur[1 + p]? = some (vs p)) ∧ cur[13]? = some (.int .i64 cnt)
 at_ : ∀ p, p < 12 → LL w lo (vs p) (A p)
 apart : ∀ p q, p < 12 → q < 12 → p ≠ q → ∀ i, some i = (vs p).ownBlock → some i ≠ (vs q).ownBlock
def upV (vs : Nat → Value) (p : Nat) (v : Value) : Nat → Value := fun q => if q = p then v else vs q
def upA (A : Nat → List Row) (p : Nat) (l : List Row) : Nat → List Row := fun q => if q = p then A q ++ l else A q
theorem LL.fr {w W : World} {lo : Nat} {v : Value} {gs : List Row} {S : Nat → Prop} (h : LL w lo v gs) (hf : Fr S w W) (hv : ∀ i, some i = v.ownBlock → ¬ S i) (hS : ∀ i, S i → ∀ cur q, w.heap[i]? ≠ some (.cells cur 3 q)) : LL W lo v gs := by
 refine ⟨winC_away h.1 hf hv, fun p hp => ?_⟩
 obtain ⟨h1, h2, h3⟩ := h.2 p hp
 have hn : ∀ i, some i = p.1.ownBlock → ¬ S i := fun i hi hs => by
  obtain ⟨_, cur, q, hg⟩ := h3 i hi
  exact hS i hs cur q hg
 refine ⟨h1, rd_move h2 hf hn, fun i hi => ?_⟩
 obtain ⟨h4, cur, q, h5⟩ := h3 i hi
 exact ⟨h4, cur, q, (hf.block i (Array.getElem?_eq_some_iff.1 h5).1 (hn i hi)).trans h5⟩
theorem LL.type {w : World} {lo : Nat} {v : Value} {gs : List Row} (h : LL w lo v gs) : ∀ i, some i = v.ownBlock → ∀ cur q, w.heap[i]? ≠ some (.cells cur 3 q) := fun i hi cur q hg => by
 obtain ⟨_, cur', hg'⟩ := win_own_type h.1 i hi
 rw [hg'] at hg
 injection hg with hg
 injection hg with _ hg
 exact absurd hg (by decide)
theorem RunAt.type {w : World} {R lo : Nat} {fv : Value} {vs : Nat → Value} {A : Nat → List Row} {cnt : Nat} (h : RunAt w R lo fv vs A cnt) : ∀ cur q, w.heap[R]? ≠ some (.cells cur 3 q) := fun cur q hg => by
 obtain ⟨_, hb, _⟩ := h.blk
 rw [hb] at hg
 injection hg with hg
 injection hg with _ hg
 exact absurd hg (by decide)
theorem RunAt.other {w : World} {R lo lo' : Nat} {fv v : Value} {vs : Nat → Value} {A : Nat → List Row} {cnt : Nat} {gs : List Row} (h : RunAt w R lo fv vs A cnt) (g : LL w lo' v gs) : ∀ i, some i = v.ownBlock → i ≠ R := fun i hi he => by
 obtain ⟨_, hb, _⟩ := h.blk
 obtain ⟨_, cur', hg'⟩ := win_own_type g.1 i hi
 rw [he, hb] at hg'
 injection hg' with hg
 injection hg with _ hg
 exact absurd hg (by decide)
theorem RunAt.fr {w W : World} {R lo : Nat} {fv : Value} {vs : Nat → Value} {A : Nat → List Row} {cnt : Nat} {S : Nat → Prop} (h : RunAt w R lo fv vs A cnt) (hf : Fr S w W) (hR : ¬ S R) (hv : ∀ p, p < 12 → ∀ i, some i = (vs p).ownBlock → ¬ S i) (hS : ∀ i, S i → ∀ cur q, w.heap[i]? ≠ some (.cells cur 3 q)) : RunAt W R lo fv vs A cnt := by
 obtain ⟨cur, hb, h1, h2, h3⟩ := h.blk
 exact ⟨⟨cur, (hf.block R (Array.getElem?_eq_some_iff.1 hb).1 hR).trans hb, h1, h2, h3⟩, fun p hp => (h.at_ p hp).fr hf (hv p hp) hS, h.apart⟩
theorem RunAt.below {w W : World} {R lo : Nat} {fv : Value} {vs : Nat → Value} {A : Nat → List Row} {cnt : Nat} (h : RunAt w R lo fv vs A cnt) (hb : Below w.heap.size w W) : RunAt W R lo fv vs A cnt :=
 h.fr (S := fun _ => False) (zF hb) (fun h => h) (fun _ _ _ _ h => h) fun _ h => h.elim
theorem RunAt.lt {w : World} {R lo : Nat} {fv : Value} {vs : Nat → Value} {A : Nat → List Row} {cnt : Nat} (h : RunAt w R lo fv vs A cnt) : R < w.heap.size := by
 obtain ⟨cur, hb, _⟩ := h.blk
 exact (Array.getElem?_eq_some_iff.1 hb).1
theorem RunAt.cells {w : World} {R lo : Nat} {fv : Value} {vs : Nat → Value} {A : Nat → List Row} {cnt : Nat} (h : RunAt w R lo fv vs A cnt) : w.cell? ⟨R, 0, none⟩ = some fv ∧ (∀ p, p < 12 → w.cell? ⟨R, 1 + p, none⟩ = some (vs p)) ∧ w.cell? ⟨R, 13, none⟩ = some (.int .i64 cnt) ∧ ∀ j, w.frozen? ⟨R, j, none⟩ = false := by
 obtain ⟨cur, hb, h1, h2, h3⟩ := h.blk
 exact ⟨(zC hb 0).trans h1, fun p hp => (zC hb (1 + p)).trans (h2 p hp), (zC hb 13).trans h3, fun j => zK hb j⟩
theorem RunAt.put {w w1 : World} {R lo p : Nat} {fv v : Value} {vs : Nat → Value} {A : Nat → List Row} {cnt : Nat} {gs : List Row} (h : RunAt w R lo fv vs A cnt) (hp : p < 12) (hf : Fr (fun i => some i = (vs p).ownBlock) w w1)
 (hl : LL w1 lo v (A p ++ gs)) (hv : ∀ i, some i = v.ownBlock → some i = (vs p).ownBlock ∨ w.heap.size ≤ i) : RunAt (w1.setCell ⟨R, 1 + p, none⟩ v) R lo fv (upV vs p v) (upA A p gs) cnt := by
 obtain ⟨cur, hb, h1, h2, h3⟩ := h.blk
 have hR : ∀ i, some i = (vs p).ownBlock → i ≠ R := h.other (h.at_ p hp)
 have hb1 := (hf.block R h.lt fun hi => hR R hi rfl).trans hb
 have hfs := fr_setCell w1 ⟨R, 1 + p, none⟩ v
 have hsz : 1 + p < cur.size := (Array.getElem?_eq_some_iff.1 (h2 p hp)).1
 have ht : ∀ i, some i = (vs p).ownBlock → ∀ cur q, w.heap[i]? ≠ some (.cells cur 3 q) := (h.at_ p hp).type
 have htR : ∀ i, i = R → ∀ cur q, w1.heap[i]? ≠ some (.cells cur 3 q) := fun i hi cur' q hg => by
  rw [hi, hb1] at hg
  injection hg with hg
  injection hg with _ hg
  exact absurd hg (by decide)
 have hoR : ∀ {lo' : Nat} {u : Value} {ps : List Row}, LL w1 lo' u ps → ∀ i, some i = u.ownBlock → ¬ i = R := fun g i hi he => by
  obtain ⟨_, cur', hg'⟩ := win_own_type g.1 i hi
  rw [he, hb1] at hg'
  injection hg' with hg
  injection hg with _ hg
  exact absurd hg (by decide)
 refine ⟨⟨cur.setIfInBounds (1 + p) v, setCell_blk hb1 v, ?_, fun q hq => ?_, ?_⟩, fun q hq => ?_, fun q r hq hr hne i hi hj => ?_⟩
 ·rw [Array.getElem?_setIfInBounds_ne (by omega)]; exact h1
 ·unfold upV
  by_cases he : q = p
  ·rw [if_pos he, he, Array.getElem?_setIfInBounds_self_of_lt hsz]
  ·rw [if_neg he, Array.getElem?_setIfInBounds_ne (by omega)]; exact h2 q hq
 ·rw [Array.getElem?_setIfInBounds_ne (by omega)]; exact h3
 ·unfold upV upA
  by_cases he : q = p
  ·rw [if_pos he, if_pos he, he]
   exact hl.fr hfs (hoR hl) htR
  ·rw [if_neg he, if_neg he]
   have h1 := (h.at_ q hq).fr hf (fun i hi hj => h.apart p q hp hq (fun e => he e.symm) i hj hi) ht
   exact h1.fr hfs (hoR h1) htR
 ·unfold upV at hi hj
  by_cases hep : q = p
  ·rw [if_pos hep] at hi
   rw [if_neg (by omega)] at hj
   rcases hv i hi with h4 | h4
   ·exact h.apart p r hp hr (by omega) i h4 hj
   ·have := ((h.at_ r hr).ob i hj).2; omega
  ·rw [if_neg hep] at hi
   by_cases her : r = p
   ·rw [if_pos her] at hj
    rcases hv i hj with h4 | h4
    ·exact h.apart q p hq hp hep i hi h4
    ·have := ((h.at_ q hq).ob i hi).2; omega
   ·rw [if_neg her] at hj
    exact h.apart q r hq hr hne i hi hj
theorem RunAt.count {w : World} {R lo : Nat} {fv : Value} {vs : Nat → Value} {A : Nat → List Row} {cnt : Nat} (h : RunAt w R lo fv vs A cnt) (n : Nat) : RunAt (w.setCell ⟨R, 13, none⟩ (.int .i64 n)) R lo fv vs A n := by
 obtain ⟨cur, hb, h1, h2, h3⟩ := h.blk
 have hfs := fr_setCell w ⟨R, 13, none⟩ (.int .i64 n)
 have htR : ∀ i, i = R → ∀ cur q, w.heap[i]? ≠ some (.cells cur 3 q) := fun i hi => by rw [hi]; exact h.type
 refine ⟨⟨cur.setIfInBounds 13 (.int .i64 n), setCell_blk hb _, ?_, fun q hq => ?_, ?_⟩, fun q hq => (h.at_ q hq).fr hfs (fun i hi => h.other (h.at_ q hq) i hi) htR, h.apart⟩
 ·rw [Array.getElem?_setIfInBounds_ne (by omega)]; exact h1
 ·rw [Array.getElem?_setIfInBounds_ne (by omega)]; exact h2 q hq
 ·exact Array.getElem?_setIfInBounds_self_of_lt (Array.getElem?_eq_some_iff.1 h3).1
set_option maxRecDepth 1000000 in
set_option maxHeartbeats 32000000 in
theorem begin_any (R lo p cnt : Nat) (fv v : Value) (vs : Nat → Value) (A : Nat → List Row) (gs : List Row) (w : World) (h : RunAt w R lo fv vs A cnt) (hl : LL w lo v gs) (hp : p < 12) (hlo : lo ≤ w.heap.size)
 (hg : gs.length < 1000000000) (hA : (A p).length ≤ 1000) (hc : cnt ≤ 1000) (hv : ∀ q, q < 12 → ∀ i, some i = v.ownBlock → some i ≠ (vs q).ownBlock) :
 Calls Tryz.prog 158 #[.pointer (some ⟨R, 0, none⟩), .int .i64 p, v] w fun e w' => ∃ (v4 : Value) (gs' : List Row), nums gs' = setO ordL (nums gs) ∧ (∀ q ∈ gs', q ∈ gs) ∧ RunAt w' R lo fv (upV vs p v4) (upA A p gs') (cnt + gs'.length) ∧
  Fr (fun i => i = R ∨ some i = v.ownBlock ∨ some i = (vs p).ownBlock) w w' ∧ (∀ i, some i = v4.ownBlock → some i = (vs p).ownBlock ∨ w.heap.size ≤ i) ∧ (e = .returned (.tuple #[]) ∧ cnt + gs'.length ≤ 1000 ∨ e = .panicked tooMany ∧ 1000 < cnt + gs'.length) := by
 obtain ⟨a0, c0, rfl, _, _⟩ := hl.form
 have HU := zH (unique_any _ lo w gs hl hg)
 have HH := zH (zA h (zA hl hv))
 clear h hl hv
 go_enter Tryz.func158, Tryz.ntmps158
 go_wp2_with fail
 refine HU.out.mono ?_
 rintro e w2 ⟨v2, gs2, rfl, hn, hl2, ⟨a2, rfl⟩, hsub, hf2, hown⟩
 have hlen : gs2.length ≤ gs.length := by
  have h1 : (nums gs2).length ≤ (nums gs).length := by rw [hn]; exact setO_len _
  rwa [nums_len, nums_len] at h1
 have hr2 : RunAt w2 R lo fv vs A cnt := HH.out.1.fr hf2 (fun hi => HH.out.1.other HH.out.2.1 R hi rfl) (fun q hq i hi hj => HH.out.2.2 q hq i hj hi) HH.out.2.1.type
 have hAp := hr2.at_ p hp
 obtain ⟨a1, c1, e1, _, _⟩ := hAp.form
 have hcl := hr2.cells
 have n1 : (0 : Int) ≤ (p : Int) := by omega
 have n2 : (p : Int) < 12 := by omega
 have hs : ∀ W : World, W.heap[R]? = w2.heap[R]? → W.cell? ⟨R, 1 + p, none⟩ = some (vs p) := fun W hW => (World.cell?_of_block hW).trans (hcl.2.1 p hp)
 have HS := zH hs
 obtain ⟨i0, hi0, hz0⟩ := Option.map_eq_some_iff.1 info_row
 simp only [Prod.mk.injEq] at hz0
 have hap := run_append_rd (P := Tryz.prog) w2.drew 44 44 31 i0 _ 1 24 Tryz.underlying44 hi0 hz0.1 hz0.2.1 hz0.2.2 rfl (by decide) _ _ (A p).length _ (winC_block (hAp.below (Below.refl _ _).drew).1) _ gs2.length _ (hl2.below (Below.refl _ _).drew).rdC (by unfold maxLen; omega) (by omega)
 rw [e1] at hs hap
 have HAP := zH hap
 have hlt := hr2.lt
 have H2 := zH (zA hn (zA hsub (zA hr2 (zA hl2 (zA hf2 (zA e1 hown))))))
 have hsz2 := hf2.size
 have HS1 := zH hs
 clear hn hl2 hsub hf2 hown hr2 hAp hcl hs hap hi0 hz0 e1
 go_wp2_with fail
 refine wp_region_takesL 14 13 (S := fun W => W.cell? ⟨R, 1 + p, none⟩ = some (.slice a1 (A p).length c1)) (by kernel_rfl) (by kernel_rfl) rfl (HS1.out _ rfl) (fun hHeld => ?_)
 try simp only [List.reduceReplicate]
 repeat refine takeLA [9, 10, 11, 12, 13] (h := ?_)
 refine takeCA [11, 12] [9] (h := ?_)
 refine takeCA [12] [9] (h := ?_)
 refine appendL [] (i := ?_) (oi := ?_) (s := ?_) (x := ?_) (t := ?_) (v := ?_) (xv := ?_) (R := ?_) ?_ ?_ ?_ ?_ ?_ ?_ ?_ ?_ ?_
 rotate_left 8
 ·simp only [nxt, List.contains_cons, List.contains_nil, Bool.or_false, Bool.or_self, Bool.true_or, cond_true, cond_false, Nat.zero_add, Nat.reduceAdd, Nat.reduceBEq, Bool.false_or]; rfl
 ·rfl
 ·kernel_rfl
 ·rfl
 ·rfl
 ·rfl
 ·rfl
 ·exact HAP.out
 rintro v4 w4 ⟨hwin4, hfr4, hsz4⟩
 obtain ⟨a4, c4, rfl, _, _⟩ := zS hwin4
 have hR4 := (hfr4.block R hlt fun hi => H2.out.2.2.1.other (H2.out.2.2.1.at_ p hp) R (by rw [H2.out.2.2.2.2.2.1]; exact hi) rfl)
 have hH4 := HS1.out w4 hR4
 have hr4 : RunAt w4 R lo fv vs A cnt → True := fun _ => trivial
 have H4 := zH (zA hwin4 (zA hfr4 hR4))
 clear hwin4 hr4 hR4 hsz4
 refine ⟨hH4, fun hHeld => ?_⟩
 simp only [Act.put, List.getElem_toArray, List.getElem_cons_zero, List.getElem_cons_succ, List.setIfInBounds_toArray, List.set_cons_zero, List.set_cons_succ]
 try simp only [List.reduceReplicate]
 repeat refine takeLA [13] (h := ?_)
 have hf4 : w4.frozen? ⟨R, 1 + p, none⟩ = false := World.frozen?_of_block H4.out.2.2 |>.trans (H2.out.2.2.1.cells.2.2.2 _)
 clear hfr4
 refine lastA [] (h := ?_)
 refine wpAnyL_done (by kernel_rfl) ?_ _
 clear hHeld hH4 hf4
 have hput : RunAt (w4.setCell ⟨R, 1 + p, none⟩ (.slice a4 ((A p).length + gs2.length) c4)) R lo fv (upV vs p (.slice a4 ((A p).length + gs2.length) c4)) (upA A p gs2) cnt := by
  have hAp := H2.out.2.2.1.at_ p hp
  have hf : Fr (fun i => some i = (vs p).ownBlock) w2 w4 := by
   rw [H2.out.2.2.2.2.2.1]
   exact zT (zF ((Below.refl _ _).drew)) H4.out.2.1 fun i _ h => h
  refine H2.out.2.2.1.put hp hf ⟨?_, fun q hq => ?_⟩ fun i hi => ?_
  ·refine (?_ : WinC _ _ _ _ _ _ _)
   rw [List.length_append, List.flatMap_append]
   exact zN H4.out.1 fun i hi => by
    have h2 : w2.drew.heap.size = w2.heap.size := rfl
    rcases hi with h | h
    ·exact h.1.2.1
    ·omega
  ·rcases List.mem_append.1 hq with h | h
   ·exact (hAp.2 q h).keep hAp hf
   ·exact (H2.out.2.2.2.1.2 q h).keep hAp hf
  ·rw [H2.out.2.2.2.2.2.1]
   rcases (winC_ob H4.out.1 i hi).1 with h | h
   ·exact .inl h.1.1
   ·exact .inr (Nat.le_of_eq h.symm)
 have hfr5 : Fr (fun i => i = R ∨ some i = (Value.slice a0 gs.length c0).ownBlock ∨ some i = (vs p).ownBlock) w (w4.setCell ⟨R, 1 + p, none⟩ (.slice a4 ((A p).length + gs2.length) c4)) := by
  have f2 : Fr (fun i => some i = (vs p).ownBlock) w2 w4 := by
   rw [H2.out.2.2.2.2.2.1]
   exact zT (zF ((Below.refl _ _).drew)) H4.out.2.1 fun i _ h => h
  have f3 := fr_setCell w4 ⟨R, 1 + p, none⟩ (.slice a4 ((A p).length + gs2.length) c4)
  exact zT (fr_mono H2.out.2.2.2.2.1 fun i h => .inr (.inl h)) (zT (fr_mono f2 fun i h => .inr (.inr h)) (fr_mono f3 fun i h => .inl h) fun i _ h => h) fun i _ h => h
 have hown4 : ∀ i, some i = (Value.slice a4 ((A p).length + gs2.length) c4).ownBlock → some i = (vs p).ownBlock ∨ w.heap.size ≤ i := fun i hi => by
  rw [H2.out.2.2.2.2.2.1]
  rcases (winC_ob H4.out.1 i hi).1 with h | h
  ·exact .inl h.1.1
  ·have h2 : w2.drew.heap.size = w2.heap.size := rfl
   exact .inr (by omega)
 generalize hw5 : w4.setCell ⟨R, 1 + p, none⟩ (.slice a4 ((A p).length + gs2.length) c4) = w5 at hput hfr5 ⊢
 have hcl := hput.cells
 have c13 := hcl.2.2.1
 have f13 := hcl.2.2.2 13
 have hwr : IntKind.i64.wrap ((cnt : Int) + (gs2.length : Int)) = ((cnt + gs2.length : Nat) : Int) := by rw [Go.IntWalk.i64_in _ (by omega)]; omega
 have hcn := hput.count (cnt + gs2.length)
 have hc13 := hcn.cells.2.2.1
 have hfr6 : Fr (fun i => i = R ∨ some i = (Value.slice a0 gs.length c0).ownBlock ∨ some i = (vs p).ownBlock) w (w5.setCell ⟨R, 13, none⟩ (.int .i64 ((cnt + gs2.length : Nat) : Int))) := zT hfr5 (fr_mono (fr_setCell w5 ⟨R, 13, none⟩ _) fun i h => .inl h) fun i _ h => h
 have H6 := zH (zA H2.out.1 (zA H2.out.2.1 (zA hcn (zA hfr6 hown4))))
 have HW5 := zH hw5
 obtain ⟨N, hN⟩ : ∃ N, N = cnt + gs2.length := ⟨_, rfl⟩
 rw [← hN] at hwr hc13
 have HN := zH hN
 clear hput hfr5 hown4 hcl hcn hfr6 hw5 hN
 by_cases hle : N ≤ 1000
 ·have HU2 := zH (fun W => upto_few (N : Int) 1000 (by omega) W)
  have HLE := zH hle
  clear hle
  go_wp2_with (go_at_call 213; refine (HU2.out _).mono ?_; rintro e w7 ⟨rfl, rfl⟩)
  go_end0
  refine ⟨_, gs2, H6.out.1, H6.out.2.1, ?_, ?_, H6.out.2.2.2.2, .inl ⟨rfl, by have := HLE.out; have := HN.out; omega⟩⟩
  ·rw [HN.out]; exact H6.out.2.2.1
  ·rw [HN.out]; exact H6.out.2.2.2.1
 ·have HU2 := zH (fun W => upto_many (N : Int) 1000 (by omega) W)
  have HLE := zH hle
  clear hle
  go_wp2_with fail
  refine (HU2.out _).mono ?_
  rintro e w7 ⟨rfl, rfl⟩
  refine ⟨rfl, _, gs2, H6.out.1, H6.out.2.1, ?_, ?_, H6.out.2.2.2.2, .inr ⟨rfl, by have := HLE.out; have := HN.out; omega⟩⟩
  ·rw [HN.out]; exact H6.out.2.2.1
  ·rw [HN.out]; exact H6.out.2.2.2.1
end
section
def testAt (a : Auto) (p : Int) : Test := (a.tests[p.toNat]?).getD zeroT
def lkOf (e : Edge) : Option Test := if e.lack then some e.t else none
def firstC (a : Auto) (l : List Ev) (i p : Int) (fs : List Int) : List (List Int) := (fs.filter fun f => decide (f = p) && holdsP (testAt a f) (evAt l i)).map fun _ => [i]
def onC (l : List Ev) (An : Nat → List (List Int)) (i : Int) (e : Edge) : List (List Int) := ((An e.from_.toNat).filter fun x => linkP l e.n (lkOf e) (lastI x) i).map (· ++ [i])
def followC (a : Auto) (l : List Ev) (An : Nat → List (List Int)) (i p : Int) (es : List Edge) : List (List Int) := es.flatMap fun e => if e.to_ = p ∧ holdsP (testAt a e.to_) (evAt l i) = true then onC l An i e else []
def progC (a : Auto) (l : List Ev) (An : Nat → List (List Int)) (i p : Int) : List (List Int) := firstC a l i p a.first ++ followC a l An i p a.follow
theorem mem_progC {a : Auto} {l : List Ev} {An : Nat → List (List Int)} {i p : Int} {x : List Int} :
 x ∈ progC a l An i p ↔ (∃ f ∈ a.first, f = p ∧ holdsP (testAt a f) (evAt l i) = true ∧ x = [i]) ∨ ∃ e ∈ a.follow, e.to_ = p ∧ holdsP (testAt a e.to_) (evAt l i) = true ∧ ∃ y ∈ An e.from_.toNat, linkP l e.n (lkOf e) (lastI y) i = true ∧ x = y ++ [i] := by
 unfold progC firstC followC onC
 rw [List.mem_append]
 refine or_congr ?_ ?_
 ·simp only [List.mem_map, List.mem_filter, Bool.and_eq_true, decide_eq_true_eq]
  constructor
  ·rintro ⟨f, ⟨h1, h2, h3⟩, rfl⟩
   exact ⟨f, h1, h2, h3, rfl⟩
  ·rintro ⟨f, h1, h2, h3, rfl⟩
   exact ⟨f, ⟨h1, h2, h3⟩, rfl⟩
 ·rw [List.mem_flatMap]
  constructor
  ·rintro ⟨e, he, hx⟩
   split at hx
   ·rename_i hc
    simp only [List.mem_map, List.mem_filter] at hx
    obtain ⟨y, ⟨hy, hl⟩, rfl⟩ := hx
    exact ⟨e, he, hc.1, hc.2, y, hy, hl, rfl⟩
   ·cases hx
  ·rintro ⟨e, he, h1, h2, y, hy, hl, rfl⟩
   refine ⟨e, he, ?_⟩
   rw [if_pos ⟨h1, h2⟩]
   simp only [List.mem_map, List.mem_filter]
   exact ⟨y, ⟨hy, hl⟩, rfl⟩
theorem prog_next {a : Auto} {l : List Ev} {An : Nat → List (List Int)} {own : List Beg} {i : Int} (h : Kept An own) (hf : ∀ e ∈ a.follow, 0 ≤ e.from_) (p : Nat) :
 setO ordL (progC a l An i p) = nextA (candB a l own i) p := by
 refine (setO_unique ordL_laws (setO_sorted ordL_laws _) fun x => ?_).symm
 have hm : x ∈ nextA (candB a l own i) p ↔ (x, (p : Int)) ∈ candB a l own i := mem_nextA
 show x ∈ nextA (candB a l own i) p ↔ _
 rw [hm, mem_progC]
 unfold candB
 rw [List.mem_append]
 refine or_congr ?_ ?_
 ·simp only [List.mem_map, List.mem_filter]
  constructor
  ·rintro ⟨f, ⟨h1, h2⟩, he⟩
   obtain ⟨rfl, rfl⟩ := Prod.mk.inj he
   exact ⟨_, h1, rfl, h2, rfl⟩
  ·rintro ⟨f, h1, rfl, h2, rfl⟩
   exact ⟨_, ⟨h1, h2⟩, rfl⟩
 ·simp only [List.mem_flatMap, List.mem_map, List.mem_filter, edgeOk, Bool.and_eq_true, decide_eq_true_eq]
  constructor
  ·rintro ⟨⟨y, q⟩, hy, e, ⟨he, ⟨h1, h2⟩, h3⟩, heq⟩
   obtain ⟨rfl, h4⟩ := Prod.mk.inj heq
   dsimp only at h1 h3
   refine ⟨e, he, h4, h2, y, (h.mem _ _).2 ?_, h3, rfl⟩
   have := hf e he
   rw [show ((e.from_.toNat : Nat) : Int) = e.from_ by omega, h1]
   exact hy
  ·rintro ⟨e, he, h4, h2, y, hy, h3, rfl⟩
   have h5 := hf e he
   have h6 := (h.mem _ _).1 hy
   rw [show ((e.from_.toNat : Nat) : Int) = e.from_ by omega] at h6
   exact ⟨(y, e.from_), h6, e, ⟨he, ⟨rfl, h2⟩, h3⟩, by rw [h4]⟩
structure KeptI (An : Nat → List (List Int)) (own : List Beg) (i : Int) : Prop where
 kept : Kept An own
 inc : ∀ y ∈ own, y.1 ≠ [] ∧ y.1.Pairwise (· < ·) ∧ ∀ j ∈ y.1, 0 ≤ j ∧ j < i
theorem keptI_zero : KeptI (fun _ => []) [] 0 :=
 ⟨⟨fun p x => by simp, fun p => List.nodup_nil, List.nodup_nil, fun y hy => by cases hy⟩, fun y hy => by cases hy⟩
theorem cand_inc {a : Auto} {l : List Ev} {An : Nat → List (List Int)} {own : List Beg} {i : Int} (h : KeptI An own i) (hi : 0 ≤ i) : ∀ y ∈ candB a l own i, y.1 ≠ [] ∧ y.1.Pairwise (· < ·) ∧ (∀ j ∈ y.1, 0 ≤ j ∧ j < i + 1) ∧ i ∈ y.1 := by
 intro y hy
 unfold candB at hy
 rcases List.mem_append.1 hy with hy | hy
 ·obtain ⟨f, _, rfl⟩ := List.mem_map.1 hy
  exact ⟨by simp, by simp, fun j hj => by simp at hj; omega, by simp⟩
 ·obtain ⟨z, hz, hy⟩ := List.mem_flatMap.1 hy
  obtain ⟨e, _, rfl⟩ := List.mem_map.1 hy
  obtain ⟨h1, h2, h3⟩ := h.inc z hz
  refine ⟨by simp, ?_, fun j hj => ?_, by simp⟩
  ·exact List.pairwise_append.2 ⟨h2, by simp, fun a ha b hb => by simp at hb; subst hb; exact (h3 a ha).2⟩
  ·rcases List.mem_append.1 hj with hj | hj
   ·have := h3 j hj; omega
   ·simp at hj; omega
theorem keptI_step {a : Auto} {l : List Ev} {An : Nat → List (List Int)} {own : List Beg} {i : Int} (h : KeptI An own i) (hi : 0 ≤ i) (hp : ∀ f ∈ a.first, 0 ≤ f ∧ f < 12) (hf : ∀ e ∈ a.follow, 0 ≤ e.from_ ∧ 0 ≤ e.to_ ∧ e.to_ < 12) :
 KeptI (fun p => An p ++ setO ordL (progC a l An i p)) (own ++ dedupB (candB a l own i)) (i + 1) := by
 have hc := cand_inc (a := a) (l := l) h hi
 have hr : ∀ y ∈ candB a l own i, 0 ≤ y.2 ∧ y.2 < 12 := fun y hy => by
  unfold candB at hy
  rcases List.mem_append.1 hy with hy | hy
  ·obtain ⟨f, hf, rfl⟩ := List.mem_map.1 hy
   exact hp f (List.mem_filter.1 hf).1
  ·obtain ⟨z, hz, hy⟩ := List.mem_flatMap.1 hy
   obtain ⟨e, he, rfl⟩ := List.mem_map.1 hy
   exact (hf e (List.mem_filter.1 he).1).2
 have hd : ∀ y ∈ candB a l own i, y ∉ own := fun y hy ho => by
  have h1 := (hc y hy).2.2.2
  have h2 := ((h.inc y ho).2.2 i h1).2
  omega
 refine ⟨?_, fun y hy => ?_⟩
 ·have e : (fun p => An p ++ setO ordL (progC a l An i p)) = fun p => An p ++ nextA (candB a l own i) p := funext fun p => by rw [prog_next h.kept (fun e he => (hf e he).1)]
  rw [e]
  exact kept_step h.kept hr hd
 ·rcases List.mem_append.1 hy with hy | hy
  ·obtain ⟨h1, h2, h3⟩ := h.inc y hy
   exact ⟨h1, h2, fun j hj => by have := h3 j hj; omega⟩
  ·obtain ⟨h1, h2, h3, _⟩ := hc y (mem_dedupB.1 hy)
   exact ⟨h1, h2, h3⟩
theorem kept_le {A : Nat → List (List Int)} : ∀ (k p : Nat), p < k → (A p).length ≤ sumA A k
 | 0, p, h => by omega
 | k + 1, p, h => by
  rw [sumA]
  by_cases e : p = k
  ·subst e; omega
  ·have := kept_le (A := A) k p (by omega); omega
theorem sumA_app (A B : Nat → List (List Int)) : ∀ k, sumA (fun p => A p ++ B p) k = sumA A k + sumA B k
 | 0 => rfl
 | k + 1 => by rw [sumA, sumA, sumA, sumA_app A B k, List.length_append]; omega
theorem sumA_mono (B : Nat → List (List Int)) : ∀ {j k : Nat}, j ≤ k → sumA B j ≤ sumA B k
 | j, 0, h => by obtain rfl : j = 0 := by omega
                 exact Nat.le_refl _
 | j, k + 1, h => by
  by_cases e : j = k + 1
  ·subst e; exact Nat.le_refl _
  ·have := sumA_mono B (j := j) (k := k) (by omega); rw [sumA]; omega
end
end Go.Proofs.YtgiploddoffmjaaGreat
