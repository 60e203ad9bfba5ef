/- My texts, joined: W56. -/
import Derived.Below
import Derived.BigQuiet
import Derived.Deep.AppendLies
import Derived.Deep.DeepCutAuto
import Derived.Deep.QuietTactic
import Derived.Deep.RegionHeld
import Derived.Deep.RegionHeld3
import Derived.Deep.RegionLaw
import Derived.Defers
import Derived.Ground.Names2Prog
import Derived.Ground.Names8Prog
import Derived.Ground.SlsfProg
import Derived.Handy
import Derived.KernelRfl
import Derived.Laws.AppendOwn
import Derived.Laws.AppendOwnNone
import Derived.Laws.CopyRow
import Derived.Laws.Pointers
import Derived.Laws.StructEq
import Derived.Lib.Hide
import Derived.Lib.Overlaps
import Derived.LoopIn
import Derived.LoopN
import Derived.LoopNIn
import Derived.LoopTactic
import Derived.MapKept
import Derived.Maps.AppendAt
import Derived.Maps.OwnOps
import Derived.Maps.RangeRun
import Derived.Maps.RangeWalk
import Derived.Outline
import Derived.OwnWalk
import Derived.OwnWalkIn
import Derived.RangeFuncBound
import Derived.RangeFuncCalls
import Derived.RangeFuncLeaves
import Derived.RangeFuncNested
import Derived.Recover
import Derived.Shelf.Abstract
import Derived.Shelf.RegionOpen
import Derived.Shelf.SlGeneric
import Derived.Shelf.SlLaysF0
import Derived.Shelf.SlSortCmp.HeapSort1
import Derived.Shelf.SlSortCmp.Insertion
import Derived.Shelf.SlSortCmp.Insertion1
import Derived.Shelf.SlSortCmp.Median1
import Derived.Shelf.SlSortCmp.NoneTotal
import Derived.Shelf.SlSortCmp.PartialInsertion1
import Derived.Shelf.SlSortCmp.Partition1
import Derived.Shelf.SlSortCmp.PartitionEqual1
import Derived.Shelf.SlSortCmp.Pdq1
import Derived.Shelf.SlSortCmp.Pivot1
import Derived.Shelf.SlSortCmp.ReverseRange1
import Derived.Shelf.SlSortCmp.SiftDown1
import Derived.Shelf.SlSortCmp.Whole1
import Derived.Shelf.SlSortCmp.WholeK
import Derived.Shelf.Slices.In.SortNone
import Derived.Shelf.Small.Bits
import Derived.Shelf.Sort.Plain
import Derived.Shelf.Spec.SlicesGrow
import Derived.TacticsInMore
import Derived.Test.YtgiploddoffmjaaGreatProg
import Derived.WalkKit
import Derived.WalkLawsBesides
import Derived.WalkSpells
import Derived.Test.YtgiploddoffmjaaGreatM0
import Derived.Test.YtgiploddoffmjaaGreatM1
import Derived.Test.YtgiploddoffmjaaGreatM2
import Derived.Test.YtgiploddoffmjaaGreatM3
import Derived.Test.YtgiploddoffmjaaGreatM4
import Derived.Test.YtgiploddoffmjaaGreatM5
import Derived.Test.YtgiploddoffmjaaGreatM6
import Derived.Test.YtgiploddoffmjaaGreatM8
import Derived.Test.YtgiploddoffmjaaGreatM9
import Derived.Test.YtgiploddoffmjaaGreatM10
import Derived.Test.YtgiploddoffmjaaGreatM11
import Derived.Test.YtgiploddoffmjaaGreatM12
import Derived.Test.YtgiploddoffmjaaGreatM13
import Derived.Test.YtgiploddoffmjaaGreatM18
import Derived.Test.YtgiploddoffmjaaGreatM19
import Derived.Test.YtgiploddoffmjaaGreatM20
import Derived.Test.YtgiploddoffmjaaGreatM21
import Derived.Test.YtgiploddoffmjaaGreatM22
import Derived.Test.YtgiploddoffmjaaGreatXMatchAutos1
import Derived.Test.YtgiploddoffmjaaGreatXMatchAutos2
import Derived.Test.YtgiploddoffmjaaGreatXMatchAutos3
import Derived.Test.YtgiploddoffmjaaGreatXMatchAutos4
set_option linter.unusedVariables false
set_option linter.unusedSimpArgs false
set_option linter.unusedSectionVars false
set_option maxRecDepth 10000
namespace Go.Proofs.YtgiploddoffmjaaGreat
section
open Go.RowKit Go.Shelf
theorem winC_empty (k e : Nat) (w : World) : WinC k e (w.alloc (.cells #[] e)) (.slice (some ⟨w.heap.size, 0, none⟩) 0 0) (fun i => w.heap.size ≤ i) 0 [] :=
 ⟨by simp, .inr ⟨w.heap.size, 0, 0, #[], rfl, Nat.le_refl _, heap_alloc_new w _, Nat.le_refl _, by simp [maxLen], by simp, by simp⟩⟩
theorem rdC_cut {α : Type} {enc : α → List Value} {k : Nat} (hk : ∀ x, (enc x).length = k) (hk0 : 0 < k) (h1 : ∀ x, ∀ u ∈ enc x, u.oneCell' = true) {w : World} {b off n c : Nat} {xs : List α} (h : Rd enc k w (.slice (some ⟨b, off, none⟩) n c) xs) (lo m : Nat) (hhi : lo + m ≤ xs.length) (off' c' : Nat) (ho : 0 < m → off' = off + lo * k) :
 RdC k w (.slice (some ⟨b, off', none⟩) m c') m (((xs.drop lo).take m).flatMap enc) := by
 have := rdC_of_rd hk hk0 h1 (rd_cut h lo (lo + m) (by omega) hhi off' c' (fun h => ho (by omega)))
 rw [show lo + m - lo = m by omega] at this
 have hl : ((xs.drop lo).take m).length = m := by simp; omega
 rwa [hl] at this
theorem rdC_zero (k : Nat) (w : World) (a : Option Addr) (c : Nat) : RdC k w (.slice a 0 c) 0 [] := ⟨by simp, by simp, a, c, rfl, fun h => absurd h (by simp)⟩
set_option maxRecDepth 1000000 in
set_option maxHeartbeats 64000000 in
theorem refPutEdge_any (v : Value) (S : Nat → Prop) (l : List Edge) (x : Edge) (w : World) (hwn : Win edgeC 7 123 w v S l) (hx : edgeSm x) (hs : ∀ u ∈ l, edgeSm u) (hl : l.length < 100000) :
 Calls Tryz.prog 252 #[v, .agg (edgeA x)] w fun e w' => ∃ v', e = .returned v' ∧ Win edgeC 7 123 w' v' (fun i => S i ∨ w.heap.size ≤ i) (putO edgeOrd l x) ∧ Below w.heap.size w w' := by
 have hr := win_rd edge_len hwn
 obtain ⟨a, c, rfl⟩ : ∃ a c, v = .slice a l.length c := by obtain ⟨_, a, c, rfl, _⟩ := hr; exact ⟨a, c, rfl⟩
 have HR := zH hr
 have HWN := zH hwn
 have hnc := win_none hwn
 have HS := zH (zA hx hs)
 have HPA := zH (putO_at edgeOrd_laws x l)
 clear hr hx hs hwn
 obtain ⟨r, hr⟩ : ∃ r, r = putO edgeOrd l x := ⟨_, rfl⟩
 rw [← hr] at HPA ⊢
 clear hr
 obtain ⟨xf, xt, xn, xl, ⟨xs, xlo, xhi⟩⟩ := x
 simp only [edgeA]
 go_enter Tryz.func252, Tryz.ntmps252
 go_wp2_with fail
 refine zX (G := fun W => Code.wp _ _ _ _ W) w _ _ fun W1 hb1 hz1 hx1 => ?_
 have hcx : ∀ W, Below W1.heap.size W1 W → W.cell? ⟨w.heap.size, 0, none⟩ = some (.int .i64 xf) ∧ W.cell? ⟨w.heap.size, 1, none⟩ = some (.int .i64 xt) ∧ W.cell? ⟨w.heap.size, 2, none⟩ = some (.int .i64 xn) ∧ W.cell? ⟨w.heap.size, 3, none⟩ = some (.bool xl) ∧ W.cell? ⟨w.heap.size, 4, none⟩ = some (.int .i64 xs) ∧ W.cell? ⟨w.heap.size, 5, none⟩ = some (.int .i64 xlo) ∧ W.cell? ⟨w.heap.size, 6, none⟩ = some (.int .i64 xhi) := fun W hW => ⟨zB hW (zC hx1 0), zB hW (zC hx1 1), zB hW (zC hx1 2), zB hW (zC hx1 3), zB hW (zC hx1 4), zB hW (zC hx1 5), zB hW (zC hx1 6)⟩
 have HC := zH (zA hb1 hcx)
 have hz1' : W1.heap.size = w.heap.size + 1 := hz1
 clear hcx hb1 hx1 hz1
 go_loopw [5] (fun i W => ∃ (k : Nat), i = .int .i64 k ∧ k ≤ l.length ∧ (∀ (j : Nat) (u : Edge), l[j]? = some u → j < k → edgeOrd u ⟨xf, xt, xn, xl, ⟨xs, xlo, xhi⟩⟩ < 0) ∧ Below W1.heap.size W1 W) (fun i _ => l.length - (intOf i).toNat)
 case atStart => exact ⟨0, rfl, by omega, fun j u _ h => absurd h (by omega), Below.refl _ _⟩
 case round =>
  obtain ⟨k, rfl, hnl, hi, hB⟩ := hrel
  have hBw := HC.out.1.trans (hB.mono HC.out.1.size)
  by_cases hlt : k < l.length
  ·have hx := List.getElem?_eq_getElem hlt
   generalize l[k] = u at hx
   have hus := HS.out.2 u (List.mem_of_getElem? hx)
   obtain ⟨uf, ut, un, ul, ⟨us, ulo, uhi⟩⟩ := u
   obtain ⟨b, off, rfl, _, hc⟩ := rd_at (HR.out.below hBw) hx
   have n1 : (k : Int) < (l.length : Int) := by omega
   have hord := fun W => refEdgeOrd_any ⟨uf, ut, un, ul, ⟨us, ulo, uhi⟩⟩ ⟨xf, xt, xn, xl, ⟨xs, xlo, xhi⟩⟩ W hus HS.out.1
   obtain ⟨o, ho⟩ : ∃ o, o = edgeOrd ⟨uf, ut, un, ul, ⟨us, ulo, uhi⟩⟩ ⟨xf, xt, xn, xl, ⟨xs, xlo, xhi⟩⟩ := ⟨_, rfl⟩
   simp only [← ho] at hord
   have HE := zH hord
   have hcs5 : ∀ W, Below wr.heap.size wr W → W.cell? ⟨b, off + k * 7, none⟩ = some (.int .i64 uf) ∧ W.cell? ⟨b, off + k * 7 + 1, none⟩ = some (.int .i64 ut) ∧ W.cell? ⟨b, off + k * 7 + 2, none⟩ = some (.int .i64 un) ∧ W.cell? ⟨b, off + k * 7 + 3, none⟩ = some (.bool ul) ∧ W.cell? ⟨b, off + k * 7 + 4, none⟩ = some (.int .i64 us) ∧ W.cell? ⟨b, off + k * 7 + 5, none⟩ = some (.int .i64 ulo) ∧ W.cell? ⟨b, off + k * 7 + 6, none⟩ = some (.int .i64 uhi) ∧ W.cell? ⟨w.heap.size, 0, none⟩ = some (.int .i64 xf) ∧ W.cell? ⟨w.heap.size, 1, none⟩ = some (.int .i64 xt) ∧ W.cell? ⟨w.heap.size, 2, none⟩ = some (.int .i64 xn) ∧ W.cell? ⟨w.heap.size, 3, none⟩ = some (.bool xl) ∧ W.cell? ⟨w.heap.size, 4, none⟩ = some (.int .i64 xs) ∧ W.cell? ⟨w.heap.size, 5, none⟩ = some (.int .i64 xlo) ∧ W.cell? ⟨w.heap.size, 6, none⟩ = some (.int .i64 xhi) := fun W hW => ⟨zB hW (hc 0 _ rfl), zB hW (hc 1 _ rfl), zB hW (hc 2 _ rfl), zB hW (hc 3 _ rfl), zB hW (hc 4 _ rfl), zB hW (hc 5 _ rfl), zB hW (hc 6 _ rfl), HC.out.2 W (hB.trans (hW.mono hB.size))⟩
   have HS5 := zH hcs5
   have HWD := zH ((Below.refl wr.heap.size wr).drew)
   have HX := zH (zA hi (zA hB (zA hBw (zA hx ho))))
   have E102 := zH (enters_of Tryz.func102 (by kernel_rfl) rfl)
   clear hi hB hBw hx ho hord hcs5 hc hus
   go_wp2_with fail
   refine zR 13 (S := fun W => W.cell? ⟨b, off + k * 7, none⟩ = some (.int .i64 uf) ∧ W.cell? ⟨b, off + k * 7 + 1, none⟩ = some (.int .i64 ut) ∧ W.cell? ⟨b, off + k * 7 + 2, none⟩ = some (.int .i64 un) ∧ W.cell? ⟨b, off + k * 7 + 3, none⟩ = some (.bool ul) ∧ W.cell? ⟨b, off + k * 7 + 4, none⟩ = some (.int .i64 us) ∧ W.cell? ⟨b, off + k * 7 + 5, none⟩ = some (.int .i64 ulo) ∧ W.cell? ⟨b, off + k * 7 + 6, none⟩ = some (.int .i64 uhi) ∧ W.cell? ⟨w.heap.size, 0, none⟩ = some (.int .i64 xf) ∧ W.cell? ⟨w.heap.size, 1, none⟩ = some (.int .i64 xt) ∧ W.cell? ⟨w.heap.size, 2, none⟩ = some (.int .i64 xn) ∧ W.cell? ⟨w.heap.size, 3, none⟩ = some (.bool xl) ∧ W.cell? ⟨w.heap.size, 4, none⟩ = some (.int .i64 xs) ∧ W.cell? ⟨w.heap.size, 5, none⟩ = some (.int .i64 xlo) ∧ W.cell? ⟨w.heap.size, 6, none⟩ = some (.int .i64 xhi)) (by kernel_rfl) (by kernel_rfl) rfl (HS5.out _ HWD.out) (fun hHeld => ?_)
   try simp only [List.reduceReplicate]
   repeat (first
    | refine takeA [] (h := ?_)
    | (refine callA [] (args := ?_) (R := ?_) (he := ?_) (hc := ?_) (hargs := ?_) (h := ?_)
       rotate_left 2
       (exact E102.out; exact HE.out _; rfl; rintro e wz ⟨rfl, hbz⟩; refine .inl ⟨_, rfl, HS5.out _ (HWD.out.trans (hbz.mono HWD.out.size)), fun hHeld => ?_⟩; replace HWD := zH (HWD.out.trans (hbz.mono HWD.out.size)); clear hbz)
       refine normA (h := ?_)))
   refine wpAnyH_done (by kernel_rfl) ?_ _
   clear hHeld
   by_cases h0 : o < 0
   ·have hin : ∀ (j : Nat) (v : Edge), l[j]? = some v → j < k + 1 → edgeOrd v ⟨xf, xt, xn, xl, ⟨xs, xlo, xhi⟩⟩ < 0 := fun j v hj hjk => by
     by_cases hjk2 : j < k
     ·exact HX.out.1 j v hj hjk2
     ·obtain rfl : j = k := by omega
      rw [HX.out.2.2.2.1] at hj
      injection hj with hj
      rw [← hj, ← HX.out.2.2.2.2]; exact h0
    have HIN := zH hin
    clear hin
    go_wp2
    go_roundw
    case rel => exact ⟨k + 1, by go_num, by omega, HIN.out, HX.out.2.1.trans (HWD.out.mono HX.out.2.1.size)⟩
    case measure => simp [intOf]; omega
   ·obtain ⟨g, hg⟩ : ∃ g, g = decide ((⟨uf, ut, un, ul, ⟨us, ulo, uhi⟩⟩ : Edge) = ⟨xf, xt, xn, xl, ⟨xs, xlo, xhi⟩⟩) := ⟨_, rfl⟩
    have hnq := fun W => eqlEdge0 uf ut un us ulo uhi xf xt xn xs xlo xhi ul xl W
    simp only [← hg] at hnq
    have hpa := HPA.out k HX.out.1 (fun v hv => by rw [HX.out.2.2.2.1] at hv; injection hv with hv; rw [← hv, ← HX.out.2.2.2.2]; omega) (by omega)
    have HG := zH (zA hg hpa)
    clear hg hpa
    go_wp2_with fail
    refine zR 12 (S := fun W => W.cell? ⟨b, off + k * 7, none⟩ = some (.int .i64 uf) ∧ W.cell? ⟨b, off + k * 7 + 1, none⟩ = some (.int .i64 ut) ∧ W.cell? ⟨b, off + k * 7 + 2, none⟩ = some (.int .i64 un) ∧ W.cell? ⟨b, off + k * 7 + 3, none⟩ = some (.bool ul) ∧ W.cell? ⟨b, off + k * 7 + 4, none⟩ = some (.int .i64 us) ∧ W.cell? ⟨b, off + k * 7 + 5, none⟩ = some (.int .i64 ulo) ∧ W.cell? ⟨b, off + k * 7 + 6, none⟩ = some (.int .i64 uhi) ∧ W.cell? ⟨w.heap.size, 0, none⟩ = some (.int .i64 xf) ∧ W.cell? ⟨w.heap.size, 1, none⟩ = some (.int .i64 xt) ∧ W.cell? ⟨w.heap.size, 2, none⟩ = some (.int .i64 xn) ∧ W.cell? ⟨w.heap.size, 3, none⟩ = some (.bool xl) ∧ W.cell? ⟨w.heap.size, 4, none⟩ = some (.int .i64 xs) ∧ W.cell? ⟨w.heap.size, 5, none⟩ = some (.int .i64 xlo) ∧ W.cell? ⟨w.heap.size, 6, none⟩ = some (.int .i64 xhi)) (by kernel_rfl) (by kernel_rfl) rfl (HS5.out _ (HWD.out.trans ((Below.refl _ _).drew.mono HWD.out.size))) (fun hHeld => ?_)
    try simp only [List.reduceReplicate]
    repeat refine takeA [] (h := ?_)
    refine wpAnyH_done (by kernel_rfl) ?_ _
    clear hHeld hnq
    cases g with
    | true =>
     go_wp2
     go_ret
     have hb := HX.out.2.2.1.trans ((HWD.out.trans ((Below.refl _ _).drew.mono HWD.out.size)).mono HX.out.2.2.1.size)
     refine ⟨_, rfl, ?_, hb⟩
     rw [HG.out.2, if_pos (by rw [HX.out.2.2.2.1, of_decide_eq_true HG.out.1.symm])]
     exact zN (zM HWN.out (zF (S := fun _ => False) hb) (fun _ _ h => h)) (fun _ h => .inl h)
    | false =>
     have hrr : r = l.take k ++ ⟨xf, xt, xn, xl, ⟨xs, xlo, xhi⟩⟩ :: l.drop k := by
      rw [HG.out.2, if_neg]
      intro h
      rw [HX.out.2.2.2.1] at h
      injection h with h
      have := HG.out.1
      rw [h] at this
      simp at this
     have HRR := zH hrr
     clear hrr
     have hbX := HX.out.2.1.trans ((HWD.out.trans ((Below.refl _ _).drew.mono HWD.out.size)).mono HX.out.2.1.size)
     have HBX := zH hbX
     have hrdX := HR.out.below (HC.out.1.trans (hbX.mono HC.out.1.size))
     have R1 := rdC_cut edge_len (by decide) edge_one hrdX 0 k (by omega) off c (by omega)
     have R2 := fun off' c' h => rdC_cut edge_len (by decide) edge_one hrdX k (l.length - k) (by omega) off' c' h
     have hck : ¬ c = k := by have := hnc.1; omega
     have n1 : (0 : Int) ≤ (k : Int) := by omega
     have n2 : (k : Int) ≤ (l.length : Int) := by omega
     have n3 : (k : Int) ≤ (c : Int) := by omega
     have hwe := winC_empty 7 123 (wz.drew)
     have hal := (Below.refl (wz.drew).heap.size (wz.drew)).alloc (Nat.le_refl _) (.cells #[] 123)
     have HF := zH (zA R1 (zA R2 (zA hwe hal)))
     clear R1 R2 hwe hal hbX hrdX
     go_wp2_with (at_builtin; (refine wpList_append_rd _ (by rfl) _ _ _ (by rfl) 123 7 56 _ Tryz.underlying32 info_edge rfl (by decide) _ _ 0 [] (by rfl) _ (by rfl) HF.out.2.2.1 k _ (rdC_below HF.out.1 HF.out.2.2.2) (by unfold maxLen; omega) (by omega) ?_); intro v2 w2 hwin2 hfr2 hsz2; simp only [Nat.zero_add, List.nil_append] at hwin2; obtain ⟨a2, c2, rfl, hn2, hm2⟩ := zS hwin2)
     have hb2 : Below (wz.drew).heap.size (wz.drew) w2 := HF.out.2.2.2.trans (zO hfr2 HF.out.2.2.2.size (fun i hi => by have h : i = (wz.drew).heap.size := (by simpa [Value.ownBlock] using hi); exact Nat.le_of_eq h.symm))
     have hbB2 : Below W1.heap.size W1 w2 := HBX.out.trans (hb2.mono HBX.out.size)
     have hal2 := fun o => hbB2.trans (((Below.refl w2.heap.size w2).alloc (Nat.le_refl _) o).drew.mono hbB2.size)
     have hal3 := fun o => ((Below.refl w2.heap.size w2).alloc (Nat.le_refl _) o).drew
     have H2 := zH (zA hwin2 (zA hb2 (zA hbB2 (zA hal2 hal3))))
     have hs2 := hb2.size
     clear hwin2 hfr2 hb2 hbB2 hal2 hal3 hsz2
     obtain ⟨i0, hi0, hz0⟩ := Option.map_eq_some_iff.1 info_edge
     simp only [Prod.mk.injEq] at hz0
     have HI := zH (zA hi0 hz0)
     clear hi0 hz0
     refine zR 9 (S := fun W => W.cell? ⟨w.heap.size, 0, none⟩ = some (.int .i64 xf) ∧ W.cell? ⟨w.heap.size, 1, none⟩ = some (.int .i64 xt) ∧ W.cell? ⟨w.heap.size, 2, none⟩ = some (.int .i64 xn) ∧ W.cell? ⟨w.heap.size, 3, none⟩ = some (.bool xl) ∧ W.cell? ⟨w.heap.size, 4, none⟩ = some (.int .i64 xs) ∧ W.cell? ⟨w.heap.size, 5, none⟩ = some (.int .i64 xlo) ∧ W.cell? ⟨w.heap.size, 6, none⟩ = some (.int .i64 xhi)) (by kernel_rfl) (by kernel_rfl) rfl (HC.out.2 _ (H2.out.2.2.1.trans ((Below.refl _ _).drew.mono H2.out.2.2.1.size))) (fun hHeld => ?_)
     try simp only [List.reduceReplicate]
     repeat refine takeA [2, 3, 7, 8] (h := ?_)
     refine runA [] (hS := by exact HC.out.2 _ (H2.out.2.2.2.1 _)) (h := fun hHeld => ?_)
     generalize hW3 : World.drew (World.alloc w2 _) = W3 at hHeld ⊢
     have hb3 := H2.out.2.2.2.2 (.cells #[.int .i64 xf, .int .i64 xt, .int .i64 xn, .bool xl, .int .i64 xs, .int .i64 xlo, .int .i64 xhi] 123)
     have hrd : RdC 7 (w2.alloc _).drew _ 1 _ := rdC_box w2 #[.int .i64 xf, .int .i64 xt, .int .i64 xn, .bool xl, .int .i64 xs, .int .i64 xlo, .int .i64 xhi] 123 7 rfl (edge_one ⟨xf, xt, xn, xl, ⟨xs, xlo, xhi⟩⟩)
     rw [hW3] at hb3 hrd
     have hs3 := hb3.size
     have hap := run_append_rd (P := Tryz.prog) W3 32 32 123 i0 _ 7 56 Tryz.underlying32 HI.out.1 HI.out.2.1 HI.out.2.2.1 HI.out.2.2.2 rfl (by decide) _ _ k _ (zM H2.out.1 (zF (S := fun _ => False) hb3) (fun _ _ h => h)) _ 1 _ hrd (by unfold maxLen; omega) (by omega)
     have H3 := zH hb3
     have HAP := zH hap
     clear hb3 hrd hap
     refine appendW [] (i := ?_) (oi := ?_) (s := ?_) (x := ?_) (t := ?_) (v := ?_) (xv := ?_) (R := ?_) ?_ ?_ ?_ ?_ ?_ ?_ ?_ ?_ ?_
     rotate_left 8
     ·simp only [nxt, List.contains_cons, List.contains_nil, Bool.or_false, Bool.or_self, Bool.true_or, cond_true, cond_false, Nat.zero_add, Nat.reduceAdd, Nat.reduceBEq, Bool.false_or]; rfl
     ·rfl
     ·kernel_rfl
     ·rfl
     ·rfl
     ·rfl
     ·rfl
     ·exact HAP.out
     rintro v4 w4 ⟨hwin4, hfr4, hsz4⟩
     obtain ⟨a4, c4, rfl, _, _⟩ := zS hwin4
     have hob4 : ∀ i, some i = (Value.slice a2 k c2).ownBlock → (wz.drew).heap.size ≤ i := fun i hi => by
      rcases (winC_ob H2.out.1 i hi).1 with h | h
      ·exact h.1
      ·exact Nat.le_trans HF.out.2.2.2.size (Nat.le_of_eq h.symm)
     have hb4 : Below (wz.drew).heap.size (wz.drew) w4 := H2.out.2.1.trans ((H3.out.mono hs2).trans (zO hfr4 (by omega) hob4))
     have hbB4 : Below W1.heap.size W1 w4 := HBX.out.trans (hb4.mono HBX.out.size)
     have hap := run_append_rd (P := Tryz.prog) w4 32 32 123 i0 _ 7 56 Tryz.underlying32 HI.out.1 HI.out.2.1 HI.out.2.2.1 HI.out.2.2.2 rfl (by decide) _ _ (k + 1) _ hwin4 _ (l.length - k) _ (rdC_below (HF.out.2.1 (off + k * 7) (c - k) (fun _ => rfl)) hb4) (by unfold maxLen; omega) (by omega)
     have hs4 := hb4.size
     have HAP2 := zH hap
     have H4 := zH (zA hb4 (zA hbB4 hwin4))
     clear hb4 hbB4 hap hwin4 hfr4 hob4
     refine ⟨HC.out.2 _ H4.out.2.1, fun hHeld => ?_⟩
     simp only [Act.put, List.getElem_toArray, List.getElem_cons_zero, List.getElem_cons_succ, List.setIfInBounds_toArray, List.set_cons_zero, List.set_cons_succ]
     refine appendW [] (i := ?_) (oi := ?_) (s := ?_) (x := ?_) (t := ?_) (v := ?_) (xv := ?_) (R := ?_) ?_ ?_ ?_ ?_ ?_ ?_ ?_ ?_ ?_
     rotate_left 8
     ·simp only [nxt, List.contains_cons, List.contains_nil, Bool.or_false, Bool.or_self, Bool.true_or, cond_true, cond_false, Nat.zero_add, Nat.reduceAdd, Nat.reduceBEq, Bool.false_or]; rfl
     ·rfl
     ·kernel_rfl
     ·rfl
     ·rfl
     ·rfl
     ·rfl
     ·exact HAP2.out
     rintro v5 w5 ⟨hwin5, hfr5, hsz5⟩
     obtain ⟨a5, c5, rfl, _, _⟩ := zS hwin5
     have hb5 : Below (wz.drew).heap.size (wz.drew) w5 := H4.out.1.trans (zO hfr5 hs4 fun i hi => by
      rcases (winC_ob H4.out.2.2 i hi).1 with h | h
      ·rcases h.1 with h | h
       ·exact h.1
       ·exact Nat.le_trans HF.out.2.2.2.size (Nat.le_of_eq h.symm)
      ·omega)
     have hbB5 : Below W1.heap.size W1 w5 := HBX.out.trans (hb5.mono HBX.out.size)
     have H5 := zH (zA hwin5 (zA hbB5 hb5))
     clear hwin5 hfr5 hb5 hbB5
     refine ⟨HC.out.2 _ H5.out.2.1, fun hHeld => ?_⟩
     simp only [Act.put, List.getElem_toArray, List.getElem_cons_zero, List.getElem_cons_succ, List.setIfInBounds_toArray, List.set_cons_zero, List.set_cons_succ]
     try simp only [List.reduceReplicate]
     repeat refine takeA [] (h := ?_)
     refine wpAnyH_done (by kernel_rfl) ?_ _
     clear hHeld
     go_wp2
     go_ret
     refine ⟨_, rfl, ?_, HC.out.1.trans (H5.out.2.1.mono HC.out.1.size)⟩
     have e1 : r.length = k + 1 + (l.length - k) := by rw [HRR.out]; simp; omega
     have e2 : r.flatMap edgeC = ((l.drop 0).take k).flatMap edgeC ++ edgeC ⟨xf, xt, xn, xl, ⟨xs, xlo, xhi⟩⟩ ++ ((l.drop k).take (l.length - k)).flatMap edgeC := by rw [HRR.out, List.flatMap_append, List.flatMap_cons, List.drop_zero, List.take_of_length_le (l := l.drop k) (by simp), List.append_assoc]
     refine (?_ : WinC _ _ _ _ _ _ _)
     rw [e1, e2]
     refine zN H5.out.1 fun i hi => .inr ?_
     have h0 := HBX.out.size
     rcases hi with h | h
     ·rcases h.1 with h | h
      ·rcases h.1 with h | h
       ·have := h.1; omega
       ·have h2 := Nat.le_trans HF.out.2.2.2.size (Nat.le_of_eq h.symm); omega
      ·omega
     ·omega
  ·have hkl : k = l.length := by omega
   have hrr : r = l.take k ++ ⟨xf, xt, xn, xl, ⟨xs, xlo, xhi⟩⟩ :: l.drop k := by
    have hno : l[k]? = none := List.getElem?_eq_none (by omega)
    have := HPA.out k hi (fun v hv => by rw [hno] at hv; cases hv) hnl
    rw [hno, if_neg (by simp)] at this
    exact this
   have HRR := zH hrr
   have hlb : decide (k < l.length) = false := by simp; omega
   have hlb2 : ¬ k < l.length := by omega
   have hbX : Below W1.heap.size W1 wr.drew.drew := hB.trans ((Below.refl _ _).drew.drew.mono hB.size)
   have HBX := zH hbX
   have hrdX := HR.out.below (HC.out.1.trans (hbX.mono HC.out.1.size))
   have HRX := zH hrdX
   have HKL := zH hkl
   have HNL := zH hnl
   clear hkl hrr hB hBw hi hlt hbX hrdX hnl
   go_wp2_with fail
   refine zR 13 (S := fun W => True) (by kernel_rfl) (by kernel_rfl) rfl trivial (fun hHeld => ?_)
   try simp only [List.reduceReplicate]
   repeat refine takeA [] (h := ?_)
   refine wpAnyH_done (by kernel_rfl) ?_ _
   clear hHeld
   go_wp2_with fail
   refine zR 12 (S := fun W => True) (by kernel_rfl) (by kernel_rfl) rfl trivial (fun hHeld => ?_)
   try simp only [List.reduceReplicate]
   repeat refine takeA [] (h := ?_)
   refine wpAnyH_done (by kernel_rfl) ?_ _
   clear hHeld hlb hlb2
   have hkl := HKL.out
   rcases HWN.out.2 with ⟨hv, h0⟩ | ⟨b, off, cap, cur, hv, _⟩
   ·injection hv with hv1 hv2 hv3
    subst hv1; subst hv3
    obtain rfl : l = [] := List.eq_nil_of_length_eq_zero h0
    obtain rfl : k = 0 := by simpa using hkl
    clear hv2 h0 hkl
    have R1 : RdC 7 wr.drew.drew (.slice none 0 0) 0 ((([] : List Edge).drop 0).take 0 |>.flatMap edgeC) := rdC_zero _ _ _ _
    have R2 : RdC 7 wr.drew.drew (.slice none 0 0) 0 ((([] : List Edge).drop 0).take 0 |>.flatMap edgeC) := rdC_zero _ _ _ _
    have hbX := True.intro
    have hrdX := True.intro
    have hwe := winC_empty 7 123 (wr.drew.drew)
    have hal := (Below.refl (wr.drew.drew).heap.size (wr.drew.drew)).alloc (Nat.le_refl _) (.cells #[] 123)
    have HF := zH (zA R1 (zA R2 (zA hwe hal)))
    clear R1 R2 hwe hal hbX hrdX
    go_wp2_with (at_builtin; (refine wpList_append_rd _ (by rfl) _ _ _ (by rfl) 123 7 56 _ Tryz.underlying32 info_edge rfl (by decide) _ _ 0 [] (by rfl) _ (by rfl) HF.out.2.2.1 0 _ (rdC_below HF.out.1 HF.out.2.2.2) (by unfold maxLen; omega) (by omega) ?_); intro v2 w2 hwin2 hfr2 hsz2; simp only [Nat.zero_add, List.nil_append] at hwin2; obtain ⟨a2, c2, rfl, hn2, hm2⟩ := zS hwin2)
    have hb2 : Below (wr.drew.drew).heap.size (wr.drew.drew) w2 := HF.out.2.2.2.trans (zO hfr2 HF.out.2.2.2.size (fun i hi => by have h : i = (wr.drew.drew).heap.size := (by simpa [Value.ownBlock] using hi); exact Nat.le_of_eq h.symm))
    have hbB2 : Below W1.heap.size W1 w2 := HBX.out.trans (hb2.mono HBX.out.size)
    have hal2 := fun o => hbB2.trans (((Below.refl w2.heap.size w2).alloc (Nat.le_refl _) o).drew.mono hbB2.size)
    have hal3 := fun o => ((Below.refl w2.heap.size w2).alloc (Nat.le_refl _) o).drew
    have H2 := zH (zA hwin2 (zA hb2 (zA hbB2 (zA hal2 hal3))))
    have hs2 := hb2.size
    clear hwin2 hfr2 hb2 hbB2 hal2 hal3 hsz2
    obtain ⟨i0, hi0, hz0⟩ := Option.map_eq_some_iff.1 info_edge
    simp only [Prod.mk.injEq] at hz0
    have HI := zH (zA hi0 hz0)
    clear hi0 hz0
    refine zR 9 (S := fun W => W.cell? ⟨w.heap.size, 0, none⟩ = some (.int .i64 xf) ∧ W.cell? ⟨w.heap.size, 1, none⟩ = some (.int .i64 xt) ∧ W.cell? ⟨w.heap.size, 2, none⟩ = some (.int .i64 xn) ∧ W.cell? ⟨w.heap.size, 3, none⟩ = some (.bool xl) ∧ W.cell? ⟨w.heap.size, 4, none⟩ = some (.int .i64 xs) ∧ W.cell? ⟨w.heap.size, 5, none⟩ = some (.int .i64 xlo) ∧ W.cell? ⟨w.heap.size, 6, none⟩ = some (.int .i64 xhi)) (by kernel_rfl) (by kernel_rfl) rfl (HC.out.2 _ (H2.out.2.2.1.trans ((Below.refl _ _).drew.mono H2.out.2.2.1.size))) (fun hHeld => ?_)
    try simp only [List.reduceReplicate]
    repeat refine takeA [2, 3, 7, 8] (h := ?_)
    refine runA [] (hS := by exact HC.out.2 _ (H2.out.2.2.2.1 _)) (h := fun hHeld => ?_)
    generalize hW3 : World.drew (World.alloc w2 _) = W3 at hHeld ⊢
    have hb3 := H2.out.2.2.2.2 (.cells #[.int .i64 xf, .int .i64 xt, .int .i64 xn, .bool xl, .int .i64 xs, .int .i64 xlo, .int .i64 xhi] 123)
    have hrd : RdC 7 (w2.alloc _).drew _ 1 _ := rdC_box w2 #[.int .i64 xf, .int .i64 xt, .int .i64 xn, .bool xl, .int .i64 xs, .int .i64 xlo, .int .i64 xhi] 123 7 rfl (edge_one ⟨xf, xt, xn, xl, ⟨xs, xlo, xhi⟩⟩)
    rw [hW3] at hb3 hrd
    have hs3 := hb3.size
    have hap := run_append_rd (P := Tryz.prog) W3 32 32 123 i0 _ 7 56 Tryz.underlying32 HI.out.1 HI.out.2.1 HI.out.2.2.1 HI.out.2.2.2 rfl (by decide) _ _ 0 _ (zM H2.out.1 (zF (S := fun _ => False) hb3) (fun _ _ h => h)) _ 1 _ hrd (by unfold maxLen; omega) (by omega)
    have H3 := zH hb3
    have HAP := zH hap
    clear hb3 hrd hap
    refine appendW [] (i := ?_) (oi := ?_) (s := ?_) (x := ?_) (t := ?_) (v := ?_) (xv := ?_) (R := ?_) ?_ ?_ ?_ ?_ ?_ ?_ ?_ ?_ ?_
    rotate_left 8
    ·simp only [nxt, List.contains_cons, List.contains_nil, Bool.or_false, Bool.or_self, Bool.true_or, cond_true, cond_false, Nat.zero_add, Nat.reduceAdd, Nat.reduceBEq, Bool.false_or]; rfl
    ·rfl
    ·kernel_rfl
    ·rfl
    ·rfl
    ·rfl
    ·rfl
    ·exact HAP.out
    rintro v4 w4 ⟨hwin4, hfr4, hsz4⟩
    obtain ⟨a4, c4, rfl, _, _⟩ := zS hwin4
    have hob4 : ∀ i, some i = (Value.slice a2 0 c2).ownBlock → (wr.drew.drew).heap.size ≤ i := fun i hi => by
     rcases (winC_ob H2.out.1 i hi).1 with h | h
     ·exact h.1
     ·exact Nat.le_trans HF.out.2.2.2.size (Nat.le_of_eq h.symm)
    have hb4 : Below (wr.drew.drew).heap.size (wr.drew.drew) w4 := H2.out.2.1.trans ((H3.out.mono hs2).trans (zO hfr4 (by omega) hob4))
    have hbB4 : Below W1.heap.size W1 w4 := HBX.out.trans (hb4.mono HBX.out.size)
    have hap := run_append_rd (P := Tryz.prog) w4 32 32 123 i0 _ 7 56 Tryz.underlying32 HI.out.1 HI.out.2.1 HI.out.2.2.1 HI.out.2.2.2 rfl (by decide) _ _ (0 + 1) _ hwin4 _ 0 _ (rdC_below (HF.out.2.1) hb4) (by unfold maxLen; omega) (by omega)
    have hs4 := hb4.size
    have HAP2 := zH hap
    have H4 := zH (zA hb4 (zA hbB4 hwin4))
    clear hb4 hbB4 hap hwin4 hfr4 hob4
    refine ⟨HC.out.2 _ H4.out.2.1, fun hHeld => ?_⟩
    simp only [Act.put, List.getElem_toArray, List.getElem_cons_zero, List.getElem_cons_succ, List.setIfInBounds_toArray, List.set_cons_zero, List.set_cons_succ]
    refine appendW [] (i := ?_) (oi := ?_) (s := ?_) (x := ?_) (t := ?_) (v := ?_) (xv := ?_) (R := ?_) ?_ ?_ ?_ ?_ ?_ ?_ ?_ ?_ ?_
    rotate_left 8
    ·simp only [nxt, List.contains_cons, List.contains_nil, Bool.or_false, Bool.or_self, Bool.true_or, cond_true, cond_false, Nat.zero_add, Nat.reduceAdd, Nat.reduceBEq, Bool.false_or]; rfl
    ·rfl
    ·kernel_rfl
    ·rfl
    ·rfl
    ·rfl
    ·rfl
    ·exact HAP2.out
    rintro v5 w5 ⟨hwin5, hfr5, hsz5⟩
    obtain ⟨a5, c5, rfl, _, _⟩ := zS hwin5
    have hb5 : Below (wr.drew.drew).heap.size (wr.drew.drew) w5 := H4.out.1.trans (zO hfr5 hs4 fun i hi => by
     rcases (winC_ob H4.out.2.2 i hi).1 with h | h
     ·rcases h.1 with h | h
      ·exact h.1
      ·exact Nat.le_trans HF.out.2.2.2.size (Nat.le_of_eq h.symm)
     ·omega)
    have hbB5 : Below W1.heap.size W1 w5 := HBX.out.trans (hb5.mono HBX.out.size)
    have H5 := zH (zA hwin5 (zA hbB5 hb5))
    clear hwin5 hfr5 hb5 hbB5
    refine ⟨HC.out.2 _ H5.out.2.1, fun hHeld => ?_⟩
    simp only [Act.put, List.getElem_toArray, List.getElem_cons_zero, List.getElem_cons_succ, List.setIfInBounds_toArray, List.set_cons_zero, List.set_cons_succ]
    try simp only [List.reduceReplicate]
    repeat refine takeA [] (h := ?_)
    refine wpAnyH_done (by kernel_rfl) ?_ _
    clear hHeld
    go_wp2
    go_ret
    refine ⟨_, rfl, ?_, HC.out.1.trans (H5.out.2.1.mono HC.out.1.size)⟩
    have e1 : r.length = 0 + 1 + 0 := by rw [HRR.out]; rfl
    have e2 : r.flatMap edgeC = ((([] : List Edge).drop 0).take 0).flatMap edgeC ++ edgeC ⟨xf, xt, xn, xl, ⟨xs, xlo, xhi⟩⟩ ++ ((([] : List Edge).drop 0).take 0).flatMap edgeC := by rw [HRR.out]; rfl
    refine (?_ : WinC _ _ _ _ _ _ _)
    rw [e1, e2]
    refine zN H5.out.1 fun i hi => .inr ?_
    have h0 := HBX.out.size
    rcases hi with h | h
    ·rcases h.1 with h | h
     ·rcases h.1 with h | h
      ·have := h.1; omega
      ·have h2 := Nat.le_trans HF.out.2.2.2.size (Nat.le_of_eq h.symm); omega
     ·omega
    ·omega
   ·injection hv with hv1 hv2 hv3
    subst hv1; subst hv3
    clear hv2 hkl
    have hrdX := HRX.out
    have hnl : k ≤ l.length := HNL.out
    have hbX := True.intro
    have R1 := rdC_cut edge_len (by decide) edge_one hrdX 0 k (by omega) off c (by omega)
    have R2 := fun off' c' h => rdC_cut edge_len (by decide) edge_one hrdX k (l.length - k) (by omega) off' c' h
    by_cases hck : c = k
    ·obtain rfl : k = c := hck.symm
     have n1 : (0 : Int) ≤ (k : Int) := by omega
     have n2 : (k : Int) ≤ (l.length : Int) := by omega
     have n3 : (k : Int) ≤ (k : Int) := by omega
     have hwe := winC_empty 7 123 (wr.drew.drew)
     have hal := (Below.refl (wr.drew.drew).heap.size (wr.drew.drew)).alloc (Nat.le_refl _) (.cells #[] 123)
     have HF := zH (zA R1 (zA R2 (zA hwe hal)))
     clear R1 R2 hwe hal hbX hrdX
     go_wp2_with (at_builtin; (refine wpList_append_rd _ (by rfl) _ _ _ (by rfl) 123 7 56 _ Tryz.underlying32 info_edge rfl (by decide) _ _ 0 [] (by rfl) _ (by rfl) HF.out.2.2.1 k _ (rdC_below HF.out.1 HF.out.2.2.2) (by unfold maxLen; omega) (by omega) ?_); intro v2 w2 hwin2 hfr2 hsz2; simp only [Nat.zero_add, List.nil_append] at hwin2; obtain ⟨a2, c2, rfl, hn2, hm2⟩ := zS hwin2)
     have hb2 : Below (wr.drew.drew).heap.size (wr.drew.drew) w2 := HF.out.2.2.2.trans (zO hfr2 HF.out.2.2.2.size (fun i hi => by have h : i = (wr.drew.drew).heap.size := (by simpa [Value.ownBlock] using hi); exact Nat.le_of_eq h.symm))
     have hbB2 : Below W1.heap.size W1 w2 := HBX.out.trans (hb2.mono HBX.out.size)
     have hal2 := fun o => hbB2.trans (((Below.refl w2.heap.size w2).alloc (Nat.le_refl _) o).drew.mono hbB2.size)
     have hal3 := fun o => ((Below.refl w2.heap.size w2).alloc (Nat.le_refl _) o).drew
     have H2 := zH (zA hwin2 (zA hb2 (zA hbB2 (zA hal2 hal3))))
     have hs2 := hb2.size
     clear hwin2 hfr2 hb2 hbB2 hal2 hal3 hsz2
     obtain ⟨i0, hi0, hz0⟩ := Option.map_eq_some_iff.1 info_edge
     simp only [Prod.mk.injEq] at hz0
     have HI := zH (zA hi0 hz0)
     clear hi0 hz0
     refine zR 9 (S := fun W => W.cell? ⟨w.heap.size, 0, none⟩ = some (.int .i64 xf) ∧ W.cell? ⟨w.heap.size, 1, none⟩ = some (.int .i64 xt) ∧ W.cell? ⟨w.heap.size, 2, none⟩ = some (.int .i64 xn) ∧ W.cell? ⟨w.heap.size, 3, none⟩ = some (.bool xl) ∧ W.cell? ⟨w.heap.size, 4, none⟩ = some (.int .i64 xs) ∧ W.cell? ⟨w.heap.size, 5, none⟩ = some (.int .i64 xlo) ∧ W.cell? ⟨w.heap.size, 6, none⟩ = some (.int .i64 xhi)) (by kernel_rfl) (by kernel_rfl) rfl (HC.out.2 _ (H2.out.2.2.1.trans ((Below.refl _ _).drew.mono H2.out.2.2.1.size))) (fun hHeld => ?_)
     try simp only [List.reduceReplicate]
     repeat refine takeA [2, 3, 7, 8] (h := ?_)
     refine runA [] (hS := by exact HC.out.2 _ (H2.out.2.2.2.1 _)) (h := fun hHeld => ?_)
     generalize hW3 : World.drew (World.alloc w2 _) = W3 at hHeld ⊢
     have hb3 := H2.out.2.2.2.2 (.cells #[.int .i64 xf, .int .i64 xt, .int .i64 xn, .bool xl, .int .i64 xs, .int .i64 xlo, .int .i64 xhi] 123)
     have hrd : RdC 7 (w2.alloc _).drew _ 1 _ := rdC_box w2 #[.int .i64 xf, .int .i64 xt, .int .i64 xn, .bool xl, .int .i64 xs, .int .i64 xlo, .int .i64 xhi] 123 7 rfl (edge_one ⟨xf, xt, xn, xl, ⟨xs, xlo, xhi⟩⟩)
     rw [hW3] at hb3 hrd
     have hs3 := hb3.size
     have hap := run_append_rd (P := Tryz.prog) W3 32 32 123 i0 _ 7 56 Tryz.underlying32 HI.out.1 HI.out.2.1 HI.out.2.2.1 HI.out.2.2.2 rfl (by decide) _ _ k _ (zM H2.out.1 (zF (S := fun _ => False) hb3) (fun _ _ h => h)) _ 1 _ hrd (by unfold maxLen; omega) (by omega)
     have H3 := zH hb3
     have HAP := zH hap
     clear hb3 hrd hap
     refine appendW [] (i := ?_) (oi := ?_) (s := ?_) (x := ?_) (t := ?_) (v := ?_) (xv := ?_) (R := ?_) ?_ ?_ ?_ ?_ ?_ ?_ ?_ ?_ ?_
     rotate_left 8
     ·simp only [nxt, List.contains_cons, List.contains_nil, Bool.or_false, Bool.or_self, Bool.true_or, cond_true, cond_false, Nat.zero_add, Nat.reduceAdd, Nat.reduceBEq, Bool.false_or]; rfl
     ·rfl
     ·kernel_rfl
     ·rfl
     ·rfl
     ·rfl
     ·rfl
     ·exact HAP.out
     rintro v4 w4 ⟨hwin4, hfr4, hsz4⟩
     obtain ⟨a4, c4, rfl, _, _⟩ := zS hwin4
     have hob4 : ∀ i, some i = (Value.slice a2 k c2).ownBlock → (wr.drew.drew).heap.size ≤ i := fun i hi => by
      rcases (winC_ob H2.out.1 i hi).1 with h | h
      ·exact h.1
      ·exact Nat.le_trans HF.out.2.2.2.size (Nat.le_of_eq h.symm)
     have hb4 : Below (wr.drew.drew).heap.size (wr.drew.drew) w4 := H2.out.2.1.trans ((H3.out.mono hs2).trans (zO hfr4 (by omega) hob4))
     have hbB4 : Below W1.heap.size W1 w4 := HBX.out.trans (hb4.mono HBX.out.size)
     have hap := run_append_rd (P := Tryz.prog) w4 32 32 123 i0 _ 7 56 Tryz.underlying32 HI.out.1 HI.out.2.1 HI.out.2.2.1 HI.out.2.2.2 rfl (by decide) _ _ (k + 1) _ hwin4 _ 0 [] (rdC_zero 7 w4 (some ⟨b, off, none⟩) 0) (by unfold maxLen; omega) (by omega)
     have hs4 := hb4.size
     have HAP2 := zH hap
     have H4 := zH (zA hb4 (zA hbB4 hwin4))
     clear hb4 hbB4 hap hwin4 hfr4 hob4
     refine ⟨HC.out.2 _ H4.out.2.1, fun hHeld => ?_⟩
     simp only [Act.put, List.getElem_toArray, List.getElem_cons_zero, List.getElem_cons_succ, List.setIfInBounds_toArray, List.set_cons_zero, List.set_cons_succ]
     refine appendW [] (i := ?_) (oi := ?_) (s := ?_) (x := ?_) (t := ?_) (v := ?_) (xv := ?_) (R := ?_) ?_ ?_ ?_ ?_ ?_ ?_ ?_ ?_ ?_
     rotate_left 8
     ·simp only [nxt, List.contains_cons, List.contains_nil, Bool.or_false, Bool.or_self, Bool.true_or, cond_true, cond_false, Nat.zero_add, Nat.reduceAdd, Nat.reduceBEq, Bool.false_or]; rfl
     ·rfl
     ·kernel_rfl
     ·rfl
     ·rfl
     ·rfl
     ·rfl
     ·exact HAP2.out
     rintro v5 w5 ⟨hwin5, hfr5, hsz5⟩
     obtain ⟨a5, c5, rfl, _, _⟩ := zS hwin5
     have hb5 : Below (wr.drew.drew).heap.size (wr.drew.drew) w5 := H4.out.1.trans (zO hfr5 hs4 fun i hi => by
      rcases (winC_ob H4.out.2.2 i hi).1 with h | h
      ·rcases h.1 with h | h
       ·exact h.1
       ·exact Nat.le_trans HF.out.2.2.2.size (Nat.le_of_eq h.symm)
      ·omega)
     have hbB5 : Below W1.heap.size W1 w5 := HBX.out.trans (hb5.mono HBX.out.size)
     have H5 := zH (zA hwin5 (zA hbB5 hb5))
     clear hwin5 hfr5 hb5 hbB5
     refine ⟨HC.out.2 _ H5.out.2.1, fun hHeld => ?_⟩
     simp only [Act.put, List.getElem_toArray, List.getElem_cons_zero, List.getElem_cons_succ, List.setIfInBounds_toArray, List.set_cons_zero, List.set_cons_succ]
     try simp only [List.reduceReplicate]
     repeat refine takeA [] (h := ?_)
     refine wpAnyH_done (by kernel_rfl) ?_ _
     clear hHeld
     go_wp2
     go_ret
     refine ⟨_, rfl, ?_, HC.out.1.trans (H5.out.2.1.mono HC.out.1.size)⟩
     have hkl := HKL.out
     have e1 : r.length = k + 1 + 0 := by rw [HRR.out]; simp; omega
     have e2 : r.flatMap edgeC = ((l.drop 0).take k).flatMap edgeC ++ edgeC ⟨xf, xt, xn, xl, ⟨xs, xlo, xhi⟩⟩ ++ [] := by rw [HRR.out, List.drop_of_length_le (Nat.le_of_eq hkl.symm), List.flatMap_append, List.flatMap_cons, List.drop_zero]; simp
     refine (?_ : WinC _ _ _ _ _ _ _)
     rw [e1, e2]
     refine zN H5.out.1 fun i hi => .inr ?_
     have h0 := HBX.out.size
     rcases hi with h | h
     ·rcases h.1 with h | h
      ·rcases h.1 with h | h
       ·have := h.1; omega
       ·have h2 := Nat.le_trans HF.out.2.2.2.size (Nat.le_of_eq h.symm); omega
      ·omega
     ·omega
    ·skip
     have n1 : (0 : Int) ≤ (k : Int) := by omega
     have n2 : (k : Int) ≤ (l.length : Int) := by omega
     have n3 : (k : Int) ≤ (c : Int) := by omega
     have hwe := winC_empty 7 123 (wr.drew.drew)
     have hal := (Below.refl (wr.drew.drew).heap.size (wr.drew.drew)).alloc (Nat.le_refl _) (.cells #[] 123)
     have HF := zH (zA R1 (zA R2 (zA hwe hal)))
     clear R1 R2 hwe hal hbX hrdX
     go_wp2_with (at_builtin; (refine wpList_append_rd _ (by rfl) _ _ _ (by rfl) 123 7 56 _ Tryz.underlying32 info_edge rfl (by decide) _ _ 0 [] (by rfl) _ (by rfl) HF.out.2.2.1 k _ (rdC_below HF.out.1 HF.out.2.2.2) (by unfold maxLen; omega) (by omega) ?_); intro v2 w2 hwin2 hfr2 hsz2; simp only [Nat.zero_add, List.nil_append] at hwin2; obtain ⟨a2, c2, rfl, hn2, hm2⟩ := zS hwin2)
     have hb2 : Below (wr.drew.drew).heap.size (wr.drew.drew) w2 := HF.out.2.2.2.trans (zO hfr2 HF.out.2.2.2.size (fun i hi => by have h : i = (wr.drew.drew).heap.size := (by simpa [Value.ownBlock] using hi); exact Nat.le_of_eq h.symm))
     have hbB2 : Below W1.heap.size W1 w2 := HBX.out.trans (hb2.mono HBX.out.size)
     have hal2 := fun o => hbB2.trans (((Below.refl w2.heap.size w2).alloc (Nat.le_refl _) o).drew.mono hbB2.size)
     have hal3 := fun o => ((Below.refl w2.heap.size w2).alloc (Nat.le_refl _) o).drew
     have H2 := zH (zA hwin2 (zA hb2 (zA hbB2 (zA hal2 hal3))))
     have hs2 := hb2.size
     clear hwin2 hfr2 hb2 hbB2 hal2 hal3 hsz2
     obtain ⟨i0, hi0, hz0⟩ := Option.map_eq_some_iff.1 info_edge
     simp only [Prod.mk.injEq] at hz0
     have HI := zH (zA hi0 hz0)
     clear hi0 hz0
     refine zR 9 (S := fun W => W.cell? ⟨w.heap.size, 0, none⟩ = some (.int .i64 xf) ∧ W.cell? ⟨w.heap.size, 1, none⟩ = some (.int .i64 xt) ∧ W.cell? ⟨w.heap.size, 2, none⟩ = some (.int .i64 xn) ∧ W.cell? ⟨w.heap.size, 3, none⟩ = some (.bool xl) ∧ W.cell? ⟨w.heap.size, 4, none⟩ = some (.int .i64 xs) ∧ W.cell? ⟨w.heap.size, 5, none⟩ = some (.int .i64 xlo) ∧ W.cell? ⟨w.heap.size, 6, none⟩ = some (.int .i64 xhi)) (by kernel_rfl) (by kernel_rfl) rfl (HC.out.2 _ (H2.out.2.2.1.trans ((Below.refl _ _).drew.mono H2.out.2.2.1.size))) (fun hHeld => ?_)
     try simp only [List.reduceReplicate]
     repeat refine takeA [2, 3, 7, 8] (h := ?_)
     refine runA [] (hS := by exact HC.out.2 _ (H2.out.2.2.2.1 _)) (h := fun hHeld => ?_)
     generalize hW3 : World.drew (World.alloc w2 _) = W3 at hHeld ⊢
     have hb3 := H2.out.2.2.2.2 (.cells #[.int .i64 xf, .int .i64 xt, .int .i64 xn, .bool xl, .int .i64 xs, .int .i64 xlo, .int .i64 xhi] 123)
     have hrd : RdC 7 (w2.alloc _).drew _ 1 _ := rdC_box w2 #[.int .i64 xf, .int .i64 xt, .int .i64 xn, .bool xl, .int .i64 xs, .int .i64 xlo, .int .i64 xhi] 123 7 rfl (edge_one ⟨xf, xt, xn, xl, ⟨xs, xlo, xhi⟩⟩)
     rw [hW3] at hb3 hrd
     have hs3 := hb3.size
     have hap := run_append_rd (P := Tryz.prog) W3 32 32 123 i0 _ 7 56 Tryz.underlying32 HI.out.1 HI.out.2.1 HI.out.2.2.1 HI.out.2.2.2 rfl (by decide) _ _ k _ (zM H2.out.1 (zF (S := fun _ => False) hb3) (fun _ _ h => h)) _ 1 _ hrd (by unfold maxLen; omega) (by omega)
     have H3 := zH hb3
     have HAP := zH hap
     clear hb3 hrd hap
     refine appendW [] (i := ?_) (oi := ?_) (s := ?_) (x := ?_) (t := ?_) (v := ?_) (xv := ?_) (R := ?_) ?_ ?_ ?_ ?_ ?_ ?_ ?_ ?_ ?_
     rotate_left 8
     ·simp only [nxt, List.contains_cons, List.contains_nil, Bool.or_false, Bool.or_self, Bool.true_or, cond_true, cond_false, Nat.zero_add, Nat.reduceAdd, Nat.reduceBEq, Bool.false_or]; rfl
     ·rfl
     ·kernel_rfl
     ·rfl
     ·rfl
     ·rfl
     ·rfl
     ·exact HAP.out
     rintro v4 w4 ⟨hwin4, hfr4, hsz4⟩
     obtain ⟨a4, c4, rfl, _, _⟩ := zS hwin4
     have hob4 : ∀ i, some i = (Value.slice a2 k c2).ownBlock → (wr.drew.drew).heap.size ≤ i := fun i hi => by
      rcases (winC_ob H2.out.1 i hi).1 with h | h
      ·exact h.1
      ·exact Nat.le_trans HF.out.2.2.2.size (Nat.le_of_eq h.symm)
     have hb4 : Below (wr.drew.drew).heap.size (wr.drew.drew) w4 := H2.out.2.1.trans ((H3.out.mono hs2).trans (zO hfr4 (by omega) hob4))
     have hbB4 : Below W1.heap.size W1 w4 := HBX.out.trans (hb4.mono HBX.out.size)
     have hap := run_append_rd (P := Tryz.prog) w4 32 32 123 i0 _ 7 56 Tryz.underlying32 HI.out.1 HI.out.2.1 HI.out.2.2.1 HI.out.2.2.2 rfl (by decide) _ _ (k + 1) _ hwin4 _ (l.length - k) _ (rdC_below (HF.out.2.1 (off + k * 7) (c - k) (fun _ => rfl)) hb4) (by unfold maxLen; omega) (by omega)
     have hs4 := hb4.size
     have HAP2 := zH hap
     have H4 := zH (zA hb4 (zA hbB4 hwin4))
     clear hb4 hbB4 hap hwin4 hfr4 hob4
     refine ⟨HC.out.2 _ H4.out.2.1, fun hHeld => ?_⟩
     simp only [Act.put, List.getElem_toArray, List.getElem_cons_zero, List.getElem_cons_succ, List.setIfInBounds_toArray, List.set_cons_zero, List.set_cons_succ]
     refine appendW [] (i := ?_) (oi := ?_) (s := ?_) (x := ?_) (t := ?_) (v := ?_) (xv := ?_) (R := ?_) ?_ ?_ ?_ ?_ ?_ ?_ ?_ ?_ ?_
     rotate_left 8
     ·simp only [nxt, List.contains_cons, List.contains_nil, Bool.or_false, Bool.or_self, Bool.true_or, cond_true, cond_false, Nat.zero_add, Nat.reduceAdd, Nat.reduceBEq, Bool.false_or]; rfl
     ·rfl
     ·kernel_rfl
     ·rfl
     ·rfl
     ·rfl
     ·rfl
     ·exact HAP2.out
     rintro v5 w5 ⟨hwin5, hfr5, hsz5⟩
     obtain ⟨a5, c5, rfl, _, _⟩ := zS hwin5
     have hb5 : Below (wr.drew.drew).heap.size (wr.drew.drew) w5 := H4.out.1.trans (zO hfr5 hs4 fun i hi => by
      rcases (winC_ob H4.out.2.2 i hi).1 with h | h
      ·rcases h.1 with h | h
       ·exact h.1
       ·exact Nat.le_trans HF.out.2.2.2.size (Nat.le_of_eq h.symm)
      ·omega)
     have hbB5 : Below W1.heap.size W1 w5 := HBX.out.trans (hb5.mono HBX.out.size)
     have H5 := zH (zA hwin5 (zA hbB5 hb5))
     clear hwin5 hfr5 hb5 hbB5
     refine ⟨HC.out.2 _ H5.out.2.1, fun hHeld => ?_⟩
     simp only [Act.put, List.getElem_toArray, List.getElem_cons_zero, List.getElem_cons_succ, List.setIfInBounds_toArray, List.set_cons_zero, List.set_cons_succ]
     try simp only [List.reduceReplicate]
     repeat refine takeA [] (h := ?_)
     refine wpAnyH_done (by kernel_rfl) ?_ _
     clear hHeld
     go_wp2
     go_ret
     refine ⟨_, rfl, ?_, HC.out.1.trans (H5.out.2.1.mono HC.out.1.size)⟩
     have e1 : r.length = k + 1 + (l.length - k) := by rw [HRR.out]; simp; omega
     have e2 : r.flatMap edgeC = ((l.drop 0).take k).flatMap edgeC ++ edgeC ⟨xf, xt, xn, xl, ⟨xs, xlo, xhi⟩⟩ ++ ((l.drop k).take (l.length - k)).flatMap edgeC := by rw [HRR.out, List.flatMap_append, List.flatMap_cons, List.drop_zero, List.take_of_length_le (l := l.drop k) (by simp), List.append_assoc]
     refine (?_ : WinC _ _ _ _ _ _ _)
     rw [e1, e2]
     refine zN H5.out.1 fun i hi => .inr ?_
     have h0 := HBX.out.size
     rcases hi with h | h
     ·rcases h.1 with h | h
      ·rcases h.1 with h | h
       ·have := h.1; omega
       ·have h2 := Nat.le_trans HF.out.2.2.2.size (Nat.le_of_eq h.symm); omega
      ·omega
     ·omega
end
end Go.Proofs.YtgiploddoffmjaaGreat
