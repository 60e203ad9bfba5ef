/- My texts, joined: W50. -/
import Derived.Below
import Derived.BigQuiet
import Derived.Deep.AppendLies
import Derived.Deep.DeepCutAuto
import Derived.Deep.QuietTactic
import Derived.Deep.RegionHeld
import Derived.Deep.RegionHeld3
import Derived.Deep.RegionLaw
import Derived.Defers
import Derived.Ground.Names2Prog
import Derived.Ground.Names8Prog
import Derived.Ground.SlsfProg
import Derived.Handy
import Derived.KernelRfl
import Derived.Laws.AppendOwn
import Derived.Laws.AppendOwnNone
import Derived.Laws.CopyRow
import Derived.Laws.Pointers
import Derived.Laws.StructEq
import Derived.Lib.Hide
import Derived.Lib.Overlaps
import Derived.LoopIn
import Derived.LoopN
import Derived.LoopNIn
import Derived.LoopTactic
import Derived.MapKept
import Derived.Maps.AppendAt
import Derived.Maps.OwnOps
import Derived.Maps.RangeRun
import Derived.Maps.RangeWalk
import Derived.Outline
import Derived.OwnWalk
import Derived.OwnWalkIn
import Derived.RangeFuncBound
import Derived.RangeFuncCalls
import Derived.RangeFuncLeaves
import Derived.RangeFuncNested
import Derived.Recover
import Derived.Shelf.Abstract
import Derived.Shelf.RegionOpen
import Derived.Shelf.SlGeneric
import Derived.Shelf.SlLaysF0
import Derived.Shelf.SlSortCmp.HeapSort1
import Derived.Shelf.SlSortCmp.Insertion
import Derived.Shelf.SlSortCmp.Insertion1
import Derived.Shelf.SlSortCmp.Median1
import Derived.Shelf.SlSortCmp.NoneTotal
import Derived.Shelf.SlSortCmp.PartialInsertion1
import Derived.Shelf.SlSortCmp.Partition1
import Derived.Shelf.SlSortCmp.PartitionEqual1
import Derived.Shelf.SlSortCmp.Pdq1
import Derived.Shelf.SlSortCmp.Pivot1
import Derived.Shelf.SlSortCmp.ReverseRange1
import Derived.Shelf.SlSortCmp.SiftDown1
import Derived.Shelf.SlSortCmp.Whole1
import Derived.Shelf.SlSortCmp.WholeK
import Derived.Shelf.Slices.In.SortNone
import Derived.Shelf.Small.Bits
import Derived.Shelf.Sort.Plain
import Derived.Shelf.Spec.SlicesGrow
import Derived.TacticsInMore
import Derived.Test.YtgiploddoffmjaaGreatProg
import Derived.WalkKit
import Derived.WalkLawsBesides
import Derived.WalkSpells
import Derived.Test.YtgiploddoffmjaaGreatM0
import Derived.Test.YtgiploddoffmjaaGreatM1
import Derived.Test.YtgiploddoffmjaaGreatM2
import Derived.Test.YtgiploddoffmjaaGreatM3
import Derived.Test.YtgiploddoffmjaaGreatM4
import Derived.Test.YtgiploddoffmjaaGreatM5
import Derived.Test.YtgiploddoffmjaaGreatM6
import Derived.Test.YtgiploddoffmjaaGreatM8
import Derived.Test.YtgiploddoffmjaaGreatM9
import Derived.Test.YtgiploddoffmjaaGreatM10
import Derived.Test.YtgiploddoffmjaaGreatM11
import Derived.Test.YtgiploddoffmjaaGreatM12
import Derived.Test.YtgiploddoffmjaaGreatM13
import Derived.Test.YtgiploddoffmjaaGreatM19
import Derived.Test.YtgiploddoffmjaaGreatM20
set_option linter.unusedVariables false
set_option linter.unusedSimpArgs false
set_option linter.unusedSectionVars false
set_option maxRecDepth 10000
namespace Go.Proofs.YtgiploddoffmjaaGreat
section
open Go.RowKit Go.Shelf
theorem clipT_any (a : Option Addr) (n c : Nat) (h : n ≤ c) (w : World) (h0 : a = none → n = 0 ∧ c = 0) : Calls Tryz.prog 80 #[.slice a n c] w fun e w' => e = .returned (.slice a n n) ∧ w = w' := by
 have h1 : (n : Int) ≤ (c : Int) := by omega
 cases a with
 | none =>
  obtain ⟨rfl, rfl⟩ := h0 rfl
  go_enter Tryz.func80, Tryz.ntmps80
  go_wp2
  go_ret
  exact ⟨rfl, rfl⟩
 | some a =>
  go_enter Tryz.func80, Tryz.ntmps80
  go_wp2
  go_ret
  exact ⟨rfl, rfl⟩
theorem clipE_any (a : Option Addr) (n c : Nat) (h : n ≤ c) (w : World) (h0 : a = none → n = 0 ∧ c = 0) : Calls Tryz.prog 83 #[.slice a n c] w fun e w' => e = .returned (.slice a n n) ∧ w = w' := by
 have h1 : (n : Int) ≤ (c : Int) := by omega
 cases a with
 | none =>
  obtain ⟨rfl, rfl⟩ := h0 rfl
  go_enter Tryz.func83, Tryz.ntmps83
  go_wp2
  go_ret
  exact ⟨rfl, rfl⟩
 | some a =>
  go_enter Tryz.func83, Tryz.ntmps83
  go_wp2
  go_ret
  exact ⟨rfl, rfl⟩
theorem win_none {α : Type} {enc : α → List Value} {k e : Nat} {w : World} {a : Option Addr} {n c : Nat} {S : Nat → Prop} {xs : List α} (h : Win enc k e w (.slice a n c) S xs) : n ≤ c ∧ (a = none → n = 0 ∧ c = 0) := by
 rcases h.2 with ⟨e0, e1⟩ | ⟨g, o, cap, cur, e0, _, _, hn, _⟩
 ·injection e0 with e0 e2 e3
  exact ⟨by omega, fun _ => ⟨e2, e3⟩⟩
 ·injection e0 with e0 e2 e3
  exact ⟨by omega, fun h => by rw [h] at e0; cases e0⟩
structure AutoAt (w : World) (v1 v2 v3 v4 : Value) (au : Auto) : Prop where
 tests : Rd Test.cells 3 w v1 au.tests
 first : Rd intC 1 w v2 au.first
 last : Rd intC 1 w v3 au.last
 follow : Rd edgeC 7 w v4 au.follow
theorem AutoAt.below {w W : World} {v1 v2 v3 v4 : Value} {au : Auto} (h : AutoAt w v1 v2 v3 v4 au) (hb : Below w.heap.size w W) : AutoAt W v1 v2 v3 v4 au := ⟨h.tests.below hb, h.first.below hb, h.last.below hb, h.follow.below hb⟩
theorem put4 {w : World} {O T : Nat} {a b c d : Value} (h : w.heap[O]? = some (.cells #[a, b, c, d] T (0, 0))) (a' b' c' d' : Value) :
 ((((w.setCell ⟨O, 0, none⟩ a').setCell ⟨O, 1, none⟩ b').setCell ⟨O, 2, none⟩ c').setCell ⟨O, 3, none⟩ d').heap[O]? = some (.cells #[a', b', c', d'] T (0, 0)) ∧ Fr (fun i => i = O) w ((((w.setCell ⟨O, 0, none⟩ a').setCell ⟨O, 1, none⟩ b').setCell ⟨O, 2, none⟩ c').setCell ⟨O, 3, none⟩ d') :=
 ⟨setCell_blk (o := 3) (setCell_blk (o := 2) (setCell_blk (o := 1) (setCell_blk (o := 0) h a') b') c') d',
  zT (fr_setCell w ⟨O, 0, none⟩ _) (zT (fr_setCell _ ⟨O, 1, none⟩ _) (zT (fr_setCell _ ⟨O, 2, none⟩ _) (fr_setCell _ ⟨O, 3, none⟩ _) fun i _ h => h) fun i _ h => h) fun i _ h => h⟩
theorem IntsAt.fr {w w' : World} {v : Value} {xs : List Int} {S : Nat → Prop} (hx : IntsAt w v xs) (g : Fr S w w') (hS : ∀ i, some i = v.ownBlock → ¬ S i) : IntsAt w' v xs :=
 ⟨rd_move hx.1 g hS, fun i hi => by
  obtain ⟨cur, q, hg⟩ := hx.2 i hi
  exact ⟨cur, q, (g.block i (Array.getElem?_eq_some_iff.1 hg).1 (hS i hi)).trans hg⟩⟩
theorem own_len (a : Option Addr) (n c n' c' : Nat) : (Value.slice a n c).ownBlock = (Value.slice a n' c').ownBlock := by cases a <;> rfl
theorem rd_cap {α : Type} {enc : α → List Value} {k : Nat} {w : World} {a : Option Addr} {n c : Nat} {xs : List α} (h : Rd enc k w (.slice a n c) xs) (c' : Nat) : Rd enc k w (.slice a n c') xs := by
 obtain ⟨h0, a1, c1, e, h⟩ := h
 injection e with e1 e2 e3
 subst e1; subst e2
 exact ⟨h0, _, _, rfl, h⟩
theorem values_to (a : Option Addr) (n c : Nat) (w : World) : Calls Tryz.prog 82 #[.slice a n c] w fun e w' => ∃ Bn, e = .returned (.func (.func 147) #[] #[.pointer (some ⟨Bn, 0, none⟩)]) ∧ w'.cell? ⟨Bn, 0, none⟩ = some (.slice a n c) ∧ Bn < w'.heap.size ∧ Below w.heap.size w w' := by
 refine (values_any a n c w).mono ?_
 rintro e w' ⟨rfl, rfl⟩
 exact ⟨_, rfl, World.cell?_alloc_new w #[.slice a n c] _ 0, by simp, (Below.refl _ _).alloc (Nat.le_refl _) _⟩
theorem makeP_ne : ∀ (f : Form) (k : Int), (makeP f k).first ≠ [] ∧ (makeP f k).last ≠ []
 | .one _, k => by simp [makeP]
 | .thn _ a b, k => by have h1 := makeP_ne a k; have h2 := makeP_ne b (k + (makeP a k).tests.length); simp only [makeP]; exact ⟨h1.1, h2.2⟩
 | .or a b, k => by have h1 := makeP_ne a k; simp only [makeP]; exact ⟨by simp [h1.1], by simp [h1.2]⟩
 | .many _ a, k => by have h1 := makeP_ne a k; simp only [makeP]; exact h1
 | .lack _ a _ b, k => by have h1 := makeP_ne a k; have h2 := makeP_ne b (k + (makeP a k).tests.length); simp only [makeP]; exact ⟨h1.1, h2.2⟩
set_option maxHeartbeats 16000000 in
theorem auto_out (x : Node) (v : Value) (near : Int) (same : Bool) (srcs : Int) (w : World) (hk : RdK w x.ks v) :
 Calls Tryz.prog 14 #[.agg (queryA x v near same), .int .i64 srcs] w fun e w' => ∃ v1 v2 v3 v4, e = .returned (.tuple #[.agg #[v1, v2, v3, v4], .int .i64 (if queryP srcs x near then 0 else 2)]) ∧ AutoAt w' v1 v2 v3 v4 (if queryP srcs x near then autoP x else ⟨[], [], [], []⟩) ∧ Below w.heap.size w w' := by
 obtain ⟨a0, c0, e0, _⟩ := id hk
 have HS := zH hk
 clear hk
 subst e0
 obtain ⟨r, hr⟩ : ∃ r : Int, r = (if queryP srcs x near then 0 else 2) := ⟨_, rfl⟩
 obtain ⟨au, hau⟩ : ∃ au : Auto, au = (if queryP srcs x near then autoP x else ⟨[], [], [], []⟩) := ⟨_, rfl⟩
 rw [← hr, ← hau]
 have HRA := zH (zA hr hau)
 clear hr hau
 go_enter Tryz.func14, Tryz.ntmps14
 go_wp2_with fail
 refine named_box2 (G := fun W => Calls _ _ _ W _) w _ _ _ _ fun W1 hb1 hz1 hx1 hy1 => ?_
 refine (isQuery_any x (.slice a0 x.ks.len c0) near same srcs W1 (HS.out.below hb1)).mono ?_
 rintro e w2 ⟨rfl, hb2⟩
 have hbw2 : Below w.heap.size w w2 := hb1.trans (hb2.mono hb1.size)
 have hx2 := (hb2.block w.heap.size (by omega)).trans hx1
 have hy2 := (hb2.block (w.heap.size + 1) (by omega)).trans hy1
 have o0 : w2.cell? ⟨w.heap.size + 1, 0, none⟩ = some (.slice none 0 0) := zC hy2 0
 have o1 : w2.cell? ⟨w.heap.size + 1, 1, none⟩ = some (.slice none 0 0) := zC hy2 1
 have o2 : w2.cell? ⟨w.heap.size + 1, 2, none⟩ = some (.slice none 0 0) := zC hy2 2
 have o3 : w2.cell? ⟨w.heap.size + 1, 3, none⟩ = some (.slice none 0 0) := zC hy2 3
 have z0 := zK hy2 0
 have z1 := zK hy2 1
 have z2 := zK hy2 2
 have z3 := zK hy2 3
 cases hq : queryP srcs x near with
 | false =>
  have hp4 := put4 hy2 (.slice none 0 0) (.slice none 0 0) (.slice none 0 0) (.slice none 0 0)
  have HP := zH (zA hp4.2 hbw2)
  have g0 := zC hp4.1 0
  have g1 := zC hp4.1 1
  have g2 := zC hp4.1 2
  have g3 := zC hp4.1 3
  simp only [List.getElem?_toArray, List.getElem?_cons_zero, List.getElem?_cons_succ] at g0 g1 g2 g3
  have HQ := zH hq
  clear hb1 hx1 hy1 hb2 hbw2 hx2 hy2 hp4 hq hz1
  go_wp2
  exact bodyPost_ret (v := .tuple #[.agg #[.slice none 0 0, .slice none 0 0, .slice none 0 0, .slice none 0 0], .int .i64 2]) (by simp [results, Tryz.results14, go_sem, g0, g1, g2, g3]) rfl ⟨_, _, _, _, by rw [HRA.out.1, HQ.out]; rfl, by rw [HRA.out.2, HQ.out, if_neg (by decide)]; exact ⟨Rd.nil _ _ _, Rd.nil _ _ _, Rd.nil _ _ _, Rd.nil _ _ _⟩, HP.out.2.trans (zO HP.out.1 HP.out.2.size fun i hi => by have h : i = w.heap.size + 1 := hi; omega)⟩
 | true =>
  have k0 : w2.cell? ⟨w.heap.size, 0, none⟩ = some (.int .i64 x.op) := zC hx2 0
  have k1 : w2.cell? ⟨w.heap.size, 1, none⟩ = some (.int .i64 x.t.src) := zC hx2 1
  have k2 : w2.cell? ⟨w.heap.size, 2, none⟩ = some (.int .i64 x.t.low) := zC hx2 2
  have k3 : w2.cell? ⟨w.heap.size, 3, none⟩ = some (.int .i64 x.t.high) := zC hx2 3
  have k4 : w2.cell? ⟨w.heap.size, 4, none⟩ = some (.int .i64 x.n) := zC hx2 4
  have k5 : w2.cell? ⟨w.heap.size, 5, none⟩ = some (.slice a0 x.ks.len c0) := zC hx2 5
  have al2 := fun o => (Below.refl w2.heap.size w2).alloc (Nat.le_refl _) o
  have k0' := fun o => zB (al2 o) k0
  have k1' := fun o => zB (al2 o) k1
  have k2' := fun o => zB (al2 o) k2
  have k3' := fun o => zB (al2 o) k3
  have k4' := fun o => zB (al2 o) k4
  have k5' := fun o => zB (al2 o) k5
  have hs : 1 ≤ srcs ∧ srcs ≤ 4 := by
   simp only [queryP, inP, Bool.and_eq_true, decide_eq_true_eq] at hq
   exact hq.1.1
  have hp : patP srcs x.op x.t x.n x.ks = true := by
   simp only [queryP, Bool.and_eq_true] at hq
   exact hq.1.2
  have HP := zH (zA hp (zA hs (zA hbw2 (zA hx2 (zA hy2 hq)))))
  clear hb1 hx1 hy1 hb2 hbw2 hx2 hy2 hq hz1 hs hp al2 k0 k1 k2 k3 k4 k5
  go_wp2_with fail
  refine zX (G := fun W => Calls _ _ _ W _) w2 _ _ fun W3 hb3 hz3 hx3 => ?_
  clear o0 o1 o2 o3 z0 z1 z2 z3 k0' k1' k2' k3' k4' k5'
  obtain ⟨hp, hs, hbw2, hx2, hy2, hq⟩ := HP.out
  have hbw3 : Below w.heap.size w W3 := hbw2.trans (hb3.mono hbw2.size)
  have hM3 : MkAt W3 w2.heap.size w.heap.size (.slice none 0 0) (.slice none 0 0) [] [] := ⟨hx3, hbw2.size, win_nil _ _ _ _ _, win_nil _ _ _ _ _⟩
  have hsh := formOf_shape hp
  have hsm := shape_small hp
  have hsz := makeP_size (formOf x) 0
  have hen := makeP_ends (formOf x) 0
  have hfo := makeP_follow (formOf x) 0 hsm
  have hpl := makeP_places (formOf x) 0
  refine (ends_any w2.heap.size w.heap.size (formOf x) x.op x.n x.t x.ks hsh W3 _ _ (.slice a0 x.ks.len c0) [] [] hM3 ?_ (by simp; omega) (by simp; omega) hsm).mono ?_
  ·exact HS.out.keep hbw3
  rintro e W4 ⟨vf, vl, u1, u2, rfl, hf, hl, hM4, hG4⟩
  have hf : IntsAt W4 vf (makeP (formOf x) 0).first := hf
  have hl : IntsAt W4 vl (makeP (formOf x) 0).last := hl
  have hM4 : MkAt W4 w2.heap.size w.heap.size u1 u2 (makeP (formOf x) 0).tests (makeP (formOf x) 0).follow := by
   have := hM4
   rw [List.nil_append, List.nil_append] at this
   exact this
  obtain ⟨af, cf, rfl⟩ := hf.form
  obtain ⟨al, cl, rfl⟩ := hl.form
  obtain ⟨a1, c1, rfl⟩ := hM4.form1
  obtain ⟨a2, c2, rfl⟩ := hM4.form2
  have hown2 : ∀ i, some i = (Value.slice a2 (makeP (formOf x) 0).follow.length c2).ownBlock → W3.heap.size ≤ i := fun i hi => (hG4.own2 i hi).resolve_left (by simp [Value.ownBlock])
  have hbw4 : Below w.heap.size w W4 := hbw3.trans (hG4.lo hM3 hbw3.size)
  have hy4 : W4.heap[w.heap.size + 1]? = W3.heap[w.heap.size + 1]? := hG4.fr.block _ (by have := (Array.getElem?_eq_some_iff.1 hy2).1; omega) (by have := (Array.getElem?_eq_some_iff.1 hy2).1; rintro (h | h | h); omega; simp [Value.ownBlock] at h; simp [Value.ownBlock] at h)
  have hfine := autoP_edges hp
  have hsmall : ∀ e ∈ (makeP (formOf x) 0).follow, edgeSm e := fun e he => by
   obtain ⟨⟨h1, h2⟩, h3, h4⟩ := hfine e he
   have ht : smallT e.t := by
    rcases h2 with ⟨_, h2⟩ | ⟨_, h2⟩
    ·exact isTest_small h2 hs.2
    ·rw [h2]; exact zeroT_small
   unfold smallT at ht
   refine ⟨?_, ?_, ?_, ?_, ?_, ?_⟩ <;> unfold small1 <;> omega
  have HSO := zH (sortEdges_any a2 c2 _ _ W4 hM4.follow (by omega) hsmall)
  have m1 := zC hM4.at_ 1
  have HQ := zH hq
  have H4 := zH (zA hf (zA hl (zA hM4 (zA hbw4 (zA (hy4.trans ((hb3.block _ (Array.getElem?_eq_some_iff.1 hy2).1).trans hy2)) (zA hown2 (zA hpl (zA hsz hen))))))))
  have hOW : w.heap.size + 1 < W3.heap.size := by have := (Array.getElem?_eq_some_iff.1 hy2).1; omega
  have hMW : w2.heap.size < W3.heap.size := by omega
  have hOM : w.heap.size + 1 < w2.heap.size := (Array.getElem?_eq_some_iff.1 hy2).1
  clear hp hs hbw2 hx2 hy2 hq hbw3 hM3 hsh hf hl hM4 hG4 hown2 hbw4 hy4 hfine hsmall hb3 hx3 hz3 hpl hsz hen
  go_wp2_with (go_at_call 78; refine HSO.out.mono ?_; rintro e w5 ⟨rfl, ss, hpm, hpw, hw5, hf5⟩)
  obtain ⟨hf, hl, hM4, hbw4, hO4, hown2, hpl, hsz, hen⟩ := H4.out
  have hn5 : ∀ i, some i = (Value.slice a2 (makeP (formOf x) 0).follow.length c2).ownBlock → i ≠ w2.heap.size ∧ i ≠ w.heap.size + 1 ∧ w.heap.size ≤ i := fun i hi => by have := hown2 i hi; omega
  have m5 : w5.heap[w2.heap.size]? = some (.cells #[.slice a1 (makeP (formOf x) 0).tests.length c1, .slice a2 (makeP (formOf x) 0).follow.length c2] 118 (0, 0)) := (hf5.block _ (Array.getElem?_eq_some_iff.1 hM4.at_).1 fun h => (hn5 _ h).1 rfl).trans hM4.at_
  have o5 : w5.heap[w.heap.size + 1]? = some (.cells #[.slice none 0 0, .slice none 0 0, .slice none 0 0, .slice none 0 0] 34 (0, 0)) := (hf5.block _ (Array.getElem?_eq_some_iff.1 hO4).1 fun h => (hn5 _ h).2.1 rfl).trans hO4
  have hf5' : IntsAt w5 (.slice af (makeP (formOf x) 0).first.length cf) (makeP (formOf x) 0).first := hf.fr hf5 fun i hi h => hf.apart hM4 i hi (.inr (.inr h))
  have hl5' : IntsAt w5 (.slice al (makeP (formOf x) 0).last.length cl) (makeP (formOf x) 0).last := hl.fr hf5 fun i hi h => hl.apart hM4 i hi (.inr (.inr h))
  have ht5 : Rd Test.cells 3 w5 (.slice a1 (makeP (formOf x) 0).tests.length c1) (makeP (formOf x) 0).tests := rd_move (win_rd (fun _ => rfl) hM4.tests) hf5 fun i hi h => by
   obtain ⟨_, q1, h1⟩ := win_own_type hM4.tests i hi
   obtain ⟨_, q2, h2⟩ := win_own_type hM4.follow i h
   rw [h1] at h2; injection h2 with h2; injection h2 with _ h2; exact absurd h2 (by decide)
  have hle : ss.length = (makeP (formOf x) 0).follow.length := hpm.length_eq
  rw [← hle] at m5 hw5 hf5 hn5
  have hKS : ∀ W, Fr (fun i => i = w.heap.size + 1 ∨ some i = (Value.slice a2 ss.length c2).ownBlock) w5 W → W.cell? ⟨w2.heap.size, 0, none⟩ = some (.slice a1 (makeP (formOf x) 0).tests.length c1) ∧ W.cell? ⟨w2.heap.size, 1, none⟩ = some (.slice a2 ss.length c2) := fun W hW => by
   have hB := (hW.block w2.heap.size (Array.getElem?_eq_some_iff.1 m5).1 (by rintro (h | h); omega; exact (hn5 _ h).1 rfl)).trans m5
   exact ⟨zC hB 0, zC hB 1⟩
  have hct := win_none hM4.tests
  have hat : ∀ i, some i = (Value.slice a1 (makeP (formOf x) 0).tests.length c1).ownBlock → ¬ (i = w.heap.size + 1 ∨ some i = (Value.slice a2 ss.length c2).ownBlock) := fun i hi h => by
   obtain ⟨_, q1, h1⟩ := win_own_type hM4.tests i hi
   rcases h with rfl | h
   ·rw [hO4] at h1; injection h1 with h1; injection h1 with _ h1; exact absurd h1 (by decide)
   ·obtain ⟨_, q2, h2⟩ := win_own_type hM4.follow i (h.trans (own_len _ _ _ _ _))
    rw [h1] at h2; injection h2 with h2; injection h2 with _ h2; exact absurd h2 (by decide)
  have hne := makeP_ne (formOf x) 0
  have hK := zH hKS
  have H5 := zH (zA o5 (zA hf5' (zA hl5' (zA ht5 (zA hn5 (zA hw5 (zA hct (zA hne (zA hpl (zA hle (zA hpm (zA hpw hat))))))))))))
  have H6 := zH (zA hbw4 (zA hf5 (zA hsz (zA hen (zA hsm hfo)))))
  have E80 := zH (enters_of Tryz.func80 (by kernel_rfl) rfl)
  have E82 := zH (enters_of Tryz.func82 (by kernel_rfl) rfl)
  have E81 := zH (enters_of Tryz.func81 (by kernel_rfl) rfl)
  have E84 := zH (enters_of Tryz.func84 (by kernel_rfl) rfl)
  have E83 := zH (enters_of Tryz.func83 (by kernel_rfl) rfl)
  clear m1 hf hl hM4 hbw4 hO4 hown2 hpl hsz hen hsm hfo hn5 m5 o5 hf5' hl5' ht5 hle hKS hct hne hpm hpw hw5 hf5 HSO HS H4
  refine zR 20 (S := fun W => W.cell? ⟨w2.heap.size, 0, none⟩ = some (.slice a1 (makeP (formOf x) 0).tests.length c1) ∧ W.cell? ⟨w2.heap.size, 1, none⟩ = some (.slice a2 ss.length c2)) (by kernel_rfl) (by kernel_rfl) rfl (hK.out _ (fr_drewN _ _ 1)) (fun hHeld => ?_)
  try simp only [List.reduceReplicate]
  repeat refine takeA [4, 6, 7, 9, 10, 15, 16, 17, 18, 19] (h := ?_)
  refine callA [] (args := ?_) (R := ?_) (he := ?_) (hc := ?_) (hargs := ?_) (h := ?_)
  rotate_left 2
  exact E80.out; exact clipT_any a1 _ c1 H5.out.2.2.2.2.2.2.1.1 _ H5.out.2.2.2.2.2.2.1.2; rfl; rintro e wz ⟨rfl, rfl⟩; refine .inl ⟨_, rfl, by assumption, fun hHeld => ?_⟩
  refine normA (h := ?_)
  refine callA [] (args := ?_) (R := ?_) (he := ?_) (hc := ?_) (hargs := ?_) (h := ?_)
  rotate_left 2
  exact E82.out; exact values_to af (makeP (formOf x) 0).first.length cf _; rfl; rintro e w6 ⟨B1, rfl, hc6, hl6, hb6⟩; have hf6 : Fr (fun i => i = w.heap.size + 1 ∨ some i = (Value.slice a2 ss.length c2).ownBlock) w5 w6 := zF ((Below.refl _ _).drew.trans hb6); have H7 := zH (zA hc6 (zA hl6 (zA hb6 hf6))); clear hc6 hl6 hb6 hf6; refine .inl ⟨_, rfl, hK.out _ H7.out.2.2.2, fun hHeld => ?_⟩
  refine normA (h := ?_)
  refine callA [] (args := ?_) (R := ?_) (he := ?_) (hc := ?_) (hargs := ?_) (h := ?_)
  rotate_left 2
  exact E81.out; exact sorted_any B1 _ _ _ H7.out.1 H7.out.2.1 (H5.out.2.1.below ((Below.refl _ _).drew.trans H7.out.2.2.1)) (by have h1 := H6.out.2.2.1; have h2 := H6.out.2.2.2.1; have h3 := H6.out.2.2.2.2.1; omega) H5.out.2.2.2.2.2.2.2.1.1 H5.out.2.2.2.2.2.2.2.2.1.2.2.1; rfl; rintro e w7 ⟨v7, rfl, hi7, hb7⟩; obtain ⟨a7, c7, rfl⟩ := hi7.form; have hb57 : Below w5.heap.size w5 w7 := ((Below.refl _ _).drew.trans H7.out.2.2.1).trans (hb7.mono H7.out.2.2.2.size); have H8 := zH (zA hi7 hb57); clear hi7 hb7 hb57; refine .inl ⟨_, rfl, hK.out _ (zF H8.out.2), fun hHeld => ?_⟩
  refine normA (h := ?_)
  refine callA [] (args := ?_) (R := ?_) (he := ?_) (hc := ?_) (hargs := ?_) (h := ?_)
  rotate_left 2
  exact E82.out; exact values_to al (makeP (formOf x) 0).last.length cl _; rfl; rintro e w8 ⟨B2, rfl, hc8, hl8, hb8⟩; have hb58 : Below w5.heap.size w5 w8 := H8.out.2.trans (hb8.mono H8.out.2.size); have H9 := zH (zA hc8 (zA hl8 (zA hb8 hb58))); clear hc8 hl8 hb8 hb58; refine .inl ⟨_, rfl, hK.out _ (zF H9.out.2.2.2), fun hHeld => ?_⟩
  refine normA (h := ?_)
  refine callA [] (args := ?_) (R := ?_) (he := ?_) (hc := ?_) (hargs := ?_) (h := ?_)
  rotate_left 2
  exact E81.out; exact sorted_any B2 _ _ _ H9.out.1 H9.out.2.1 (H5.out.2.2.1.below H9.out.2.2.2) (by have h1 := H6.out.2.2.1; have h2 := H6.out.2.2.2.1; have h3 := H6.out.2.2.2.2.1; omega) H5.out.2.2.2.2.2.2.2.1.2 H5.out.2.2.2.2.2.2.2.2.1.2.2.2; rfl; rintro e w9 ⟨v9, rfl, hi9, hb9⟩; obtain ⟨a9, c9, rfl⟩ := hi9.form; have hb59 : Below w5.heap.size w5 w9 := H9.out.2.2.2.trans (hb9.mono H9.out.2.2.2.size); have hb79 : Below w7.heap.size w7 w9 := H9.out.2.2.1.trans (hb9.mono H9.out.2.2.1.size); have H10 := zH (zA hi9 (zA hb59 hb79)); clear hi9 hb9 hb59 hb79; refine .inl ⟨_, rfl, hK.out _ (zF H10.out.2.1), fun hHeld => ?_⟩
  refine normA (h := ?_)
  refine callA [] (args := ?_) (R := ?_) (he := ?_) (hc := ?_) (hargs := ?_) (h := ?_)
  rotate_left 2
  exact E84.out; exact compactEdges_any a2 c2 _ w9 ss (zM H5.out.2.2.2.2.2.1 (zF (S := fun _ => False) H10.out.2.1) (fun _ _ h => h)) (by have h1 := H6.out.2.2.2.2.2; have h2 := H6.out.2.2.2.2.1; have h3 := H5.out.2.2.2.2.2.2.2.2.2.1; omega); rfl; rintro e w10 ⟨es', rfl, he', hw10, hf10⟩; have hf510 : Fr (fun i => i = w.heap.size + 1 ∨ some i = (Value.slice a2 ss.length c2).ownBlock) w5 w10 := zT (zF H10.out.2.1) hf10 (fun i _ h => .inr h); have H11 := zH (zA he' (zA hw10 (zA hf10 hf510))); clear he' hw10 hf10 hf510; refine .inl ⟨_, rfl, hK.out _ H11.out.2.2.2, fun hHeld => ?_⟩
  refine normA (h := ?_)
  refine callA [] (args := ?_) (R := ?_) (he := ?_) (hc := ?_) (hargs := ?_) (h := ?_)
  rotate_left 2
  exact E83.out; exact clipE_any a2 es'.length c2 (win_none H11.out.2.1).1 _ (win_none H11.out.2.1).2; rfl; rintro e wz ⟨rfl, rfl⟩; refine .inl ⟨_, rfl, by assumption, fun hHeld => ?_⟩
  refine normA (h := ?_)
  try simp only [List.reduceReplicate]
  repeat refine takeA [18, 19] (h := ?_)
  have o10 : w10.heap[w.heap.size + 1]? = some (.cells #[.slice none 0 0, .slice none 0 0, .slice none 0 0, .slice none 0 0] 34 (0, 0)) := by
   refine (H11.out.2.2.1.block _ ?_ fun h => (H5.out.2.2.2.2.1 _ h).2.1 rfl).trans ((H10.out.2.1.block _ (Array.getElem?_eq_some_iff.1 H5.out.1).1).trans H5.out.1)
   have := (Array.getElem?_eq_some_iff.1 H5.out.1).1
   have := H10.out.2.1.size
   omega
  have g0 : w10.cell? ⟨w.heap.size + 1, 0, none⟩ = some (.slice none 0 0) := zC o10 0
  have g1 : w10.cell? ⟨w.heap.size + 1, 1, none⟩ = some (.slice none 0 0) := zC o10 1
  have g2 : w10.cell? ⟨w.heap.size + 1, 2, none⟩ = some (.slice none 0 0) := zC o10 2
  have g3 : w10.cell? ⟨w.heap.size + 1, 3, none⟩ = some (.slice none 0 0) := zC o10 3
  have z0 := zK o10 0
  have z1 := zK o10 1
  have z2 := zK o10 2
  have z3 := zK o10 3
  have hp4 := put4 o10 (.slice a1 (makeP (formOf x) 0).tests.length (makeP (formOf x) 0).tests.length) (.slice a7 (makeP (formOf x) 0).first.length c7) (.slice a9 (makeP (formOf x) 0).last.length c9) (.slice a2 es'.length es'.length)
  have HP4 := zH hp4
  clear hp4 o10
  refine skipA [] (hS := by exact hK.out _ (zT H11.out.2.2.2 HP4.out.2 fun i _ h => .inl h)) (h := fun hHeld => ?_)
  clear g0 g1 g2 g3 z0 z1 z2 z3
  try simp only [List.reduceReplicate]
  repeat refine takeA [] (h := ?_)
  refine wpAnyH_done (by kernel_rfl) ?_ _
  have g0 := zC HP4.out.1 0
  have g1 := zC HP4.out.1 1
  have g2 := zC HP4.out.1 2
  have g3 := zC HP4.out.1 3
  simp only [List.getElem?_toArray, List.getElem?_cons_zero, List.getElem?_cons_succ] at g0 g1 g2 g3
  go_wp2
  refine bodyPost_ret (v := .tuple #[.agg #[.slice a1 (makeP (formOf x) 0).tests.length (makeP (formOf x) 0).tests.length, .slice a7 (makeP (formOf x) 0).first.length c7, .slice a9 (makeP (formOf x) 0).last.length c9, .slice a2 es'.length es'.length], .int .i64 0]) (by simp [results, Tryz.results14, go_sem, g0, g1, g2, g3]) rfl ?_
  refine ⟨_, _, _, _, by rw [HRA.out.1, HQ.out]; rfl, ?_, ?_⟩
  ·rw [HRA.out.2, HQ.out, if_pos rfl]
   have hw9 := zM H5.out.2.2.2.2.2.1 (zF (S := fun _ => False) H10.out.2.1) (fun _ _ h => h)
   have ho9 := (H10.out.2.1.block _ (Array.getElem?_eq_some_iff.1 H5.out.1).1).trans H5.out.1
   have hF9 := zT (S := fun i => i = w.heap.size + 1 ∨ some i = (Value.slice a2 ss.length c2).ownBlock) (fr_mono H11.out.2.2.1 fun i h => .inr h) HP4.out.2 fun i _ h => .inl h
   have ap : ∀ (v : Value) (l : List Int), IntsAt w9 v l → ∀ i, some i = v.ownBlock → ¬ (i = w.heap.size + 1 ∨ some i = (Value.slice a2 ss.length c2).ownBlock) := fun v l h i hi hn => by
    obtain ⟨_, q1, h1⟩ := h.2 i hi
    rcases hn with rfl | hn
    ·rw [ho9] at h1; injection h1 with h1; injection h1 with _ h1; exact absurd h1 (by decide)
    ·obtain ⟨_, q2, h2⟩ := win_own_type hw9 i hn
     rw [h1] at h2; injection h2 with h2; injection h2 with _ h2; exact absurd h2 (by decide)
   have h7 := H8.out.1.below H10.out.2.2
   have hes : es' = setO edgeOrd (makeP (formOf x) 0).follow := by
    rw [H11.out.1.out, compact_set edgeOrd_laws H5.out.2.2.2.2.2.2.2.2.2.2.2.1, setO_perm edgeOrd_laws H5.out.2.2.2.2.2.2.2.2.2.2.1]
   refine ⟨rd_cap (rd_move H5.out.2.2.2.1 (zT H11.out.2.2.2 HP4.out.2 fun i _ h => .inl h) H5.out.2.2.2.2.2.2.2.2.2.2.2.2) _, rd_move h7.1 hF9 (ap _ _ h7), rd_move H10.out.1.1 hF9 (ap _ _ H10.out.1), ?_⟩
   show Rd edgeC 7 _ _ (setO edgeOrd (makeP (formOf x) 0).follow)
   rw [← hes]
   have hr10 : Rd edgeC 7 w10 (.slice a2 es'.length c2) es' := win_rd (fun _ => rfl) H11.out.2.1
   have hob : ∀ i, some i = (Value.slice a2 es'.length c2).ownBlock → ¬ i = w.heap.size + 1 := fun i hi h => (H5.out.2.2.2.2.1 i (hi.trans (own_len _ _ _ _ _))).2.1 h
   exact rd_cap (rd_move hr10 HP4.out.2 hob) _
  ·have h1 := zO (H6.out.2.1) H6.out.1.size fun i hi => by
    have := (H5.out.2.2.2.2.1 i hi).2.2; omega
   have h2 := H6.out.1.trans h1
   have hO := (Array.getElem?_eq_some_iff.1 H5.out.1).1
   exact h2.trans (zO (zT H11.out.2.2.2 HP4.out.2 fun i _ h => .inl h) h2.size fun i hi => by
    rcases hi with rfl | hi
    ·omega
    ·exact (H5.out.2.2.2.2.1 i hi).2.2)
end
end Go.Proofs.YtgiploddoffmjaaGreat
