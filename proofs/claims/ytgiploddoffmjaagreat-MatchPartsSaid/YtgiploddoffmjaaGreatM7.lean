/- My texts, joined: W34. -/
import Derived.Below
import Derived.BigQuiet
import Derived.ChangeKeysEq
import Derived.Deep.AppendLies
import Derived.Deep.DeepCutAuto
import Derived.Deep.QuietTactic
import Derived.Deep.RegionHeld
import Derived.Deep.RegionHeld3
import Derived.Deep.RegionLaw
import Derived.Defers
import Derived.KernelRfl
import Derived.Laws.AppendOwn
import Derived.Laws.AppendOwnNone
import Derived.Laws.CopyRow
import Derived.Laws.Pointers
import Derived.Laws.StructEq
import Derived.Lib.Hide
import Derived.LoopIn
import Derived.LoopNIn
import Derived.LoopTactic
import Derived.MapKept
import Derived.Maps.AppendAt
import Derived.Maps.OwnOps
import Derived.Maps.RangeRun
import Derived.Maps.RangeWalk
import Derived.Outline
import Derived.OwnWalk
import Derived.OwnWalkIn
import Derived.RangeFuncBound
import Derived.RangeFuncCalls
import Derived.RangeFuncLeaves
import Derived.RangeFuncNested
import Derived.Recover
import Derived.Shelf.Abstract
import Derived.Shelf.RegionOpen
import Derived.TacticsInMore
import Derived.Test.YtgiploddoffmjaaGreatProg
import Derived.WalkKit
import Derived.WalkLawsBesides
import Derived.WalkSpells
import Derived.Test.YtgiploddoffmjaaGreatM0
import Derived.Test.YtgiploddoffmjaaGreatM1
import Derived.Test.YtgiploddoffmjaaGreatM2
import Derived.Test.YtgiploddoffmjaaGreatM3
import Derived.Test.YtgiploddoffmjaaGreatM4
import Derived.Test.YtgiploddoffmjaaGreatM5
import Derived.Test.YtgiploddoffmjaaGreatM6
set_option linter.unusedVariables false
set_option linter.unusedSimpArgs false
set_option linter.unusedSectionVars false
set_option maxRecDepth 10000
namespace Go.Proofs.YtgiploddoffmjaaGreat
section
open Go.RowKit Go.Shelf
def enc2 (p : Int × Int) : Value := .agg #[.int .i64 p.1, .int .i64 p.2]
theorem info_int2 : (Tryz.prog.info? 3).map (fun i => (i.zero, i.size, i.bytes)) = some (some (.int .i64 0), 1, 8) := by kernel_rfl
theorem eqIn3 (n : Nat) (x y : Int) (w : World) : (Op.equalIn (n + 1) 3 (.int .i64 x) (.int .i64 y)).run Tryz.prog w = .ok (decide (x = y)) w := by
 have u3 := Tryz.underlying3
 simp only [Op.equalIn, Sem.run_bind, run_underlying u3, Result.andThen_ok, if_true, Sem.run_pure]
 rfl
theorem key2 : KeyOk Tryz.prog 196 enc2 where
 check := fun _ _ _ => by kernel_rfl
 eq := fun x y w => by
  have u3 := Tryz.underlying3
  have a3 := Tryz.isAgg3
  have z3 := Tryz.sizeOf3
  obtain ⟨i, hi, _⟩ := Option.map_eq_some_iff.1 info_int2
  obtain ⟨a, b⟩ := x
  obtain ⟨c, d⟩ := y
  have h := run_equalIn_array (P := Tryz.prog) (w := w) 9999 #[.int .i64 a, .int .i64 b] #[.int .i64 c, .int .i64 d] Tryz.underlying196 hi
  show (Op.equalIn 10000 _ _ _).run _ _ = _
  rw [show (10000 : Nat) = 9999 + 1 from rfl]
  refine h.trans ?_
  have hr : List.range 2 = [0, 1] := rfl
  have hcl : Tryz.prog.cellsOf 3 = 1 := by kernel_rfl
  have p0 : ∀ (x y : Int) (w : World), (part 3 #[.int .i64 x, .int .i64 y] 0).run Tryz.prog w = .ok (.int .i64 x) w := fun _ _ _ => by kernel_rfl
  have p1 : ∀ (x y : Int) (w : World), (part 3 #[.int .i64 x, .int .i64 y] 1).run Tryz.prog w = .ok (.int .i64 y) w := fun _ _ _ => by kernel_rfl
  have q : ∀ (x y : Int) (w : World), (Op.equalIn 9999 3 (.int .i64 x) (.int .i64 y)).run Tryz.prog w = .ok (decide (x = y)) w := fun x y w => eqIn3 9998 x y w
  rw [hr, hcl]
  simp only [Op.eqItems, Sem.run_bind, Nat.zero_mul, Nat.one_mul, p0, p1, q, Result.andThen_ok]
  by_cases h1 : a = c <;> by_cases h2 : b = d <;> simp [h1, h2, p0, p1, q, Result.andThen]
 now := fun x y d h => by
  rw [Tryz.underlying196] at h
  injection h with h
  subst h
  rfl
 some := ⟨_, Tryz.underlying196⟩
 bits := fun x => by
  simp [enc2, Instr.sameBits]
def seenF (l : List Ev) (p : Int × Int) : Option Value := if l.any (fun d => decide (d.src = p.1) && decide (d.id = p.2)) then some (.bool true) else none
theorem seenF_snoc {l : List Ev} {n : Nat} {e : Ev} (h : l[n]? = some e) : seenF (l.take (n + 1)) = fun p => if p = (e.src, e.id) then some (.bool true) else seenF (l.take n) p := by
 funext p
 obtain ⟨a, b⟩ := p
 rw [seenF, seenF, List.take_add_one, h, List.any_append]
 by_cases h1 : (a, b) = (e.src, e.id)
 ·rw [if_pos h1]
  injection h1 with h1 h2
  simp [h1, h2]
 ·rw [if_neg h1]
  have : (decide (e.src = a) && decide (e.id = b)) = false := by
   rw [Bool.and_eq_false_iff, decide_eq_false_iff_not, decide_eq_false_iff_not]
   by_cases h2 : e.src = a
   ·exact .inr fun h3 => h1 (by rw [h2, h3])
   ·exact .inl h2
  simp [this]
theorem events_bad {srcs : Int} {l : List Ev} {n : Nat} (hn : n < l.length) (h : evGood srcs l n = false) : eventsP srcs l = false := by
 unfold eventsP
 rw [Bool.and_eq_false_iff]
 exact .inr (List.all_eq_false.2 ⟨n, List.mem_range.2 hn, by simp [h]⟩)
theorem events_all {srcs : Int} {l : List Ev} (hs : 1 ≤ srcs ∧ srcs ≤ 4) (h : ∀ k, k < l.length → evGood srcs l k = true) : eventsP srcs l = decide (l.length ≤ 60) := by
 unfold eventsP inP
 have : (List.range l.length).all (evGood srcs l) = true := List.all_eq_true.2 fun k hk => h k (List.mem_range.1 hk)
 rw [this, Bool.and_true, decide_eq_true hs.1, decide_eq_true hs.2]
 simp
set_option maxHeartbeats 16000000 in
theorem areEvents_any (l : List Ev) (v : Value) (srcs : Int) (hs : 1 ≤ srcs ∧ srcs ≤ 4) (w : World) (hr : Rd Ev.cells 5 w v l) :
 Calls Tryz.prog 90 #[v, .int .i64 srcs] w fun e w' => e = .returned (.bool (eventsP srcs l)) ∧ Below w.heap.size w w' := by
 obtain ⟨al, cl, rfl⟩ : ∃ a c, v = .slice a l.length c := by obtain ⟨_, a, c, rfl, _⟩ := hr; exact ⟨a, c, rfl⟩
 have hl63 := hr.1
 have HR := zH hr
 clear hr
 have hmm := @run_makeMap Tryz.prog
 go_enter Tryz.func90, Tryz.ntmps90
 go_wp2_with fail
 go_loopw [12] (fun i W => ∃ n : Nat, i = .int .i64 n ∧ n ≤ l.length ∧ (∀ k, k < n → evGood srcs l k = true) ∧ MapF enc2 W w.heap.size (seenF (l.take n)) ∧ Below w.heap.size w W) (fun i _ => l.length - (intOf i).toNat)
 case atStart => exact ⟨0, rfl, by omega, fun k h => by omega, MapF.new enc2 (heap_alloc_new w _), (Below.refl _ _).alloc (Nat.le_refl _) _⟩
 case round =>
  obtain ⟨n, rfl, hn, hgood, hM, hB⟩ := hrel
  by_cases hlt : n < l.length
  rotate_left
  ·obtain rfl : n = l.length := by omega
   have HG := zH (zA hgood hB)
   clear hgood hM hB hmm
   go_wp2
   go_ret
   exact ⟨ret_bool (by rw [events_all hs HG.out.1]; exact decide_eq_decide.2 (by omega)), HG.out.2⟩
  have hx := List.getElem?_eq_getElem hlt
  generalize l[n] = x at hx
  obtain ⟨es, id, at_, key, val⟩ := x
  obtain ⟨b, off, rfl, hbl, hc⟩ := rd_at (HR.out.below hB) hx
  have q0 : wr.cell? ⟨b, off + n * 5, none⟩ = some (.int .i64 es) := hc 0 _ rfl
  have q1 := hc 1 _ rfl
  have q2 := hc 2 _ rfl
  have q3 := hc 3 _ rfl
  have q4 := hc 4 _ rfl
  have n1 : (n : Int) < (l.length : Int) := by omega
  have HG := zH (zA hgood (zA hM (zA hB hx)))
  clear hgood hM hB hc hx hmm
  have hsw : IntKind.i64.wrap (srcs - 1) = srcs - 1 := Go.IntWalk.i64_in _ (by omega)
  go_wp2_with fail
  refine named_box2 (G := fun W => Code.wp _ _ _ _ W) wr _ _ _ _ fun w2 hb2 hz2 hx2 hy2 => ?_
  obtain ⟨hgood, hM, hB, hx⟩ := HG.out
  obtain ⟨met, hmet⟩ : ∃ met, met = (l.take n).any (fun d => decide (d.src = es) && decide (d.id = id)) := ⟨_, rfl⟩
  have hM2 : MapF enc2 w2 w.heap.size (seenF (l.take n)) := hM.move (zF (S := fun _ => False) hb2) (fun h => h)
  have hgo : (seenF (l.take n) (es, id)).getD (.bool false) = .bool met := by
   rw [seenF, hmet]
   show (if (l.take n).any (fun d => decide (d.src = es) && decide (d.id = id)) then some (Value.bool true) else none).getD (.bool false) = _
   cases (l.take n).any (fun d => decide (d.src = es) && decide (d.id = id)) <;> rfl
  have hlook : ∀ W, Below w2.heap.size w2 W → (Instr.lookup 195 (.map (some w.heap.size)) (.agg #[.int .i64 es, .int .i64 id]) false).run Tryz.prog W = .ok (.bool met) W := fun W hW => by
   have hz : (zeroValue 4).run Tryz.prog W = .ok (.bool false) W := by kernel_rfl
   have := run_lookup_f (P := Tryz.prog) key2 Tryz.underlying195 hz (hM2.move (zF (S := fun _ => False) hW) (fun h => h)) (es, id) false
   rw [if_neg (by decide), hgo] at this
   exact this
  have hcs : ∀ W, Below w2.heap.size w2 W → W.cell? ⟨wr.heap.size, 0, none⟩ = some (.int .i64 es) ∧ W.cell? ⟨wr.heap.size, 1, none⟩ = some (.int .i64 id) ∧ W.cell? ⟨wr.heap.size, 2, none⟩ = some (.int .i64 at_) ∧ W.cell? ⟨wr.heap.size, 3, none⟩ = some (.int .i64 key) ∧ W.cell? ⟨wr.heap.size, 4, none⟩ = some (.int .i64 val) ∧ W.cell? ⟨wr.heap.size + 1, 0, none⟩ = some (.int .i64 es) ∧ W.cell? ⟨wr.heap.size + 1, 1, none⟩ = some (.int .i64 id) ∧ (Instr.lookup 195 (.map (some w.heap.size)) (.agg #[.int .i64 es, .int .i64 id]) false).run Tryz.prog W = .ok (.bool met) W := fun W hW => ⟨zB hW (zC hx2 0), zB hW (zC hx2 1), zB hW (zC hx2 2), zB hW (zC hx2 3), zB hW (zC hx2 4), zB hW (zC hy2 0), zB hW (zC hy2 1), hlook W hW⟩
  have HCS := zH hcs
  have E88 := zH (enters_of Tryz.func88 (by kernel_rfl) rfl)
  have E153 := zH (enters_of Tryz.func153 (by kernel_rfl) rfl)
  have E154 := zH (enters_of Tryz.func154 (by kernel_rfl) rfl)
  obtain ⟨b1, hb1⟩ : ∃ b, b = inP es 0 (srcs - 1) := ⟨_, rfl⟩
  obtain ⟨c2, hc2⟩ : ∃ b, b = inP id 0 999 := ⟨_, rfl⟩
  obtain ⟨c3, hc3⟩ : ∃ b, b = inP at_ 0 200 := ⟨_, rfl⟩
  obtain ⟨c4, hc4⟩ : ∃ b, b = inP key (-1000000000) 1000000000 := ⟨_, rfl⟩
  obtain ⟨c5, hc5⟩ : ∃ b, b = inP val (-1000000000) 1000000000 := ⟨_, rfl⟩
  have HC1 := zH (fun W => within_any es 0 (srcs - 1) W)
  have HC2 := zH (fun W => within_any id 0 999 W)
  have HC3 := zH (fun W => within_any at_ 0 200 W)
  have HC4 := zH (fun W => value_any key W)
  have HC5 := zH (fun W => value_any val W)
  rw [← hb1] at HC1
  rw [← hc2] at HC2
  rw [← hc3] at HC3
  rw [← hc4] at HC4
  rw [← hc5] at HC5
  have hev : evGood srcs l n = (b1 && c2 && c3 && c4 && c5 && (decide (n = 0) || beforeP ((l[n - 1]?).getD default) ⟨es, id, at_, key, val⟩) && !met) := by
   rw [evGood, hx, hmet, hb1, hc2, hc3, hc4, hc5]
   simp only [evOk, List.not_any_eq_all_not]
  have HEV := zH hev
  have HN := zH (zA hgood (zA hM2 (zA hB (zA hb2 hx))))
  have HWD := zH ((Below.refl w2.heap.size w2).drew)
  have HI := zH (zA hb1 (zA hc2 hc3))
  have hz2' : w2.heap.size = wr.heap.size + 2 := hz2
  clear hgood hM hB hx hM2 hgo hlook hcs hev hb1 hc2 hc3 hc4 hc5 hmet hx2 hy2 hb2 hz2 q0 q1 q2 q3 q4
  have key : (b1 = false ∨ (b1 = true ∧ c2 = false) ∨ (b1 = true ∧ c2 = true ∧ c3 = false) ∨ (b1 = true ∧ c2 = true ∧ c3 = true ∧ c4 = false) ∨ (b1 = true ∧ c2 = true ∧ c3 = true ∧ c4 = true ∧ c5 = false) ∨ (b1 = true ∧ c2 = true ∧ c3 = true ∧ c4 = true ∧ c5 = true ∧ met = true)) ∨ (b1 = true ∧ c2 = true ∧ c3 = true ∧ c4 = true ∧ c5 = true ∧ met = false) := by
   cases b1 <;> cases c2 <;> cases c3 <;> cases c4 <;> cases c5 <;> cases met <;> simp
  rcases key with key | ⟨rfl, rfl, rfl, rfl, rfl, rfl⟩
  ·have HF := zH (show evGood srcs l n = false by
    rw [HEV.out]
    rcases key with rfl | ⟨rfl, rfl⟩ | ⟨rfl, rfl, rfl⟩ | ⟨rfl, rfl, rfl, rfl⟩ | ⟨rfl, rfl, rfl, rfl, rfl⟩ | ⟨rfl, rfl, rfl, rfl, rfl, rfl⟩ <;> simp)
   rcases key with rfl | ⟨rfl, rfl⟩ | ⟨rfl, rfl, rfl⟩ | ⟨rfl, rfl, rfl, rfl⟩ | ⟨rfl, rfl, rfl, rfl, rfl⟩ | ⟨rfl, rfl, rfl, rfl, rfl, rfl⟩
   all_goals
    have HS := HCS
    refine zR 52 (S := fun W => W.cell? ⟨wr.heap.size, 0, none⟩ = some (.int .i64 es) ∧ W.cell? ⟨wr.heap.size, 1, none⟩ = some (.int .i64 id) ∧ W.cell? ⟨wr.heap.size, 2, none⟩ = some (.int .i64 at_) ∧ W.cell? ⟨wr.heap.size, 3, none⟩ = some (.int .i64 key) ∧ W.cell? ⟨wr.heap.size, 4, none⟩ = some (.int .i64 val) ∧ W.cell? ⟨wr.heap.size + 1, 0, none⟩ = some (.int .i64 es) ∧ W.cell? ⟨wr.heap.size + 1, 1, none⟩ = some (.int .i64 id) ∧ (Instr.lookup 195 (.map (some w.heap.size)) (.agg #[.int .i64 es, .int .i64 id]) false).run Tryz.prog W = .ok (.bool _) W) (by kernel_rfl) (by kernel_rfl) rfl (HS.out _ HWD.out) (fun hHeld => ?_)
    try simp only [List.reduceReplicate]
    repeat (first
     | refine takeA [] (h := ?_)
     | (refine callA [] (args := ?_) (R := ?_) (he := ?_) (hc := ?_) (hargs := ?_) (h := ?_)
        rotate_left 2
        first
        | (exact E88.out; exact HC1.out _; rfl; rintro e wz ⟨rfl, rfl⟩; refine .inl ⟨_, rfl, by assumption, fun hHeld => ?_⟩)
        | (exact E88.out; exact HC2.out _; rfl; rintro e wz ⟨rfl, rfl⟩; refine .inl ⟨_, rfl, by assumption, fun hHeld => ?_⟩)
        | (exact E88.out; exact HC3.out _; rfl; rintro e wz ⟨rfl, rfl⟩; refine .inl ⟨_, rfl, by assumption, fun hHeld => ?_⟩)
        | (exact E153.out; exact HC4.out _; rfl; rintro e wz ⟨rfl, rfl⟩; refine .inl ⟨_, rfl, by assumption, fun hHeld => ?_⟩)
        | (exact E153.out; exact HC5.out _; rfl; rintro e wz ⟨rfl, rfl⟩; refine .inl ⟨_, rfl, by assumption, fun hHeld => ?_⟩)
        refine normA (h := ?_)))
    refine wpAnyH_done (by kernel_rfl) ?_ _
    go_wp2
    go_ret
    exact ⟨ret_bool (events_bad hlt HF.out).symm, HN.out.2.2.1.trans ((HN.out.2.2.2.1.trans (HWD.out.mono HN.out.2.2.2.1.size)).mono HN.out.2.2.1.size)⟩
  ·by_cases hn0 : n = 0
   ·subst hn0
    have HS := HCS
    refine zR 52 (S := fun W => W.cell? ⟨wr.heap.size, 0, none⟩ = some (.int .i64 es) ∧ W.cell? ⟨wr.heap.size, 1, none⟩ = some (.int .i64 id) ∧ W.cell? ⟨wr.heap.size, 2, none⟩ = some (.int .i64 at_) ∧ W.cell? ⟨wr.heap.size, 3, none⟩ = some (.int .i64 key) ∧ W.cell? ⟨wr.heap.size, 4, none⟩ = some (.int .i64 val) ∧ W.cell? ⟨wr.heap.size + 1, 0, none⟩ = some (.int .i64 es) ∧ W.cell? ⟨wr.heap.size + 1, 1, none⟩ = some (.int .i64 id) ∧ (Instr.lookup 195 (.map (some w.heap.size)) (.agg #[.int .i64 es, .int .i64 id]) false).run Tryz.prog W = .ok (.bool _) W) (by kernel_rfl) (by kernel_rfl) rfl (HS.out _ HWD.out) (fun hHeld => ?_)
    try simp only [List.reduceReplicate]
    repeat (first
     | refine takeA [] (h := ?_)
     | (refine callA [] (args := ?_) (R := ?_) (he := ?_) (hc := ?_) (hargs := ?_) (h := ?_)
        rotate_left 2
        first
        | (exact E88.out; exact HC1.out _; rfl; rintro e wz ⟨rfl, rfl⟩; refine .inl ⟨_, rfl, by assumption, fun hHeld => ?_⟩)
        | (exact E88.out; exact HC2.out _; rfl; rintro e wz ⟨rfl, rfl⟩; refine .inl ⟨_, rfl, by assumption, fun hHeld => ?_⟩)
        | (exact E88.out; exact HC3.out _; rfl; rintro e wz ⟨rfl, rfl⟩; refine .inl ⟨_, rfl, by assumption, fun hHeld => ?_⟩)
        | (exact E153.out; exact HC4.out _; rfl; rintro e wz ⟨rfl, rfl⟩; refine .inl ⟨_, rfl, by assumption, fun hHeld => ?_⟩)
        | (exact E153.out; exact HC5.out _; rfl; rintro e wz ⟨rfl, rfl⟩; refine .inl ⟨_, rfl, by assumption, fun hHeld => ?_⟩)
        refine normA (h := ?_)))
    refine wpAnyH_done (by kernel_rfl) ?_ _
    obtain ⟨k0, k1, k2, k3, k4, k5, k6, k7⟩ := hHeld
    obtain ⟨hgood, hM2, hB, hb2, hx⟩ := HN.out
    obtain ⟨wu, hu, hMu, hFu, hsu⟩ := run_update_f (P := Tryz.prog) key2 Tryz.underlying195 (hM2.move (zF (S := fun _ => False) HWD.out) (fun h => h)) (es, id) (.bool true)
    replace hu : (Instr.mapUpdate 195 (.map (some w.heap.size)) (.agg #[.int .i64 es, .int .i64 id]) (.bool true)).run Tryz.prog _ = .ok () wu := hu
    have hBw : Below w.heap.size w wu := hB.trans ((hb2.trans (HWD.out.mono hb2.size)).mono hB.size) |>.trans (zO hFu (Nat.le_trans hB.size (Nat.le_trans hb2.size HWD.out.size)) fun i hi => by omega)
    have HFIN := zH (zA hgood (zA hMu (zA hBw hx)))
    clear hgood hM2 hB hb2 hx hMu hFu hsu hBw
    go_wp2
    go_roundw
    case rel =>
     obtain ⟨hgood, hMu, hBw, hx⟩ := HFIN.out
     refine ⟨0 + 1, by go_num, by omega, fun k hk => ?_, by rw [seenF_snoc hx]; exact hMu, hBw⟩
     by_cases hkn : k < 0
     ·exact hgood k hkn
     ·obtain rfl : k = 0 := by omega
      rw [HEV.out]; simp
    case measure => simp [intOf]; omega
   obtain ⟨p, hp⟩ : ∃ p, p = n - 1 := ⟨_, rfl⟩
   have hgx := HN.out
   have hpl : p < l.length := by omega
   have hxp := List.getElem?_eq_getElem hpl
   generalize l[p] = q at hxp
   obtain ⟨ps, pi, pt, pk, pv⟩ := q
   have hgp := hgx.1 p (by omega)
   rw [evGood, hxp] at hgp
   simp only [Bool.and_eq_true, evOk, inP, decide_eq_true_eq] at hgp
   obtain ⟨⟨⟨⟨⟨⟨hp1, hp2⟩, hp3⟩, hp4⟩, hp5⟩, _⟩, _⟩ := hgp
   have hcur := HI.out
   simp only [inP, eq_comm (a := true), Bool.and_eq_true, decide_eq_true_eq] at hcur
   have hord := order_any ⟨ps, pi, pt, pk, pv⟩ ⟨es, id, at_, key, val⟩
   dsimp only [small1] at hord
   have hord2 := fun W => hord W (by omega) (by omega)
   have hob := ordE_before ⟨ps, pi, pt, pk, pv⟩ ⟨es, id, at_, key, val⟩
   obtain ⟨o, ho⟩ : ∃ o, o = ordE ⟨ps, pi, pt, pk, pv⟩ ⟨es, id, at_, key, val⟩ := ⟨_, rfl⟩
   rw [← ho] at hob
   simp only [← ho] at hord2
   have HC6 := zH hord2
   obtain ⟨b', off', he', _, hcp⟩ := rd_at (HR.out.below (hgx.2.2.1.trans (hgx.2.2.2.1.mono hgx.2.2.1.size))) hxp
   injection he' with he'
   injection he' with e1 e2
   subst e1; subst e2
   have z0 : w2.cell? ⟨b, off + p * 5, none⟩ = some (.int .i64 ps) := hcp 0 _ rfl
   have z1 := hcp 1 _ rfl
   have z2 := hcp 2 _ rfl
   have z3 := hcp 3 _ rfl
   have z4 := hcp 4 _ rfl
   have HS := zH (show ∀ W, Below w2.heap.size w2 W → W.cell? ⟨wr.heap.size, 0, none⟩ = some (.int .i64 es) ∧ W.cell? ⟨wr.heap.size, 1, none⟩ = some (.int .i64 id) ∧ W.cell? ⟨wr.heap.size, 2, none⟩ = some (.int .i64 at_) ∧ W.cell? ⟨wr.heap.size, 3, none⟩ = some (.int .i64 key) ∧ W.cell? ⟨wr.heap.size, 4, none⟩ = some (.int .i64 val) ∧ W.cell? ⟨wr.heap.size + 1, 0, none⟩ = some (.int .i64 es) ∧ W.cell? ⟨wr.heap.size + 1, 1, none⟩ = some (.int .i64 id) ∧ (Instr.lookup 195 (.map (some w.heap.size)) (.agg #[.int .i64 es, .int .i64 id]) false).run Tryz.prog W = .ok (.bool false) W ∧ W.cell? ⟨b, off + p * 5, none⟩ = some (.int .i64 ps) ∧ W.cell? ⟨b, off + p * 5 + 1, none⟩ = some (.int .i64 pi) ∧ W.cell? ⟨b, off + p * 5 + 2, none⟩ = some (.int .i64 pt) ∧ W.cell? ⟨b, off + p * 5 + 3, none⟩ = some (.int .i64 pk) ∧ W.cell? ⟨b, off + p * 5 + 4, none⟩ = some (.int .i64 pv) from fun W hW => by
    obtain ⟨k0, k1, k2, k3, k4, k5, k6, k7⟩ := HCS.out W hW
    exact ⟨k0, k1, k2, k3, k4, k5, k6, k7, zB hW z0, zB hW z1, zB hW z2, zB hW z3, zB hW z4⟩)
   have hwp : IntKind.i64.wrap ((n : Int) - 1) = (p : Int) := by rw [Go.IntWalk.i64_in _ (by omega)]; omega
   have n2 : (p : Int) < (l.length : Int) := by omega
   have n3 : (0 : Int) < (n : Int) := by omega
   have n4 : 0 < n := by omega
   have hprev : (l[n - 1]?).getD default = ⟨ps, pi, pt, pk, pv⟩ := by rw [← hp, hxp]; rfl
   rw [hprev] at HEV
   have HOB := zH hob
   have HP := zH hp
   clear hord hord2 hob ho hgx hxp hp1 hp2 hp3 hp4 hp5 hcur hcp z0 z1 z2 z3 z4 hprev hp hpl
   by_cases h0 : 0 ≤ o
   ·have HF := zH (show evGood srcs l n = false by rw [HEV.out, HOB.out.1 h0]; simp [hn0])
    refine zR 52 (S := fun W => W.cell? ⟨wr.heap.size, 0, none⟩ = some (.int .i64 es) ∧ W.cell? ⟨wr.heap.size, 1, none⟩ = some (.int .i64 id) ∧ W.cell? ⟨wr.heap.size, 2, none⟩ = some (.int .i64 at_) ∧ W.cell? ⟨wr.heap.size, 3, none⟩ = some (.int .i64 key) ∧ W.cell? ⟨wr.heap.size, 4, none⟩ = some (.int .i64 val) ∧ W.cell? ⟨wr.heap.size + 1, 0, none⟩ = some (.int .i64 es) ∧ W.cell? ⟨wr.heap.size + 1, 1, none⟩ = some (.int .i64 id) ∧ (Instr.lookup 195 (.map (some w.heap.size)) (.agg #[.int .i64 es, .int .i64 id]) false).run Tryz.prog W = .ok (.bool _) W ∧ W.cell? ⟨b, off + p * 5, none⟩ = some (.int .i64 ps) ∧ W.cell? ⟨b, off + p * 5 + 1, none⟩ = some (.int .i64 pi) ∧ W.cell? ⟨b, off + p * 5 + 2, none⟩ = some (.int .i64 pt) ∧ W.cell? ⟨b, off + p * 5 + 3, none⟩ = some (.int .i64 pk) ∧ W.cell? ⟨b, off + p * 5 + 4, none⟩ = some (.int .i64 pv)) (by kernel_rfl) (by kernel_rfl) rfl (HS.out _ HWD.out) (fun hHeld => ?_)
    try simp only [List.reduceReplicate]
    repeat (first
     | refine takeA [] (h := ?_)
     | (refine callA [] (args := ?_) (R := ?_) (he := ?_) (hc := ?_) (hargs := ?_) (h := ?_)
        rotate_left 2
        first
        | (exact E88.out; exact HC1.out _; rfl; rintro e wz ⟨rfl, rfl⟩; refine .inl ⟨_, rfl, by assumption, fun hHeld => ?_⟩)
        | (exact E88.out; exact HC2.out _; rfl; rintro e wz ⟨rfl, rfl⟩; refine .inl ⟨_, rfl, by assumption, fun hHeld => ?_⟩)
        | (exact E88.out; exact HC3.out _; rfl; rintro e wz ⟨rfl, rfl⟩; refine .inl ⟨_, rfl, by assumption, fun hHeld => ?_⟩)
        | (exact E153.out; exact HC4.out _; rfl; rintro e wz ⟨rfl, rfl⟩; refine .inl ⟨_, rfl, by assumption, fun hHeld => ?_⟩)
        | (exact E153.out; exact HC5.out _; rfl; rintro e wz ⟨rfl, rfl⟩; refine .inl ⟨_, rfl, by assumption, fun hHeld => ?_⟩)
        | (exact E154.out; exact HC6.out _; rfl; rintro e wz ⟨rfl, hbz⟩; refine .inl ⟨_, rfl, HS.out _ (HWD.out.trans (hbz.mono HWD.out.size)), fun hHeld => ?_⟩; replace HWD := zH (HWD.out.trans (hbz.mono HWD.out.size)); clear hbz)
        refine normA (h := ?_)))
    refine wpAnyH_done (by kernel_rfl) ?_ _
    go_wp2
    go_ret
    exact ⟨ret_bool (events_bad hlt HF.out).symm, HN.out.2.2.1.trans ((HN.out.2.2.2.1.trans (HWD.out.mono HN.out.2.2.2.1.size)).mono HN.out.2.2.1.size)⟩
   have HBT := zH (show beforeP ⟨ps, pi, pt, pk, pv⟩ ⟨es, id, at_, key, val⟩ = true by
    cases hbb : beforeP ⟨ps, pi, pt, pk, pv⟩ ⟨es, id, at_, key, val⟩ with
    | true => rfl
    | false => exact absurd (HOB.out.2 hbb) h0)
   refine zR 52 (S := fun W => W.cell? ⟨wr.heap.size, 0, none⟩ = some (.int .i64 es) ∧ W.cell? ⟨wr.heap.size, 1, none⟩ = some (.int .i64 id) ∧ W.cell? ⟨wr.heap.size, 2, none⟩ = some (.int .i64 at_) ∧ W.cell? ⟨wr.heap.size, 3, none⟩ = some (.int .i64 key) ∧ W.cell? ⟨wr.heap.size, 4, none⟩ = some (.int .i64 val) ∧ W.cell? ⟨wr.heap.size + 1, 0, none⟩ = some (.int .i64 es) ∧ W.cell? ⟨wr.heap.size + 1, 1, none⟩ = some (.int .i64 id) ∧ (Instr.lookup 195 (.map (some w.heap.size)) (.agg #[.int .i64 es, .int .i64 id]) false).run Tryz.prog W = .ok (.bool _) W ∧ W.cell? ⟨b, off + p * 5, none⟩ = some (.int .i64 ps) ∧ W.cell? ⟨b, off + p * 5 + 1, none⟩ = some (.int .i64 pi) ∧ W.cell? ⟨b, off + p * 5 + 2, none⟩ = some (.int .i64 pt) ∧ W.cell? ⟨b, off + p * 5 + 3, none⟩ = some (.int .i64 pk) ∧ W.cell? ⟨b, off + p * 5 + 4, none⟩ = some (.int .i64 pv)) (by kernel_rfl) (by kernel_rfl) rfl (HS.out _ HWD.out) (fun hHeld => ?_)
   try simp only [List.reduceReplicate]
   repeat (first
    | refine takeA [] (h := ?_)
    | (refine callA [] (args := ?_) (R := ?_) (he := ?_) (hc := ?_) (hargs := ?_) (h := ?_)
       rotate_left 2
       first
       | (exact E88.out; exact HC1.out _; rfl; rintro e wz ⟨rfl, rfl⟩; refine .inl ⟨_, rfl, by assumption, fun hHeld => ?_⟩)
       | (exact E88.out; exact HC2.out _; rfl; rintro e wz ⟨rfl, rfl⟩; refine .inl ⟨_, rfl, by assumption, fun hHeld => ?_⟩)
       | (exact E88.out; exact HC3.out _; rfl; rintro e wz ⟨rfl, rfl⟩; refine .inl ⟨_, rfl, by assumption, fun hHeld => ?_⟩)
       | (exact E153.out; exact HC4.out _; rfl; rintro e wz ⟨rfl, rfl⟩; refine .inl ⟨_, rfl, by assumption, fun hHeld => ?_⟩)
       | (exact E153.out; exact HC5.out _; rfl; rintro e wz ⟨rfl, rfl⟩; refine .inl ⟨_, rfl, by assumption, fun hHeld => ?_⟩)
       | (exact E154.out; exact HC6.out _; rfl; rintro e wz ⟨rfl, hbz⟩; refine .inl ⟨_, rfl, HS.out _ (HWD.out.trans (hbz.mono HWD.out.size)), fun hHeld => ?_⟩; replace HWD := zH (HWD.out.trans (hbz.mono HWD.out.size)); clear hbz)
       refine normA (h := ?_)))
   refine wpAnyH_done (by kernel_rfl) ?_ _
   obtain ⟨k0, k1, k2, k3, k4, k5, k6, k7, k8, k9, k10, k11, k12⟩ := hHeld
   obtain ⟨hgood, hM2, hB, hb2, hx⟩ := HN.out
   obtain ⟨wu, hu, hMu, hFu, hsu⟩ := run_update_f (P := Tryz.prog) key2 Tryz.underlying195 (hM2.move (zF (S := fun _ => False) HWD.out) (fun h => h)) (es, id) (.bool true)
   replace hu : (Instr.mapUpdate 195 (.map (some w.heap.size)) (.agg #[.int .i64 es, .int .i64 id]) (.bool true)).run Tryz.prog _ = .ok () wu := hu
   have hBw : Below w.heap.size w wu := hB.trans ((hb2.trans (HWD.out.mono hb2.size)).mono hB.size) |>.trans (zO hFu (Nat.le_trans hB.size (Nat.le_trans hb2.size HWD.out.size)) fun i hi => by omega)
   have HFIN := zH (zA hgood (zA hMu (zA hBw hx)))
   clear hgood hM2 hB hb2 hx hMu hFu hsu hBw
   go_wp2
   go_roundw
   case rel =>
    obtain ⟨hgood, hMu, hBw, hx⟩ := HFIN.out
    refine ⟨n + 1, by go_num, by omega, fun k hk => ?_, by rw [seenF_snoc hx]; exact hMu, hBw⟩
    by_cases hkn : k < n
    ·exact hgood k hkn
    ·obtain rfl : k = n := by omega
     rw [HEV.out]; simp [HBT.out]
   case measure => simp [intOf]; omega
end
end Go.Proofs.YtgiploddoffmjaaGreat
