/- My texts of layer 14, joined: R27, R28, Base7, R36, R37. -/
import Derived.Test.YtkoeplbkeboklaaM4
import Derived.RangeFuncNested
import Derived.RangeFuncBound
import Derived.RangeFuncCalls
import Derived.RangeFuncLeaves
import Derived.Shelf.Abstract
import Derived.Shelf.RegionOpen
import Derived.OwnWalkIn
import Derived.TacticsInMore
import Derived.LoopNIn
import Derived.LoopIn
import Derived.BigQuiet
import Derived.Deep.RegionHeld3
/- retro.spans. -/
set_option linter.unusedVariables false
set_option linter.unusedSimpArgs false
namespace Go.Proofs.Ytkoeplbkeboklaa
open Go.RowKit
set_option maxHeartbeats 4000000 in
theorem spans_any (k : Int) (va vb : Value) (la lb : List Step) (w : World) (ra : Rd Step.cells 4 w va la) (rb : Rd Step.cells 4 w vb lb) (hla : la.length ≤ 100000) (hlb : lb.length ≤ 100000) (ht : ∀ s ∈ la ++ lb, 0 ≤ s.at_ ∧ s.at_ ≤ 1000) :
    Calls Try.prog 64 #[.agg #[.int .i64 k, va], .agg #[.int .i64 k, vb]] w fun e w' => ∃ v, e = .returned v ∧ Win Span.cells 2 58 w' v (fun i => w.heap.size ≤ i) (diffOf k la lb) ∧ Below w.heap.size w w' := by
  obtain ⟨a, c, rfl⟩ : ∃ a c, va = .slice a la.length c := by obtain ⟨_, a, c, rfl, _⟩ := ra; exact ⟨a, c, rfl⟩
  obtain ⟨aB, cB, rfl⟩ : ∃ a c, vb = .slice a lb.length c := by obtain ⟨_, a, c, rfl, _⟩ := rb; exact ⟨a, c, rfl⟩
  have RA := Lib.hid ra
  have RB := Lib.hid rb
  have HT := Lib.hid ht
  clear ra rb ht
  go_enter Try.func64, Try.ntmps64
  go_wp2_with fail
  refine named_box3 (G := fun W => Calls _ _ _ W _) w _ _ _ _ _ _ fun W0 hb0 hz0 hx0 hx1 hx2 => ?_
  have d0 : W0.cell? ⟨w.heap.size, 0, none⟩ = some (.int .i64 k) := cell_blk hx0 0
  have d1 : W0.cell? ⟨w.heap.size, 1, none⟩ = some (.slice a la.length c) := cell_blk hx0 1
  have e0 : W0.cell? ⟨w.heap.size + 1, 0, none⟩ = some (.int .i64 k) := cell_blk hx1 0
  have e1 : W0.cell? ⟨w.heap.size + 1, 1, none⟩ = some (.slice aB lb.length cB) := cell_blk hx1 1
  refine (stepsConcat_any (w.heap.size + 1 + 1) _ _ la lb W0 (RA.out.below hb0) (RB.out.below hb0) (cell_blk hx2 0) (cell_blk hx2 1) hla hlb).mono ?_
  rintro e w1 ⟨v1, rfl, hw1, hb1⟩
  have hB1 : Below w.heap.size w w1 := hb0.trans (hb1.mono (by omega))
  have hz1 := hb1.size
  obtain ⟨l, hl⟩ : ∃ l, la ++ lb = l := ⟨_, rfl⟩
  have hN : l.length ≤ 200000 := by rw [← hl, List.length_append]; omega
  have hdo : diffOf k la lb = diffFrom k la lb (timesP l) [] := by rw [← hl]; rfl
  have hrg := timesP_range (l := l) (by rw [← hl]; exact HT.out)
  have hte := times_eq l (by rw [← hl]; exact HT.out)
  rw [hl] at hw1
  have hab := win_rd step_len hw1
  obtain ⟨aA, cA, rfl⟩ : ∃ a c, v1 = .slice a l.length c := by obtain ⟨_, a, c, rfl, _⟩ := hab; exact ⟨a, c, rfl⟩
  have HAB := Lib.hid hab
  have HDO := Lib.hid hdo
  have HTE := Lib.hid (And.intro hte hrg)
  have HG := Lib.hid (And.intro (And.intro (below_cell hb1 d0) (below_cell hb1 d1)) (And.intro (below_cell hb1 e0) (below_cell hb1 e1)))
  have HB1 := Lib.hid hB1
  clear hab hdo hte hrg hw1 hb1 hb0 hB1 hx0 hx1 hx2 d0 d1 e0 e1 hl HT
  go_wp2
  go_loopw [20, 5] (fun i v W => ∃ (n : Nat) (a5 : Option Addr) (c5 : Nat), i = .int .i64 n ∧ v = .slice a5 n c5 ∧ n ≤ l.length ∧ Win cellI 1 3 W (.slice a5 n c5) (fun j => w1.heap.size ≤ j) ((l.take n).map (·.at_)) ∧ Below w1.heap.size w1 W) (fun i _ _ => l.length - (intOf i).toNat)
  case atStart => exact ⟨0, none, 0, rfl, rfl, by omega, winC_nil _ _ _ _, Below.refl _ _⟩
  case round =>
    obtain ⟨n, a5, c5, rfl, rfl, hnl, hwin, hB⟩ := hrel
    by_cases hlt : n < l.length
    · have hx := List.getElem?_eq_getElem hlt
      generalize l[n] = s at hx
      obtain ⟨b, off, rfl, hbl, hc⟩ := rd_at (HAB.out.below hB) hx
      have q0 : wr.cell? ⟨b, off + n * 4, none⟩ = some (.int .i64 s.at_) := hc 0 _ rfl
      have q1 := hc 1 _ rfl
      have q2 := hc 2 _ rfl
      have q3 := hc 3 _ rfl
      have hn1 : ((l.take n).map (·.at_)).length = n := by simp; omega
      have hW1 := winC_mono (winC_block hwin) (T := fun j => w1.heap.size ≤ j ∧ j < wr.heap.size) fun i hi => hi.2
      rw [hn1] at hW1
      have hW2 := fun o1 o2 => winC_move hW1 (fr_of_below (S := fun _ => False) (((Below.refl wr.heap.size wr).alloc (Nat.le_refl _) o1).alloc (by simp) o2)) (fun _ _ h => h)
      have HX := Lib.hid (And.intro hx (And.intro hn1 (And.intro hW1 hB)))
      have HW2 := Lib.hid hW2
      clear hx hn1 hW1 hwin hW2 hc hB
      go_wp2_with (at_builtin; (refine wpList_append_win _ (by rfl) _ _ _ (by rfl) 3 1 8 _ Try.underlying102 info_int rfl (by decide) _ _ n _ (by rfl) (HW2.out _ _) _ _ _ [.int .i64 s.at_] (by rfl) (by rfl) (news2 wr _ _ _) (by simp [Value.oneCell']) (by decide) (by unfold maxLen; omega) (by omega) ?_); intro v2 w2 hwin2 hfr2 hsz2; obtain ⟨a6, c6, rfl, hc6, hm6⟩ := winC_slice hwin2)
      have hb2 : Below wr.heap.size wr ((wr.alloc (.cells #[.int .i64 s.at_, .int .i64 s.do_, .int .i64 s.key, .int .i64 s.val] 39)).alloc (.cells #[.int .i64 s.at_] 3)) := ((Below.refl wr.heap.size wr).alloc (Nat.le_refl _) _).alloc (by simp) _
      have hF : Fr (fun i => some i = (Value.slice a5 n c5).ownBlock) wr w2 := fr_trans (fr_of_below hb2) hfr2 fun _ _ h => h
      have HZ := Lib.hid (And.intro hwin2 hF)
      clear hwin2 hfr2 hb2 hF
      go_roundw
      case rel =>
        refine ⟨n + 1, a6, c6, by go_num, rfl, by omega, ?_, HX.out.2.2.2.trans (below_of_fr HZ.out.2 HX.out.2.2.2.size fun i hi => (winC_ob HX.out.2.2.1 i hi).1.1)⟩
        have e1 : ((l.take (n + 1)).map (·.at_)) = (l.take n).map (·.at_) ++ [s.at_] := by rw [List.take_add_one, HX.out.1]; simp
        have hs := HX.out.2.2.2.size
        refine (?_ : WinC _ _ _ _ _ _ _)
        rw [e1, List.length_append, HX.out.2.1, List.flatMap_append]
        exact winC_mono HZ.out.1 fun i hi => by first | omega | (simp at hi; omega)
      case measure => simp [intOf]; omega
    · obtain rfl : n = l.length := by omega
      rw [List.take_length] at hwin
      have hlen1 : (l.map (·.at_)).length = l.length := by simp
      have hso := sortInts_any a5 l.length c5 _ _ wr hwin hlen1 (by omega)
      have hlen2 : ((l.map (·.at_)).mergeSort fun x y => decide (x ≤ y)).length = l.length := by rw [List.length_mergeSort]; exact hlen1
      have HSO := Lib.hid (And.intro hso (And.intro hB (winC_ob hwin)))
      clear hwin hso hlen1 hB
      have HTE2 := HTE
      clear HTE
      generalize ((l.map (·.at_)).mergeSort fun x y => decide (x ≤ y)) = zs at *
      have hcl := compact_len zs
      rw [hlen2] at hcl
      have HZS := Lib.hid hlen2
      clear hlen2
      have HCO := Lib.hid (fun W (h : Win cellI 1 3 W (.slice a5 l.length c5) (fun j => w1.heap.size ≤ j) zs) => compactInts_any a5 l.length c5 _ zs W h HZS.out (by omega))
      generalize Lib.compact zs = cs at *
      go_wp2_with (first | (go_at_call 90; refine HSO.out.1.mono ?_; rintro e w2 ⟨rfl, hw2, hf2⟩) | (go_at_call 91; refine (HCO.out _ hw2).mono ?_; rintro e w3 ⟨rfl, hw3, hf3⟩; have hw3' := winC_move hw3 (fr_alloc (fun _ => False) w3 (.cells #[.int .i64 1001] 3)) (fun _ _ h => h)) | (at_builtin; (refine wpList_append_win _ (by rfl) _ _ _ (by rfl) 3 1 8 _ Try.underlying102 info_int rfl (by decide) _ _ cs.length _ (by rfl) hw3' _ _ _ [.int .i64 1001] (by rfl) (by rfl) (news1 w3 _ _) (by simp [Value.oneCell']) (by decide) (by unfold maxLen; omega) (by omega) ?_); intro v4 w4 hw4 hf4 hsz4; obtain ⟨a7, c7, rfl, hc7, hm7⟩ := winC_slice hw4))
      have f24 : Fr (fun i => some i = (Value.slice a5 cs.length c5).ownBlock) wr w4 := fr_trans (fr_trans (fr_mono hf2 fun i h => h.trans (by cases a5 <;> rfl)) hf3 fun i _ h => h.trans (by cases a5 <;> rfl)) (fr_trans (fr_alloc _ w3 _) hf4 fun _ _ h => h) fun _ _ h => h
      have hB4 : Below w1.heap.size w1 w4 := HSO.out.2.1.trans (below_of_fr f24 HSO.out.2.1.size fun i h => (HSO.out.2.2 i (h.trans (by cases a5 <;> rfl))).1)
      obtain ⟨ts, hcs⟩ : ∃ ts, cs ++ [1001] = ts := ⟨_, rfl⟩
      have hts : Rd cellI 1 w4 (.slice a7 (cs.length + 1) c7) ts := by
        have h : Win cellI 1 3 w4 (.slice a7 (cs.length + 1) c7) (fun _ => True) ts := by
          refine (?_ : WinC _ _ _ _ _ _ _)
          rw [← hcs, List.length_append, List.flatMap_append]
          exact winC_mono hw4 fun _ _ => trivial
        exact win_rd int_len h
      have hlts : ts.length = cs.length + 1 := by rw [← hcs]; simp
      have htt := HTE2.out.1
      rw [hcs] at htt
      have hdo := HDO.out
      have hrg := HTE2.out.2
      rw [← htt] at hdo hrg
      have z0 := below_cell hB4 HG.out.1.1
      have z1 := below_cell hB4 HG.out.1.2
      have z2 := below_cell hB4 HG.out.2.1
      have z3 := below_cell hB4 HG.out.2.2
      have hHB : Below w.heap.size w w4 := HB1.out.trans (hB4.mono HB1.out.size)
      have hszB := hHB.size
      have HWB0 := Lib.hid (And.intro hHB hts)
      have HDO2 := Lib.hid hdo
      have HRG := Lib.hid hrg
      have HLT := Lib.hid hlts
      have ES := Lib.hid (enters_of Try.func92 (by kernel_rfl) rfl)
      have ET := Lib.hid (enters_of Try.func71 (by kernel_rfl) rfl)
      clear f24 hB4 hts htt hdo hrg hHB hcs hw2 hw3 hw3' hw4 hf2 hf3 hf4 hsz4 HSO HZS HTE2 HCO HDO HG HB1 HAB
      generalize hWB : w4 = WB at *
      clear hWB
      go_loopw [42, 8] (fun i v W => ∃ (n : Nat) (out : List Span) (a9 : Option Addr) (c9 : Nat), i = .int .i64 n ∧ v = .slice a9 out.length c9 ∧ out.length ≤ n ∧ n ≤ cs.length ∧ diffFrom k la lb (ts.drop n) out = diffOf k la lb ∧ Win Span.cells 2 58 W (.slice a9 out.length c9) (fun j => WB.heap.size ≤ j) out ∧ Below WB.heap.size WB W) (fun i _ _ => cs.length - (intOf i).toNat)
      case atStart => exact ⟨0, [], none, 0, rfl, rfl, by simp, by omega, HDO2.out.symm, winC_nil _ _ _ _, Below.refl _ _⟩
      case round =>
        obtain ⟨n, out, a9, c9, rfl, rfl, hon, hn3, hdf, hwo, hB⟩ := hrel
        by_cases hlt : n < cs.length
        · have hn1 : n < ts.length := by rw [HLT.out]; omega
          have hn2 : n + 1 < ts.length := by rw [HLT.out]; omega
          have hx1 := List.getElem?_eq_getElem hn1
          have hx2 := List.getElem?_eq_getElem hn2
          have rg1 := HRG.out _ (List.getElem_mem hn1)
          have rg2 := HRG.out _ (List.getElem_mem hn2)
          generalize ts[n] = t1 at hx1 rg1
          generalize ts[n + 1] = t2 at hx2 rg2
          clear hn1 hn2
          have nn5 : IntKind.i64.wrap (t1 - 1) = t1 - 1 := Go.IntWalk.i64_in _ (by omega)
          have nn6 : IntKind.i64.wrap (t2 - 1) = t2 - 1 := Go.IntWalk.i64_in _ (by omega)
          clear rg1 rg2
          have hts := HWB0.out.2.below hB
          obtain ⟨b, off, rfl, hbl, hc1⟩ := rd_at hts hx1
          obtain ⟨b', off', he, _, hc2⟩ := rd_at hts hx2
          have hbB : b < WB.heap.size := by
            obtain ⟨b3, o3, e, hlt3, _⟩ := rd_at HWB0.out.2 hx1
            injection e with e
            injection e with e1
            omega
          injection he with he
          injection he with he1 he2
          subst he1; subst he2
          have y1 : wr.cell? ⟨b, off + n, none⟩ = some (.int .i64 t1) := by simpa using hc1 0 _ rfl
          have y2 : wr.cell? ⟨b, off + (n + 1), none⟩ = some (.int .i64 t2) := by simpa using hc2 0 _ rfl
          have z0' := below_cell hB z0
          have z1' := below_cell hB z1
          have z2' := below_cell hB z2
          have z3' := below_cell hB z3
          rw [diffFrom_drop out hx1 hx2] at hdf
          have HO := Lib.hid (And.intro hwo hdf)
          have HWB := Lib.hid (HWB0.out.1.trans (hB.mono HWB0.out.1.size))
          have hBW := Lib.hid hB
          have nn2 : (n : Int) + 1 < (cs.length : Int) + 1 := by omega
          have nn3 : (0 : Int) ≤ (n : Int) + 1 := by omega
          have nn4 : IntKind.i64.wrap ((n : Int) + 1) = (n : Int) + 1 := Go.IntWalk.i64_in _ (by omega)
          clear hc1 hc2 hts hwo hdf hB hx1 hx2 z0 z1 z2 z3
          have z0 := z0'; have z1 := z1'; have z2 := z2'; have z3 := z3'
          clear z0' z1' z2' z3'
          go_wp2
          set_option maxRecDepth 10000 in
          go_region_held3 (fun W => W.cell? ⟨w.heap.size, 0, none⟩ = some (.int .i64 k) ∧ W.cell? ⟨w.heap.size, 1, none⟩ = some (.slice a la.length c) ∧ W.cell? ⟨w.heap.size + 1, 0, none⟩ = some (.int .i64 k) ∧ W.cell? ⟨w.heap.size + 1, 1, none⟩ = some (.slice aB lb.length cB)) (first | exact ⟨z0, z1, z2, z3⟩ | exact ⟨p0, p1, p2, p3⟩ | exact ⟨r0, r1, r2, r3⟩ | exact ⟨t0, t1', t2', t3⟩ | go_keep) ((first | (refine step_call (by rfl) 92 _ _ (by rfl) (ES.out) _ (by rfl) (differs_any _ _ _ _ _ ((win_rd pair_len hw6).below hb7) (win_rd pair_len hw7)) ?_; rintro _ w8 ⟨rfl, hb8⟩; refine ⟨_, rfl, ?_⟩; have h8 := hb7'.trans (hb8.mono hb7'.size); have t0 := below_cell h8 z0; have t1' := below_cell h8 z1; have t2' := below_cell h8 z2; have t3 := below_cell h8 z3) | (refine step_call (by rfl) 71 _ _ (by rfl) (ET.out) _ (by rfl) (there_any k _ lb t1 _ (RB.out.below (HWB.out.trans (hb6'.mono HWB.out.size))) hlb) ?_; rintro _ w7 ⟨v7, rfl, hw7, hb7⟩; obtain ⟨a7, c7, rfl, _, _⟩ := winC_slice hw7; refine ⟨_, rfl, ?_⟩; have hb7' := hb6'.trans (hb7.mono hb6'.size); have r0 := below_cell hb7' z0; have r1 := below_cell hb7' z1; have r2 := below_cell hb7' z2; have r3 := below_cell hb7' z3) | (refine step_call (by rfl) 71 _ _ (by rfl) (ET.out) _ (by rfl) (there_any k _ la t1 _ (RA.out.below (HWB.out.drew)) hla) ?_; rintro _ w6 ⟨v6, rfl, hw6, hb6⟩; obtain ⟨a6, c6, rfl, _, _⟩ := winC_slice hw6; refine ⟨_, rfl, ?_⟩; have hb6' := (Below.refl wr.heap.size wr).drew.trans hb6; have p0 := below_cell hb6' z0; have p1 := below_cell hb6' z1; have p2 := below_cell hb6' z2; have p3 := below_cell hb6' z3) | fail))

          by_cases heq : thereP k la t1 = thereP k lb t1
          · have hd : decide (thereP k la t1 = thereP k lb t1) = true := decide_eq_true heq
            have HE := Lib.hid heq
            have H8 := Lib.hid h8
            clear h8 hw6 hw7 hb6 hb7 hb8 hb6' hb7'
            go_wp2
            go_roundw
            case rel => exact ⟨n + 1, out, a9, c9, by go_num, rfl, by omega, by omega, by have := HO.out.2; rw [if_pos HE.out] at this; exact this, winC_move HO.out.1 (fr_of_below (S := fun _ => False) H8.out) (fun _ _ h => h), hBW.out.trans (H8.out.mono hBW.out.size)⟩
            case measure => simp [intOf]; omega
          · have hd : decide (thereP k la t1 = thereP k lb t1) = false := decide_eq_false heq
            have t5' := below_cell h8 y2
            have hwo := winC_move HO.out.1 (fr_of_below (S := fun _ => False) h8) (fun _ _ h => h)
            have hBn : Below WB.heap.size WB w8 := hBW.out.trans (h8.mono hBW.out.size)
            have HE := Lib.hid (And.intro heq (And.intro hwo hBn))
            have hr8 : ∀ (W : World), Below w8.heap.size w8 W → W.heap.size = w8.heap.size → WB.heap.size ≤ W.heap.size := fun W h1 h2 => by have := hBn.size; omega
            have HR8 := Lib.hid hr8
            clear h8 hw6 hw7 hb6 hb7 hb8 hb6' hb7' p0 p1 p2 p3 r0 r1 r2 r3 z0 z1 z2 z3 y1 y2 hwo hBn hr8
            by_cases ho : out = []
            · subst ho
              go_wp2_with (at_builtin; (refine wpList_append_win _ (by rfl) _ _ _ (by rfl) 58 2 16 _ Try.underlying30 info_span rfl (by decide) _ _ 0 _ (by rfl) (winC_move (winC_block HE.out.2.1) (fr_alloc (fun _ => False) w8 _) fun _ _ h => h) _ _ _ (Span.cells ⟨t1, t2 - 1⟩) (by rfl) (by rfl) (news1 w8 _ _) (span_one ⟨t1, t2 - 1⟩) (by decide) (by unfold maxLen; omega) (by omega) ?_); intro vz wz hwz hfz hsz; obtain ⟨az, cz, rfl, hnz, hmz⟩ := winC_slice hwz)
              have hF : Fr (fun i => some i = (Value.slice a9 0 c9).ownBlock) w8 wz := fr_trans (fr_alloc _ w8 _) hfz fun _ _ h => h
              all_goals
                have hob := fun i hi => (winC_ob HE.out.2.1 i hi).1
                have HF := Lib.hid (And.intro hF (And.intro hob hwz))
                clear hF hob hwz hfz
                go_wp2
                go_roundw
                case rel =>
                  refine ⟨n + 1, [⟨t1, t2 - 1⟩], az, cz, by go_num, rfl, by simp, by omega, by have := HO.out.2; rw [if_neg HE.out.1, addSpan_nil] at this; exact this, winC_mono HF.out.2.2 fun i hi => ?_, HE.out.2.2.trans (below_of_fr HF.out.1 HE.out.2.2.size fun i hi => HF.out.2.1 i hi)⟩
                  have := HE.out.2.2.size
                  simp [drew_size] at hi
                  omega
                case measure => simp [intOf]; omega
            · obtain ⟨m, hm⟩ : ∃ m, out.length = m + 1 := ⟨out.length - 1, by have := List.length_pos_iff.2 ho; omega⟩
              have hlo : out.length - 1 + 1 = out.length := by omega
              have hx := List.getElem?_eq_getElem (show m < out.length by omega)
              generalize out[m] = x at hx
              have hwo := HE.out.2.1
              rw [hm] at hwo
              have hwr : Rd Span.cells 2 w8 (.slice a9 out.length c9) out := win_rd span_len HE.out.2.1
              obtain ⟨b9, off9, rfl, hbl9, hc9⟩ := rd_at hwr hx
              have q1 : w8.cell? ⟨b9, off9 + m * 2 + 1, none⟩ = some (.int .i64 x.to_) := hc9 1 _ rfl
              have HX := Lib.hid (And.intro hx (And.intro hm (And.intro hwo ho)))
              have mm1 : IntKind.i64.wrap ((m : Int) + 1 - 1) = (m : Int) := (Go.IntWalk.i64_in _ (by omega)).trans (by omega)
              have mm2 : (m : Int) < (m : Int) + 1 := by omega
              rw [hm]
              have hwo : Win Span.cells 2 58 w8 (.slice (some ⟨b9, off9, none⟩) (m + 1) c9) (fun j => WB.heap.size ≤ j) out := by
                refine (?_ : WinC _ _ _ _ _ _ _)
                rw [hm]; exact hwo
              have hwd : ∀ q, Win Span.cells 2 58 (w8.drewN q) (.slice (some ⟨b9, off9, none⟩) (m + 1) c9) (fun j => WB.heap.size ≤ j) out := fun q => winC_move hwo (fr_drewN (fun _ => False) w8 q) (fun _ _ h => h)
              have hws := fun q => win_set span_len (hwd q) hm hx (show 1 < 2 by omega) (y := { x with to_ := t2 - 1 }) (u := .int .i64 (t2 - 1)) rfl
              have kf := (win_set span_len hwo hm hx (show 1 < 2 by omega) (y := { x with to_ := t2 - 1 }) (u := .int .i64 (t2 - 1)) rfl).2.2
              have hb9 : WB.heap.size ≤ b9 := (winC_ob hwo b9 rfl).1
              have HWS := Lib.hid (And.intro hws hb9)
              clear hx hwo hwr hc9 ho hlo hws hb9 hwd
              by_cases hxt : x.to_ = t1 - 1
              · have hxb : (x.to_ == t1 - 1) = true := by simp [hxt]
                have HXT := Lib.hid hxt
                clear hxt
                go_wp2
                go_roundw
                case rel =>
                  refine ⟨n + 1, out.set m { x with to_ := t2 - 1 }, some ⟨b9, off9, none⟩, c9, by go_num, by rw [List.length_set, HX.out.2.1], by rw [List.length_set]; omega, by omega, ?_, ?_, HE.out.2.2.trans (below_of_fr (fr_setCell _ _ _) HE.out.2.2.size fun i hi => by have := HWS.out.2; simp at hi; omega)⟩
                  · have := HO.out.2
                    rw [if_neg HE.out.1, addSpan_set HX.out.1 HX.out.2.1.symm HXT.out] at this
                    exact this
                  · have := (HWS.out.1 0).1
                    rw [List.length_set, HX.out.2.1]
                    exact this
                case measure => simp [intOf]; omega
              · have hxb : (x.to_ == t1 - 1) = false := by simp [hxt]
                have HXT := Lib.hid hxt
                clear hxt
                go_wp2_with (at_builtin; (refine wpList_append_win _ (by rfl) _ _ _ (by rfl) 58 2 16 _ Try.underlying30 info_span rfl (by decide) _ _ (m + 1) _ (by rfl) (winC_move (winC_block HX.out.2.2.1) (fr_alloc (fun _ => False) w8 _) fun _ _ h => h) _ _ _ (Span.cells ⟨t1, t2 - 1⟩) (by rfl) (by rfl) (news1 w8 _ _) (span_one ⟨t1, t2 - 1⟩) (by decide) (by unfold maxLen; omega) (by omega) ?_); intro vz wz hwz hfz hsz; obtain ⟨az, cz, rfl, hnz, hmz⟩ := winC_slice hwz)
                have hF : Fr (fun i => some i = (Value.slice (some ⟨b9, off9, none⟩) (m + 1) c9).ownBlock) w8 wz := fr_trans (fr_alloc _ w8 _) hfz fun _ _ h => h
                all_goals
                  have hob := fun i hi => (winC_ob HX.out.2.2.1 i hi).1
                  have HF := Lib.hid (And.intro hF (And.intro hob hwz))
                  clear hF hob hwz hfz
                  go_wp2
                  go_roundw
                  case rel =>
                    refine ⟨n + 1, out ++ [⟨t1, t2 - 1⟩], az, cz, by go_num, by simp [HX.out.2.1], by simp; omega, by omega, by have := HO.out.2; rw [if_neg HE.out.1, addSpan_new HX.out.1 HX.out.2.1.symm HXT.out] at this; exact this, ?_, HE.out.2.2.trans (below_of_fr HF.out.1 HE.out.2.2.size fun i hi => HF.out.2.1 i hi)⟩
                    have h2 : WinC 2 58 wz (.slice az (m + 1 + 1) cz) (fun j => WB.heap.size ≤ j) (m + 1 + 1) (out.flatMap Span.cells ++ Span.cells ⟨t1, t2 - 1⟩) := winC_mono HF.out.2.2 fun i hi => by
                      have := HE.out.2.2.size
                      simp [drew_size] at hi
                      omega
                    refine (?_ : WinC _ _ _ _ _ _ _)
                    rw [List.length_append, HX.out.2.1, List.flatMap_append]
                    exact h2
                  case measure => simp [intOf]; omega
        · have HL := Lib.hid (show out = diffOf k la lb by rw [← hdf]; exact (diffFrom_end out (by rw [HLT.out]; omega)).symm)
          obtain rfl : n = cs.length := by omega
          have HZ := Lib.hid (And.intro hwo hB)
          clear hwo hB hdf z0 z1 z2 z3
          go_wp2
          go_ret
          exact ⟨_, rfl, by rw [← HL.out]; exact winC_mono HZ.out.1 fun i hi => Nat.le_trans hszB hi, HWB0.out.1.trans (HZ.out.2.mono hszB)⟩
end Go.Proofs.Ytkoeplbkeboklaa
/- Diff: retro's and the reference's. -/
set_option linter.unusedVariables false
set_option linter.unusedSimpArgs false
namespace Go.Proofs.Ytkoeplbkeboklaa
open Go.RowKit
def diffP (k1 : Int) (la : List Step) (k2 : Int) (lb : List Step) : List Span × Int := if isLineP k1 la && isLineP k2 lb && decide (k1 = k2) then (diffOf k1 la lb, 0) else ([], 2)
theorem two_below (W : World) (o1 o2 : Obj) : Below W.heap.size W ((W.alloc o1).alloc o2) := ((Below.refl _ _).alloc (Nat.le_refl _) _).alloc (by simp) _
theorem step_time {k : Int} {s : Step} (h : isStepP k s = true) : 0 ≤ s.at_ ∧ s.at_ ≤ 1000 := by
  unfold isStepP at h
  split at h
  · rename_i h1
    simp only [withinP, Bool.and_eq_true, decide_eq_true_eq] at h1
    exact h1.1.1
  · cases h
theorem line_time {k : Int} {l : List Step} (h : isLineP k l = true) : ∀ s ∈ l, 0 ≤ s.at_ ∧ s.at_ ≤ 1000 := fun s hs => step_time ((isLineP_spec h).2.2.2.1 s hs)
theorem line_len {k : Int} {l : List Step} (h : isLineP k l = true) : l.length ≤ 60 := (isLineP_spec h).2.2.1
theorem lines_time {k k2 : Int} {la lb : List Step} (h : isLineP k la = true) (h2 : isLineP k2 lb = true) : ∀ s ∈ la ++ lb, 0 ≤ s.at_ ∧ s.at_ ≤ 1000 := fun s hs => (List.mem_append.1 hs).elim (line_time h s) (line_time h2 s)
set_option maxHeartbeats 4000000 in
theorem rdiff_any (k1 k2 : Int) (va vb : Value) (la lb : List Step) (w : World) (ra : Rd Step.cells 4 w va la) (rb : Rd Step.cells 4 w vb lb) :
    Calls Try.prog 34 #[.agg #[.int .i64 k1, va], .agg #[.int .i64 k2, vb]] w fun e w' => ∃ v, e = .returned (.tuple #[v, .int .i64 (diffP k1 la k2 lb).2]) ∧ Win Span.cells 2 58 w' v (fun i => w.heap.size ≤ i) (diffP k1 la k2 lb).1 ∧ Below w.heap.size w w' := by
  obtain ⟨a, c, rfl⟩ : ∃ a c, va = .slice a la.length c := by obtain ⟨_, a, c, rfl, _⟩ := ra; exact ⟨a, c, rfl⟩
  obtain ⟨aB, cB, rfl⟩ : ∃ a c, vb = .slice a lb.length c := by obtain ⟨_, a, c, rfl, _⟩ := rb; exact ⟨a, c, rfl⟩
  have RA := Lib.hid ra
  have RB := Lib.hid rb
  have HB2 := Lib.hid (fun o1 o2 => two_below w o1 o2)
  have C1 := Lib.hid (fun W (h : Rd Step.cells 4 W (.slice a la.length c) la) => isLine_any k1 _ la W h)
  have C2 := Lib.hid (fun W (h : Rd Step.cells 4 W (.slice aB lb.length cB) lb) => isLine_any k2 _ lb W h)
  clear ra rb
  cases h1 : isLineP k1 la with
  | false =>
    have hat : diffP k1 la k2 lb = ([], 2) := by simp [diffP, h1]
    rw [hat]
    rw [h1] at C1
    clear hat h1
    go_enter Try.func34, Try.ntmps34
    go_wp2_with (go_at_call 54; refine (C1.out _ (RA.out.below (HB2.out _ _))).mono ?_; rintro e w1 ⟨rfl, hb1⟩)
    go_ret2
    exact ⟨_, rfl, winC_nil _ _ _ _, (HB2.out _ _).trans (hb1.mono (by simp; omega))⟩
  | true =>
    cases h2 : isLineP k2 lb with
    | false =>
      have hat : diffP k1 la k2 lb = ([], 2) := by simp [diffP, h2]
      rw [hat]
      rw [h1] at C1
      rw [h2] at C2
      clear hat h1 h2
      go_enter Try.func34, Try.ntmps34
      go_wp2_with fail
      refine named_box2 (G := fun W => Calls _ _ _ W _) w _ _ _ _ fun W0 hb0 hz0 hx0 hx1 => ?_
      refine (C1.out _ (RA.out.below hb0)).mono ?_
      rintro e w1 ⟨rfl, hb1⟩
      have hB1 := hb0.trans (hb1.mono (by omega))
      have e0 : w1.cell? ⟨w.heap.size + 1, 0, none⟩ = some (.int .i64 k2) := below_cell hb1 (cell_blk hx1 0)
      have e1 : w1.cell? ⟨w.heap.size + 1, 1, none⟩ = some (.slice aB lb.length cB) := below_cell hb1 (cell_blk hx1 1)
      have HB := Lib.hid hB1
      clear hx0 hx1 hb0 hb1 hB1
      go_wp2_with (go_at_call 54; refine (C2.out _ (RB.out.below HB.out)).mono ?_; rintro e w2 ⟨rfl, hb2⟩)
      go_ret2
      exact ⟨_, rfl, winC_nil _ _ _ _, HB.out.trans (hb2.mono HB.out.size)⟩
    | true =>
      have HL := Lib.hid (And.intro h1 h2)
      rw [h1] at C1
      rw [h2] at C2
      clear h1 h2
      by_cases hk : k1 = k2
      · subst hk
        have hkb : (k1 != k1) = false := by simp
        have hat : diffP k1 la k1 lb = (diffOf k1 la lb, 0) := by simp [diffP, HL.out.1, HL.out.2]
        rw [hat]
        have HD := Lib.hid (fun W (h1 : Rd Step.cells 4 W (.slice a la.length c) la) (h2 : Rd Step.cells 4 W (.slice aB lb.length cB) lb) => spans_any k1 _ _ la lb W h1 h2 (by have := line_len HL.out.1; omega) (by have := line_len HL.out.2; omega) (lines_time HL.out.1 HL.out.2))
        clear hat
        go_enter Try.func34, Try.ntmps34
        go_wp2_with fail
        refine named_box2 (G := fun W => Calls _ _ _ W _) w _ _ _ _ fun W0 hb0 hz0 hx0 hx1 => ?_
        refine (C1.out _ (RA.out.below hb0)).mono ?_
        rintro e w1 ⟨rfl, hb1⟩
        have hB1 := hb0.trans (hb1.mono (by omega))
        have d0 : w1.cell? ⟨w.heap.size, 0, none⟩ = some (.int .i64 k1) := below_cell hb1 (cell_blk hx0 0)
        have d1 : w1.cell? ⟨w.heap.size, 1, none⟩ = some (.slice a la.length c) := below_cell hb1 (cell_blk hx0 1)
        have e0 : w1.cell? ⟨w.heap.size + 1, 0, none⟩ = some (.int .i64 k1) := below_cell hb1 (cell_blk hx1 0)
        have e1 : w1.cell? ⟨w.heap.size + 1, 1, none⟩ = some (.slice aB lb.length cB) := below_cell hb1 (cell_blk hx1 1)
        have HB := Lib.hid hB1
        clear hx0 hx1 hb0 hb1 hB1
        go_wp2_with (first | (go_at_call 64; refine (HD.out _ (RA.out.below (HB.out.trans (hb2.mono HB.out.size))) (RB.out.below (HB.out.trans (hb2.mono HB.out.size)))).mono ?_; rintro e w3 ⟨v3, rfl, hw3, hb3⟩) | (go_at_call 54; refine (C2.out _ (RB.out.below HB.out)).mono ?_; rintro e w2 ⟨rfl, hb2⟩; have d0' := below_cell hb2 d0; have d1' := below_cell hb2 d1; have e0' := below_cell hb2 e0; have e1' := below_cell hb2 e1; clear d0 d1 e0 e1))
        go_ret2
        have hB2 := HB.out.trans (hb2.mono HB.out.size)
        exact ⟨_, rfl, winC_mono hw3 fun i hi => Nat.le_trans hB2.size hi, hB2.trans (hb3.mono hB2.size)⟩
      · have hkb : (k1 != k2) = true := by simp [hk]
        have hat : diffP k1 la k2 lb = ([], 2) := by simp [diffP, hk]
        rw [hat]
        clear hat hk
        go_enter Try.func34, Try.ntmps34
        go_wp2_with fail
        refine named_box2 (G := fun W => Calls _ _ _ W _) w _ _ _ _ fun W0 hb0 hz0 hx0 hx1 => ?_
        refine (C1.out _ (RA.out.below hb0)).mono ?_
        rintro e w1 ⟨rfl, hb1⟩
        have hB1 := hb0.trans (hb1.mono (by omega))
        have d0 : w1.cell? ⟨w.heap.size, 0, none⟩ = some (.int .i64 k1) := below_cell hb1 (cell_blk hx0 0)
        have d1 : w1.cell? ⟨w.heap.size, 1, none⟩ = some (.slice a la.length c) := below_cell hb1 (cell_blk hx0 1)
        have e0 : w1.cell? ⟨w.heap.size + 1, 0, none⟩ = some (.int .i64 k2) := below_cell hb1 (cell_blk hx1 0)
        have e1 : w1.cell? ⟨w.heap.size + 1, 1, none⟩ = some (.slice aB lb.length cB) := below_cell hb1 (cell_blk hx1 1)
        have HB := Lib.hid hB1
        clear hx0 hx1 hb0 hb1 hB1
        go_wp2_with (go_at_call 54; refine (C2.out _ (RB.out.below HB.out)).mono ?_; rintro e w2 ⟨rfl, hb2⟩; have d0' := below_cell hb2 d0; have e0' := below_cell hb2 e0; clear d0 e0)
        go_ret2
        exact ⟨_, rfl, winC_nil _ _ _ _, HB.out.trans (hb2.mono HB.out.size)⟩

set_option maxHeartbeats 4000000 in
theorem refDiff_any (k1 k2 : Int) (va vb : Value) (la lb : List Step) (w : World) (ra : Rd Step.cells 4 w va la) (rb : Rd Step.cells 4 w vb lb) :
    Calls Try.prog 35 #[.agg #[.int .i64 k1, va], .agg #[.int .i64 k2, vb]] w fun e w' => ∃ v, e = .returned (.tuple #[v, .int .i64 (diffP k1 la k2 lb).2]) ∧ Win Span.cells 2 58 w' v (fun i => w.heap.size ≤ i) (diffP k1 la k2 lb).1 ∧ Below w.heap.size w w' := by
  obtain ⟨a, c, rfl⟩ : ∃ a c, va = .slice a la.length c := by obtain ⟨_, a, c, rfl, _⟩ := ra; exact ⟨a, c, rfl⟩
  obtain ⟨aB, cB, rfl⟩ : ∃ a c, vb = .slice a lb.length c := by obtain ⟨_, a, c, rfl, _⟩ := rb; exact ⟨a, c, rfl⟩
  have RA := Lib.hid ra
  have RB := Lib.hid rb
  have HB2 := Lib.hid (fun o1 o2 => two_below w o1 o2)
  have C1 := Lib.hid (fun W (h : Rd Step.cells 4 W (.slice a la.length c) la) => good_any k1 _ la W h)
  have C2 := Lib.hid (fun W (h : Rd Step.cells 4 W (.slice aB lb.length cB) lb) => good_any k2 _ lb W h)
  clear ra rb
  cases h1 : isLineP k1 la with
  | false =>
    have hat : diffP k1 la k2 lb = ([], 2) := by simp [diffP, h1]
    rw [hat]
    rw [h1] at C1
    clear hat h1
    go_enter Try.func35, Try.ntmps35
    go_wp2_with (go_at_call 42; refine (C1.out _ (RA.out.below (HB2.out _ _))).mono ?_; rintro e w1 ⟨rfl, hb1⟩)
    go_ret2
    exact ⟨_, rfl, winC_nil _ _ _ _, (HB2.out _ _).trans (hb1.mono (by simp; omega))⟩
  | true =>
    cases h2 : isLineP k2 lb with
    | false =>
      have hat : diffP k1 la k2 lb = ([], 2) := by simp [diffP, h2]
      rw [hat]
      rw [h1] at C1
      rw [h2] at C2
      clear hat h1 h2
      go_enter Try.func35, Try.ntmps35
      go_wp2_with fail
      refine named_box2 (G := fun W => Calls _ _ _ W _) w _ _ _ _ fun W0 hb0 hz0 hx0 hx1 => ?_
      refine (C1.out _ (RA.out.below hb0)).mono ?_
      rintro e w1 ⟨rfl, hb1⟩
      have hB1 := hb0.trans (hb1.mono (by omega))
      have e0 : w1.cell? ⟨w.heap.size + 1, 0, none⟩ = some (.int .i64 k2) := below_cell hb1 (cell_blk hx1 0)
      have e1 : w1.cell? ⟨w.heap.size + 1, 1, none⟩ = some (.slice aB lb.length cB) := below_cell hb1 (cell_blk hx1 1)
      have HB := Lib.hid hB1
      clear hx0 hx1 hb0 hb1 hB1
      go_wp2_with (go_at_call 42; refine (C2.out _ (RB.out.below HB.out)).mono ?_; rintro e w2 ⟨rfl, hb2⟩)
      go_ret2
      exact ⟨_, rfl, winC_nil _ _ _ _, HB.out.trans (hb2.mono HB.out.size)⟩
    | true =>
      have HL := Lib.hid (And.intro h1 h2)
      rw [h1] at C1
      rw [h2] at C2
      clear h1 h2
      by_cases hk : k1 = k2
      · subst hk
        have hkb : (k1 != k1) = false := by simp
        have hat : diffP k1 la k1 lb = (diffOf k1 la lb, 0) := by simp [diffP, HL.out.1, HL.out.2]
        rw [hat]
        have HD := Lib.hid (fun W (h1 : Rd Step.cells 4 W (.slice a la.length c) la) (h2 : Rd Step.cells 4 W (.slice aB lb.length cB) lb) => diffOf_any k1 _ _ la lb W h1 h2 (okLine_of HL.out.1) (okLine_of HL.out.2) (lines_time HL.out.1 HL.out.2))
        clear hat
        go_enter Try.func35, Try.ntmps35
        go_wp2_with fail
        refine named_box2 (G := fun W => Calls _ _ _ W _) w _ _ _ _ fun W0 hb0 hz0 hx0 hx1 => ?_
        refine (C1.out _ (RA.out.below hb0)).mono ?_
        rintro e w1 ⟨rfl, hb1⟩
        have hB1 := hb0.trans (hb1.mono (by omega))
        have d0 : w1.cell? ⟨w.heap.size, 0, none⟩ = some (.int .i64 k1) := below_cell hb1 (cell_blk hx0 0)
        have d1 : w1.cell? ⟨w.heap.size, 1, none⟩ = some (.slice a la.length c) := below_cell hb1 (cell_blk hx0 1)
        have e0 : w1.cell? ⟨w.heap.size + 1, 0, none⟩ = some (.int .i64 k1) := below_cell hb1 (cell_blk hx1 0)
        have e1 : w1.cell? ⟨w.heap.size + 1, 1, none⟩ = some (.slice aB lb.length cB) := below_cell hb1 (cell_blk hx1 1)
        have HB := Lib.hid hB1
        clear hx0 hx1 hb0 hb1 hB1
        go_wp2_with (first | (go_at_call 67; refine (HD.out _ (RA.out.below (HB.out.trans (hb2.mono HB.out.size))) (RB.out.below (HB.out.trans (hb2.mono HB.out.size)))).mono ?_; rintro e w3 ⟨v3, rfl, hw3, hb3⟩) | (go_at_call 42; refine (C2.out _ (RB.out.below HB.out)).mono ?_; rintro e w2 ⟨rfl, hb2⟩; have d0' := below_cell hb2 d0; have d1' := below_cell hb2 d1; have e0' := below_cell hb2 e0; have e1' := below_cell hb2 e1; clear d0 d1 e0 e1))
        go_ret2
        have hB2 := HB.out.trans (hb2.mono HB.out.size)
        exact ⟨_, rfl, winC_mono hw3 fun i hi => Nat.le_trans hB2.size hi, hB2.trans (hb3.mono hB2.size)⟩
      · have hkb : (k1 != k2) = true := by simp [hk]
        have hat : diffP k1 la k2 lb = ([], 2) := by simp [diffP, hk]
        rw [hat]
        clear hat hk
        go_enter Try.func35, Try.ntmps35
        go_wp2_with fail
        refine named_box2 (G := fun W => Calls _ _ _ W _) w _ _ _ _ fun W0 hb0 hz0 hx0 hx1 => ?_
        refine (C1.out _ (RA.out.below hb0)).mono ?_
        rintro e w1 ⟨rfl, hb1⟩
        have hB1 := hb0.trans (hb1.mono (by omega))
        have d0 : w1.cell? ⟨w.heap.size, 0, none⟩ = some (.int .i64 k1) := below_cell hb1 (cell_blk hx0 0)
        have d1 : w1.cell? ⟨w.heap.size, 1, none⟩ = some (.slice a la.length c) := below_cell hb1 (cell_blk hx0 1)
        have e0 : w1.cell? ⟨w.heap.size + 1, 0, none⟩ = some (.int .i64 k2) := below_cell hb1 (cell_blk hx1 0)
        have e1 : w1.cell? ⟨w.heap.size + 1, 1, none⟩ = some (.slice aB lb.length cB) := below_cell hb1 (cell_blk hx1 1)
        have HB := Lib.hid hB1
        clear hx0 hx1 hb0 hb1 hB1
        go_wp2_with (go_at_call 42; refine (C2.out _ (RB.out.below HB.out)).mono ?_; rintro e w2 ⟨rfl, hb2⟩; have d0' := below_cell hb2 d0; have e0' := below_cell hb2 e0; clear d0 e0)
        go_ret2
        exact ⟨_, rfl, winC_nil _ _ _ _, HB.out.trans (hb2.mono HB.out.size)⟩

end Go.Proofs.Ytkoeplbkeboklaa
/- A range over a function, at the wide fence: the statement, the call of yield; appends to windows within a fence. -/
set_option linter.unusedVariables false
set_option linter.unusedSimpArgs false
namespace Go.Proofs.Ytkoeplbkeboklaa
open Go.RowKit
theorem range_wide {P : Program} {n : Nat} {g : Operand} {ps : Array Tmp} {assign body : Code} {Q : Exit → Act → World → Prop} {a : Act} {w : World} {gf : Nat} {lb : Array Value} (hg : a.eval g = .func (.func gf) #[] lb) (eg : ∀ args w, (callFunc gf args).run P w = .ok (.enter gf args) w)
    (h : ∀ (fn : FuncId) (W1 : World), Below w.heap.size w W1 → W1.heap.size = w.heap.size + 2 → W1.heap[w.heap.size]? = some (.deferred (some [])) →
      W1.heap[w.heap.size + 1]? = some (.loop { state := .ready, pending := none, fn, tmps := a.tmps, params := ps, assign, body, defers := w.heap.size }) →
      CallsIn Fence.wide n P gf (#[.func (.yield (w.heap.size + 1)) #[] #[]] ++ lb) W1 (rangePost Fence.wide (n + 1) P (w.heap.size + 1) Q { a with defers := { target := .collected w.heap.size, args := #[] } :: a.defers })) :
    (Code.rangeFunc g ps assign body).wpIn Fence.wide (n + 1) P Q a w := by
  refine wpIn_rangeFunc ?_
  intro fn _
  obtain ⟨W1, hW1⟩ : ∃ W1, (w.alloc (.deferred (some []))).alloc (.loop { state := .ready, pending := none, fn, tmps := a.tmps, params := ps, assign, body, defers := w.heap.size }) = W1 := ⟨_, rfl⟩
  refine ⟨w.heap.size + 1, [{ target := .collected w.heap.size, args := #[] }], W1, { target := .fn (.func gf) lb, args := #[.func (.yield (w.heap.size + 1)) #[] #[]] }, W1, gf,
    #[.func (.yield (w.heap.size + 1)) #[] #[]] ++ lb, W1, ?_, ?_, ?_, ?_, fun h => by simp [Fence.wide] at h, ?_⟩
  · rw [← hW1]; exact run_enterLoop_outer _ _ _ _ _
  · simp only [resolve, hg]
    simp [go_sem]
  · intro f' _; trivial
  · simp [invoke, go_sem, eg]
  · refine h fn W1 ?_ ?_ ?_ ?_
    · rw [← hW1]; exact (((Below.refl _ w).alloc (Nat.le_refl _) _).alloc (by simp) _)
    · rw [← hW1]; simp
    · rw [← hW1]; exact (Below.heap_alloc _ _ _ (by simp)).trans (heap_alloc_new w _)
    · rw [← hW1]
      have := heap_alloc_new (w.alloc (.deferred (some []))) (.loop { state := .ready, pending := none, fn, tmps := a.tmps, params := ps, assign, body, defers := w.heap.size })
      rwa [World.size_alloc] at this
theorem yield_wide {P : Program} {n l : Nat} {r : Loop} {args : Array Value} {W : World} {R : Ending → World → Prop} (hr : W.heap[l]? = some (.loop r)) (hs : args.size = r.params.size)
    (h : r.assign.wpIn (Fence.wide.inRound l) n P (Exit.then (fun a₁ w₁ => ∃ r', w₁.heap[l]? = some (.loop r') ∧ r'.state = .ready ∧ r.body.wpIn (Fence.wide.inRound l) n P (roundPost P l R) a₁ (w₁.putObj l (.loop { r' with state := .busy }))) (fun _ _ _ => False))
      { tmps := (r.params.zip args).foldl (fun tmps (t, a) => tmps.setIfInBounds t a) r.tmps, defers := [] } W) : YieldAt Fence.wide n P l args W R :=
  ⟨r.fn, _, r.assign, r.body, run_yield hr hs, roundIn_of_wpIn trivial (wpIn_mono h fun e a₁ w₁ hq => by
    cases e with
    | normal =>
      obtain ⟨r', h1, h2, h3⟩ := hq
      exact ⟨_, run_beginRound h1 h2, h3⟩
    | exit id => exact hq
    | goto l => exact hq
    | ret => exact hq
    | panic c => exact hq
    | outgrown => exact hq)⟩
theorem two_box {w W0 : World} {cs ds : Array Value} {T U : TypeId} (h : (w.alloc (.cells cs T)).alloc (.cells ds U) = W0) : Below w.heap.size w W0 ∧ W0.heap.size = w.heap.size + 2 ∧ W0.heap[w.heap.size]? = some (.cells cs T (0, 0)) ∧ W0.heap[w.heap.size + 1]? = some (.cells ds U (0, 0)) := by
  subst h
  exact named_box2 w cs ds T U (G := fun W0 => Below w.heap.size w W0 ∧ W0.heap.size = w.heap.size + 2 ∧ W0.heap[w.heap.size]? = some (.cells cs T (0, 0)) ∧ W0.heap[w.heap.size + 1]? = some (.cells ds U (0, 0))) fun W0 h1 h2 h3 h4 => ⟨h1, h2, h3, h4⟩
theorem fr_putObj (w : World) (r : Nat) (o : Obj) : Fr (fun i => i = r) w (w.putObj r o) := ⟨rfl, rfl, rfl, by simp, fun k _ hs => World.putObj_heap_other hs⟩
theorem named_put {w : World} {r : Nat} {o : Obj} {G : World → Prop} (hr : r < w.heap.size) (h : ∀ W, Fr (fun i => i = r) w W → W.heap[r]? = some o → W.heap.size = w.heap.size → G W) : G (w.putObj r o) :=
  h _ (fr_putObj w r o) (World.putObj_heap_same hr) (by simp)
theorem rows_wide {P : Program} {n l : Nat} {row : String} {args : Array Value} {w : World} {R : Value → World → Prop} (h : Rows P row args w R) : RowsIn (Fence.wide.inRound l) n P row args w R :=
  fun c cs _ => let ⟨v, w', r, s⟩ := h c cs; ⟨v, w', r, stepsIn_wide.2 s⟩
theorem wpIn_of_wp_op {P : Program} {n l : Nat} {o : Oper} {a : Act} {w : World} {K : Act → World → Prop} {Q : Exit → Act → World → Prop} (hd : ∀ c, o.op ≠ .defer c) (h : o.wp P a w K Q) : o.wpIn (Fence.wide.inRound l) n P a w K Q := by
  refine ⟨fun _ _ => trivial, ?_⟩
  rw [Oper.semAt_eq _ _ _ hd]
  unfold Oper.wp at h
  generalize (execOp a.eval o).run P w = r at h
  match r, h with
  | .ok (.value v) w', h => exact h
  | .ok .skip w', h => exact h
  | .ok (.defer d) w', h => exact h
  | .ok (.enter f args) w', h => exact ⟨fun h => by simp [Fence.wide, Fence.inRound] at h, callsIn_wide.2 h⟩
  | .ok (.row row args) w', h => exact ⟨fun h => by simp [Fence.wide, Fence.inRound] at h, rows_wide h⟩
  | .halt (.panic v) w', h => exact h
theorem wpAnyIn_of_wpAny {P : Program} {n l : Nat} {md : Region.Mode} {ops : Array Oper} {Q : Exit → Act → World → Prop} (hlo : ¬ LetsOut Q) (hd : ∀ (i : Nat) (o : Oper), ops[i]? = some o → ∀ c, o.op ≠ .defer c) :
    ∀ (fuel : Nat) (listed : Array Bool) (a : Act) (w : World), wpAny P md ops Q fuel listed a w → wpAnyIn (Fence.wide.inRound l) n P md ops Q fuel listed a w
  | 0, _, _, _, h => h
  | fuel + 1, listed, a, w, h => by
    refine ⟨h.1, fun i hi => ?_⟩
    have h1 := h.2 i hi
    unfold wpOp at h1
    unfold wpOpIn
    split
    · rename_i ho; rw [ho] at h1; exact wpAnyIn_of_wpAny hlo hd fuel _ _ _ h1
    · rename_i o ho
      simp only [ho] at h1
      split
      · rename_i hw; simp only [hw, if_true] at h1; exact wpIn_of_wp_op (hd i o ho) (Oper.wp_mono (fun a w h => wpAnyIn_of_wpAny hlo hd fuel _ a w h) (h1.resolve_right fun h => hlo h.2))
      · rename_i hw; simp only [hw] at h1; exact ⟨fun _ _ => trivial, wpAnyIn_of_wpAny hlo hd fuel _ _ _ h1⟩
def noDef (o : Oper) : Bool := match o.op with | .defer _ => false | _ => true
theorem noDefer {ops : Array Oper} (h : ops.all noDef = true) : ∀ (i : Nat) (o : Oper), ops[i]? = some o → ∀ c, o.op ≠ .defer c := by
  intro i o ho c hc
  obtain ⟨hi, rfl⟩ := Array.getElem?_eq_some_iff.1 ho
  have := Array.all_eq_true.1 h i hi
  simp [noDef, hc] at this
theorem region_quiet_round {P : Program} {n L id : Nat} {Q : Exit → Act → World → Prop} {a : Act} {w : World} {l : List Oper} (hm : P.follows .mixedOrders = true) (hlo : ¬ LetsOut Q) (hd : l.toArray.all noDef = true) (hB : Region.lexB .any l.toArray = true)
    (h : wpQuiet P l.toArray (fun w' => ∃ n, w' = w.drewN n) (fun a' => ∀ w', (∃ n, w' = w.drewN n) → Q .normal a' w') l a) : (Code.region id l.toArray true).wpIn (Fence.wide.inRound L) n P Q a w := by
  simp only [Region.lexB, Bool.and_eq_true] at hB
  refine wpIn_region_any hm (wpAnyIn_of_wpAny hlo (noDefer hd) _ _ _ _ (wpAny_of_quiet (Q := fun a' => ∀ w', (∃ n, w' = w.drewN n) → Q .normal a' w') (fun _ w' hw' h => h w' hw') _ _ _ _ ⟨1, rfl⟩ ?_))
  have := wpAnyQ_lex (C := fun w' => ∃ n, w' = w.drewN n) (md := .any) hB.1 l.toArray.toList 0 (Array.replicate l.toArray.size false) a (by simp) (by simpa using hB.2) (by simpa using h)
  simpa using this
theorem round_end {P : Program} {l : Nat} {R : Ending → World → Prop} {r : Loop} {a : Act} {w : World} (h : w.heap[l]? = some (.loop r)) (hk : ∀ W, Fr (fun i => i = l) w W → W.heap[l]? = some (.loop { r with state := .ready, pending := none }) → W.heap.size = w.heap.size → R (.returned (.bool true)) W) : roundPost P l R .normal a w :=
  ⟨_, _, run_endRound none h, named_put (G := R (.returned (.bool true))) (Array.getElem?_eq_some_iff.1 h).1 hk⟩
theorem wpListIn_append_win {F : Fence} {n : Nat} {P : Program} (w : World) {ops : Array Oper} {rest : List Oper} {o : Oper} {a : Act} {Q : Exit → Act → World → Prop} (hgd : o.guard = none) (s x : Operand) (t : TypeId)
    (hop : o.op = .call { callee := .builtin .append, args := #[s, x], argTypes := #[t, t] })
    (e : TypeId) (k bytes : Nat) (z : Value) (ht : P.underlying t = some (.slice e)) (hinfo : (P.info? e).map (fun i => (i.zero, i.size, i.bytes)) = some (some z, k, bytes)) (hzs : z.cells.size = k) (hk : 0 < k)
    (v : Value) (S : Nat → Prop) (nn : Nat) (xs : List Value) (hs : a.eval s = v) (hwin : WinC k e w v S nn xs)
    (ad : Addr) (m c : Nat) (news : List Value) (hx : a.eval x = .slice (some ad) m c) (hl : news.length = m * k) (hnews : ∀ j u, news[j]? = some u → w.cell? (ad.add j) = some u) (h1 : ∀ u ∈ news, u.oneCell' = true)
    (hm : 0 < m) (h63 : nn + m ≤ maxLen) (hbytes : (nn + m) * bytes ≤ 140737488355328)
    (hK : ∀ v' w', WinC k e w' v' (fun i => (S i ∧ i < w.heap.size) ∨ i = w.heap.size) (nn + m) (xs ++ news) → Fr (fun i => some i = v.ownBlock) w w' → w'.heap.size ≤ w.heap.size + 1 → wpListIn F n P ops Q rest (a.put o.dst v') w') : wpListIn F n P ops Q (o :: rest) a w := by
  obtain ⟨i, hi, hzz⟩ := Option.map_eq_some_iff.1 hinfo
  simp only [Prod.mk.injEq] at hzz
  obtain ⟨v', w', hrun, r1, r2, r3⟩ := run_append_win (P := P) w t o.type e i z k bytes ht hi hzz.1 hzz.2.1 hzz.2.2 hzs hk v S nn xs hwin ad m c news hl hnews h1 hm h63 hbytes
  refine wpListIn_plain hgd fun K hK' => ?_
  unfold Oper.wpIn
  refine ⟨?_, ?_⟩
  · simp [Oper.about, hop, resolve, Target.leads, Sem.run_pure]
  · rw [Oper.semAt_plain F _ _ (by rw [hop]; intro c hc'; cases hc')]
    simp [execOp, hop, resolve, invoke, builtin, hs, hx, hrun, Result.andThen]
    exact hK' _ _ (hK v' w' r1 r2 r3)
theorem run_value {P : Program} {m : Sem Value} {w w' : World} {v : Value} (h : m.run P w = .ok v w') : ((m.run P w).andThen fun a w' => Result.ok (Next.value a) w') = .ok (.value v) w' := by rw [h]; rfl
theorem uponIn_eq {F : Fence} {n : Nat} {P : Program} {o : Oper} {a : Act} {K : Act → World → Prop} {Q : Exit → Act → World → Prop} {r r' : Result Next} (h : r = r') (h2 : o.uponIn F n P a K Q r') : o.uponIn F n P a K Q r := h ▸ h2
theorem opIn_append_win {F : Fence} {n : Nat} {P : Program} (w : World) {o : Oper} {a : Act} {K : Act → World → Prop} {Q : Exit → Act → World → Prop} (s x : Operand) (t : TypeId)
    (hop : o.op = .call { callee := .builtin .append, args := #[s, x], argTypes := #[t, t] })
    (e : TypeId) (k bytes : Nat) (z : Value) (ht : P.underlying t = some (.slice e)) (hinfo : (P.info? e).map (fun i => (i.zero, i.size, i.bytes)) = some (some z, k, bytes)) (hzs : z.cells.size = k) (hk : 0 < k)
    (v : Value) (S : Nat → Prop) (nn : Nat) (xs : List Value) (hs : a.eval s = v) (hwin : WinC k e w v S nn xs)
    (ad : Addr) (m c : Nat) (news : List Value) (hx : a.eval x = .slice (some ad) m c) (hl : news.length = m * k) (hnews : ∀ j u, news[j]? = some u → w.cell? (ad.add j) = some u) (h1 : ∀ u ∈ news, u.oneCell' = true)
    (hm : 0 < m) (h63 : nn + m ≤ maxLen) (hbytes : (nn + m) * bytes ≤ 140737488355328)
    (hK : ∀ v' w', WinC k e w' v' (fun i => (S i ∧ i < w.heap.size) ∨ i = w.heap.size) (nn + m) (xs ++ news) → Fr (fun i => some i = v.ownBlock) w w' → w'.heap.size ≤ w.heap.size + 1 → K (a.put o.dst v') w') : o.wpIn F n P a w K Q := by
  obtain ⟨i, hi, hzz⟩ := Option.map_eq_some_iff.1 hinfo
  simp only [Prod.mk.injEq] at hzz
  obtain ⟨v', w', hrun, r1, r2, r3⟩ := run_append_win (P := P) w t o.type e i z k bytes ht hi hzz.1 hzz.2.1 hzz.2.2 hzs hk v S nn xs hwin ad m c news hl hnews h1 hm h63 hbytes
  unfold Oper.wpIn
  refine ⟨?_, ?_⟩
  · simp [Oper.about, hop, resolve, Target.leads, Sem.run_pure]
  · rw [Oper.semAt_plain F _ _ (by rw [hop]; intro c hc'; cases hc')]
    simp [execOp, hop, resolve, invoke, builtin, hs, hx, hrun, Result.andThen]
    exact hK _ _ r1 r2 r3
end Go.Proofs.Ytkoeplbkeboklaa
/- retro.Takes. -/
set_option linter.unusedVariables false
set_option linter.unusedSimpArgs false
namespace Go.Proofs.Ytkoeplbkeboklaa
open Go.RowKit Go.Shelf
attribute [local go_sem] Oper.semAt_some
set_option maxHeartbeats 4000000 in
theorem rTakes_any (k : Int) (v : Value) (l : List Step) (w : World) (hr : Rd Step.cells 4 w v l) :
    Calls Try.prog 16 #[.agg #[.int .i64 k, v]] w fun e w' => ∃ v', e = .returned (.tuple #[v', .int .i64 (takesP k l).2]) ∧ Win Span.cells 2 58 w' v' (fun i => w.heap.size ≤ i) (takesP k l).1 ∧ Below w.heap.size w w' := by
  obtain ⟨a, c, rfl⟩ : ∃ a c, v = .slice a l.length c := by obtain ⟨_, a, c, rfl, _⟩ := hr; exact ⟨a, c, rfl⟩
  have HR := Lib.hid hr
  have HBL := Lib.hid (fun o => (Below.refl w.heap.size w).alloc (Nat.le_refl _) o)
  have HC := Lib.hid (fun o => isLine_any k _ l _ (hr.below ((Below.refl w.heap.size w).alloc (Nat.le_refl _) o)))
  clear hr
  have h57 : Fence.wide.fn 57 := trivial
  have h54 : Fence.wide.fn 54 := trivial
  cases hl : isLineP k l with
  | false =>
    have hat : takesP k l = ([], 2) := by simp [takesP, hl]
    rw [hat]
    rw [hl] at HC
    clear hat hl
    refine (callsIn_wide (n := 3)).1 ?_
    refine callsIn_of_wp_marks Try.func16 rfl trivial ?_ rfl
    simp only [Try.ntmps16, List.size_toArray, List.length_cons, List.length_nil, Nat.reduceAdd, Nat.reduceSub, Array.replicate_succ, Array.replicate_zero, List.push_toArray, List.append_toArray, List.nil_append, List.cons_append]
    gi_wp2_with (gi_at_call 54; refine (callsIn_wide.2 (HC.out _)).mono ?_; rintro e w1 ⟨rfl, hb1⟩)
    exact ⟨.tuple #[.slice none 0 0, .int .i64 2], by simp [results, Try.results16, go_sem], _, rfl, winC_nil _ _ _ _, (HBL.out _).trans (hb1.mono (by simp))⟩
  | true =>
    have hat : takesP k l = (takesOf k l, 0) := by simp [takesP, hl]
    rw [hat]
    rw [hl] at HC
    have HL := Lib.hid hl
    have hlen := line_len hl
    clear hat hl
    refine (callsIn_wide (n := 3)).1 ?_
    refine callsIn_of_wp_marks Try.func16 rfl trivial ?_ rfl
    simp only [Try.ntmps16, List.size_toArray, List.length_cons, List.length_nil, Nat.reduceAdd, Nat.reduceSub, Array.replicate_succ, Array.replicate_zero, List.push_toArray, List.append_toArray, List.nil_append, List.cons_append]
    gi_wp2_with (first | (gi_at_call 54; refine (callsIn_wide.2 (HC.out _)).mono ?_; rintro e w1 ⟨rfl, hb1⟩; have d0 : w1.cell? ⟨w.heap.size, 0, none⟩ = some (.int .i64 k) := below_cell hb1 (World.cell?_alloc_new w #[.int .i64 k, .slice a l.length c] 25 0); have d1 : w1.cell? ⟨w.heap.size, 1, none⟩ = some (.slice a l.length c) := below_cell hb1 (World.cell?_alloc_new w #[.int .i64 k, .slice a l.length c] 25 1); have e0 := fun o => below_cell ((Below.refl w1.heap.size w1).alloc (Nat.le_refl _) o) d0; have e1 := fun o => below_cell ((Below.refl w1.heap.size w1).alloc (Nat.le_refl _) o) d1) | (gi_at_call 57; refine (callsIn_wide.2 (done_any k _ _)).mono ?_; rintro e w2 ⟨rfl, rfl⟩))
    have hB1 : Below w.heap.size w w1 := (HBL.out _).trans (hb1.mono (by simp))
    have hz1 : w.heap.size + 1 ≤ w1.heap.size := by have := hb1.size; simpa using this
    refine named_box2 w1 _ _ _ _ fun Wp hbp hzp hx0 hx1 => ?_
    have hzp1 := Nat.le_of_eq hzp
    have hzp2 := Nat.le_of_eq hzp.symm
    clear hzp
    refine range_wide (by rfl) (enters_of Try.func80 (by kernel_rfl) rfl) ?_
    intro fn W1 hbW hzW hD hL1
    have hzW1 := Nat.le_of_eq hzW
    have hzW2 := Nat.le_of_eq hzW.symm
    clear hzW
    obtain ⟨REC, hREC, hL2⟩ : ∃ REC, REC = _ ∧ W1.heap[Wp.heap.size + 1]? = some (.loop REC) := ⟨_, rfl, hL1⟩
    have hob := (hbW.block w1.heap.size (by omega)).trans hx0
    have hln := (hbW.block (w1.heap.size + 1) (by omega)).trans hx1
    have hBW : Below w.heap.size w W1 := (hB1.trans (hbp.mono (by omega))).trans (hbW.mono (by omega))
    have hrd := HR.out.below hBW
    have hrb : ∀ i, some i = (Value.slice a l.length c).ownBlock → l = [] ∨ i < w.heap.size := fun i hi => by
      rcases Nat.eq_zero_or_pos l.length with h0 | h0
      · exact .inl (List.eq_nil_of_length_eq_zero h0)
      · obtain ⟨_, a', c', he, hh⟩ := HR.out
        obtain ⟨b, off, rfl, hb, _⟩ := hh h0
        injection he with he1
        subst he1
        simp [Value.ownBlock] at hi
        exact .inr (hi ▸ hb)
    have hcell : W1.cell? ⟨w1.heap.size, 0, none⟩ = some (.slice none 0 0) := cell_blk hob 0
    have hfz := free_blk hob 0
    obtain ⟨J, hJ⟩ : ∃ J : Nat → (Nat → Prop) → World → Prop, ∀ i S W, J i S W ↔ ∃ (a1 : Option Addr) (out : List Span) (c1 : Nat), W.cell? ⟨w1.heap.size, 0, none⟩ = some (.slice a1 out.length c1) ∧ W.frozen? ⟨w1.heap.size, 0, none⟩ = false ∧ Win Span.cells 2 58 W (.slice a1 out.length c1) (fun j => W1.heap.size ≤ j ∧ ¬ S j) out ∧ out ++ takesFrom k (thP k l i) (l.drop i) = takesOf k l ∧ out.length ≤ i ∧ W.heap[Wp.heap.size + 1]? = some (.loop REC) ∧ W.heap[Wp.heap.size]? = some (.deferred (some [])) ∧ Below w.heap.size w W ∧ W1.heap.size ≤ W.heap.size := ⟨_, fun _ _ _ => Iff.rfl⟩
    refine (done1_in 1 (Wp.heap.size + 1) (w1.heap.size + 1) k a c l (by omega) W1 (fun j => j = w1.heap.size ∨ j = Wp.heap.size + 1)
      J
      hln hrd (fun h => by rcases h with h | h <;> omega) (fun i hi => (hrb i hi).imp id fun h h2 => by rcases h2 with h2 | h2 <;> omega) ((hJ _ _ _).2 ⟨none, [], 0, hcell, hfz, winC_nil _ _ _ _, rfl, by simp, hL2, hD, hBW, Nat.le_refl _⟩) ?_ ?_).mono ?_
    · rintro i S S' W W' hj hF hS' hS
      obtain ⟨a1, out, c1, j1, j2, j3, j4, j5, j6, j7, j8, j9⟩ := (hJ _ _ _).1 hj
      have ne : ∀ j, j < W1.heap.size → ¬ S j := fun j hj h => by have := hS j h; omega
      refine (hJ _ _ _).2 ⟨a1, out, c1, fr_cell hF j1 (ne _ (by show w1.heap.size < _; omega)), fr_frozen hF (by show w1.heap.size < _; omega) j2 (ne _ (by show w1.heap.size < _; omega)), winC_mono (winC_move (winC_block j3) hF fun i hi h => hi.2.1.2 h) fun i hi => ⟨hi.2.1.1, fun h => ?_⟩, j4, j5, (hF.block _ (by omega) (ne _ (by omega))).trans j6, (hF.block _ (by omega) (ne _ (by omega))).trans j7, j8.trans (below_of_fr hF j8.size fun i hi => by have := hS i hi; omega), Nat.le_trans j9 hF.size⟩
      rcases hS' i h with h | h
      · exact hi.2.1.2 h
      · have := hi.2.2; omega
    · rintro i s S W hx hj hSS hsW
      have hSL := Lib.hid hSS
      clear hSS
      obtain ⟨a1, out, c1, j1, j2, j3, j4, j5, j6, j7, j8, j9⟩ := (hJ _ _ _).1 hj
      have HJI := Lib.hid hJ
      clear hj hJ
      have hst : 0 < i ∨ i = 0 := by omega
      refine yield_wide j6 (by rw [hREC]; rfl) ?_
      have HJ := Lib.hid (And.intro j3 (And.intro j4 (And.intro j6 (And.intro j7 (And.intro j8 (And.intro hx hREC))))))
      have hil : i < l.length := (List.getElem?_eq_some_iff.1 hx).1
      clear j3 j4 j6 j7 j8 hx hob hln hD hL1 hL2
      generalize hg : (doP k (thP k l i) s).2 = g
      rw [hREC]
      simp only [List.zip_toArray, List.zip_cons_cons, List.zip_nil_left, List.zip_nil_right, List.foldl_toArray, List.foldl_cons, List.foldl_nil, List.setIfInBounds_toArray, List.set_cons_succ, List.set_cons_zero]
      gi_wp2
      generalize hWq : (W.alloc _).alloc _ = Wq
      obtain ⟨hbq, hzq, hy0, hy1⟩ := two_box hWq
      clear hWq
      refine ⟨REC, (hbq.block _ (by omega)).trans HJ.out.2.2.1, by rw [HJ.out.2.2.2.2.2.2], ?_⟩
      refine named_put (by omega) fun W2 hF2 hL2 hz2 => ?_
      have hFq : Fr (fun i => i = Wp.heap.size + 1) W W2 := fr_trans (fr_of_below hbq) hF2 fun _ _ h => h
      have o0 := fr_cell hFq j1 (by show ¬ w1.heap.size = _; omega)
      have of0 := fr_frozen hFq (by show w1.heap.size < _; omega) j2 (by show ¬ w1.heap.size = _; omega)
      have s0 : W2.cell? ⟨W.heap.size, 0, none⟩ = some (.int .i64 s.at_) := fr_cell hF2 (cell_blk hy0 0) (by show ¬ W.heap.size = _; omega)
      have s1 : W2.cell? ⟨W.heap.size, 1, none⟩ = some (.int .i64 s.do_) := fr_cell hF2 (cell_blk hy0 1) (by show ¬ W.heap.size = _; omega)
      have g1 : W2.cell? ⟨W.heap.size + 1, 2, none⟩ = some (.int .i64 g.from_) := fr_cell hF2 (cell_blk hy1 2) (by show ¬ W.heap.size + 1 = _; omega)
      have hzq1 : W.heap.size + 2 ≤ W2.heap.size := by omega
      have HQ := Lib.hid (And.intro hFq (And.intro hL2 hREC))
      have HF := Lib.hid of0
      clear hbq hy0 hy1 hF2 hL2 hFq hREC j1 j2 of0 hzq hz2
      have hwo := winC_move (winC_block HJ.out.1) HQ.out.1 fun i hi h => by have := hi.2.1.1; omega
      have hob2 : ∀ i, some i = (Value.slice a1 out.length c1).ownBlock → W1.heap.size ≤ i ∧ i < W.heap.size := fun i hi => by have := (winC_ob hwo i hi); exact ⟨this.1.2.1.1, this.1.2.2⟩
      have HWO := Lib.hid (And.intro hwo hob2)
      clear hwo hob2
      by_cases hd : s.do_ = 2
      · have hdb : (s.do_ == 2) = true := by simp [hd]
        have HD := Lib.hid hd
        clear hd
        gi_wp2_with (gi_at_builtin; ((refine wpListIn_append_win _ (by rfl) _ _ _ (by rfl) 58 2 16 _ Try.underlying30 info_span rfl (by decide) _ _ out.length _ (by rfl) (winC_move HWO.out.1 (fr_alloc (fun _ => False) W2 (.cells #[.int .i64 g.from_, .int .i64 s.at_] 58)) fun _ _ h => h) _ _ _ [.int .i64 g.from_, .int .i64 s.at_] (by rfl) (by rfl) (World.news_of_block (heap_alloc_new W2 _)) (by simp [Value.oneCell']) (by decide) (by unfold maxLen; omega) (by omega) ?_); intro v3 w3 hwin3 hfr3 hsz3; obtain ⟨a4, c4, rfl, hn4, hm4⟩ := winC_slice hwin3; have F3 : Fr (fun i => some i = (Value.slice a1 out.length c1).ownBlock) W2 w3 := fr_trans (fr_alloc _ W2 _) hfr3 fun _ _ h => h; have of3 := fr_frozen F3 (show w1.heap.size < W2.heap.size by omega) HF.out (fun h => by have : W1.heap.size ≤ w1.heap.size := (HWO.out.2 _ h).1; omega); have o3 := fr_cell F3 o0 (fun h => by have : W1.heap.size ≤ w1.heap.size := (HWO.out.2 _ h).1; omega); have H3 := Lib.hid F3; clear F3 hfr3))
        have hyp := HQ.out
        have hne : ∀ i, some i = (Value.slice a1 out.length c1).ownBlock → W1.heap.size ≤ i ∧ i < W.heap.size := HWO.out.2
        have htk : out ++ ((if s.do_ = 2 then [⟨g.from_, s.at_⟩] else []) ++ takesFrom k (thP k l (i+1)) (l.drop (i+1))) = takesOf k l := by rw [thP_succ HJ.out.2.2.2.2.2.1, ← hg, ← takesFrom_drop HJ.out.2.2.2.2.2.1]; exact HJ.out.2.1
        have hF3 := H3.out
        have o4 := World.cell?_setCell_same w3 _ (.slice a4 (out.length + 1) c4) o3
        have of4 : (w3.setCell ⟨w1.heap.size, 0, none⟩ (.slice a4 (out.length + 1) c4)).frozen? ⟨w1.heap.size, 0, none⟩ = false := (World.frozen?_setCell _ _ _ _).trans of3
        have hF4 : Fr (fun i => (some i = (Value.slice a1 out.length c1).ownBlock) ∨ i = w1.heap.size) W2 (w3.setCell ⟨w1.heap.size, 0, none⟩ (.slice a4 (out.length + 1) c4)) := fr_trans (fr_mono hF3 fun i h => .inl h) (fr_setCell w3 _ _) fun i _ h => .inr h
        have hw4 := winC_move hwin3 (fr_setCell w3 ⟨w1.heap.size, 0, none⟩ (.slice a4 (out.length + 1) c4)) fun i hi (h : i = w1.heap.size) => by
          rcases hi with hi | hi
          · have := hi.1.2.1.1; omega
          · simp at hi; omega
        generalize w3.setCell ⟨w1.heap.size, 0, none⟩ (.slice a4 (out.length + 1) c4) = w4 at *
        have hL4 := (hF4.block (Wp.heap.size + 1) (by omega) (fun h => by rcases h with h | h; have := (hne _ h).1; omega; omega)).trans hyp.2.1
        have hs4 := hF4.size
        have hz2w : Wp.heap.size + 1 < w4.heap.size := by omega
        refine round_end hL4 fun W5 hF5 hL5 hz5 => ?_
        have hF45 : Fr (fun i => (some i = (Value.slice a1 out.length c1).ownBlock) ∨ i = w1.heap.size ∨ i = Wp.heap.size + 1) W W5 := fr_trans (fr_trans (fr_mono hyp.1 fun i h => .inr (.inr h)) hF4 fun i _ h => h.imp id fun h => .inl h) hF5 fun i _ h => .inr (.inr h)
        have hD5 := (hF45.block Wp.heap.size (by omega) (fun h => by rcases h with h | h | h; have := (hne _ h).1; omega; omega; omega)).trans HJ.out.2.2.2.1
        refine ⟨rfl, (HJI.out _ _ _).2 ⟨a4, out ++ [⟨g.from_, s.at_⟩], c4, ?_, fr_frozen hF5 (by show w1.heap.size < _; omega) of4 (by show ¬ w1.heap.size = _; omega), ?_, ?_, by simp; omega, hL5.trans (by rw [hyp.2.2]), hD5, HJ.out.2.2.2.2.1.trans (below_of_fr hF45 (by omega) fun i hi => by rcases hi with h | h | h; have := (hne _ h).1; omega; omega; omega), by omega⟩, fr_mono hF45 fun i h => ?_⟩
        · have := fr_cell hF5 o4 (by show ¬ w1.heap.size = _; omega)
          simpa using this
        · have hw5 := winC_move hw4 hF5 fun i hi (h : i = Wp.heap.size + 1) => by
            rcases hi with hi | hi
            · have := hi.1.2.1.1; omega
            · simp at hi; omega
          have hw6 : WinC 2 58 W5 (.slice a4 (out.length + 1) c4) (fun j => W1.heap.size ≤ j ∧ ¬ S j) (out.length + 1) (out.flatMap Span.cells ++ [.int .i64 g.from_, .int .i64 s.at_]) := winC_mono hw5 fun i hi => by
            rcases hi with hi | hi
            · exact hi.1.2.1
            · simp at hi; exact ⟨by omega, fun h => by have := hSL.out _ h; omega⟩
          simpa [Win, Span.cells] using hw6
        · rw [← htk, if_pos HD.out]; simp
        · rcases h with h | h | h
          · have := winC_ob HJ.out.1 _ h
            exact ⟨this.1.2, .inr this.1.1⟩
          · exact ⟨fun hs => by have := hSL.out _ hs; omega, .inl (.inl h)⟩
          · exact ⟨fun hs => by have := hSL.out _ hs; omega, .inl (.inr h)⟩
      · have hdb : (s.do_ == 2) = false := by simp [hd]
        have HD := Lib.hid hd
        clear hd
        gi_wp2
        have hyp := HQ.out
        have hne : ∀ i, some i = (Value.slice a1 out.length c1).ownBlock → W1.heap.size ≤ i ∧ i < W.heap.size := HWO.out.2
        have htk : out ++ ((if s.do_ = 2 then [⟨g.from_, s.at_⟩] else []) ++ takesFrom k (thP k l (i+1)) (l.drop (i+1))) = takesOf k l := by rw [thP_succ HJ.out.2.2.2.2.2.1, ← hg, ← takesFrom_drop HJ.out.2.2.2.2.2.1]; exact HJ.out.2.1
        have hz2w : Wp.heap.size + 1 < W2.heap.size := by omega
        refine round_end hyp.2.1 fun W5 hF5 hL5 hz5 => ?_
        have hF45 : Fr (fun i => i = Wp.heap.size + 1) W W5 := fr_trans hyp.1 hF5 fun i _ h => h
        have hD5 := (hF45.block Wp.heap.size (by omega) (by omega)).trans HJ.out.2.2.2.1
        refine ⟨rfl, (HJI.out _ _ _).2 ⟨a1, out, c1, fr_cell hF5 o0 (by show ¬ w1.heap.size = _; omega), fr_frozen hF5 (by show w1.heap.size < _; omega) HF.out (by show ¬ w1.heap.size = _; omega), ?_, ?_, by omega, hL5.trans (by rw [hyp.2.2]), hD5, HJ.out.2.2.2.2.1.trans (below_of_fr hF45 (by omega) fun i hi => by omega), by omega⟩, fr_mono hF45 fun i h => ?_⟩
        · exact winC_mono (winC_move HWO.out.1 hF5 fun i hi (h : i = Wp.heap.size + 1) => by have := hi.2.1.1; omega) fun i hi => hi.2.1
        · rw [← htk, if_neg HD.out]; simp
        · exact ⟨fun hs => by have := hSL.out _ hs; omega, .inl (.inr h)⟩
    · rintro e W2 ⟨⟨v2, rfl⟩, S, hj, hS, hsz⟩
      obtain ⟨a1, out, c1, j1, j2, j3, j4, j5, j6, j7, j8, j9⟩ := (hJ _ _ _).1 hj
      clear hj hJ
      have hlast : out = takesOf k l := by simpa [takesFrom] using j4
      subst hlast
      have HJ := Lib.hid (And.intro j3 (And.intro j7 (And.intro j8 hL2)))
      refine ⟨_, _, run_endLoop j6 (by rw [hREC]; simp), ?_⟩
      have HRE := Lib.hid hREC
      rw [hREC]
      clear j3 j4 j7 j8 hREC hL2 hL1 hob hln hD hrd hrb hcell hfz
      dsimp only
      refine named_put (by omega) fun W5 hF5 hL5 hz5 => ?_
      have o5 := fr_cell hF5 j1 (by show ¬ w1.heap.size = _; omega)
      gi_wp2
      have hK := (hF5.block Wp.heap.size (by omega) (by show ¬ Wp.heap.size = _; omega)).trans HJ.out.2.1
      refine ⟨by simp, .inl ⟨_, _, rfl, run_takeDeferred hK, ?_⟩⟩
      have hF6 : Fr (fun i => i = Wp.heap.size + 1 ∨ i = Wp.heap.size) W2 (W5.putObj Wp.heap.size (.deferred none)) := fr_trans (fr_mono hF5 fun i h => .inl h) (fr_putObj W5 _ _) fun i _ h => .inr h
      exact ⟨.tuple #[.slice a1 (takesOf k l).length c1, .int .i64 0], by simp [results, Try.results16, go_sem], _, rfl, winC_mono (winC_move HJ.out.1 hF6 fun i hi h => by have := hi.1; rcases h with h | h <;> omega) fun i hi => by have := hi.1; omega, HJ.out.2.2.1.trans (below_of_fr hF6 (by have := HJ.out.2.2.1.size; omega) fun i hi => by rcases hi with h | h <;> omega)⟩
end Go.Proofs.Ytkoeplbkeboklaa
/- retro.lives, retro.Lives. -/
set_option linter.unusedVariables false
set_option linter.unusedSimpArgs false
namespace Go.Proofs.Ytkoeplbkeboklaa
open Go.RowKit Go.Shelf
attribute [local go_sem] Oper.semAt_some
theorem region_held_round {P : Program} {n L id : Nat} {Q : Exit → Act → World → Prop} {a : Act} {w : World} {l : List Oper} (S : World → Prop) (hm : P.follows .mixedOrders = true) (hlo : ¬ LetsOut Q) (hd : l.toArray.all noDef = true) (hS : S w.drew)
    (h : S w.drew → wpAnyH P .any l.toArray Q S l.toArray.size (Array.replicate l.toArray.size false) a w.drew) : (Code.region id l.toArray true).wpIn (Fence.wide.inRound L) n P Q a w :=
  wpIn_region_any hm (wpAnyIn_of_wpAny hlo (noDefer hd) _ _ _ _ (wpAny_of_held _ _ _ _ (h hS)))
set_option maxHeartbeats 4000000 in
theorem rlives_any (k : Int) (v : Value) (l : List Step) (w : World) (hr : Rd Step.cells 4 w v l) (hl : isLineP k l = true) :
    Calls Try.prog 55 #[.agg #[.int .i64 k, v]] w fun e w' => ∃ v', e = .returned v' ∧ Win Life.cells 4 63 w' v' (fun i => w.heap.size ≤ i) (livesOf k l) ∧ Below w.heap.size w w' := by
  obtain ⟨a, c, rfl⟩ : ∃ a c, v = .slice a l.length c := by obtain ⟨_, a, c, rfl, _⟩ := hr; exact ⟨a, c, rfl⟩
  have HR := Lib.hid hr
  have HL := Lib.hid hl
  have hlen := line_len hl
  clear hr hl
  have h57 : Fence.wide.fn 57 := trivial
  have hcame : Fence.wide.fn 79 := trivial
  refine (callsIn_wide (n := 3)).1 ?_
  refine callsIn_of_wp_marks Try.func55 rfl trivial ?_ rfl
  simp only [Try.ntmps55, List.size_toArray, List.length_cons, List.length_nil, Nat.reduceAdd, Nat.reduceSub, Array.replicate_succ, Array.replicate_zero, List.push_toArray, List.append_toArray, List.nil_append, List.cons_append]
  gi_wp2_with (gi_at_call 57; refine (callsIn_wide.2 (done_any k _ _)).mono ?_; rintro e w2 ⟨rfl, rfl⟩)
  refine named_box3 w _ _ _ _ _ _ fun Wp hbp hzp hx0 hx1 hx2 => ?_
  have hzp1 := Nat.le_of_eq hzp
  have hzp2 := Nat.le_of_eq hzp.symm
  clear hzp
  refine range_wide (by rfl) (enters_of Try.func80 (by kernel_rfl) rfl) ?_
  intro fn W1 hbW hzW hD hL1
  have hzW1 := Nat.le_of_eq hzW
  have hzW2 := Nat.le_of_eq hzW.symm
  clear hzW
  obtain ⟨REC, hREC, hL2⟩ : ∃ REC, REC = _ ∧ W1.heap[Wp.heap.size + 1]? = some (.loop REC) := ⟨_, rfl, hL1⟩
  have hob := (hbW.block (w.heap.size + 1) (by omega)).trans hx1
  have hln := (hbW.block (w.heap.size + 1 + 1) (by omega)).trans hx2
  have hBW : Below w.heap.size w W1 := hbp.trans (hbW.mono (by omega))
  have hrd := HR.out.below hBW
  have hrb : ∀ i, some i = (Value.slice a l.length c).ownBlock → l = [] ∨ i < w.heap.size := fun i hi => by
    rcases Nat.eq_zero_or_pos l.length with h0 | h0
    · exact .inl (List.eq_nil_of_length_eq_zero h0)
    · obtain ⟨_, a', c', he, hh⟩ := HR.out
      obtain ⟨b, off, rfl, hb, _⟩ := hh h0
      injection he with he1
      subst he1
      simp [Value.ownBlock] at hi
      exact .inr (hi ▸ hb)
  have hcell : W1.cell? ⟨w.heap.size + 1, 0, none⟩ = some (.slice none 0 0) := cell_blk hob 0
  have hfz := free_blk hob 0
  generalize hBo : w.heap.size + 1 = Bo at *
  obtain ⟨J, hJ⟩ : ∃ J : Nat → (Nat → Prop) → World → Prop, ∀ i S W, J i S W ↔ ∃ (a1 : Option Addr) (out : List Life) (c1 : Nat), W.cell? ⟨Bo, 0, none⟩ = some (.slice a1 out.length c1) ∧ W.frozen? ⟨Bo, 0, none⟩ = false ∧ Win Life.cells 4 63 W (.slice a1 out.length c1) (fun j => W1.heap.size ≤ j ∧ ¬ S j) out ∧ livesFrom k (thP k l i) out (l.drop i) = livesOf k l ∧ out.length ≤ i ∧ W.heap[Wp.heap.size + 1]? = some (.loop REC) ∧ W.heap[Wp.heap.size]? = some (.deferred (some [])) ∧ Below w.heap.size w W ∧ W1.heap.size ≤ W.heap.size := ⟨_, fun _ _ _ => Iff.rfl⟩
  refine (done1_in 1 (Wp.heap.size + 1) (Bo + 1) k a c l (by omega) W1 (fun j => j = Bo ∨ j = Wp.heap.size + 1) J
    hln hrd (fun h => by rcases h with h | h <;> omega) (fun i hi => (hrb i hi).imp id fun h h2 => by rcases h2 with h2 | h2 <;> omega) ((hJ _ _ _).2 ⟨none, [], 0, hcell, hfz, winC_nil _ _ _ _, rfl, by simp, hL2, hD, hBW, Nat.le_refl _⟩) ?_ ?_).mono ?_
  · rintro i S S' W W' hj hF hS' hS
    obtain ⟨a1, out, c1, j1, j2, j3, j4, j5, j6, j7, j8, j9⟩ := (hJ _ _ _).1 hj
    have ne : ∀ j, j < W1.heap.size → ¬ S j := fun j hj h => by have := hS j h; omega
    refine (hJ _ _ _).2 ⟨a1, out, c1, fr_cell hF j1 (ne _ (by show Bo < _; omega)), fr_frozen hF (by show Bo < _; omega) j2 (ne _ (by show Bo < _; omega)), winC_mono (winC_move (winC_block j3) hF fun i hi h => hi.2.1.2 h) fun i hi => ⟨hi.2.1.1, fun h => ?_⟩, j4, j5, (hF.block _ (by omega) (ne _ (by omega))).trans j6, (hF.block _ (by omega) (ne _ (by omega))).trans j7, j8.trans (below_of_fr hF j8.size fun i hi => by have := hS i hi; omega), Nat.le_trans j9 hF.size⟩
    rcases hS' i h with h | h
    · exact hi.2.1.2 h
    · have := hi.2.2; omega
  · rintro i s S W hx hj hSS hsW
    have hSL := Lib.hid hSS
    clear hSS
    obtain ⟨a1, out, c1, j1, j2, j3, j4, j5, j6, j7, j8, j9⟩ := (hJ _ _ _).1 hj
    have HJI := Lib.hid hJ
    clear hj hJ
    refine yield_wide j6 (by rw [hREC]; rfl) ?_
    have HJ := Lib.hid (And.intro j3 (And.intro j4 (And.intro j6 (And.intro j7 (And.intro j8 (And.intro hx hREC))))))
    have hil : i < l.length := (List.getElem?_eq_some_iff.1 hx).1
    clear j3 j4 j6 j7 j8 hx hob hln hD hL1 hL2 hcell hfz hx0 hx1 hx2 hrb hrd
    generalize hg : (doP k (thP k l i) s).2 = g
    have HG := Lib.hid hg
    clear hg
    rw [hREC]
    simp only [List.zip_toArray, List.zip_cons_cons, List.zip_nil_left, List.zip_nil_right, List.foldl_toArray, List.foldl_cons, List.foldl_nil, List.setIfInBounds_toArray, List.set_cons_succ, List.set_cons_zero]
    gi_wp2
    generalize hWq : (W.alloc _).alloc _ = Wq
    obtain ⟨hbq, hzq, hy0, hy1⟩ := two_box hWq
    clear hWq
    refine ⟨REC, (hbq.block _ (by omega)).trans HJ.out.2.2.1, by rw [HJ.out.2.2.2.2.2.2], ?_⟩
    refine named_put (by omega) fun W2 hF2 hL2 hz2 => ?_
    have hFq : Fr (fun i => i = Wp.heap.size + 1) W W2 := fr_trans (fr_of_below hbq) hF2 fun _ _ h => h
    have o0 := fr_cell hFq j1 (by show ¬ Bo = _; omega)
    have of0 := fr_frozen hFq (by show Bo < _; omega) j2 (by show ¬ Bo = _; omega)
    have s0 : W2.cell? ⟨W.heap.size, 0, none⟩ = some (.int .i64 s.at_) := fr_cell hF2 (cell_blk hy0 0) (by show ¬ W.heap.size = _; omega)
    have s1 : W2.cell? ⟨W.heap.size, 1, none⟩ = some (.int .i64 s.do_) := fr_cell hF2 (cell_blk hy0 1) (by show ¬ W.heap.size = _; omega)
    have s2 : W2.cell? ⟨W.heap.size, 2, none⟩ = some (.int .i64 s.key) := fr_cell hF2 (cell_blk hy0 2) (by show ¬ W.heap.size = _; omega)
    have s3 : W2.cell? ⟨W.heap.size, 3, none⟩ = some (.int .i64 s.val) := fr_cell hF2 (cell_blk hy0 3) (by show ¬ W.heap.size = _; omega)
    have g1 : W2.cell? ⟨W.heap.size + 1, 2, none⟩ = some (.int .i64 g.from_) := fr_cell hF2 (cell_blk hy1 2) (by show ¬ W.heap.size + 1 = _; omega)
    have hzq1 : W.heap.size + 2 ≤ W2.heap.size := by omega
    have HQ := Lib.hid (And.intro hFq (And.intro hL2 hREC))
    have HF := Lib.hid of0
    clear hbq hy0 hy1 hF2 hL2 hFq hREC j1 j2 of0 hzq hz2
    have hwo := winC_move (winC_block HJ.out.1) HQ.out.1 fun i hi h => by have := hi.2.1.1; omega
    have hob2 : ∀ i, some i = (Value.slice a1 out.length c1).ownBlock → W1.heap.size ≤ i ∧ i < W.heap.size := fun i hi => by have := (winC_ob hwo i hi); exact ⟨this.1.2.1.1, this.1.2.2⟩
    have HWO := Lib.hid (And.intro hwo hob2)
    clear hwo hob2
    generalize hX : W.heap.size = X at *
    gi_wp2
    have mixed : (Try.prog).follows .mixedOrders = true := by kernel_rfl
    gi_loopw [13] (fun i Wr => ∃ (m : Nat), i = .int .i64 m ∧ m ≤ out.length ∧ Win Life.cells 4 63 Wr (.slice a1 out.length c1) (fun i => some i = (Value.slice a1 out.length c1).ownBlock ∧ (W1.heap.size ≤ i ∧ ¬ S i) ∧ i < X) ((out.take m).map (closeL g.from_ s.at_) ++ out.drop m) ∧ Fr (fun i => some i = (Value.slice a1 out.length c1).ownBlock) W2 Wr) (fun i _ => out.length - (intOf i).toNat)
    case atStart => exact ⟨0, rfl, by omega, HWO.out.1, fr_refl _ _⟩
    case round =>
      obtain ⟨m, rfl, hml, hwx, hF⟩ := hrel
      have r0 := fr_cell hF o0 (fun h => by have := (HWO.out.2 Bo h).1; omega)
      have rs0 := fr_cell hF s0 (fun h => by have := (HWO.out.2 X h).2; omega)
      have rg1 := fr_cell hF g1 (fun h => by have := (HWO.out.2 (X + 1) h).2; omega)
      by_cases hlt2 : m < out.length
      · have hx := List.getElem?_eq_getElem hlt2
        generalize out[m] = x at hx
        obtain ⟨hget, hset⟩ := close_step (closeL g.from_ s.at_) hx
        have hlen2 : ((out.take m).map (closeL g.from_ s.at_) ++ out.drop m).length = out.length := by simp; omega
        obtain ⟨b2, o2, rfl, hbl2, hc⟩ := rd_at (win_rd life_len hwx) hget
        have q0 : wr.cell? ⟨b2, o2 + m * 4, none⟩ = some (.int .i64 x.from_) := hc 0 _ rfl
        have q1 := hc 1 _ rfl
        by_cases hxf : x.from_ = g.from_
        · have hxb : (x.from_ == g.from_) = true := by simp [hxf]
          have hcl : closeL g.from_ s.at_ x = { x with to_ := s.at_ } := by simp [closeL, hxf]
          have HW := Lib.hid (And.intro hwx (And.intro hset (And.intro hF (And.intro hx (And.intro hget (And.intro hlen2 hcl))))))
          clear hxf hcl hset hget hwx hF hx hc hlen2
          gi_wp2
          refine region_quiet_round mixed (by rintro ⟨_, _, h⟩; exact h) (by kernel_rfl) (by kernel_rfl) ?_
          repeat (go_big_quiet_step (fail))
          refine wpQuiet_nil ?_
          rintro _ ⟨nq, rfl⟩

          have hw := win_set life_len (winC_move HW.out.1 (fr_drewN (fun _ => False) wr nq) (fun _ _ h => h)) HW.out.2.2.2.2.2.1 HW.out.2.2.2.2.1 (show 1 < 4 by omega) (y := closeL g.from_ s.at_ x) (u := .int .i64 s.at_) (by rw [HW.out.2.2.2.2.2.2]; rfl)
          have kf := hw.2.2
          have HW2 := Lib.hid hw.1
          clear hw
          gi_wp2
          go_roundw
          case rel => exact ⟨m + 1, by go_num, by omega, by have h := HW2.out; rw [HW.out.2.1] at h; exact h, fr_trans HW.out.2.2.1 (fr_trans (fr_drewN (fun i => i = b2) wr nq) (fr_setCell (wr.drewN nq) _ _) fun i _ h => h) fun i _ (h : i = b2) => by rw [h]; rfl⟩
          case measure => simp [intOf]; omega
        · have hxb : (x.from_ == g.from_) = false := by simp [hxf]
          have hcl : closeL g.from_ s.at_ x = x := by simp [closeL, hxf]
          have HW := Lib.hid (And.intro hwx (And.intro (close_same hx hcl) hF))
          clear hxf hcl hset hget hwx hF hx hc hlen2
          gi_wp2
          refine region_quiet_round mixed (by rintro ⟨_, _, h⟩; exact h) (by kernel_rfl) (by kernel_rfl) ?_
          repeat (go_big_quiet_step (fail))
          refine wpQuiet_nil ?_
          rintro _ ⟨nq, rfl⟩

          gi_wp2
          go_roundw
          case rel => exact ⟨m + 1, by go_num, by omega, by rw [HW.out.2.1]; exact winC_move HW.out.1 (fr_drewN (fun _ => False) wr nq) (fun _ _ h => h), fr_trans HW.out.2.2 (fr_drewN _ wr nq) fun _ _ h => h⟩
          case measure => simp [intOf]; omega
      · obtain rfl : m = out.length := by omega
        rw [List.take_length, List.drop_length, List.append_nil] at hwx
        have hne : ∀ i, some i = (Value.slice a1 out.length c1).ownBlock → W1.heap.size ≤ i ∧ i < X := HWO.out.2
        have rs1 := fr_cell hF s1 (fun h => by have := (hne X h).2; omega)
        have rs2 := fr_cell hF s2 (fun h => by have := (hne X h).2; omega)
        have rs3 := fr_cell hF s3 (fun h => by have := (hne X h).2; omega)
        have rof := fr_frozen hF (show Bo < W2.heap.size by omega) HF.out (fun h => by have := (hne Bo h).1; omega)
        have z1 := hF.size
        have htk : livesFrom k (thP k l (i + 1)) (out.map (closeL g.from_ s.at_) ++ if s.do_ = 1 then [⟨s.at_, 1001, s.key, s.val⟩] else []) (l.drop (i + 1)) = livesOf k l := by rw [thP_succ HJ.out.2.2.2.2.2.1, ← HG.out, ← livesFrom_drop HJ.out.2.2.2.2.2.1]; exact HJ.out.2.1
        have hL2 := (hF.block (Wp.heap.size + 1) (by omega) (fun h => by have := (hne _ h).1; omega)).trans HQ.out.2.1
        have hFW : Fr (fun i => (some i = (Value.slice a1 out.length c1).ownBlock) ∨ i = Wp.heap.size + 1) W wr := fr_trans (fr_mono HQ.out.1 fun i h => .inr h) hF fun i _ h => .inl h
        have HW := Lib.hid (And.intro hwx (And.intro hFW (And.intro rof (And.intro htk hL2))))
        clear hwx hF htk hL2 hFW rof s0 s1 s2 s3 g1 o0
        by_cases hd : s.do_ = 1
        · have hdb : (s.do_ == 1) = true := by simp [hd]
          have HD := Lib.hid hd
          clear hd
          have hfd : ∀ w : World, (Instr.field 86 (.agg #[.int .i64 s.key, .int .i64 s.val, .int .i64 s.at_]) 0).run Try.prog w = .ok (.agg #[.int .i64 s.key, .int .i64 s.val]) w := fun _ => by kernel_rfl
          gi_wp2
          have hwc : WinC 4 63 wr (.slice a1 out.length c1) (fun i => some i = (Value.slice a1 out.length c1).ownBlock ∧ (W1.heap.size ≤ i ∧ ¬ S i) ∧ i < X) out.length ((out.map (closeL g.from_ s.at_)).flatMap Life.cells) := by have h := HW.out.1; unfold Win at h; rwa [List.length_map] at h
          have HWW := Lib.hid (winC_move (T := fun _ => False) hwc (fr_of_below (Below.refl _ _).drew) fun _ _ h => h)
          clear hwc
          have mixed2 : (Try.prog).follows .mixedOrders = true := by kernel_rfl
          have EN := Lib.hid (enters_of Try.func79 (by kernel_rfl) rfl)
          set_option maxRecDepth 10000 in
          refine region_held_round (fun W => W.cell? ⟨X, 0, none⟩ = some (.int .i64 s.at_) ∧ W.cell? ⟨X, 1, none⟩ = some (.int .i64 s.do_) ∧ W.cell? ⟨X, 2, none⟩ = some (.int .i64 s.key) ∧ W.cell? ⟨X, 3, none⟩ = some (.int .i64 s.val)) mixed2 (by rintro ⟨_, _, h⟩; exact h) (by kernel_rfl) ⟨rs0, rs1, rs2, rs3⟩ (fun hHeld => ?_)
          set_option maxRecDepth 10000 in
          refine wpAnyH_take (i := 1) (v := ?_) rfl (by kernel_rfl) (by kernel_rfl) (by kernel_rfl) (fun _ _ _ h => h) (Or.inl ⟨by rfl, ?_⟩) (by assumption) ?_
          rotate_left
          · intro w hSw; (try dsimp only at hSw); go_simp; (try with_reducible rfl)
          try simp only [Act.put, List.getElem_toArray, List.getElem_cons_zero, List.getElem_cons_succ, List.setIfInBounds_toArray, List.set_cons_zero, List.set_cons_succ]

          set_option maxRecDepth 10000 in
          refine wpAnyH_take (i := 2) (v := ?_) rfl (by kernel_rfl) (by kernel_rfl) (by kernel_rfl) (fun _ _ _ h => h) (Or.inl ⟨by rfl, ?_⟩) (by assumption) ?_
          rotate_left
          · intro w hSw; (try dsimp only at hSw); go_simp; (try with_reducible rfl)
          try simp only [Act.put, List.getElem_toArray, List.getElem_cons_zero, List.getElem_cons_succ, List.setIfInBounds_toArray, List.set_cons_zero, List.set_cons_succ]

          set_option maxRecDepth 10000 in
          refine wpAnyH_take (i := 3) (v := ?_) rfl (by kernel_rfl) (by kernel_rfl) (by kernel_rfl) (fun _ _ _ h => h) (Or.inl ⟨by rfl, ?_⟩) (by assumption) ?_
          rotate_left
          · intro w hSw; (try dsimp only at hSw); go_simp; (try with_reducible rfl)
          try simp only [Act.put, List.getElem_toArray, List.getElem_cons_zero, List.getElem_cons_succ, List.setIfInBounds_toArray, List.set_cons_zero, List.set_cons_succ]

          set_option maxRecDepth 10000 in
          refine wpAnyH_ready (rs := [0, 4]) (by kernel_rfl) (by simp) ?_

          refine AllReadyH.cons rfl (fun K hK => ?_) ?_
          set_option maxRecDepth 10000 in
          go_simp
          refine hK.out _ _ (by assumption) (fun hHeld => ?_)
          clear hK K
          try simp only [Act.put, List.setIfInBounds_toArray, List.set_cons_zero, List.set_cons_succ]

          · skip
            set_option maxRecDepth 10000 in
            refine wpAnyH_ready (rs := [4]) (by kernel_rfl) (by simp) ?_

            refine AllReadyH.cons rfl (fun K hK => ?_) ?_
            set_option maxRecDepth 10000 in
            refine step_call (by rfl) 79 _ _ (by rfl) (EN.out) _ (by rfl) (came_any s _) ?_
            rintro _ w5 ⟨rfl, hb5⟩
            refine ⟨_, rfl, ?_⟩
            have t0 : w5.cell? ⟨X, 0, none⟩ = some (.int .i64 s.at_) := below_cell hb5 (show wr.drew.cell? ⟨X, 0, none⟩ = _ from rs0)
            have t1 : w5.cell? ⟨X, 1, none⟩ = some (.int .i64 s.do_) := below_cell hb5 (show wr.drew.cell? ⟨X, 1, none⟩ = _ from rs1)
            have t2 : w5.cell? ⟨X, 2, none⟩ = some (.int .i64 s.key) := below_cell hb5 (show wr.drew.cell? ⟨X, 2, none⟩ = _ from rs2)
            have t3 : w5.cell? ⟨X, 3, none⟩ = some (.int .i64 s.val) := below_cell hb5 (show wr.drew.cell? ⟨X, 3, none⟩ = _ from rs3)
            have rr0 : w5.cell? ⟨Bo, 0, none⟩ = some (.slice a1 out.length c1) := below_cell hb5 (show wr.drew.cell? ⟨Bo, 0, none⟩ = _ from r0)
            have rr1 := fun o => below_cell ((Below.refl w5.heap.size w5).alloc (Nat.le_refl _) o) rr0
            have H5 := Lib.hid hb5
            clear hb5
            refine hK.out _ _ ⟨t0, t1, t2, t3⟩ (fun hHeld => ?_)
            clear hK K
            try simp only [Act.put, List.setIfInBounds_toArray, List.set_cons_zero, List.set_cons_succ]

            · skip
              set_option maxRecDepth 10000 in
              refine wpAnyH_take (i := 5) (v := ?_) rfl (by kernel_rfl) (by kernel_rfl) (by kernel_rfl) (fun _ _ _ h => h) (Or.inl ⟨by rfl, ?_⟩) (by assumption) ?_
              rotate_left
              · intro w hSw; (try dsimp only at hSw); go_simp; (try with_reducible rfl)
              try simp only [Act.put, List.getElem_toArray, List.getElem_cons_zero, List.getElem_cons_succ, List.setIfInBounds_toArray, List.set_cons_zero, List.set_cons_succ]

              set_option maxRecDepth 10000 in
              refine wpAnyH_take (i := 6) (v := ?_) rfl (by kernel_rfl) (by kernel_rfl) (by kernel_rfl) (fun _ _ _ h => h) (Or.inl ⟨by rfl, ?_⟩) (by assumption) ?_
              rotate_left
              · intro w hSw; (try dsimp only at hSw); go_simp; (try with_reducible rfl)
              try simp only [Act.put, List.getElem_toArray, List.getElem_cons_zero, List.getElem_cons_succ, List.setIfInBounds_toArray, List.set_cons_zero, List.set_cons_succ]

              set_option maxRecDepth 10000 in
              refine wpAnyH_ready (rs := [7]) (by kernel_rfl) (by simp) ?_

              refine AllReadyH.cons rfl (fun K hK => ?_) ?_
              set_option maxRecDepth 10000 in
              go_simp
              refine hK.out _ _ ⟨below_cell ((Below.refl w5.heap.size w5).alloc (Nat.le_refl _) _) t0, below_cell ((Below.refl w5.heap.size w5).alloc (Nat.le_refl _) _) t1, below_cell ((Below.refl w5.heap.size w5).alloc (Nat.le_refl _) _) t2, below_cell ((Below.refl w5.heap.size w5).alloc (Nat.le_refl _) _) t3⟩ (fun hHeld => ?_)
              clear hK K
              try simp only [Act.put, List.setIfInBounds_toArray, List.set_cons_zero, List.set_cons_succ]

              · skip
                set_option maxRecDepth 10000 in
                refine wpAnyH_ready (rs := [8]) (by kernel_rfl) (by simp) ?_

                refine AllReadyH.cons rfl (fun K hK => ?_) ?_
                set_option maxRecDepth 10000 in
                refine step_append_win _ (by rfl) _ _ _ (by rfl) 63 4 32 _ Try.underlying26 info_life rfl (by decide) _ (fun i => some i = (Value.slice a1 out.length c1).ownBlock ∧ (W1.heap.size ≤ i ∧ ¬ S i) ∧ i < X) out.length ((out.map (closeL g.from_ s.at_)).flatMap Life.cells) (by go_simp <;> rfl) (winC_move (winC_move HWW.out (fr_of_below (S := fun _ => False) H5.out) fun _ _ h => h) (fr_alloc (fun _ => False) w5 _) fun _ _ h => h) ⟨w5.heap.size, 0, none⟩ 1 1 [.int .i64 s.at_, .int .i64 1001, .int .i64 s.key, .int .i64 s.val] (by go_simp <;> rfl) (by rfl) (World.news_of_block (heap_alloc_new w5 _)) (by simp [Value.oneCell']) (by decide) (by unfold maxLen; omega) (by omega) ?_
                intro v3 w6 hwin3 hfr3 hsz3
                obtain ⟨a4, c4, rfl, hn4, hm4⟩ := winC_slice hwin3
                have F6 : Fr (fun i => some i = (Value.slice a1 out.length c1).ownBlock) wr w6 := fr_trans (fr_trans (fr_of_below (Below.refl _ _).drew) (fr_of_below H5.out) fun _ _ h => h) (fr_trans (fr_alloc _ w5 _) hfr3 fun _ _ h => h) fun _ _ h => h
                have o6 := fr_cell F6 r0 (fun h => by have : W1.heap.size ≤ Bo := (HWO.out.2 _ h).1; omega)
                have of6 := fr_frozen F6 (show Bo < wr.heap.size by omega) HW.out.2.2.1 (fun h => by have : W1.heap.size ≤ Bo := (HWO.out.2 _ h).1; omega)
                have x0 := fr_cell F6 rs0 (fun h => by have := (hne X h).2; omega)
                have x1 := fr_cell F6 rs1 (fun h => by have := (hne X h).2; omega)
                have x2 := fr_cell F6 rs2 (fun h => by have := (hne X h).2; omega)
                have x3 := fr_cell F6 rs3 (fun h => by have := (hne X h).2; omega)
                have H6 := Lib.hid (And.intro hwin3 F6)
                clear hwin3 hfr3 F6
                refine hK.out _ _ ⟨x0, x1, x2, x3⟩ (fun hHeld => ?_)
                clear hK K
                try simp only [Act.put, List.setIfInBounds_toArray, List.set_cons_zero, List.set_cons_succ]
                set_option maxRecDepth 10000 in
                refine wpAnyH_ready (rs := [9]) (by kernel_rfl) (by simp) ?_

                refine AllReadyH.cons rfl (fun K hK => ?_) ?_
                set_option maxRecDepth 10000 in
                go_simp
                refine hK.out _ _ ⟨fr_cell (fr_setCell w6 _ _) x0 (fun h => by have h2 : X = Bo := h; omega), fr_cell (fr_setCell w6 _ _) x1 (fun h => by have h2 : X = Bo := h; omega), fr_cell (fr_setCell w6 _ _) x2 (fun h => by have h2 : X = Bo := h; omega), fr_cell (fr_setCell w6 _ _) x3 (fun h => by have h2 : X = Bo := h; omega)⟩ (fun hHeld => ?_)
                clear hK K
                refine wpAnyH_done (by kernel_rfl) ?_ _

                · skip
                  gi_wp2
                  have hF3 := H6.out.2
                  have hwin3 := H6.out.1
                  have hFW := HW.out.2.1
                  have htk := HW.out.2.2.2.1
                  have o4 := World.cell?_setCell_same w6 _ (.slice a4 (out.length + 1) c4) o6
                  have of4 : (w6.setCell ⟨Bo, 0, none⟩ (.slice a4 (out.length + 1) c4)).frozen? ⟨Bo, 0, none⟩ = false := (World.frozen?_setCell _ _ _ _).trans of6
                  have hF4 : Fr (fun i => (some i = (Value.slice a1 out.length c1).ownBlock) ∨ i = Bo) wr (w6.setCell ⟨Bo, 0, none⟩ (.slice a4 (out.length + 1) c4)) := fr_trans (fr_mono hF3 fun i h => .inl h) (fr_setCell w6 _ _) fun i _ h => .inr h
                  have hz56 : wr.heap.size ≤ w5.heap.size := H5.out.size
                  have hw4 := winC_move hwin3 (fr_setCell w6 ⟨Bo, 0, none⟩ (.slice a4 (out.length + 1) c4)) fun i hi (h : i = Bo) => by
                    rcases hi with hi | hi
                    · have := hi.1.2.1.1; omega
                    · simp at hi; omega
                  generalize w6.setCell ⟨Bo, 0, none⟩ (.slice a4 (out.length + 1) c4) = w4 at *
                  have hL4 := (hF4.block (Wp.heap.size + 1) (by omega) (fun h => by rcases h with h | h; have := (hne _ h).1; omega; omega)).trans HW.out.2.2.2.2
                  have hs4 := hF4.size
                  have hz2w : Wp.heap.size + 1 < w4.heap.size := by omega
                  refine round_end hL4 fun W5 hF5 hL5 hz5 => ?_
                  have hF45 : Fr (fun i => (some i = (Value.slice a1 out.length c1).ownBlock) ∨ i = Bo ∨ i = Wp.heap.size + 1) W W5 := fr_trans (fr_trans (fr_mono hFW fun i h => h.imp id .inr) hF4 fun i _ h => h.imp id fun h => .inl h) hF5 fun i _ h => .inr (.inr h)
                  have hD5 := (hF45.block Wp.heap.size (by omega) (fun h => by rcases h with h | h | h; have := (hne _ h).1; omega; omega; omega)).trans HJ.out.2.2.2.1
                  rw [if_pos HD.out] at htk
                  refine ⟨rfl, (HJI.out _ _ _).2 ⟨a4, out.map (closeL g.from_ s.at_) ++ [⟨s.at_, 1001, s.key, s.val⟩], c4, ?_, fr_frozen hF5 (by show Bo < _; omega) of4 (by show ¬ Bo = _; omega), ?_, htk, by simp; omega, hL5.trans (by rw [HQ.out.2.2]), hD5, HJ.out.2.2.2.2.1.trans (below_of_fr hF45 (by omega) fun i hi => by rcases hi with h | h | h; have := (hne _ h).1; omega; omega; omega), by omega⟩, fr_mono hF45 fun i h => ?_⟩
                  · have := fr_cell hF5 o4 (by show ¬ Bo = _; omega)
                    simpa using this
                  · have hw5 := winC_move hw4 hF5 fun i hi (h : i = Wp.heap.size + 1) => by
                      rcases hi with hi | hi
                      · have := hi.1.2.1.1; omega
                      · simp at hi; omega
                    have hw6 : WinC 4 63 W5 (.slice a4 (out.length + 1) c4) (fun j => W1.heap.size ≤ j ∧ ¬ S j) (out.length + 1) ((out.map (closeL g.from_ s.at_)).flatMap Life.cells ++ [.int .i64 s.at_, .int .i64 1001, .int .i64 s.key, .int .i64 s.val]) := winC_mono hw5 fun i hi => by
                      rcases hi with hi | hi
                      · exact hi.1.2.1
                      · simp at hi; exact ⟨by omega, fun h => by have := hSL.out _ h; omega⟩
                    have e1 : (out.map (closeL g.from_ s.at_) ++ [(⟨s.at_, 1001, s.key, s.val⟩ : Life)]).length = out.length + 1 := by simp
                    have e2 : (out.map (closeL g.from_ s.at_) ++ [(⟨s.at_, 1001, s.key, s.val⟩ : Life)]).flatMap Life.cells = (out.map (closeL g.from_ s.at_)).flatMap Life.cells ++ [.int .i64 s.at_, .int .i64 1001, .int .i64 s.key, .int .i64 s.val] := by rw [List.flatMap_append]; rfl
                    unfold Win
                    rw [e1, e2]
                    exact hw6
                  · rcases h with h | h | h
                    · have := winC_ob HJ.out.1 _ h
                      exact ⟨this.1.2, .inr this.1.1⟩
                    · exact ⟨fun hs => by have := hSL.out _ hs; omega, .inl (.inl h)⟩
                    · exact ⟨fun hs => by have := hSL.out _ hs; omega, .inl (.inr h)⟩

                · exact AllReadyH.nil
                · exact AllReadyH.nil
              · exact AllReadyH.nil
            · exact AllReadyH.nil
          · skip
            refine AllReadyH.cons rfl (fun K hK => ?_) ?_
            set_option maxRecDepth 10000 in
            refine step_call (by rfl) 79 _ _ (by rfl) (EN.out) _ (by rfl) (came_any s _) ?_
            rintro _ w5 ⟨rfl, hb5⟩
            refine ⟨_, rfl, ?_⟩
            have t0 : w5.cell? ⟨X, 0, none⟩ = some (.int .i64 s.at_) := below_cell hb5 (show wr.drew.cell? ⟨X, 0, none⟩ = _ from rs0)
            have t1 : w5.cell? ⟨X, 1, none⟩ = some (.int .i64 s.do_) := below_cell hb5 (show wr.drew.cell? ⟨X, 1, none⟩ = _ from rs1)
            have t2 : w5.cell? ⟨X, 2, none⟩ = some (.int .i64 s.key) := below_cell hb5 (show wr.drew.cell? ⟨X, 2, none⟩ = _ from rs2)
            have t3 : w5.cell? ⟨X, 3, none⟩ = some (.int .i64 s.val) := below_cell hb5 (show wr.drew.cell? ⟨X, 3, none⟩ = _ from rs3)
            have rr0 : w5.cell? ⟨Bo, 0, none⟩ = some (.slice a1 out.length c1) := below_cell hb5 (show wr.drew.cell? ⟨Bo, 0, none⟩ = _ from r0)
            have rr1 := fun o => below_cell ((Below.refl w5.heap.size w5).alloc (Nat.le_refl _) o) rr0
            have H5 := Lib.hid hb5
            clear hb5
            refine hK.out _ _ ⟨t0, t1, t2, t3⟩ (fun hHeld => ?_)
            clear hK K
            try simp only [Act.put, List.setIfInBounds_toArray, List.set_cons_zero, List.set_cons_succ]

            · skip
              set_option maxRecDepth 10000 in
              refine wpAnyH_take (i := 5) (v := ?_) rfl (by kernel_rfl) (by kernel_rfl) (by kernel_rfl) (fun _ _ _ h => h) (Or.inl ⟨by rfl, ?_⟩) (by assumption) ?_
              rotate_left
              · intro w hSw; (try dsimp only at hSw); go_simp; (try with_reducible rfl)
              try simp only [Act.put, List.getElem_toArray, List.getElem_cons_zero, List.getElem_cons_succ, List.setIfInBounds_toArray, List.set_cons_zero, List.set_cons_succ]

              set_option maxRecDepth 10000 in
              refine wpAnyH_take (i := 6) (v := ?_) rfl (by kernel_rfl) (by kernel_rfl) (by kernel_rfl) (fun _ _ _ h => h) (Or.inl ⟨by rfl, ?_⟩) (by assumption) ?_
              rotate_left
              · intro w hSw; (try dsimp only at hSw); go_simp; (try with_reducible rfl)
              try simp only [Act.put, List.getElem_toArray, List.getElem_cons_zero, List.getElem_cons_succ, List.setIfInBounds_toArray, List.set_cons_zero, List.set_cons_succ]

              set_option maxRecDepth 10000 in
              refine wpAnyH_ready (rs := [0, 7]) (by kernel_rfl) (by simp) ?_

              refine AllReadyH.cons rfl (fun K hK => ?_) ?_
              set_option maxRecDepth 10000 in
              go_simp
              refine hK.out _ _ (by assumption) (fun hHeld => ?_)
              clear hK K
              try simp only [Act.put, List.setIfInBounds_toArray, List.set_cons_zero, List.set_cons_succ]

              · skip
                set_option maxRecDepth 10000 in
                refine wpAnyH_ready (rs := [7]) (by kernel_rfl) (by simp) ?_

                refine AllReadyH.cons rfl (fun K hK => ?_) ?_
                set_option maxRecDepth 10000 in
                go_simp
                refine hK.out _ _ ⟨below_cell ((Below.refl w5.heap.size w5).alloc (Nat.le_refl _) _) t0, below_cell ((Below.refl w5.heap.size w5).alloc (Nat.le_refl _) _) t1, below_cell ((Below.refl w5.heap.size w5).alloc (Nat.le_refl _) _) t2, below_cell ((Below.refl w5.heap.size w5).alloc (Nat.le_refl _) _) t3⟩ (fun hHeld => ?_)
                clear hK K
                try simp only [Act.put, List.setIfInBounds_toArray, List.set_cons_zero, List.set_cons_succ]

                · skip
                  set_option maxRecDepth 10000 in
                  refine wpAnyH_ready (rs := [8]) (by kernel_rfl) (by simp) ?_

                  refine AllReadyH.cons rfl (fun K hK => ?_) ?_
                  set_option maxRecDepth 10000 in
                  refine step_append_win _ (by rfl) _ _ _ (by rfl) 63 4 32 _ Try.underlying26 info_life rfl (by decide) _ (fun i => some i = (Value.slice a1 out.length c1).ownBlock ∧ (W1.heap.size ≤ i ∧ ¬ S i) ∧ i < X) out.length ((out.map (closeL g.from_ s.at_)).flatMap Life.cells) (by go_simp <;> rfl) (winC_move (winC_move HWW.out (fr_of_below (S := fun _ => False) H5.out) fun _ _ h => h) (fr_alloc (fun _ => False) w5 _) fun _ _ h => h) ⟨w5.heap.size, 0, none⟩ 1 1 [.int .i64 s.at_, .int .i64 1001, .int .i64 s.key, .int .i64 s.val] (by go_simp <;> rfl) (by rfl) (World.news_of_block (heap_alloc_new w5 _)) (by simp [Value.oneCell']) (by decide) (by unfold maxLen; omega) (by omega) ?_
                  intro v3 w6 hwin3 hfr3 hsz3
                  obtain ⟨a4, c4, rfl, hn4, hm4⟩ := winC_slice hwin3
                  have F6 : Fr (fun i => some i = (Value.slice a1 out.length c1).ownBlock) wr w6 := fr_trans (fr_trans (fr_of_below (Below.refl _ _).drew) (fr_of_below H5.out) fun _ _ h => h) (fr_trans (fr_alloc _ w5 _) hfr3 fun _ _ h => h) fun _ _ h => h
                  have o6 := fr_cell F6 r0 (fun h => by have : W1.heap.size ≤ Bo := (HWO.out.2 _ h).1; omega)
                  have of6 := fr_frozen F6 (show Bo < wr.heap.size by omega) HW.out.2.2.1 (fun h => by have : W1.heap.size ≤ Bo := (HWO.out.2 _ h).1; omega)
                  have x0 := fr_cell F6 rs0 (fun h => by have := (hne X h).2; omega)
                  have x1 := fr_cell F6 rs1 (fun h => by have := (hne X h).2; omega)
                  have x2 := fr_cell F6 rs2 (fun h => by have := (hne X h).2; omega)
                  have x3 := fr_cell F6 rs3 (fun h => by have := (hne X h).2; omega)
                  have H6 := Lib.hid (And.intro hwin3 F6)
                  clear hwin3 hfr3 F6
                  refine hK.out _ _ ⟨x0, x1, x2, x3⟩ (fun hHeld => ?_)
                  clear hK K
                  try simp only [Act.put, List.setIfInBounds_toArray, List.set_cons_zero, List.set_cons_succ]
                  set_option maxRecDepth 10000 in
                  refine wpAnyH_ready (rs := [9]) (by kernel_rfl) (by simp) ?_

                  refine AllReadyH.cons rfl (fun K hK => ?_) ?_
                  set_option maxRecDepth 10000 in
                  go_simp
                  refine hK.out _ _ ⟨fr_cell (fr_setCell w6 _ _) x0 (fun h => by have h2 : X = Bo := h; omega), fr_cell (fr_setCell w6 _ _) x1 (fun h => by have h2 : X = Bo := h; omega), fr_cell (fr_setCell w6 _ _) x2 (fun h => by have h2 : X = Bo := h; omega), fr_cell (fr_setCell w6 _ _) x3 (fun h => by have h2 : X = Bo := h; omega)⟩ (fun hHeld => ?_)
                  clear hK K
                  refine wpAnyH_done (by kernel_rfl) ?_ _

                  · skip
                    gi_wp2
                    have hF3 := H6.out.2
                    have hwin3 := H6.out.1
                    have hFW := HW.out.2.1
                    have htk := HW.out.2.2.2.1
                    have o4 := World.cell?_setCell_same w6 _ (.slice a4 (out.length + 1) c4) o6
                    have of4 : (w6.setCell ⟨Bo, 0, none⟩ (.slice a4 (out.length + 1) c4)).frozen? ⟨Bo, 0, none⟩ = false := (World.frozen?_setCell _ _ _ _).trans of6
                    have hF4 : Fr (fun i => (some i = (Value.slice a1 out.length c1).ownBlock) ∨ i = Bo) wr (w6.setCell ⟨Bo, 0, none⟩ (.slice a4 (out.length + 1) c4)) := fr_trans (fr_mono hF3 fun i h => .inl h) (fr_setCell w6 _ _) fun i _ h => .inr h
                    have hz56 : wr.heap.size ≤ w5.heap.size := H5.out.size
                    have hw4 := winC_move hwin3 (fr_setCell w6 ⟨Bo, 0, none⟩ (.slice a4 (out.length + 1) c4)) fun i hi (h : i = Bo) => by
                      rcases hi with hi | hi
                      · have := hi.1.2.1.1; omega
                      · simp at hi; omega
                    generalize w6.setCell ⟨Bo, 0, none⟩ (.slice a4 (out.length + 1) c4) = w4 at *
                    have hL4 := (hF4.block (Wp.heap.size + 1) (by omega) (fun h => by rcases h with h | h; have := (hne _ h).1; omega; omega)).trans HW.out.2.2.2.2
                    have hs4 := hF4.size
                    have hz2w : Wp.heap.size + 1 < w4.heap.size := by omega
                    refine round_end hL4 fun W5 hF5 hL5 hz5 => ?_
                    have hF45 : Fr (fun i => (some i = (Value.slice a1 out.length c1).ownBlock) ∨ i = Bo ∨ i = Wp.heap.size + 1) W W5 := fr_trans (fr_trans (fr_mono hFW fun i h => h.imp id .inr) hF4 fun i _ h => h.imp id fun h => .inl h) hF5 fun i _ h => .inr (.inr h)
                    have hD5 := (hF45.block Wp.heap.size (by omega) (fun h => by rcases h with h | h | h; have := (hne _ h).1; omega; omega; omega)).trans HJ.out.2.2.2.1
                    rw [if_pos HD.out] at htk
                    refine ⟨rfl, (HJI.out _ _ _).2 ⟨a4, out.map (closeL g.from_ s.at_) ++ [⟨s.at_, 1001, s.key, s.val⟩], c4, ?_, fr_frozen hF5 (by show Bo < _; omega) of4 (by show ¬ Bo = _; omega), ?_, htk, by simp; omega, hL5.trans (by rw [HQ.out.2.2]), hD5, HJ.out.2.2.2.2.1.trans (below_of_fr hF45 (by omega) fun i hi => by rcases hi with h | h | h; have := (hne _ h).1; omega; omega; omega), by omega⟩, fr_mono hF45 fun i h => ?_⟩
                    · have := fr_cell hF5 o4 (by show ¬ Bo = _; omega)
                      simpa using this
                    · have hw5 := winC_move hw4 hF5 fun i hi (h : i = Wp.heap.size + 1) => by
                        rcases hi with hi | hi
                        · have := hi.1.2.1.1; omega
                        · simp at hi; omega
                      have hw6 : WinC 4 63 W5 (.slice a4 (out.length + 1) c4) (fun j => W1.heap.size ≤ j ∧ ¬ S j) (out.length + 1) ((out.map (closeL g.from_ s.at_)).flatMap Life.cells ++ [.int .i64 s.at_, .int .i64 1001, .int .i64 s.key, .int .i64 s.val]) := winC_mono hw5 fun i hi => by
                        rcases hi with hi | hi
                        · exact hi.1.2.1
                        · simp at hi; exact ⟨by omega, fun h => by have := hSL.out _ h; omega⟩
                      have e1 : (out.map (closeL g.from_ s.at_) ++ [(⟨s.at_, 1001, s.key, s.val⟩ : Life)]).length = out.length + 1 := by simp
                      have e2 : (out.map (closeL g.from_ s.at_) ++ [(⟨s.at_, 1001, s.key, s.val⟩ : Life)]).flatMap Life.cells = (out.map (closeL g.from_ s.at_)).flatMap Life.cells ++ [.int .i64 s.at_, .int .i64 1001, .int .i64 s.key, .int .i64 s.val] := by rw [List.flatMap_append]; rfl
                      unfold Win
                      rw [e1, e2]
                      exact hw6
                    · rcases h with h | h | h
                      · have := winC_ob HJ.out.1 _ h
                        exact ⟨this.1.2, .inr this.1.1⟩
                      · exact ⟨fun hs => by have := hSL.out _ hs; omega, .inl (.inl h)⟩
                      · exact ⟨fun hs => by have := hSL.out _ hs; omega, .inl (.inr h)⟩

                  · exact AllReadyH.nil
                  · exact AllReadyH.nil
                · exact AllReadyH.nil
              · skip
                refine AllReadyH.cons rfl (fun K hK => ?_) ?_
                set_option maxRecDepth 10000 in
                go_simp
                refine hK.out _ _ ⟨below_cell ((Below.refl w5.heap.size w5).alloc (Nat.le_refl _) _) t0, below_cell ((Below.refl w5.heap.size w5).alloc (Nat.le_refl _) _) t1, below_cell ((Below.refl w5.heap.size w5).alloc (Nat.le_refl _) _) t2, below_cell ((Below.refl w5.heap.size w5).alloc (Nat.le_refl _) _) t3⟩ (fun hHeld => ?_)
                clear hK K
                try simp only [Act.put, List.setIfInBounds_toArray, List.set_cons_zero, List.set_cons_succ]

                · skip
                  set_option maxRecDepth 10000 in
                  refine wpAnyH_ready (rs := [0]) (by kernel_rfl) (by simp) ?_

                  refine AllReadyH.cons rfl (fun K hK => ?_) ?_
                  set_option maxRecDepth 10000 in
                  go_simp
                  refine hK.out _ _ (by assumption) (fun hHeld => ?_)
                  clear hK K
                  try simp only [Act.put, List.setIfInBounds_toArray, List.set_cons_zero, List.set_cons_succ]

                  · skip
                    set_option maxRecDepth 10000 in
                    refine wpAnyH_ready (rs := [8]) (by kernel_rfl) (by simp) ?_

                    refine AllReadyH.cons rfl (fun K hK => ?_) ?_
                    set_option maxRecDepth 10000 in
                    refine step_append_win _ (by rfl) _ _ _ (by rfl) 63 4 32 _ Try.underlying26 info_life rfl (by decide) _ (fun i => some i = (Value.slice a1 out.length c1).ownBlock ∧ (W1.heap.size ≤ i ∧ ¬ S i) ∧ i < X) out.length ((out.map (closeL g.from_ s.at_)).flatMap Life.cells) (by go_simp <;> rfl) (winC_move (winC_move HWW.out (fr_of_below (S := fun _ => False) H5.out) fun _ _ h => h) (fr_alloc (fun _ => False) w5 _) fun _ _ h => h) ⟨w5.heap.size, 0, none⟩ 1 1 [.int .i64 s.at_, .int .i64 1001, .int .i64 s.key, .int .i64 s.val] (by go_simp <;> rfl) (by rfl) (World.news_of_block (heap_alloc_new w5 _)) (by simp [Value.oneCell']) (by decide) (by unfold maxLen; omega) (by omega) ?_
                    intro v3 w6 hwin3 hfr3 hsz3
                    obtain ⟨a4, c4, rfl, hn4, hm4⟩ := winC_slice hwin3
                    have F6 : Fr (fun i => some i = (Value.slice a1 out.length c1).ownBlock) wr w6 := fr_trans (fr_trans (fr_of_below (Below.refl _ _).drew) (fr_of_below H5.out) fun _ _ h => h) (fr_trans (fr_alloc _ w5 _) hfr3 fun _ _ h => h) fun _ _ h => h
                    have o6 := fr_cell F6 r0 (fun h => by have : W1.heap.size ≤ Bo := (HWO.out.2 _ h).1; omega)
                    have of6 := fr_frozen F6 (show Bo < wr.heap.size by omega) HW.out.2.2.1 (fun h => by have : W1.heap.size ≤ Bo := (HWO.out.2 _ h).1; omega)
                    have x0 := fr_cell F6 rs0 (fun h => by have := (hne X h).2; omega)
                    have x1 := fr_cell F6 rs1 (fun h => by have := (hne X h).2; omega)
                    have x2 := fr_cell F6 rs2 (fun h => by have := (hne X h).2; omega)
                    have x3 := fr_cell F6 rs3 (fun h => by have := (hne X h).2; omega)
                    have H6 := Lib.hid (And.intro hwin3 F6)
                    clear hwin3 hfr3 F6
                    refine hK.out _ _ ⟨x0, x1, x2, x3⟩ (fun hHeld => ?_)
                    clear hK K
                    try simp only [Act.put, List.setIfInBounds_toArray, List.set_cons_zero, List.set_cons_succ]
                    set_option maxRecDepth 10000 in
                    refine wpAnyH_ready (rs := [9]) (by kernel_rfl) (by simp) ?_

                    refine AllReadyH.cons rfl (fun K hK => ?_) ?_
                    set_option maxRecDepth 10000 in
                    go_simp
                    refine hK.out _ _ ⟨fr_cell (fr_setCell w6 _ _) x0 (fun h => by have h2 : X = Bo := h; omega), fr_cell (fr_setCell w6 _ _) x1 (fun h => by have h2 : X = Bo := h; omega), fr_cell (fr_setCell w6 _ _) x2 (fun h => by have h2 : X = Bo := h; omega), fr_cell (fr_setCell w6 _ _) x3 (fun h => by have h2 : X = Bo := h; omega)⟩ (fun hHeld => ?_)
                    clear hK K
                    refine wpAnyH_done (by kernel_rfl) ?_ _

                    · skip
                      gi_wp2
                      have hF3 := H6.out.2
                      have hwin3 := H6.out.1
                      have hFW := HW.out.2.1
                      have htk := HW.out.2.2.2.1
                      have o4 := World.cell?_setCell_same w6 _ (.slice a4 (out.length + 1) c4) o6
                      have of4 : (w6.setCell ⟨Bo, 0, none⟩ (.slice a4 (out.length + 1) c4)).frozen? ⟨Bo, 0, none⟩ = false := (World.frozen?_setCell _ _ _ _).trans of6
                      have hF4 : Fr (fun i => (some i = (Value.slice a1 out.length c1).ownBlock) ∨ i = Bo) wr (w6.setCell ⟨Bo, 0, none⟩ (.slice a4 (out.length + 1) c4)) := fr_trans (fr_mono hF3 fun i h => .inl h) (fr_setCell w6 _ _) fun i _ h => .inr h
                      have hz56 : wr.heap.size ≤ w5.heap.size := H5.out.size
                      have hw4 := winC_move hwin3 (fr_setCell w6 ⟨Bo, 0, none⟩ (.slice a4 (out.length + 1) c4)) fun i hi (h : i = Bo) => by
                        rcases hi with hi | hi
                        · have := hi.1.2.1.1; omega
                        · simp at hi; omega
                      generalize w6.setCell ⟨Bo, 0, none⟩ (.slice a4 (out.length + 1) c4) = w4 at *
                      have hL4 := (hF4.block (Wp.heap.size + 1) (by omega) (fun h => by rcases h with h | h; have := (hne _ h).1; omega; omega)).trans HW.out.2.2.2.2
                      have hs4 := hF4.size
                      have hz2w : Wp.heap.size + 1 < w4.heap.size := by omega
                      refine round_end hL4 fun W5 hF5 hL5 hz5 => ?_
                      have hF45 : Fr (fun i => (some i = (Value.slice a1 out.length c1).ownBlock) ∨ i = Bo ∨ i = Wp.heap.size + 1) W W5 := fr_trans (fr_trans (fr_mono hFW fun i h => h.imp id .inr) hF4 fun i _ h => h.imp id fun h => .inl h) hF5 fun i _ h => .inr (.inr h)
                      have hD5 := (hF45.block Wp.heap.size (by omega) (fun h => by rcases h with h | h | h; have := (hne _ h).1; omega; omega; omega)).trans HJ.out.2.2.2.1
                      rw [if_pos HD.out] at htk
                      refine ⟨rfl, (HJI.out _ _ _).2 ⟨a4, out.map (closeL g.from_ s.at_) ++ [⟨s.at_, 1001, s.key, s.val⟩], c4, ?_, fr_frozen hF5 (by show Bo < _; omega) of4 (by show ¬ Bo = _; omega), ?_, htk, by simp; omega, hL5.trans (by rw [HQ.out.2.2]), hD5, HJ.out.2.2.2.2.1.trans (below_of_fr hF45 (by omega) fun i hi => by rcases hi with h | h | h; have := (hne _ h).1; omega; omega; omega), by omega⟩, fr_mono hF45 fun i h => ?_⟩
                      · have := fr_cell hF5 o4 (by show ¬ Bo = _; omega)
                        simpa using this
                      · have hw5 := winC_move hw4 hF5 fun i hi (h : i = Wp.heap.size + 1) => by
                          rcases hi with hi | hi
                          · have := hi.1.2.1.1; omega
                          · simp at hi; omega
                        have hw6 : WinC 4 63 W5 (.slice a4 (out.length + 1) c4) (fun j => W1.heap.size ≤ j ∧ ¬ S j) (out.length + 1) ((out.map (closeL g.from_ s.at_)).flatMap Life.cells ++ [.int .i64 s.at_, .int .i64 1001, .int .i64 s.key, .int .i64 s.val]) := winC_mono hw5 fun i hi => by
                          rcases hi with hi | hi
                          · exact hi.1.2.1
                          · simp at hi; exact ⟨by omega, fun h => by have := hSL.out _ h; omega⟩
                        have e1 : (out.map (closeL g.from_ s.at_) ++ [(⟨s.at_, 1001, s.key, s.val⟩ : Life)]).length = out.length + 1 := by simp
                        have e2 : (out.map (closeL g.from_ s.at_) ++ [(⟨s.at_, 1001, s.key, s.val⟩ : Life)]).flatMap Life.cells = (out.map (closeL g.from_ s.at_)).flatMap Life.cells ++ [.int .i64 s.at_, .int .i64 1001, .int .i64 s.key, .int .i64 s.val] := by rw [List.flatMap_append]; rfl
                        unfold Win
                        rw [e1, e2]
                        exact hw6
                      · rcases h with h | h | h
                        · have := winC_ob HJ.out.1 _ h
                          exact ⟨this.1.2, .inr this.1.1⟩
                        · exact ⟨fun hs => by have := hSL.out _ hs; omega, .inl (.inl h)⟩
                        · exact ⟨fun hs => by have := hSL.out _ hs; omega, .inl (.inr h)⟩

                    · exact AllReadyH.nil
                    · exact AllReadyH.nil
                  · exact AllReadyH.nil
                · exact AllReadyH.nil
            · exact AllReadyH.nil
        · have hdb : (s.do_ == 1) = false := by simp [hd]
          have HD := Lib.hid hd
          clear hd
          gi_wp2
          have hwx := HW.out.1
          have hFW := HW.out.2.1
          have htk := HW.out.2.2.2.1
          rw [if_neg HD.out, List.append_nil] at htk
          have hz2w : Wp.heap.size + 1 < wr.heap.size := by omega
          refine round_end HW.out.2.2.2.2 fun W5 hF5 hL5 hz5 => ?_
          have hF45 : Fr (fun i => (some i = (Value.slice a1 out.length c1).ownBlock) ∨ i = Wp.heap.size + 1) W W5 := fr_trans hFW hF5 fun i _ h => .inr h
          have hD5 := (hF45.block Wp.heap.size (by omega) (fun h => by rcases h with h | h; have := (hne _ h).1; omega; omega)).trans HJ.out.2.2.2.1
          have e1 : (out.map (closeL g.from_ s.at_)).length = out.length := by simp
          refine ⟨rfl, (HJI.out _ _ _).2 ⟨a1, out.map (closeL g.from_ s.at_), c1, by rw [e1]; exact fr_cell hF5 r0 (by show ¬ Bo = _; omega), fr_frozen hF5 (by show Bo < _; omega) HW.out.2.2.1 (by show ¬ Bo = _; omega), ?_, htk, by simp; omega, hL5.trans (by rw [HQ.out.2.2]), hD5, HJ.out.2.2.2.2.1.trans (below_of_fr hF45 (by omega) fun i hi => by rcases hi with h | h; have := (hne _ h).1; omega; omega), by omega⟩, fr_mono hF45 fun i h => ?_⟩
          · rw [e1]
            exact winC_mono (winC_move hwx hF5 fun i hi (h : i = Wp.heap.size + 1) => by have := hi.2.1.1; omega) fun i hi => hi.2.1
          · rcases h with h | h
            · have := winC_ob HJ.out.1 _ h
              exact ⟨this.1.2, .inr this.1.1⟩
            · exact ⟨fun hs => by have := hSL.out _ hs; omega, .inl (.inr h)⟩
  · rintro e W2 ⟨⟨v2, rfl⟩, S, hj, hS, hsz⟩
    obtain ⟨a1, out, c1, j1, j2, j3, j4, j5, j6, j7, j8, j9⟩ := (hJ _ _ _).1 hj
    clear hj hJ
    have hlast : out = livesOf k l := by simpa [livesFrom] using j4
    subst hlast
    have HJ := Lib.hid (And.intro j3 (And.intro j7 (And.intro j8 hL2)))
    refine ⟨_, _, run_endLoop j6 (by rw [hREC]; simp), ?_⟩
    have HRE := Lib.hid hREC
    rw [hREC]
    clear j3 j4 j7 j8 hREC hL2 hL1 hob hln hD hrd hrb hcell hfz
    dsimp only
    refine named_put (by omega) fun W5 hF5 hL5 hz5 => ?_
    have o5 := fr_cell hF5 j1 (by show ¬ Bo = _; omega)
    gi_wp2
    have hK := (hF5.block Wp.heap.size (by omega) (by show ¬ Wp.heap.size = _; omega)).trans HJ.out.2.1
    refine ⟨by simp, .inl ⟨_, _, rfl, run_takeDeferred hK, ?_⟩⟩
    have hF6 : Fr (fun i => i = Wp.heap.size + 1 ∨ i = Wp.heap.size) W2 (W5.putObj Wp.heap.size (.deferred none)) := fr_trans (fr_mono hF5 fun i h => .inl h) (fr_putObj W5 _ _) fun i _ h => .inr h
    exact ⟨.slice a1 (livesOf k l).length c1, by simp [results, Try.results55, go_sem], _, rfl, winC_mono (winC_move HJ.out.1 hF6 fun i hi h => by have := hi.1; rcases h with h | h <;> omega) fun i hi => by have := hi.1; omega, HJ.out.2.2.1.trans (below_of_fr hF6 (by have := HJ.out.2.2.1.size; omega) fun i hi => by rcases hi with h | h <;> omega)⟩
set_option maxHeartbeats 1000000 in
theorem rLives_any (k : Int) (v : Value) (l : List Step) (w : World) (hr : Rd Step.cells 4 w v l) :
    Calls Try.prog 14 #[.agg #[.int .i64 k, v]] w fun e w' => ∃ v, e = .returned (.tuple #[v, .int .i64 (livesP k l).2]) ∧ Win Life.cells 4 63 w' v (fun i => w.heap.size ≤ i) (livesP k l).1 ∧ Below w.heap.size w w' := by
  obtain ⟨a, c, rfl⟩ : ∃ a c, v = .slice a l.length c := by obtain ⟨_, a, c, rfl, _⟩ := hr; exact ⟨a, c, rfl⟩
  have HR := Lib.hid hr
  clear hr
  have HBL := Lib.hid (fun o => (Below.refl w.heap.size w).alloc (Nat.le_refl _) o)
  have hcon := fun o => isLine_any k _ l _ (HR.out.below (HBL.out o))
  cases hi : isLineP k l with
  | false =>
    have hat : livesP k l = ([], 2) := by simp [livesP, hi]
    rw [hat]
    rw [hi] at hcon
    have HC := Lib.hid hcon
    clear hat hi hcon
    go_enter Try.func14, Try.ntmps14
    go_wp2_with (go_at_call 54; refine (HC.out _).mono ?_; rintro e w1 ⟨rfl, hb1⟩)
    go_ret2
    exact ⟨_, rfl, winC_nil _ _ _ _, (HBL.out _).trans (hb1.mono (by simp))⟩
  | true =>
    have hat : livesP k l = (livesOf k l, 0) := by simp [livesP, hi]
    rw [hat]
    rw [hi] at hcon
    have HC := Lib.hid hcon
    have HO := Lib.hid hi
    clear hat hi hcon
    go_enter Try.func14, Try.ntmps14
    go_wp2_with (first | (go_at_call 54; refine (HC.out _).mono ?_; rintro e w1 ⟨rfl, hb1⟩; have c0 := below_cell hb1 (World.cell?_alloc_new w #[.int .i64 k, .slice a l.length c] 25 0); have c1 := below_cell hb1 (World.cell?_alloc_new w #[.int .i64 k, .slice a l.length c] 25 1)) | (go_at_call 55; refine (rlives_any k _ l _ (HR.out.below ((HBL.out _).trans (hb1.mono (by simp)))) HO.out).mono ?_; rintro e w2 ⟨v2, rfl, hw2, hb2⟩))
    go_ret2
    have hb0 : Below w.heap.size w w1 := (HBL.out _).trans (hb1.mono (by simp))
    exact ⟨_, rfl, winC_mono hw2 fun i hi => Nat.le_trans hb0.size hi, hb0.trans (hb2.mono hb0.size)⟩
end Go.Proofs.Ytkoeplbkeboklaa
