/- My texts of layer 14, joined: R38, Base6, R14, R29, R30, P12, R31, R32, R21. -/
import Derived.Test.YtkoeplbkeboklaaM5
import Derived.Laws.CopyRow
import Derived.Lib.Overlaps
import Derived.Lib.AppendZerosOnto
/- retro.Slim. -/
set_option linter.unusedVariables false
set_option linter.unusedSimpArgs false
namespace Go.Proofs.Ytkoeplbkeboklaa
open Go.RowKit
theorem zero_bool (w : World) : (zeroValue 4).run Try.prog w = .ok (.bool false) w := by kernel_rfl
set_option maxHeartbeats 4000000 in
theorem rSlim_any (k : Int) (v : Value) (l : List Step) (t : Int) (w : World) (hr : Rd Step.cells 4 w v l) :
    Calls Try.prog 27 #[.agg #[.int .i64 k, v], .int .i64 t] w fun e w' =>
      ∃ v', e = .returned (.tuple #[.agg #[.int .i64 (slimP k l t).1.1, v'], .int .i64 (slimP k l t).2]) ∧ Win Step.cells 4 39 w' v' (fun i => w.heap.size ≤ i) (slimP k l t).1.2 ∧ Below w.heap.size w w' := by
  obtain ⟨a, c, rfl⟩ : ∃ a c, v = .slice a l.length c := by obtain ⟨_, a, c, rfl, _⟩ := hr; exact ⟨a, c, rfl⟩
  have HR := Lib.hid hr
  have HC := Lib.hid (fun W h => isLine_any k _ l W (hr.below h))
  clear hr
  cases hl : isLineP k l with
  | false =>
    have hat : slimP k l t = ((0, []), 2) := by simp [slimP, hl]
    rw [hat]
    rw [hl] at HC
    clear hat hl
    go_enter Try.func27, Try.ntmps27
    go_wp2_with fail
    refine named_box2 (G := fun W => Calls _ _ _ W _) w _ _ _ _ fun W0 hb0 hz0 hx0 hx1 => ?_
    refine (HC.out _ hb0).mono ?_
    rintro e w1 ⟨rfl, hb1⟩
    have hB := hb0.trans (hb1.mono (by omega))
    have hr2 := (hb1.block _ (by omega)).trans hx1
    have f0 := cell_blk hr2 0
    have f1 := cell_blk hr2 1
    have k0 := free_blk hr2 0
    have k1 := free_blk hr2 1
    have hE := line_end (k := 0) hB.size hB hr2 (by omega) (win_nil Step.cells 4 39 w1 (fun i => i ≠ w.heap.size + 1 ∧ w.heap.size ≤ i)) (fun i hi => hi)
    have HE := Lib.hid (hE _ rfl)
    clear hE hB hr2
    go_wp2
    have g0 := HE.out.1
    have g1 := HE.out.2.1
    exact bodyPost_ret (v := .tuple #[.agg #[.int .i64 0, .slice none 0 0], .int .i64 2]) (by simp [results, Try.results27, go_sem, g0, g1]) rfl ⟨_, rfl, winC_nil _ _ _ _, HE.out.2.2.2⟩

  | true =>
    have hat : slimP k l t = ((k, slimOf k l (capT t)), 0) := by simp [slimP, hl]
    rw [hat]
    obtain ⟨T, hT⟩ : ∃ T, min t 1000 = T := ⟨_, rfl⟩
    rw [show capT t = T by rw [← hT]; unfold capT; split <;> omega]
    have HT := Lib.hid hT
    clear hT
    rw [hl] at HC
    have hlen := (isLineP_spec hl).2.2.1
    have HLV := Lib.hid (fun W h => rlives_any k _ l W (HR.out.below h) hl)
    have HND := Lib.hid (livesOf_nodup (k := k) (isLineP_spec hl).2.2.2.2)
    have hLl := livesOf_length k l
    clear hat hl
    go_enter Try.func27, Try.ntmps27
    go_wp2_with fail
    refine named_box2 (G := fun W => Calls _ _ _ W _) w _ _ _ _ fun W0 hb0 hz0 hx0 hx1 => ?_
    refine (HC.out _ hb0).mono ?_
    rintro e w1 ⟨rfl, hb1⟩
    have hB1 := hb0.trans (hb1.mono (by omega))
    have hz1 := hb1.size
    have d0 : w1.cell? ⟨w.heap.size, 0, none⟩ = some (.int .i64 k) := below_cell hb1 (cell_blk hx0 0)
    have d1 : w1.cell? ⟨w.heap.size, 1, none⟩ = some (.slice a l.length c) := below_cell hb1 (cell_blk hx0 1)
    have HB1 := Lib.hid (And.intro hB1 ((hb1.block _ (by omega)).trans hx1))
    clear hB1 hx0 hx1 hb0 hb1
    have e0 := fun o => below_cell ((Below.refl w1.heap.size w1).alloc (Nat.le_refl _) o) d0
    have e1 := fun o => below_cell ((Below.refl w1.heap.size w1).alloc (Nat.le_refl _) o) d1
    have hc := HT.out
    have hmm := @run_makeMap Try.prog
    go_wp2_with fail
    clear hc e0 e1 hmm
    refine named_any (G := fun W => Calls _ _ _ W _) w1 _ fun W2 hb2 hz2 hx2 => ?_
    have hB2 : Below w.heap.size w W2 := HB1.out.1.trans (hb2.mono HB1.out.1.size)
    refine (HLV.out _ hB2).mono ?_
    rintro e w3 ⟨vL, rfl, hwL, hb3⟩
    have hrL := win_rd life_len hwL
    obtain ⟨aL, cL, rfl, _, _⟩ := winC_slice hwL
    have hB3 : Below w.heap.size w w3 := hB2.trans (hb3.mono hB2.size)
    have hb23 := hb2.trans (hb3.mono hb2.size)
    have p0 := below_cell hb23 d0
    have p1 := below_cell hb23 d1
    have ho3 := (hb3.block w1.heap.size (by omega)).trans hx2
    have hR3 := (hb23.block (w.heap.size + 1) (by omega)).trans HB1.out.2
    have hz3 : w1.heap.size < w3.heap.size := by have := hb3.size; omega
    have hzr : w.heap.size + 1 < w1.heap.size := by omega
    have hoL : ∀ i, some i = (Value.slice aL (livesOf k l).length cL).ownBlock → w1.heap.size < i := fun i hi => by have := (winC_ob hwL i hi).1; omega
    have hm3 : MapOf w3 w1.heap.size [] := ⟨#[], 0, ho3, MapKept.stamped_empty 0, .refl _⟩
    have H3 := Lib.hid (And.intro hB3 (And.intro hm3 hR3))
    clear hb2 hb3 hb23 hx2 hB2 hB3 hwL ho3 hR3 hz2 d0 d1 hz1 hm3
    generalize hM : w1.heap.size = M at *
    obtain ⟨L, hLL⟩ : ∃ L, L = livesOf k l := ⟨_, rfl⟩
    rw [← hLL] at hLl HND hrL hoL
    rw [← hLL]
    have HRL := Lib.hid hrL
    have HOB := Lib.hid hoL
    have HLL := Lib.hid hLL
    clear hM hrL hoL hLL
    go_wp2
    go_loopw [22] (fun i W => ∃ (n : Nat), i = .int .i64 n ∧ n ≤ L.length ∧ MapOf W M (aliveKv T (L.take n)) ∧ Fr (fun j => j = M) w3 W) (fun i _ => L.length - (intOf i).toNat)
    case atStart => exact ⟨0, rfl, by omega, H3.out.2.1, fr_refl _ _⟩
    case round =>
      obtain ⟨n, rfl, hnl, hm, hF⟩ := hrel
      by_cases hlt : n < L.length
      · have hy := List.getElem?_eq_getElem hlt
        generalize L[n] = y at hy
        have hrl : Rd Life.cells 4 wr (.slice aL L.length cL) L := rd_move HRL.out hF fun i hi h => by have := HOB.out i hi; omega
        obtain ⟨b2, o2, rfl, hbl2, hc⟩ := rd_at hrl hy
        have y0 : wr.cell? ⟨b2, o2 + n * 4, none⟩ = some (.int .i64 y.from_) := hc 0 _ rfl
        have y1 := hc 1 _ rfl
        have y2 := hc 2 _ rfl
        have y3 := hc 3 _ rfl
        have hmo := fun o => mapOf_move hm (fr_alloc (fun _ => False) wr o) (fun h => h)
        have hsz := hF.size
        obtain ⟨w5, hup, hm5, hf5, hs5⟩ := run_update_of (P := Try.prog) (T := 100) Try.underlying100 Try.underlying3 (hmo (.cells #[.int .i64 y.from_, .int .i64 y.to_, .int .i64 y.key, .int .i64 y.val] 63)) y.from_ (.bool (decide (T < y.to_)))
        have HX := Lib.hid (And.intro hy (And.intro hm5 (And.intro hF (And.intro hf5 hs5))))
        clear hy hmo hF hm hrl hc hm5 hf5 hs5
        set_option maxRecDepth 10000 in
        go_wp2
        go_roundw
        case rel => exact ⟨n + 1, by go_num, by omega, by rw [aliveKv_succ HX.out.1]; exact HX.out.2.1, fr_trans HX.out.2.2.1 (fr_trans (fr_alloc _ wr _) HX.out.2.2.2.1 fun _ _ h => h) fun _ _ h => h⟩
        case measure => simp [intOf]; omega
      · obtain rfl : n = L.length := by omega
        rw [List.take_length] at hm
        obtain ⟨wM, rfl⟩ : ∃ x : World, x = wr := ⟨wr, rfl⟩
        have hBr : Below w.heap.size w wM := H3.out.1.trans (below_of_fr hF H3.out.1.size fun i hi => by omega)
        have d0 := fr_cell hF p0 (by show ¬ w.heap.size = M; omega)
        have d1 := fr_cell hF p1 (by show ¬ w.heap.size = M; omega)
        have hR := (hF.block (w.heap.size + 1) (by omega) (by omega)).trans H3.out.2.2
        have hz4 := hF.size
        have HM := Lib.hid (And.intro hm (And.intro hBr hR))
        have e0 := fun o => below_cell ((Below.refl wM.heap.size wM).alloc (Nat.le_refl _) o) d0
        have e1 := fun o => below_cell ((Below.refl wM.heap.size wM).alloc (Nat.le_refl _) o) d1
        obtain ⟨p, hp⟩ : ∃ p : Step → Bool, p = keepP L T := ⟨_, rfl⟩
        have HP := Lib.hid hp
        clear hm hBr hR hF p0 p1 hp
        have hMr : M < wM.heap.size := by omega
        go_wp2
        clear e0 e1
        generalize hO : wM.heap.size = O at *
        have HO := Lib.hid hO
        clear hO
        go_loopw [40] (fun i W => ∃ (n : Nat) (a1 : Option Addr) (c1 : Nat), i = .int .i64 n ∧ n ≤ l.length ∧ W.heap[O]? = some (.cells #[.int .i64 k, .slice a1 ((l.take n).filter p).length c1] 25 (0, 0)) ∧ Win Step.cells 4 39 W (.slice a1 ((l.take n).filter p).length c1) (fun j => O < j) ((l.take n).filter p) ∧ Fr (fun _ => False) wM W) (fun i _ => l.length - (intOf i).toNat)
        case atStart => exact ⟨0, none, 0, rfl, by omega, by have := heap_alloc_new wM (.cells #[.int .i64 k, .slice none 0 0] 25); rw [HO.out] at this; exact this, winC_nil _ _ _ _, fr_alloc _ _ _⟩
        case round =>
          obtain ⟨n, a1, c1, rfl, hnl, hO, hw, hF⟩ := hrel
          have hBw : Below w.heap.size w wr := HM.out.2.1.trans (below_of_fr hF (HM.out.2.1).size fun i hi => hi.elim)
          by_cases hlt : n < l.length
          · have hx := List.getElem?_eq_getElem hlt
            generalize l[n] = s at hx
            obtain ⟨b, off, rfl, hbl, hc⟩ := rd_at (HR.out.below hBw) hx
            have q0 : wr.cell? ⟨b, off + n * 4, none⟩ = some (.int .i64 s.at_) := hc 0 _ rfl
            have q1 := hc 1 _ rfl
            have q2 := hc 2 _ rfl
            have q3 := hc 3 _ rfl
            have hOl : O < wr.heap.size := (Array.getElem?_eq_some_iff.1 hO).1
            have hlk : ∀ o, (Instr.lookup 100 (.map (some M)) (.int .i64 s.at_) false).run Try.prog (wr.alloc o) = .ok (.bool (aliveP L T s.at_)) (wr.alloc o) := fun o => by
              have h := run_lookup_of (P := Try.prog) (T := 100) Try.underlying100 Try.underlying3 (zero_bool _) (mapOf_move HM.out.1 (fr_trans hF (fr_alloc _ wr o) fun _ _ h => h) (fun h => h)) s.at_ false
              rw [aliveKv_get HND.out] at h
              simpa using h
            have hps : p s = (decide (T < s.at_) || aliveP L T s.at_) := by rw [HP.out]; rfl
            have hfs := filter_take_succ p hx
            have hfl := filter_take_length p l n
            have c0 : ∀ o, (wr.alloc o).cell? ⟨O, 0, none⟩ = some (.int .i64 k) := fun o => below_cell ((Below.refl wr.heap.size wr).alloc (Nat.le_refl _) o) (cell_blk hO 0)
            have c1' : ∀ o, (wr.alloc o).cell? ⟨O, 1, none⟩ = some (.slice a1 ((l.take n).filter p).length c1) := fun o => below_cell ((Below.refl wr.heap.size wr).alloc (Nat.le_refl _) o) (cell_blk hO 1)
            have k1' := fun o => below_frozen ((Below.refl wr.heap.size wr).alloc (Nat.le_refl _) o) hOl (free_blk hO 1)
            have HX := Lib.hid (And.intro hfs (And.intro hO (And.intro hw hF)))
            clear hfs hO hw hF hBw hc hx
            generalize hxs : (l.take n).filter p = xs at *
            have HXS := Lib.hid hxs
            clear hxs
            cases hk : p s with
            | true =>
              have hor : decide (T < s.at_) = true ∨ (decide (T < s.at_) = false ∧ aliveP L T s.at_ = true) := by
                rw [hk] at hps
                cases h : decide (T < s.at_) with
                | true => exact .inl rfl
                | false => rw [h] at hps; exact .inr ⟨rfl, by simpa using hps.symm⟩
              rw [hk] at HX
              clear hk hps
              rcases hor with h1 | ⟨h1, h2⟩
              all_goals (try (rw [h2] at hlk; clear h2))
              all_goals
                have hob := winC_ob HX.out.2.2.1
                have HOW := Lib.hid hob
                clear hob
                go_wp2_with (at_builtin; (refine wpList_append_win _ (by rfl) _ _ _ (by rfl) 39 4 32 _ Try.underlying23 info_step rfl (by decide) _ _ xs.length _ (by rfl) (winC_move (winC_move HX.out.2.2.1 (fr_alloc (fun _ => False) wr _) (fun _ _ h => h)) (fr_alloc (fun _ => False) _ _) (fun _ _ h => h)) _ _ _ [.int .i64 s.at_, .int .i64 s.do_, .int .i64 s.key, .int .i64 s.val] (by rfl) (by rfl) (news2 wr _ _ _) (by simp [Value.oneCell']) (by decide) (by unfold maxLen; omega) (by omega) ?_); intro v3 w5 hwin3 hfr3 hsz3; obtain ⟨a4, c4, rfl, hn4, hm4⟩ := winC_slice hwin3; have F3 : Fr (fun i => some i = (Value.slice a1 xs.length c1).ownBlock) wr w5 := fr_trans (fr_trans (fr_alloc _ wr _) (fr_alloc _ _ _) fun _ _ h => h) hfr3 fun _ _ h => h; have c5 := fr_cell F3 (cell_blk HX.out.2.1 1) (fun h => by have := (HOW.out O h).1; omega); have k5 := fr_frozen F3 hOl (free_blk HX.out.2.1 1) (fun h => by have := (HOW.out O h).1; omega); have H5 := Lib.hid (And.intro hwin3 F3); clear hwin3 F3 hfr3)
                have hwA := H5.out.1
                have F5 := H5.out.2
                have hoA := (F5.block O hOl (fun h => by have := (HOW.out O h).1; omega)).trans HX.out.2.1
                have hoB := setCell_blk (o := 1) hoA (.slice a4 (xs.length + 1) c4)
                have hF6 : Fr (fun _ => False) wM (w5.setCell ⟨O, 1, none⟩ (.slice a4 (xs.length + 1) c4)) := fr_trans (fr_trans HX.out.2.2.2 F5 fun i hi h => by have := (HOW.out i h).1; have := HO.out; omega) (fr_setCell w5 _ _) fun i hi h => by have h2 : i = O := h; have := HO.out; omega
                have hw6 := winC_move hwA (fr_setCell w5 ⟨O, 1, none⟩ (.slice a4 (xs.length + 1) c4)) fun i hi (h : i = O) => by
                  rcases hi with hi | hi
                  · have := hi.1; omega
                  · simp at hi; omega
                have hz6 := F5.size
                have hxe : (l.take (n + 1)).filter p = xs ++ [s] := by rw [HX.out.1]; simp
                have HZ := Lib.hid (And.intro hoB (And.intro hF6 (And.intro hw6 hxe)))
                clear hwA F5 hoA hoB hF6 hw6 hxe c5 k5
                generalize w5.setCell ⟨O, 1, none⟩ (.slice a4 (xs.length + 1) c4) = w6 at *
                go_roundw
                case rel =>
                  refine ⟨n + 1, a4, c4, by go_num, by omega, ?_, ?_, HZ.out.2.1⟩
                  · rw [HZ.out.2.2.2, List.length_append]; exact HZ.out.1
                  · rw [HZ.out.2.2.2]
                    have h7 : WinC 4 39 w6 (.slice a4 (xs.length + 1) c4) (fun j => O < j) (xs.length + 1) (xs.flatMap Step.cells ++ [.int .i64 s.at_, .int .i64 s.do_, .int .i64 s.key, .int .i64 s.val]) := winC_mono HZ.out.2.2.1 fun i hi => by
                      rcases hi with hi | hi
                      · exact hi.1
                      · simp at hi; omega
                    simpa [Win, Step.cells] using h7
                case measure => simp [intOf]; omega
            | false =>
              have h1 : decide (T < s.at_) = false := by
                rw [hk] at hps
                cases h : decide (T < s.at_) with
                | false => rfl
                | true => rw [h] at hps; simp at hps
              have h2 : aliveP L T s.at_ = false := by rw [hk, h1] at hps; simpa using hps.symm
              rw [h2] at hlk
              rw [hk] at HX
              clear hk hps h2
              go_wp2
              go_roundw
              case rel =>
                have hxe : (l.take (n + 1)).filter p = xs := by rw [HX.out.1]; simp
                exact ⟨n + 1, a1, c1, by go_num, by omega, by rw [hxe]; exact (Below.heap_alloc wr _ O hOl).trans HX.out.2.1, by rw [hxe]; exact winC_move HX.out.2.2.1 (fr_alloc (fun _ => False) wr _) (fun _ _ h => h), fr_trans HX.out.2.2.2 (fr_alloc _ wr _) fun _ _ h => h⟩
              case measure => simp [intOf]; omega
          · obtain rfl : n = l.length := by omega
            rw [List.take_length] at hO hw
            have hfl : (l.filter p) = slimOf k l T := by rw [HP.out, HLL.out]; rfl
            have f0 := cell_blk hO 0
            have f1 := cell_blk hO 1
            have hR4 := (hF.block (w.heap.size + 1) (by have := HO.out; omega) (fun h => h)).trans HM.out.2.2
            have r0 := cell_blk hR4 0
            have r1 := cell_blk hR4 1
            have k0 := free_blk hR4 0
            have k1 := free_blk hR4 1
            rw [hfl] at hw f1
            have hE := line_end (k := k) hBw.size hBw hR4 (by omega) hw (fun i hi => by omega)
            have HE := Lib.hid (hE _ rfl)
            clear hE hBw hR4 hO hw hF hfl
            go_wp2
            have g0 := HE.out.1
            have g1 := HE.out.2.1
            exact bodyPost_ret (v := .tuple #[.agg #[.int .i64 k, .slice a1 (slimOf k l T).length c1], .int .i64 0]) (by simp [results, Try.results27, go_sem, g0, g1]) rfl ⟨_, rfl, HE.out.2.2.1, HE.out.2.2.2⟩
end Go.Proofs.Ytkoeplbkeboklaa
/- Runs of append, copy and clear within a block of the call's own, at elements of k cells. -/
set_option linter.unusedVariables false
set_option linter.unusedSimpArgs false
namespace Go.Proofs.Ytkoeplbkeboklaa
open Go.RowKit
/-- The row with the cells from o on overwritten. -/
def spl (cur : Array Value) (o : Nat) (cs : List Value) : Array Value := (cur.toList.take o ++ cs ++ cur.toList.drop (o + cs.length)).toArray
theorem spl_size {cur : Array Value} {o : Nat} {cs : List Value} (h : o + cs.length ≤ cur.size) : (spl cur o cs).size = cur.size := by
  simp [spl]; omega
theorem spl_list (cur : Array Value) (o : Nat) (cs : List Value) : (spl cur o cs).toList = cur.toList.take o ++ cs ++ cur.toList.drop (o + cs.length) := by simp [spl]
section
variable {P : Program} (w : World)
theorem run_append_room (t ty e : TypeId) (i : TypeInfo) (k : Nat) (ht : P.underlying t = some (.slice e)) (hi : P.info? e = some i) (hsize : i.size = k)
    (g off n cap : Nat) (cur : Array Value) (hg : w.heap[g]? = some (.cells cur e (0, 0))) (x : Value) (m : Nat) (news : List Value) (hx : RdC k w x m news) (hroom : n + m ≤ cap) (hcs : off + cap * k ≤ cur.size) :
    (Builtin.append_ #[t, t] ty #[.slice (some ⟨g, off, none⟩) n cap, x]).run P w = .ok (.slice (some ⟨g, off, none⟩) (n + m) cap) (w.setRow g (spl cur (off + n * k) news)) := by
  subst hsize
  obtain ⟨hl, h1, a, c, rfl, hc⟩ := hx
  have hfit : off + n * i.size + news.length ≤ cur.size := by
    have : (n + m) * i.size ≤ cap * i.size := Nat.mul_le_mul_right _ hroom
    rw [Nat.add_mul] at this
    rw [hl]; omega
  have hst := run_storeCells_at P g (off + n * i.size) e news 0 cur w hg (by simpa using hfit) h1
  simp only [Nat.add_zero] at hst
  have hf : (Builtin.firstCells i.size m (.slice a m c)).run P w = .ok news.toArray w := by
    by_cases hm : 0 < m
    · obtain ⟨b, o, rfl, _, hcc⟩ := hc hm
      exact run_firstCells_some (P := P) w i.size m ⟨b, o, none⟩ m c news hl (fun j u hu => by rw [addr_add]; exact hcc j u hu)
    · obtain rfl : m = 0 := by omega
      obtain rfl : news = [] := List.eq_nil_of_length_eq_zero (by simpa using hl)
      cases a <;> simp [Builtin.firstCells, loadCells, loadCellsFrom]
  simp [Builtin.append_, run_underlying ht, sizeOf, typeInfo, hi, Builtin.lenOf, hroom, hf, addr_add, hst, spl]
theorem run_first_rd (k m : Nat) (x : Value) (cs : List Value) (hx : RdC k w x m cs) : (Builtin.firstCells k m x).run P w = .ok cs.toArray w := by
  obtain ⟨hl, h1, a, c, rfl, hc⟩ := hx
  by_cases hm : 0 < m
  · obtain ⟨b, o, rfl, _, hcc⟩ := hc hm
    exact run_firstCells_some (P := P) w k m ⟨b, o, none⟩ m c cs hl (fun j u hu => by rw [addr_add]; exact hcc j u hu)
  · obtain rfl : m = 0 := by omega
    obtain rfl : cs = [] := List.eq_nil_of_length_eq_zero (by simpa using hl)
    cases a <;> simp [Builtin.firstCells, loadCells, loadCellsFrom]
theorem run_copy_k (dT sT ty e : TypeId) (i : TypeInfo) (k : Nat) (ht : P.underlying dT = some (.slice e)) (hi : P.info? e = some i) (hsize : i.size = k)
    (g o dl dc : Nat) (cur : Array Value) (T : TypeId) (hg : w.heap[g]? = some (.cells cur T (0, 0))) (x : Value) (m : Nat) (cs : List Value) (hx : RdC k w x m cs) (hm : m ≤ dl) (hfit : o + m * k ≤ cur.size) :
    (Builtin.copy_ #[dT, sT] ty #[.slice (some ⟨g, o, none⟩) dl dc, x]).run P w = .ok (goInt m) (w.setRow g (spl cur o cs)) := by
  subst hsize
  obtain ⟨hl, h1, a, c, rfl, hc⟩ := hx
  have hst := run_storeCells_at P g o T cs 0 cur w hg (by rw [hl]; simpa using hfit) h1
  simp only [Nat.add_zero] at hst
  have hmin : Nat.min m dl = m := Nat.min_eq_left hm
  have hf : (Builtin.firstCells i.size m (.slice a m c)).run P w = .ok cs.toArray w := by
    by_cases hm : 0 < m
    · obtain ⟨b, o, rfl, _, hcc⟩ := hc hm
      exact run_firstCells_some (P := P) w i.size m ⟨b, o, none⟩ m c cs hl (fun j u hu => by rw [addr_add]; exact hcc j u hu)
    · obtain rfl : m = 0 := by omega
      obtain rfl : cs = [] := List.eq_nil_of_length_eq_zero (by simpa using hl)
      cases a <;> simp [Builtin.firstCells, loadCells, loadCellsFrom]
  simp [Builtin.copy_, run_underlying ht, sizeOf, typeInfo, hi, Builtin.lenOf, hmin, hf, hst, spl]
/-- From a longer source. -/
theorem run_copy_to (dT sT ty e : TypeId) (i : TypeInfo) (k : Nat) (ht : P.underlying dT = some (.slice e)) (hi : P.info? e = some i) (hsize : i.size = k)
    (g o dl dc : Nat) (cur : Array Value) (T : TypeId) (hg : w.heap[g]? = some (.cells cur T (0, 0))) (a : Addr) (sl sc sc' : Nat) (cs : List Value) (hx : RdC k w (.slice (some a) dl sc') dl cs) (hm : dl ≤ sl) (hfit : o + dl * k ≤ cur.size) :
    (Builtin.copy_ #[dT, sT] ty #[.slice (some ⟨g, o, none⟩) dl dc, .slice (some a) sl sc]).run P w = .ok (goInt dl) (w.setRow g (spl cur o cs)) := by
  subst hsize
  obtain ⟨hl, h1, a', c', he, hc⟩ := hx
  injection he with he1 he2 he3
  have hst := run_storeCells_at P g o T cs 0 cur w hg (by rw [hl]; simpa using hfit) h1
  simp only [Nat.add_zero] at hst
  have hmin : Nat.min sl dl = dl := Nat.min_eq_right hm
  have hf : (Builtin.firstCells i.size dl (.slice (some a) sl sc)).run P w = .ok cs.toArray w := by
    by_cases hm : 0 < dl
    · obtain ⟨b, o, hb, _, hcc⟩ := hc hm
      rw [← he1] at hb
      injection hb with hb
      subst hb
      exact run_firstCells_some (P := P) w i.size dl ⟨b, o, none⟩ sl sc cs hl (fun j u hu => by rw [addr_add]; exact hcc j u hu)
    · obtain rfl : dl = 0 := by omega
      obtain rfl : cs = [] := List.eq_nil_of_length_eq_zero (by simpa using hl)
      simp [Builtin.firstCells, loadCells, loadCellsFrom]
  simp [Builtin.copy_, run_underlying ht, sizeOf, typeInfo, hi, Builtin.lenOf, hmin, hf, hst, spl]
theorem run_clear_k (t ty e : TypeId) (z : Value) (ht : P.underlying t = some (.slice e)) (hz : ∀ w, (zeroValue e).run P w = .ok z w) (h1 : ∀ u ∈ z.cells, u.oneCell' = true)
    (g o m c : Nat) (cur : Array Value) (hg : w.heap[g]? = some (.cells cur e (0, 0))) (hm : 0 < m) (hfit : o + m * z.cells.size ≤ cur.size) :
    (Builtin.clear_ #[t] ty #[.slice (some ⟨g, o, none⟩) m c]).run P w = .ok (.tuple #[]) (w.setRow g (spl cur o (Builtin.zeroCells z.cells m).toList)) := by
  have hsz : (Builtin.zeroCells z.cells m).toList.length = m * z.cells.size := by rw [Array.length_toList, size_zeroCells]
  have hall : ∀ v ∈ (Builtin.zeroCells z.cells m).toList, v.oneCell' = true := by
    intro v hv
    rw [Builtin.zeroCells, Array.toList_map, List.mem_map] at hv
    obtain ⟨q, hq, rfl⟩ := hv
    have hq2 : q < m * z.cells.size := by simpa using hq
    have hpos : 0 < z.cells.size := by rcases Nat.eq_zero_or_pos z.cells.size with h | h; rw [h] at hq2; omega; exact h
    have hlt : q % z.cells.size < z.cells.size := Nat.mod_lt _ hpos
    rw [getElem!_pos z.cells _ hlt]
    exact h1 _ (Array.getElem_mem hlt)
  have hst := run_storeCells_at P g o e (Builtin.zeroCells z.cells m).toList 0 cur w hg (by rw [hsz]; simpa using hfit) hall
  simp only [Nat.add_zero] at hst
  obtain ⟨m, rfl⟩ : ∃ q, m = q + 1 := ⟨m - 1, by omega⟩
  simp [Builtin.clear_, run_underlying ht, hz, hst, spl]
theorem wp_copy_run {o : Oper} {a : Act} {K : Act → World → Prop} {Q : Exit → Act → World → Prop} (d s : Operand) (t t' : TypeId)
    (ho : o.op = .call { callee := .builtin .copy, args := #[d, s], argTypes := #[t, t'] }) (v u : Value) (hd : a.eval d = v) (hs : a.eval s = u) {v' : Value} {w' : World}
    (hr : (Builtin.copy_ #[t, t'] o.type #[v, u]).run P w = .ok v' w') (h : K (a.put o.dst v') w') : o.wp P a w K Q := by
  unfold Oper.wp execOp
  simp only [ho, resolve, invoke, builtin, Sem.run_bind, Sem.run_pure, Result.andThen_ok, List.map_toArray, List.map_cons, List.map_nil, hd, hs, hr]
  exact h
theorem wpList_copy_run' {ops : Array Oper} {rest : List Oper} {o : Oper} {a : Act} {Q : Exit → Act → World → Prop} (hgd : o.guard = none) (d s : Operand) (t t' : TypeId)
    (ho : o.op = .call { callee := .builtin .copy, args := #[d, s], argTypes := #[t, t'] }) (v u : Value) (hd : a.eval d = v) (hs : a.eval s = u) {v' : Value} {w' : World}
    (hr : (Builtin.copy_ #[t, t'] o.type #[v, u]).run P w = .ok v' w') (h : wpList P ops Q rest (a.put o.dst v') w') : wpList P ops Q (o :: rest) a w :=
  wpList_plain hgd fun _ hK => wp_copy_run w d s t t' ho v u hd hs hr (hK _ _ h)
theorem step_copy_run {ops : Array Oper} {o : Oper} {a : Act} {K : Act → World → Prop} {Q : Exit → Act → World → Prop} {E : Prop} (hgd : o.guard = none) (d s : Operand) (t t' : TypeId)
    (ho : o.op = .call { callee := .builtin .copy, args := #[d, s], argTypes := #[t, t'] }) (v u : Value) (hd : a.eval d = v) (hs : a.eval s = u) {v' : Value} {w' : World}
    (hr : (Builtin.copy_ #[t, t'] o.type #[v, u]).run P w = .ok v' w') (h : K (a.put o.dst v') w') : if Region.wanted o (yielded ops a.tmps) = true then Oper.wp P o a w K Q else E := by
  have hw : Region.wanted o (yielded ops a.tmps) = true := by simp [Region.wanted, hgd]
  rw [if_pos hw]
  exact wp_copy_run w d s t t' ho v u hd hs hr h
theorem wp_append_run {o : Oper} {a : Act} {K : Act → World → Prop} {Q : Exit → Act → World → Prop} (d s : Operand) (t t' : TypeId)
    (ho : o.op = .call { callee := .builtin .append, args := #[d, s], argTypes := #[t, t'] }) (v u : Value) (hd : a.eval d = v) (hs : a.eval s = u) {v' : Value} {w' : World}
    (hr : (Builtin.append_ #[t, t'] o.type #[v, u]).run P w = .ok v' w') (h : K (a.put o.dst v') w') : o.wp P a w K Q := by
  unfold Oper.wp execOp
  simp only [ho, resolve, invoke, builtin, Sem.run_bind, Sem.run_pure, Result.andThen_ok, List.map_toArray, List.map_cons, List.map_nil, hd, hs, hr]
  exact h
theorem wpList_append_run {ops : Array Oper} {rest : List Oper} {o : Oper} {a : Act} {Q : Exit → Act → World → Prop} (hgd : o.guard = none) (d s : Operand) (t t' : TypeId)
    (ho : o.op = .call { callee := .builtin .append, args := #[d, s], argTypes := #[t, t'] }) (v u : Value) (hd : a.eval d = v) (hs : a.eval s = u) {v' : Value} {w' : World}
    (hr : (Builtin.append_ #[t, t'] o.type #[v, u]).run P w = .ok v' w') (h : wpList P ops Q rest (a.put o.dst v') w') : wpList P ops Q (o :: rest) a w :=
  wpList_plain hgd fun _ hK => wp_append_run w d s t t' ho v u hd hs hr (hK _ _ h)
theorem step_append_run {ops : Array Oper} {o : Oper} {a : Act} {K : Act → World → Prop} {Q : Exit → Act → World → Prop} {E : Prop} (hgd : o.guard = none) (d s : Operand) (t t' : TypeId)
    (ho : o.op = .call { callee := .builtin .append, args := #[d, s], argTypes := #[t, t'] }) (v u : Value) (hd : a.eval d = v) (hs : a.eval s = u) {v' : Value} {w' : World}
    (hr : (Builtin.append_ #[t, t'] o.type #[v, u]).run P w = .ok v' w') (h : K (a.put o.dst v') w') : if Region.wanted o (yielded ops a.tmps) = true then Oper.wp P o a w K Q else E := by
  have hw : Region.wanted o (yielded ops a.tmps) = true := by simp [Region.wanted, hgd]
  rw [if_pos hw]
  exact wp_append_run w d s t t' ho v u hd hs hr h
theorem wpList_clear_run {ops : Array Oper} {rest : List Oper} {o : Oper} {a : Act} {Q : Exit → Act → World → Prop} (hgd : o.guard = none) (d : Operand) (t : TypeId)
    (ho : o.op = .call { callee := .builtin .clear, args := #[d], argTypes := #[t] }) (v : Value) (hd : a.eval d = v) {v' : Value} {w' : World}
    (hr : (Builtin.clear_ #[t] o.type #[v]).run P w = .ok v' w') (h : wpList P ops Q rest (a.put o.dst v') w') : wpList P ops Q (o :: rest) a w := by
  refine wpList_plain hgd fun K hK => ?_
  unfold Oper.wp execOp
  simp only [ho, resolve, invoke, builtin, Sem.run_bind, Sem.run_pure, Result.andThen_ok, List.map_toArray, List.map_cons, List.map_nil, hd, hr]
  exact hK _ _ h
end
end Go.Proofs.Ytkoeplbkeboklaa
/- The reference's Without. -/
set_option linter.unusedVariables false
set_option linter.unusedSimpArgs false
namespace Go.Proofs.Ytkoeplbkeboklaa
open Go.RowKit
theorem without_len {l : List Step} {i : Nat} (h : i < l.length) : (withoutP l i).length = i + (l.length - (i + 1)) := by simp [withoutP]; omega
theorem without_flat {l : List Step} {i : Nat} (enc : Step → List Value) : (withoutP l i).flatMap enc = ((l.drop 0).take i).flatMap enc ++ ((l.drop (i + 1)).take (l.length - (i + 1))).flatMap enc := by
  rw [withoutP, List.flatMap_append, List.drop_zero, List.take_of_length_le (l := l.drop (i + 1)) (by simp)]
set_option maxHeartbeats 4000000 in
theorem without_any (k : Int) (v : Value) (l : List Step) (i : Nat) (w : World) (hr : Rd Step.cells 4 w v l) (hl : l.length ≤ 100000) (hi : i < l.length) (hcap : ∀ a n c, v = .slice a n c → n ≤ c) :
    Calls Try.prog 69 #[.agg #[.int .i64 k, v], .int .i64 i] w fun e w' => ∃ v', e = .returned (.agg #[.int .i64 k, v']) ∧ Win Step.cells 4 39 w' v' (fun i => w.heap.size ≤ i) (withoutP l i) ∧ Below w.heap.size w w' := by
  obtain ⟨a, c, rfl⟩ : ∃ a c, v = .slice a l.length c := by obtain ⟨_, a, c, rfl, _⟩ := hr; exact ⟨a, c, rfl⟩
  obtain ⟨b, off, rfl, hbl, _⟩ := rd_at hr (List.getElem?_eq_getElem hi)
  have hnc : l.length ≤ c := hcap _ _ _ rfl
  have R1 := rdC_cut step_len (by decide) step_one hr 0 i (by omega) off c (by omega)
  have R2 := rdC_cut step_len (by decide) step_one hr (i + 1) (l.length - (i + 1)) (by omega) (off + (i + 1) * 4) (c - (i + 1)) (fun _ => rfl)
  have HF := Lib.hid (And.intro R1 R2)
  clear hr R1 R2 hcap
  have hwr : IntKind.i64.wrap ((i : Int) + 1) = (i : Int) + 1 := Go.IntWalk.i64_in _ (by omega)
  have n3 : (0 : Int) ≤ (i : Int) + 1 := by omega
  have n4 : (i : Int) + 1 ≤ (l.length : Int) := by omega
  have n5 : (i : Int) ≤ (i : Int) + 1 := by omega
  have n6 : (i : Int) ≤ (c : Int) := by omega
  have n7 : (0 : Int) ≤ (i : Int) := by omega
  go_enter Try.func69, Try.ntmps69
  go_wp2
  refine named_box2 w _ _ _ _ fun W0 hb0 hz0 hx0 hx1 => ?_
  have d0 := cell_blk hx0 0
  have d1 := cell_blk hx0 1
  have d2 := cell_blk hx1 0
  have d3 := cell_blk hx1 1
  have f2 := free_blk hx1 0
  have f3 := free_blk hx1 1
  have HB := Lib.hid (And.intro hb0 hx1)
  clear hx0 hx1 hb0
  by_cases hcq : i + 1 = c
  · have hz : l.length - (i + 1) = 0 := by omega
    have HZ := Lib.hid hz
    clear hz
    subst hcq
    set_option maxRecDepth 10000 in
    go_region_law ((first | (refine step_append_rd _ (by rfl) _ _ _ (by rfl) 39 4 32 _ Try.underlying23 info_step rfl (by decide) _ _ i _ (by go_simp <;> rfl) _ (by go_simp <;> rfl) hwin2 0 [] (rdC_zero _ _ (some ⟨b, off, none⟩) 0) (by unfold maxLen; omega) (by omega) ?_; intro v3 w3 hwin3 hfr3 hsz3; simp only [Nat.add_zero, List.append_nil] at hwin3;obtain ⟨a3, c3, rfl, hn3, hm3⟩ := winC_slice hwin3; have hb3 : Below W0.heap.size W0 w3 := hb2.trans (below_of_fr hfr3 hb2.size fun i hi => by have := (winC_ob hwin2 i hi).1; simp [drew_size] at this; omega); have p0 := below_cell hb3 d0; have p2 := below_cell hb3 d2; have p3 := below_cell hb3 d3; have k2 := below_frozen hb3 (a := ⟨w.heap.size + 1, 0, none⟩) (by show w.heap.size + 1 < _; omega) f2; have k3 := below_frozen hb3 (a := ⟨w.heap.size + 1, 1, none⟩) (by show w.heap.size + 1 < _; omega) f3) | (refine step_append_rd _ (by rfl) _ _ _ (by rfl) 39 4 32 _ Try.underlying23 info_step rfl (by decide) _ (fun _ => False) 0 [] (by go_simp <;> rfl) _ (by go_simp <;> rfl) (winC_nil _ _ _ _) i _ (rdC_below HF.out.1 (HB.out.1.drew)) (by unfold maxLen; omega) (by omega) ?_; intro v2 w2 hwin2 hfr2 hsz2; simp only [Nat.zero_add, List.nil_append] at hwin2; obtain ⟨a2, c2, rfl, hn2, hm2⟩ := winC_slice hwin2; have hb2 : Below W0.heap.size W0 w2 := (Below.refl W0.heap.size W0).drew.trans (below_of_fr hfr2 (Nat.le_refl _) fun i hi => nomatch hi); have g0 := below_cell hb2 d0; have g1 := below_cell hb2 d1) | fail))
    all_goals
      have hb := HB.out.1.trans (hb3.mono HB.out.1.size)
      have hr2 := (hb3.block (w.heap.size + 1) (by omega)).trans HB.out.2
      have z2 := hfr2.size
      simp only [drew_size] at z2
      have hW3 : Win Step.cells 4 39 w3 (.slice a3 (i) c3) (fun i => i ≠ w.heap.size + 1 ∧ w.heap.size ≤ i) (withoutP l i) := by
        refine (?_ : WinC _ _ _ _ _ _ _)
        rw [without_len hi, without_flat, HZ.out, Nat.add_zero, List.take_zero, List.flatMap_nil, List.append_nil]
        exact winC_mono hwin3 fun i hi => by simp [drew_size] at hi; omega
      have hE := line_end (k := k) hb.size hb hr2 (by omega) hW3 (fun i hi => hi)
      have HE := Lib.hid (hE _ rfl)
      clear hwin2 hwin3 hW3 hfr2 hfr3 hb hr2 hE p0 p2 p3 k2 k3 hb2 hb3 d0 d1 d2 d3 f2 f3 g0 g1
      generalize (w3.setCell ⟨w.heap.size + 1, 0, none⟩ (.int .i64 k)).setCell ⟨w.heap.size + 1, 1, none⟩ (.slice a3 (i) c3) = W3 at *
      have g0 := HE.out.1
      have g1 := HE.out.2.1
      go_wp2
      exact bodyPost_ret (v := .agg #[.int .i64 k, .slice a3 (i) c3]) (by simp [results, Try.results69, go_sem, g0, g1]) rfl ⟨_, rfl, HE.out.2.2.1, HE.out.2.2.2⟩

  · have hcq2 : ¬ c = i + 1 := fun h => hcq h.symm
    set_option maxRecDepth 10000 in
    go_region_law ((first | (refine step_append_rd _ (by rfl) _ _ _ (by rfl) 39 4 32 _ Try.underlying23 info_step rfl (by decide) _ _ i _ (by go_simp <;> rfl) _ (by go_simp <;> rfl) hwin2 (l.length - (i + 1)) _ (rdC_below HF.out.2 (HB.out.1.trans (hb2.mono HB.out.1.size))) (by unfold maxLen; omega) (by omega) ?_; intro v3 w3 hwin3 hfr3 hsz3; obtain ⟨a3, c3, rfl, hn3, hm3⟩ := winC_slice hwin3; have hb3 : Below W0.heap.size W0 w3 := hb2.trans (below_of_fr hfr3 hb2.size fun i hi => by have := (winC_ob hwin2 i hi).1; simp [drew_size] at this; omega); have p0 := below_cell hb3 d0; have p2 := below_cell hb3 d2; have p3 := below_cell hb3 d3; have k2 := below_frozen hb3 (a := ⟨w.heap.size + 1, 0, none⟩) (by show w.heap.size + 1 < _; omega) f2; have k3 := below_frozen hb3 (a := ⟨w.heap.size + 1, 1, none⟩) (by show w.heap.size + 1 < _; omega) f3) | (refine step_append_rd _ (by rfl) _ _ _ (by rfl) 39 4 32 _ Try.underlying23 info_step rfl (by decide) _ (fun _ => False) 0 [] (by go_simp <;> rfl) _ (by go_simp <;> rfl) (winC_nil _ _ _ _) i _ (rdC_below HF.out.1 (HB.out.1.drew)) (by unfold maxLen; omega) (by omega) ?_; intro v2 w2 hwin2 hfr2 hsz2; simp only [Nat.zero_add, List.nil_append] at hwin2; obtain ⟨a2, c2, rfl, hn2, hm2⟩ := winC_slice hwin2; have hb2 : Below W0.heap.size W0 w2 := (Below.refl W0.heap.size W0).drew.trans (below_of_fr hfr2 (Nat.le_refl _) fun i hi => nomatch hi); have g0 := below_cell hb2 d0; have g1 := below_cell hb2 d1) | fail))
    all_goals
      have hb := HB.out.1.trans (hb3.mono HB.out.1.size)
      have hr2 := (hb3.block (w.heap.size + 1) (by omega)).trans HB.out.2
      have z2 := hfr2.size
      simp only [drew_size] at z2
      have hW3 : Win Step.cells 4 39 w3 (.slice a3 (i + (l.length - (i + 1))) c3) (fun i => i ≠ w.heap.size + 1 ∧ w.heap.size ≤ i) (withoutP l i) := by
        refine (?_ : WinC _ _ _ _ _ _ _)
        rw [without_len hi, without_flat]
        exact winC_mono hwin3 fun i hi => by simp [drew_size] at hi; omega
      have hE := line_end (k := k) hb.size hb hr2 (by omega) hW3 (fun i hi => hi)
      have HE := Lib.hid (hE _ rfl)
      clear hwin2 hwin3 hW3 hfr2 hfr3 hb hr2 hE p0 p2 p3 k2 k3 hb2 hb3 d0 d1 d2 d3 f2 f3 g0 g1
      generalize (w3.setCell ⟨w.heap.size + 1, 0, none⟩ (.int .i64 k)).setCell ⟨w.heap.size + 1, 1, none⟩ (.slice a3 (i + (l.length - (i + 1))) c3) = W3 at *
      have g0 := HE.out.1
      have g1 := HE.out.2.1
      go_wp2
      exact bodyPost_ret (v := .agg #[.int .i64 k, .slice a3 (i + (l.length - (i + 1))) c3]) (by simp [results, Try.results69, go_sem, g0, g1]) rfl ⟨_, rfl, HE.out.2.2.1, HE.out.2.2.2⟩

end Go.Proofs.Ytkoeplbkeboklaa
/- slices.Delete of one step, in a list of the call's own. -/
set_option linter.unusedVariables false
set_option linter.unusedSimpArgs false
namespace Go.Proofs.Ytkoeplbkeboklaa
open Go.RowKit
theorem zero_step (w : World) : (zeroValue 39).run Try.prog w = .ok (.agg #[.int .i64 0, .int .i64 0, .int .i64 0, .int .i64 0]) w := by kernel_rfl
theorem del_list {L Y : List Value} {off m i : Nat} (hi : i ≤ m) (hL : off + (m + 1) * 4 ≤ L.length) (hY : Y.length = (m - i) * 4) (n : Nat) :
    ((L.take (off + i * 4) ++ Y ++ L.drop n).drop off).take (m * 4) = ((L.drop off).take ((m + 1) * 4)).take (i * 4) ++ Y := by
  have h1 : (L.take (off + i * 4)).drop off = (L.drop off).take (i * 4) := by rw [List.drop_take]; congr 1; omega
  rw [List.append_assoc, List.drop_append_of_le_length (by rw [List.length_take]; omega), h1, List.take_take, Nat.min_eq_left (by omega), ← List.append_assoc]
  have h2 : m * 4 = ((L.drop off).take (i * 4) ++ Y).length := by rw [List.length_append, List.length_take, List.length_drop, hY]; omega
  rw [h2]
  exact List.take_left
theorem flat_take {α : Type} {enc : α → List Value} {k : Nat} (hk : ∀ x, (enc x).length = k) : ∀ (ys : List α) (m : Nat), (ys.take m).flatMap enc = (ys.flatMap enc).take (m * k)
  | [], m => by simp
  | y :: ys, 0 => by simp
  | y :: ys, m + 1 => by
    rw [List.take_succ_cons, List.flatMap_cons, List.flatMap_cons, flat_take hk ys m, List.take_append, List.take_of_length_le (l := enc y) (by rw [hk, Nat.add_mul, Nat.one_mul]; omega), hk, show (m + 1) * k - k = m * k by rw [Nat.add_mul, Nat.one_mul]; omega]
theorem setRow_at {w : World} {g : Nat} {cur cs : Array Value} {e : TypeId} (hg : w.heap[g]? = some (.cells cur e (0, 0))) : (w.setRow g cs).heap[g]? = some (.cells cs e (0, 0)) := setRow_heap w g cur cs e _ hg
set_option maxHeartbeats 4000000 in
theorem delSteps_any (g off c m i : Nat) (S : Nat → Prop) (l : List Step) (w : World) (hw : Win Step.cells 4 39 w (.slice (some ⟨g, off, none⟩) (m + 1) c) S l) (hn : l.length = m + 1) (hi : i ≤ m) (hl : m < 100000) :
    Calls Try.prog 68 #[.slice (some ⟨g, off, none⟩) (m + 1) c, .int .i64 i, .int .i64 (i + 1)] w fun e w' => ∃ v, e = .returned v ∧ Win Step.cells 4 39 w' v S (withoutP l i) ∧ Fr (fun j => j = g) w w' := by
  obtain ⟨cur, hS, hg, hnc, hcm, hcs, ht⟩ : ∃ cur, S g ∧ w.heap[g]? = some (.cells cur 39 (0, 0)) ∧ m + 1 ≤ c ∧ c ≤ maxLen ∧ off + c * 4 ≤ cur.size ∧ (cur.toList.drop off).take ((m + 1) * 4) = l.flatMap Step.cells := by
    rcases hw.2 with ⟨h1, _⟩ | ⟨g', off', cap, cur, hv, hS, hg, h1, h2, h3, h4⟩
    · simp at h1
    · injection hv with e1 e2 e3
      injection e1 with e1
      injection e1 with e1 e4
      subst e1; subst e4; subst e3
      rw [hn] at h4
      exact ⟨cur, hS, hg, by omega, h2, h3, h4⟩
  have hrd : Rd Step.cells 4 w (.slice (some ⟨g, off, none⟩) (m + 1) c) l := win_rd step_len hw
  have HC := Lib.hid (And.intro hS (And.intro hg (And.intro hcs ht)))
  have HR := Lib.hid (fun off' c' h => rdC_cut step_len (by decide) step_one hrd (i + 1) (m - i) (by omega) off' c' h)
  have HN := Lib.hid hn
  simp only [maxLen] at hcm
  have n1 : (i : Int) + 1 ≤ (m : Int) + 1 := by omega
  have n2 : (0 : Int) ≤ (i : Int) + 1 := by omega
  have n3 : (i : Int) ≤ (i : Int) + 1 := by omega
  have n4 : ¬ ((i : Int) = (i : Int) + 1) := by omega
  have n5 : (m : Int) + 1 ≤ (c : Int) := by omega
  have n6 : (i : Int) ≤ (m : Int) + 1 := by omega
  have n7 : (i : Int) ≤ (c : Int) := by omega
  clear hw hrd hS hg hcs ht hn
  go_enter Try.func68, Try.ntmps68
  by_cases hc : c = i + 1
  · obtain rfl : m = i := by omega
    subst hc
    obtain ⟨i0, hi0, hz⟩ := Option.map_eq_some_iff.1 info_step
    simp only [Prod.mk.injEq] at hz
    have hra := fun ty => run_append_room (P := Try.prog) w.drew 23 ty 39 i0 4 Try.underlying23 hi0 hz.2.1 g off m (m + 1) cur HC.out.2.1 (.slice (some ⟨g, off, none⟩) 0 (0)) 0 ((l.drop (m + 1)).flatMap Step.cells) (by rw [List.drop_of_length_le (by rw [HN.out]; omega)]; exact rdC_zero 4 w.drew (some ⟨g, off, none⟩) 0) (by omega) HC.out.2.2.1
    rw [Nat.add_zero m] at hra
    have hY : (((l.drop (m + 1)).flatMap Step.cells) : List Value) = (l.drop (m + 1)).flatMap Step.cells := rfl
    rw [hY] at hra
    have hYl : ((l.drop (m + 1)).flatMap Step.cells).length = (m - m) * 4 := by rw [flat_len step_len, List.length_drop, HN.out]; omega
    have hlist := del_list (L := cur.toList) (Y := (l.drop (m + 1)).flatMap Step.cells) (off := off) (m := m) (i := m) (by omega) (by have := HC.out.2.2.1; rw [Array.length_toList]; omega) hYl (off + m * 4 + ((l.drop (m + 1)).flatMap Step.cells).length)
    rw [← spl_list, HC.out.2.2.2, ← flat_take step_len, ← List.flatMap_append] at hlist
    have hsz := spl_size (cur := cur) (o := off + m * 4) (cs := (l.drop (m + 1)).flatMap Step.cells) (by have := HC.out.2.2.1; rw [hYl]; omega)
    generalize spl cur (off + m * 4) ((l.drop (m + 1)).flatMap Step.cells) = cur1 at *
    have HA := Lib.hid hra
    have HL := Lib.hid (And.intro hlist hsz)
    clear hra hY hYl hlist hsz hi0 hz
    go_wp2
    go_region_law (refine step_append_run _ (by rfl) _ _ _ _ (by rfl) (.slice (some ⟨g, off, none⟩) m (m + 1)) (.slice (some ⟨g, off, none⟩) 0 (0)) (by go_simp <;> rfl) (by go_simp <;> rfl) (HA.out _) ?_)
    have hW1 : (w.drew.setRow g cur1).heap[g]? = some (.cells cur1 39 (0, 0)) := setRow_at (w := w.drew) HC.out.2.1
    have hF1 : Fr (fun j => j = g) w (w.drew.setRow g cur1) := fr_trans (fr_of_below (Below.refl _ _).drew) (fr_setRow _ _ _) fun _ _ h => h
    have hcl := fun ty => run_clear_k (P := Try.prog) (w.drew.setRow g cur1) 23 ty 39 _ Try.underlying23 zero_step (by simp [Value.cells, Value.oneCell']) g (off + m * 4) 1 (1) cur1 hW1 (by omega) (by have := HC.out.2.2.1; have := HL.out.2; simp [Value.cells]; omega)
    have HCL := Lib.hid (And.intro hcl (And.intro hW1 hF1))
    clear hcl hW1 hF1
    generalize w.drew.setRow g cur1 = W1 at *
    have m1 : (m : Int) ≤ (m : Int) + 1 := by omega
    have hclr := HCL.out.1
    obtain ⟨W2, hW2⟩ : ∃ W2, W1.setRow g (spl cur1 (off + m * 4) (Builtin.zeroCells (Value.agg #[.int .i64 0, .int .i64 0, .int .i64 0, .int .i64 0]).cells 1).toList) = W2 := ⟨_, rfl⟩
    rw [hW2] at hclr
    have HW2 := Lib.hid hW2
    clear hW2
    go_wp2
    go_ret
    rw [← HW2.out]
    refine ⟨_, rfl, ?_, fr_trans HCL.out.2.2 (fr_setRow _ _ _) fun _ _ h => h⟩
    have hsz2 := HL.out.2
    have hcs := HC.out.2.2.1
    have hwl : (withoutP l m).length = m := by rw [withoutP, List.length_append, List.length_take, List.length_drop, HN.out]; omega
    refine ⟨by rw [flat_len step_len], .inr ⟨g, off, (m + 1), _, by rw [hwl]; rfl, HC.out.1, setRow_at HCL.out.2.1, by omega, by unfold maxLen; omega, ?_, ?_⟩⟩
    · rw [spl_size (by simp [size_zeroCells, Value.cells]; omega)]
      omega
    · rw [spl_list, hwl, List.append_assoc, List.drop_append_of_le_length (by rw [List.length_take, Array.length_toList]; omega), List.drop_take, List.take_append_of_le_length (by rw [List.length_take, List.length_drop, Array.length_toList]; omega), show off + m * 4 - off = m * 4 by omega, List.take_take, Nat.min_self, HL.out.1]
      rfl

  · have hc2 : ¬ (c : Int) = (i : Int) + 1 := by omega
    obtain ⟨i0, hi0, hz⟩ := Option.map_eq_some_iff.1 info_step
    simp only [Prod.mk.injEq] at hz
    have hra := fun ty => run_append_room (P := Try.prog) w.drew 23 ty 39 i0 4 Try.underlying23 hi0 hz.2.1 g off i c cur HC.out.2.1 (.slice (some ⟨g, off + (i + 1) * 4, none⟩) (m - i) (c - (i + 1))) (m - i) (((l.drop (i + 1)).take (m - i)).flatMap Step.cells) (rdC_below (HR.out (off + (i + 1) * 4) (c - (i + 1)) (fun _ => rfl)) (Below.refl _ _).drew) (by omega) HC.out.2.2.1
    rw [Nat.add_sub_cancel' hi] at hra
    have hY : ((((l.drop (i + 1)).take (m - i)).flatMap Step.cells) : List Value) = (l.drop (i + 1)).flatMap Step.cells := (by rw [List.take_of_length_le (by rw [List.length_drop, HN.out]; omega)])
    rw [hY] at hra
    have hYl : ((l.drop (i + 1)).flatMap Step.cells).length = (m - i) * 4 := by rw [flat_len step_len, List.length_drop, HN.out]; omega
    have hlist := del_list (L := cur.toList) (Y := (l.drop (i + 1)).flatMap Step.cells) (off := off) (m := m) (i := i) (by omega) (by have := HC.out.2.2.1; rw [Array.length_toList]; omega) hYl (off + i * 4 + ((l.drop (i + 1)).flatMap Step.cells).length)
    rw [← spl_list, HC.out.2.2.2, ← flat_take step_len, ← List.flatMap_append] at hlist
    have hsz := spl_size (cur := cur) (o := off + i * 4) (cs := (l.drop (i + 1)).flatMap Step.cells) (by have := HC.out.2.2.1; rw [hYl]; omega)
    generalize spl cur (off + i * 4) ((l.drop (i + 1)).flatMap Step.cells) = cur1 at *
    have HA := Lib.hid hra
    have HL := Lib.hid (And.intro hlist hsz)
    clear hra hY hYl hlist hsz hi0 hz
    go_wp2
    go_region_law (refine step_append_run _ (by rfl) _ _ _ _ (by rfl) (.slice (some ⟨g, off, none⟩) i c) (.slice (some ⟨g, off + (i + 1) * 4, none⟩) (m - i) (c - (i + 1))) (by go_simp <;> rfl) (by go_simp <;> rfl) (HA.out _) ?_)
    have hW1 : (w.drew.setRow g cur1).heap[g]? = some (.cells cur1 39 (0, 0)) := setRow_at (w := w.drew) HC.out.2.1
    have hF1 : Fr (fun j => j = g) w (w.drew.setRow g cur1) := fr_trans (fr_of_below (Below.refl _ _).drew) (fr_setRow _ _ _) fun _ _ h => h
    have hcl := fun ty => run_clear_k (P := Try.prog) (w.drew.setRow g cur1) 23 ty 39 _ Try.underlying23 zero_step (by simp [Value.cells, Value.oneCell']) g (off + m * 4) 1 (c - m) cur1 hW1 (by omega) (by have := HC.out.2.2.1; have := HL.out.2; simp [Value.cells]; omega)
    have HCL := Lib.hid (And.intro hcl (And.intro hW1 hF1))
    clear hcl hW1 hF1
    generalize w.drew.setRow g cur1 = W1 at *
    have m1 : (m : Int) ≤ (m : Int) + 1 := by omega
    have hclr := HCL.out.1
    obtain ⟨W2, hW2⟩ : ∃ W2, W1.setRow g (spl cur1 (off + m * 4) (Builtin.zeroCells (Value.agg #[.int .i64 0, .int .i64 0, .int .i64 0, .int .i64 0]).cells 1).toList) = W2 := ⟨_, rfl⟩
    rw [hW2] at hclr
    have HW2 := Lib.hid hW2
    clear hW2
    go_wp2
    go_ret
    rw [← HW2.out]
    refine ⟨_, rfl, ?_, fr_trans HCL.out.2.2 (fr_setRow _ _ _) fun _ _ h => h⟩
    have hsz2 := HL.out.2
    have hcs := HC.out.2.2.1
    have hwl : (withoutP l i).length = m := by rw [withoutP, List.length_append, List.length_take, List.length_drop, HN.out]; omega
    refine ⟨by rw [flat_len step_len], .inr ⟨g, off, c, _, by rw [hwl]; rfl, HC.out.1, setRow_at HCL.out.2.1, by omega, by unfold maxLen; omega, ?_, ?_⟩⟩
    · rw [spl_size (by simp [size_zeroCells, Value.cells]; omega)]
      omega
    · rw [spl_list, hwl, List.append_assoc, List.drop_append_of_le_length (by rw [List.length_take, Array.length_toList]; omega), List.drop_take, List.take_append_of_le_length (by rw [List.length_take, List.length_drop, Array.length_toList]; omega), show off + m * 4 - off = m * 4 by omega, List.take_take, Nat.min_self, HL.out.1]
      rfl

end Go.Proofs.Ytkoeplbkeboklaa
/- slices.Insert of one step, into a list of the call's own. -/
set_option linter.unusedVariables false
set_option linter.unusedSimpArgs false
namespace Go.Proofs.Ytkoeplbkeboklaa
open Go.RowKit
theorem ins_room {L Y V : List Value} {off n i : Nat} (hi : i ≤ n) (hL : off + (n + 1) * 4 ≤ L.length) (hY : Y.length = (n - i) * 4) (hV : V.length = 4) (r : List Value) :
    (((L.take (off + (i + 1) * 4) ++ Y ++ r).take (off + i * 4) ++ V ++ (L.take (off + (i + 1) * 4) ++ Y ++ r).drop (off + i * 4 + V.length)).drop off).take ((n + 1) * 4) = (L.drop off).take (i * 4) ++ V ++ Y := by
  have hlen : (L.take (off + (i + 1) * 4)).length = off + (i + 1) * 4 := by rw [List.length_take]; omega
  have h1 : (L.take (off + (i + 1) * 4) ++ Y ++ r).take (off + i * 4) = L.take (off + i * 4) := by
    rw [List.append_assoc, List.take_append_of_le_length (by omega), List.take_take, Nat.min_eq_left (by omega)]
  have h2 : (L.take (off + (i + 1) * 4) ++ Y ++ r).drop (off + i * 4 + V.length) = Y ++ r := by
    rw [List.append_assoc, show off + i * 4 + V.length = (L.take (off + (i + 1) * 4)).length by omega, List.drop_left]
  have h3 : (L.take (off + i * 4)).drop off = (L.drop off).take (i * 4) := by rw [List.drop_take]; congr 1; omega
  rw [h1, h2, List.append_assoc, List.drop_append_of_le_length (by rw [List.length_take]; omega), h3, ← List.append_assoc V, ← List.append_assoc, ← List.append_assoc]
  have h4 : (n + 1) * 4 = ((L.drop off).take (i * 4) ++ V ++ Y).length := by simp only [List.length_append, List.length_take, List.length_drop, hY, hV]; omega
  rw [h4]
  exact List.take_left
theorem ins_new {X Y V Z : List Value} {n i : Nat} (hi : i ≤ n) (hX : X.length = i * 4) (hY : Y.length = (n - i) * 4) (hV : V.length = 4) (r : List Value) (q : Nat) :
    ((((X ++ Z).take (i * 4) ++ V ++ (X ++ Z).drop q).take ((i + 1) * 4) ++ Y ++ r).drop 0).take ((n + 1) * 4) = X ++ V ++ Y := by
  have h1 : (X ++ Z).take (i * 4) = X := by rw [← hX]; exact List.take_left
  have h2 : (X ++ V ++ (X ++ Z).drop q).take ((i + 1) * 4) = X ++ V := by
    rw [show (i + 1) * 4 = (X ++ V).length by rw [List.length_append]; omega]; exact List.take_left
  rw [h1, h2, List.drop_zero, show (n + 1) * 4 = (X ++ V ++ Y).length by simp only [List.length_append]; omega]
  exact List.take_left
theorem ins_flat {l : List Step} {s : Step} {i : Nat} : (l.take i ++ s :: l.drop i).flatMap Step.cells = (l.take i).flatMap Step.cells ++ s.cells ++ (l.drop i).flatMap Step.cells := by
  rw [List.flatMap_append, List.flatMap_cons, List.append_assoc]
theorem win_open {w : World} {g off n c e : Nat} {S : Nat → Prop} {l : List Step} (hw : Win Step.cells 4 e w (.slice (some ⟨g, off, none⟩) n c) S l) (hn : l.length = n) :
    ∃ cur, S g ∧ w.heap[g]? = some (.cells cur e (0, 0)) ∧ n ≤ c ∧ c ≤ maxLen ∧ off + c * 4 ≤ cur.size ∧ (cur.toList.drop off).take (n * 4) = l.flatMap Step.cells := by
  rcases hw.2 with ⟨h1, _⟩ | ⟨g', off', cap, cur, hv, hS, hg, h1, h2, h3, h4⟩
  · simp at h1
  · injection hv with e1 e2 e3
    injection e1 with e1
    injection e1 with e1 e4
    subst e1; subst e4; subst e3
    rw [hn] at h1 h4
    exact ⟨cur, hS, hg, h1, h2, h3, h4⟩
theorem overlaps_apart (vb g o lb cb : Nat) (cv cg : Array Value) (w : World) (h1 : w.heap[vb]? = some (.cells cv 39 (0, 0))) (h2 : w.heap[g]? = some (.cells cg 39 (0, 0))) (hne : vb ≠ g) (h0 : cg.size ≠ 0) :
    (callFunc 87 #[.slice (some ⟨vb, 0, none⟩) 1 1, .slice (some ⟨g, o, none⟩) lb cb]).run Try.prog w = .ok (.value (.bool false)) w := by
  rw [run_callFunc_extern Try.func87 (by kernel_rfl) (by kernel_rfl) (by kernel_rfl) (e := Extern.SlicesOverlaps.overlaps #[23, 23] #[4]) (by kernel_rfl),
    Lib.run_overlaps_apart w 23 4 39 Try.underlying23 4 Try.sizeOf39 ⟨vb, 0, none⟩ ⟨g, o, none⟩ 1 1 lb cb hne 39 39 cv.size cg.size (by simp [World.shape?, h1]) (by simp [World.shape?, h2]) h0 (free_blk h1 _) (free_blk h1 _)]
  rfl
set_option maxHeartbeats 4000000 in
theorem insEnd_any (a : Option Addr) (c vb : Nat) (S : Nat → Prop) (l : List Step) (s : Step) (w : World) (hw : Win Step.cells 4 39 w (.slice a l.length c) S l) (hv : w.heap[vb]? = some (.cells s.cells.toArray 39 (0, 0))) (hl : l.length < 100000) :
    Calls Try.prog 62 #[.slice a l.length c, .int .i64 l.length, .slice (some ⟨vb, 0, none⟩) 1 1] w fun e w' => ∃ v, e = .returned v ∧ Win Step.cells 4 39 w' v (fun j => S j ∨ w.heap.size ≤ j) (l ++ [s]) ∧ Fr (fun j => some j = (Value.slice a l.length c).ownBlock) w w' := by
  have hrv : RdC 4 w (.slice (some ⟨vb, 0, none⟩) 1 1) 1 s.cells := ⟨rfl, step_one s, _, _, rfl, fun _ => ⟨vb, 0, rfl, (Array.getElem?_eq_some_iff.1 hv).1, fun j u hu => by rw [Nat.zero_add, cell_blk hv j]; simpa using hu⟩⟩
  obtain ⟨a', c', hav, hnc, _⟩ := winC_slice hw
  injection hav with h1 h2 h3
  subst h3
  clear hv h1 h2
  have HW := Lib.hid (And.intro hw hrv)
  clear hw hrv
  have k1 : (l.length : Int) ≤ (c : Int) := by omega
  by_cases hc : c = l.length
  · subst hc
    go_enter Try.func62, Try.ntmps62
    go_wp2_with (at_builtin; (refine wpList_append_rd w (by rfl) _ _ _ (by rfl) 39 4 32 _ Try.underlying23 info_step rfl (by decide) _ S l.length _ (by rfl) _ (by rfl) HW.out.1 1 _ HW.out.2 (by unfold maxLen; omega) (by omega) ?_); intro v2 w2 hwin2 hfr2 hsz2; obtain ⟨a2, c2, rfl, hn2, hm2⟩ := winC_slice hwin2)
    all_goals
      go_ret
      refine ⟨_, rfl, ?_, hfr2⟩
      refine (?_ : WinC _ _ _ _ _ _ _)
      rw [List.length_append, List.flatMap_append]
      exact winC_mono (by simpa using hwin2) fun i hi => by rcases hi with h | h; exact .inl h.1; exact .inr (by omega)

  · have hc2 : ¬ ((c : Int) = (l.length : Int)) := by omega
    go_enter Try.func62, Try.ntmps62
    go_wp2_with (at_builtin; (refine wpList_append_rd w (by rfl) _ _ _ (by rfl) 39 4 32 _ Try.underlying23 info_step rfl (by decide) _ S l.length _ (by rfl) _ (by rfl) HW.out.1 1 _ HW.out.2 (by unfold maxLen; omega) (by omega) ?_); intro v2 w2 hwin2 hfr2 hsz2; obtain ⟨a2, c2, rfl, hn2, hm2⟩ := winC_slice hwin2)
    all_goals
      go_ret
      refine ⟨_, rfl, ?_, hfr2⟩
      refine (?_ : WinC _ _ _ _ _ _ _)
      rw [List.length_append, List.flatMap_append]
      exact winC_mono (by simpa using hwin2) fun i hi => by rcases hi with h | h; exact .inl h.1; exact .inr (by omega)

set_option maxHeartbeats 4000000 in
theorem insMid_any (g off c vb n i : Nat) (S : Nat → Prop) (l : List Step) (s : Step) (w : World) (hw : Win Step.cells 4 39 w (.slice (some ⟨g, off, none⟩) n c) S l) (hn : l.length = n) (hv : w.heap[vb]? = some (.cells s.cells.toArray 39 (0, 0))) (hne : vb ≠ g) (hi : i < n) (hl : n < 100000) :
    Calls Try.prog 62 #[.slice (some ⟨g, off, none⟩) n c, .int .i64 i, .slice (some ⟨vb, 0, none⟩) 1 1] w fun e w' => ∃ v, e = .returned v ∧ Win Step.cells 4 39 w' v (fun j => S j ∨ w.heap.size ≤ j) (l.take i ++ s :: l.drop i) ∧ Fr (fun j => j = g) w w' := by
  obtain ⟨cur, hS, hg, hnc, hcm, hcs, ht⟩ := win_open hw hn
  have hrd : Rd Step.cells 4 w (.slice (some ⟨g, off, none⟩) n c) l := win_rd step_len hw
  obtain ⟨i0, hi0, hz⟩ := Option.map_eq_some_iff.1 info_step
  simp only [Prod.mk.injEq] at hz
  have HI := Lib.hid (And.intro hi0 hz)
  have hvw := (Array.getElem?_eq_some_iff.1 hv).1
  have hgw := (Array.getElem?_eq_some_iff.1 hg).1
  have hX : ((cur.toList.drop off).take (n * 4)).take (i * 4) = (l.take i).flatMap Step.cells := by rw [ht, flat_take step_len]
  rw [List.take_take, Nat.min_eq_left (by omega)] at hX
  have hXl : ((l.take i).flatMap Step.cells).length = i * 4 := by rw [flat_len step_len, List.length_take]; omega
  have hYl : ((l.drop i).flatMap Step.cells).length = (n - i) * 4 := by rw [flat_len step_len, List.length_drop]; omega
  have hVl : s.cells.length = 4 := rfl
  have hVr : ∀ W : World, W.heap[vb]? = some (.cells s.cells.toArray 39 (0, 0)) → RdC 4 W (.slice (some ⟨vb, 0, none⟩) 1 1) 1 s.cells := fun W hv => ⟨rfl, step_one s, _, _, rfl, fun _ => ⟨vb, 0, rfl, (Array.getElem?_eq_some_iff.1 hv).1, fun j u hu => by rw [Nat.zero_add, cell_blk hv j]; simpa using hu⟩⟩
  have hYr : ∀ c', RdC 4 w (.slice (some ⟨g, off + i * 4, none⟩) (n - i) c') (n - i) ((l.drop i).flatMap Step.cells) := fun c' => by
    have := rdC_cut step_len (by decide) step_one hrd i (n - i) (by omega) (off + i * 4) c' (fun _ => rfl)
    rwa [List.take_of_length_le (by rw [List.length_drop]; omega)] at this
  have hwl : (l.take i ++ s :: l.drop i).length = n + 1 := by simp only [List.length_append, List.length_take, List.length_cons, List.length_drop]; omega
  simp only [maxLen] at hcm
  have n1 : (i : Int) ≤ (n : Int) := by omega
  have n2 : ¬ ((i : Int) = (n : Int)) := by omega
  have n3 : (i : Int) ≤ (c : Int) := by omega
  have n4 : ¬ ((c : Int) = (i : Int)) := by omega
  have n4' : ¬ (c = i) := by omega
  have n5 : (i : Int) + 1 ≤ (n : Int) + 1 := by omega
  have n6 : (i : Int) ≤ (n : Int) + 1 := by omega
  have n7 : (0 : Int) ≤ (i : Int) + 1 := by omega
  have n8 : IntKind.i64.wrap ((i : Int) + 1) = (i : Int) + 1 := Go.IntWalk.i64_in _ (by omega)
  have n9 : IntKind.i64.wrap ((n : Int) + 1) = (n : Int) + 1 := Go.IntWalk.i64_in _ (by omega)
  by_cases hroom : n + 1 ≤ c
  · -- there is room
    have r1 : ¬ ((c : Int) < (n : Int) + 1) := by omega
    have r2 : (n : Int) + 1 ≤ (c : Int) := by omega
    have r3 : ¬ (c = i + 1) := by omega
    have r4 : ¬ ((c : Int) = (i : Int) + 1) := by omega
    have hov := fun lb cb => overlaps_apart vb g (off + (i + 1) * 4) lb cb _ cur w hv hg hne (by omega)
    have hcp1 := fun ty => run_copy_to (P := Try.prog) w.drew 23 23 ty 39 i0 4 Try.underlying23 hi0 hz.2.1 g (off + (i + 1) * 4) (n - i) (c - (i + 1)) cur 39 hg ⟨g, off + i * 4, none⟩ (n + 1 - i) (c - i) (c - i) _ (rdC_below (hYr (c - i)) (Below.refl _ _).drew) (by omega) (by omega)
    have hsz1 := spl_size (cur := cur) (o := off + (i + 1) * 4) (cs := (l.drop i).flatMap Step.cells) (by rw [hYl]; omega)
    have hW1 : (w.drew.setRow g (spl cur (off + (i + 1) * 4) ((l.drop i).flatMap Step.cells))).heap[g]? = some (.cells (spl cur (off + (i + 1) * 4) ((l.drop i).flatMap Step.cells)) 39 (0, 0)) := setRow_at (w := w.drew) hg
    have hF1 : Fr (fun j => j = g) w (w.drew.setRow g (spl cur (off + (i + 1) * 4) ((l.drop i).flatMap Step.cells))) := fr_trans (fr_of_below (Below.refl _ _).drew) (fr_setRow _ _ _) fun _ _ h => h
    have hlist := ins_room (L := cur.toList) (Y := (l.drop i).flatMap Step.cells) (V := s.cells) (off := off) (n := n) (i := i) (by omega) (by rw [Array.length_toList]; omega) hYl hVl (cur.toList.drop (off + (i + 1) * 4 + ((l.drop i).flatMap Step.cells).length))
    rw [← spl_list, ← spl_list, hX, ← ins_flat] at hlist
    generalize spl cur (off + (i + 1) * 4) ((l.drop i).flatMap Step.cells) = cur1 at *
    generalize w.drew.setRow g cur1 = W1 at *
    have hv1 := (hF1.block vb hvw hne).trans hv
    have hcp2 := fun ty => run_copy_k (P := Try.prog) W1 23 23 ty 39 i0 4 Try.underlying23 hi0 hz.2.1 g (off + i * 4) (n + 1 - i) (c - i) cur1 39 hW1 (.slice (some ⟨vb, 0, none⟩) 1 1) 1 s.cells (hVr W1 hv1) (by omega) (by omega)
    have hsz2 := spl_size (cur := cur1) (o := off + i * 4) (cs := s.cells) (by rw [hVl]; omega)
    have HZ := Lib.hid (And.intro hW1 (And.intro hF1 (And.intro hlist (And.intro hsz1 (And.intro hsz2 (And.intro hS (And.intro hcs hwl)))))))
    have H1 := Lib.hid hcp1
    have H2 := Lib.hid hcp2
    clear hcp1 hcp2 hW1 hF1 hlist hsz1 hsz2 hv1 hw hn hv hrd hX hXl hYl hVl hVr hYr hi0 hz hg ht hS hcs hwl
    go_enter Try.func62, Try.ntmps62
    go_wp2_with (simp only [hov])
    go_region_law (refine step_copy_run _ (by rfl) _ _ _ _ (by rfl) (.slice (some ⟨g, off + (i + 1) * 4, none⟩) (n - i) (c - (i + 1))) (.slice (some ⟨g, off + i * 4, none⟩) (n + 1 - i) (c - i)) (by go_simp <;> rfl) (by go_simp <;> rfl) (H1.out _) ?_)
    have hcp2 := H2.out
    obtain ⟨W2, hW2⟩ : ∃ W2, W1.setRow g (spl cur1 (off + i * 4) s.cells) = W2 := ⟨_, rfl⟩
    rw [hW2] at hcp2
    have HW2 := Lib.hid hW2
    clear hW2
    go_wp2
    go_ret
    rw [← HW2.out]
    refine ⟨_, rfl, ?_, fr_trans HZ.out.2.1 (fr_setRow _ _ _) fun _ _ h => h⟩
    refine ⟨by rw [flat_len step_len], .inr ⟨g, off, c, _, by rw [HZ.out.2.2.2.2.2.2.2]; rfl, .inl HZ.out.2.2.2.2.2.1, setRow_at HZ.out.1, by rw [HZ.out.2.2.2.2.2.2.2]; exact hroom, by unfold maxLen; omega, by rw [HZ.out.2.2.2.2.1, HZ.out.2.2.2.1]; exact HZ.out.2.2.2.2.2.2.1, by rw [HZ.out.2.2.2.2.2.2.2]; exact HZ.out.2.2.1⟩⟩
  · -- there is none: a new row
    obtain rfl : c = n := by omega
    have r1 : (c : Int) < (c : Int) + 1 := by omega
    have hX0 : RdC 4 w.drew (.slice (some ⟨g, off, none⟩) i c) i ((l.take i).flatMap Step.cells) := by
      have := rdC_below (rdC_cut step_len (by decide) step_one hrd 0 i (by omega) off c (by omega)) (Below.refl _ _).drew
      rwa [List.drop_zero] at this
    have hold := run_first_rd (P := Try.prog) w.drew 4 i _ _ hX0
    have hra := fun ty => Lib.run_append_grow_zeros (P := Try.prog) w 23 3 ty 39 i0 _ .i64 .i64 Try.underlying23 Try.underlying3 hi0 hz.1 (some ⟨g, off, none⟩) i c _ (by rw [hz.2.1]; exact hold) (c + 1 - i) (by omega) (by rw [hz.2.1]; omega) (by omega) (by omega) (by rw [hz.2.2]; omega) (by rw [hz.2.2]; exact growslice_fits (by omega) (by omega))
    have hint : ((c + 1 - i : Nat) : Int) = (c : Int) + 1 - (i : Int) := by omega
    have hin : i + (c + 1 - i) = c + 1 := by omega
    have n10 : IntKind.i64.wrap ((c : Int) + 1 - (i : Int)) = (c : Int) + 1 - (i : Int) := Go.IntWalk.i64_in _ (by omega)
    rw [hint, hin] at hra
    have hG := grownCap_ge w (c + 1) c 39
    have hGm := grownCap_le_maxLen w (c + 1) c 39 (by unfold maxLen; omega)
    generalize grownCap w (c + 1) c 39 = G at *
    simp only [maxLen] at hGm
    obtain ⟨Z, hZ⟩ : ∃ Z : List Value, (((l.take i).flatMap Step.cells).toArray ++ Builtin.zeroCells (Value.agg #[.int .i64 0, .int .i64 0, .int .i64 0, .int .i64 0]).cells (c + 1 - i) ++ Builtin.zeroCells (Value.agg #[.int .i64 0, .int .i64 0, .int .i64 0, .int .i64 0]).cells (G - (c + 1))) = ((l.take i).flatMap Step.cells ++ Z).toArray := ⟨(Builtin.zeroCells (Value.agg #[.int .i64 0, .int .i64 0, .int .i64 0, .int .i64 0]).cells (c + 1 - i)).toList ++ (Builtin.zeroCells (Value.agg #[.int .i64 0, .int .i64 0, .int .i64 0, .int .i64 0]).cells (G - (c + 1))).toList, by apply Array.toList_inj.1; simp⟩
    have hR : (((l.take i).flatMap Step.cells).toArray ++ Builtin.zeroCells (Value.agg #[.int .i64 0, .int .i64 0, .int .i64 0, .int .i64 0]).cells (c + 1 - i) ++ Builtin.zeroCells (Value.agg #[.int .i64 0, .int .i64 0, .int .i64 0, .int .i64 0]).cells (G - (c + 1))).size = G * 4 := by
      simp only [Array.size_append, size_zeroCells, List.size_toArray, hXl, Value.cells]
      simp
      omega
    rw [hZ] at hra hR
    have hW1 : (w.drew.alloc (.cells ((l.take i).flatMap Step.cells ++ Z).toArray 39)).heap[w.heap.size]? = some (.cells ((l.take i).flatMap Step.cells ++ Z).toArray 39 (0, 0)) := heap_alloc_new w.drew _
    have hb1 : Below w.heap.size w (w.drew.alloc (.cells ((l.take i).flatMap Step.cells ++ Z).toArray 39)) := (Below.refl _ _).drew.alloc (Nat.le_refl _) _
    generalize w.drew.alloc (.cells ((l.take i).flatMap Step.cells ++ Z).toArray 39) = W1 at *
    have hcp1 := fun ty => run_copy_k (P := Try.prog) W1 23 23 ty 39 i0 4 Try.underlying23 hi0 hz.2.1 w.heap.size (i * 4) (c + 1 - i) (G - i) _ 39 hW1 (.slice (some ⟨vb, 0, none⟩) 1 1) 1 s.cells (hVr W1 ((hb1.block vb hvw).trans hv)) (by omega) (by rw [hR]; omega)
    have hsz1 := spl_size (cur := ((l.take i).flatMap Step.cells ++ Z).toArray) (o := i * 4) (cs := s.cells) (by rw [hR, hVl]; omega)
    have hlist := ins_new (X := (l.take i).flatMap Step.cells) (Y := (l.drop i).flatMap Step.cells) (V := s.cells) (Z := Z) (n := c) (i := i) (by omega) hXl hYl hVl
    have hW2 : (W1.setRow w.heap.size (spl ((l.take i).flatMap Step.cells ++ Z).toArray (i * 4) s.cells)).heap[w.heap.size]? = some (.cells (spl ((l.take i).flatMap Step.cells ++ Z).toArray (i * 4) s.cells) 39 (0, 0)) := setRow_at hW1
    have hb2 : Below w.heap.size w (W1.setRow w.heap.size (spl ((l.take i).flatMap Step.cells ++ Z).toArray (i * 4) s.cells)) := hb1.trans (below_of_fr (fr_setRow _ _ _) hb1.size fun i h => Nat.le_of_eq h.symm)
    have hl2 : (spl ((l.take i).flatMap Step.cells ++ Z).toArray (i * 4) s.cells).toList = ((l.take i).flatMap Step.cells ++ Z).take (i * 4) ++ s.cells ++ ((l.take i).flatMap Step.cells ++ Z).drop (i * 4 + s.cells.length) := spl_list _ _ _
    generalize spl ((l.take i).flatMap Step.cells ++ Z).toArray (i * 4) s.cells = R1 at *
    generalize W1.setRow w.heap.size R1 = W2 at *
    have hcp2 := fun ty => run_copy_k (P := Try.prog) W2.drew 23 23 ty 39 i0 4 Try.underlying23 hi0 hz.2.1 w.heap.size ((i + 1) * 4) (c - i) (G - (i + 1)) R1 39 hW2 (.slice (some ⟨g, off + i * 4, none⟩) (c - i) (c - i)) (c - i) _ (rdC_below (hYr (c - i)) hb2.drew) (by omega) (by rw [hsz1, hR]; omega)
    have hsz2 := spl_size (cur := R1) (o := (i + 1) * 4) (cs := (l.drop i).flatMap Step.cells) (by rw [hsz1, hR, hYl]; omega)
    have hlist2 := hlist (R1.toList.drop ((i + 1) * 4 + ((l.drop i).flatMap Step.cells).length)) (i * 4 + s.cells.length)
    rw [← hl2, ← spl_list, ← ins_flat] at hlist2
    have HZ := Lib.hid (And.intro hW2 (And.intro hb2 (And.intro hlist2 (And.intro (hsz2.trans (hsz1.trans hR)) hwl))))
    have H2 := Lib.hid hcp2
    have HRA := Lib.hid hra
    clear hra
    have m1 : ¬ (G = i) := by omega
    have m2 : ¬ (G = i + 1) := by omega
    have m3 : (i : Int) ≤ (G : Int) := by omega
    have m4 : (c : Int) + 1 ≤ (G : Int) := by omega
    clear hold hX0 hint hin hG hZ hR hW1 hb1 hsz1 hlist hW2 hb2 hl2 hcp2 hsz2 hlist2 hw hn hv hrd hX hXl hYl hVl hVr hYr hi0 hz hg ht hS hcs hwl
    go_enter Try.func62, Try.ntmps62
    go_wp2_with (at_builtin; refine wpList_append_run _ (by rfl) _ _ _ _ (by rfl) (.slice (some ⟨g, off, none⟩) i c) (.int .i64 ((c : Int) + 1 - (i : Int))) (by rfl) (by rfl) (HRA.out _) ?_)
    go_region_law (refine step_copy_run _ (by rfl) _ _ _ _ (by rfl) (.slice (some ⟨w.heap.size, (i + 1) * 4, none⟩) (c - i) (G - (i + 1))) (.slice (some ⟨g, off + i * 4, none⟩) (c - i) (c - i)) (by go_simp <;> rfl) (by go_simp <;> rfl) (H2.out _) ?_)
    go_wp2
    go_ret
    have hf : Fr (fun j => j = g) w (W2.drew.setRow w.heap.size (spl R1 ((i + 1) * 4) ((l.drop i).flatMap Step.cells))) := fr_of_below (HZ.out.2.1.drew.trans (below_of_fr (fr_setRow _ _ _) HZ.out.2.1.size fun i h => Nat.le_of_eq h.symm))
    refine ⟨_, rfl, ?_, hf⟩
    refine ⟨by rw [flat_len step_len], .inr ⟨w.heap.size, 0, G, _, by rw [HZ.out.2.2.2.2]; rfl, .inr (Nat.le_refl _), setRow_at (w := W2.drew) HZ.out.1, by rw [HZ.out.2.2.2.2]; omega, by unfold maxLen; omega, by rw [HZ.out.2.2.2.1]; omega, by rw [HZ.out.2.2.2.2]; exact HZ.out.2.2.1⟩⟩
end Go.Proofs.Ytkoeplbkeboklaa
/- The plain side of retro: a formed line with a step more, or less, is formed; what Insert, Delete return. No program in sight. -/
set_option linter.unusedVariables false
set_option linter.unusedSimpArgs false
namespace Go.Proofs.Ytkoeplbkeboklaa
def strictL (l : List Step) : Prop := l.Pairwise fun a b => a.at_ < b.at_
theorem incP_of_pair {l : List Step} (h : strictL l) : incP l = true :=
  (incP_iff l).2 fun i x y h1 h2 => by
    obtain ⟨l1, rfl⟩ := List.getElem?_eq_some_iff.1 h1
    obtain ⟨l2, rfl⟩ := List.getElem?_eq_some_iff.1 h2
    exact List.pairwise_iff_getElem.1 h i (i + 1) l1 l2 (by omega)
theorem isLineP_mk {k : Int} {l : List Step} (h1 : 1 ≤ k) (h3 : k ≤ 3) (hl : l.length ≤ 60) (ha : ∀ x ∈ l, isStepP k x = true) (hs : strictL l) : isLineP k l = true := by
  simp only [isLineP, Bool.and_eq_true, decide_eq_true_eq, List.all_eq_true]
  exact ⟨⟨⟨⟨h1, h3⟩, hl⟩, ha⟩, incP_of_pair hs⟩
theorem line_strict {k : Int} {l : List Step} (h : isLineP k l = true) : strictL l := incP_pair (isLineP_spec h).2.2.2.2
theorem take_lt {l : List Step} {t : Int} (hs : strictL l) : ∀ x ∈ l.take (placeAt t l), x.at_ < t := fun x hx => by
  obtain ⟨i, hi, rfl⟩ := List.getElem_of_mem hx
  rw [List.length_take] at hi
  rw [List.getElem_take]
  exact (placeAt_iff hs (List.getElem?_eq_getElem (by omega))).2 (by omega)
theorem drop_ge {l : List Step} {t : Int} (hs : strictL l) : ∀ x ∈ l.drop (placeAt t l), t ≤ x.at_ := fun x hx => by
  obtain ⟨i, hi, rfl⟩ := List.getElem_of_mem hx
  rw [List.length_drop] at hi
  rw [List.getElem_drop]
  have := (placeAt_iff (t := t) hs (List.getElem?_eq_getElem (show placeAt t l + i < l.length by omega)))
  have h2 : ¬ (l[placeAt t l + i].at_ < t) := fun h => by have := this.1 h; omega
  omega
theorem drop_gt {l : List Step} {t : Int} (hs : strictL l) (hh : hasP l t = false) : ∀ x ∈ l.drop (placeAt t l), t < x.at_ := fun x hx => by
  have h1 := drop_ge hs x hx
  have hlt : placeAt t l < l.length := by
    have := List.length_pos_of_mem hx
    rw [List.length_drop] at this; omega
  have h0 : l[placeAt t l]? = some l[placeAt t l] := List.getElem?_eq_getElem hlt
  have hne : l[placeAt t l].at_ ≠ t := by
    have : hasP l t = (l[placeAt t l].at_ == t) := by simp only [hasP, h0]
    rw [this] at hh; simpa using hh
  rw [List.drop_eq_getElem_cons hlt] at hx
  have h2 : t ≤ l[placeAt t l].at_ := drop_ge hs _ (by rw [List.drop_eq_getElem_cons hlt]; exact List.mem_cons_self)
  rcases List.mem_cons.1 hx with rfl | hx'
  · omega
  · have hp : (l.drop (placeAt t l)).Pairwise fun a b => a.at_ < b.at_ := hs.sublist (List.drop_sublist _ _)
    rw [List.drop_eq_getElem_cons hlt] at hp
    have := (List.pairwise_cons.1 hp).1 x hx'
    omega
theorem with_strict {l : List Step} {s : Step} (hs : strictL l) (hh : hasP l s.at_ = false) : strictL (withP l s) := by
  unfold withP
  refine List.pairwise_append.2 ⟨hs.sublist (List.take_sublist _ _), List.pairwise_cons.2 ⟨fun x hx => drop_gt hs hh x hx, hs.sublist (List.drop_sublist _ _)⟩, fun a ha b hb => ?_⟩
  have h1 := take_lt hs a ha
  rcases List.mem_cons.1 hb with rfl | hb
  · exact h1
  · have := drop_gt hs hh b hb; omega
theorem with_mem {l : List Step} {s x : Step} : x ∈ withP l s ↔ x = s ∨ x ∈ l := by
  unfold withP
  rw [List.mem_append, List.mem_cons]
  conv => rhs; rw [← List.take_append_drop (placeAt s.at_ l) l, List.mem_append]
  constructor
  · rintro (h | h | h) <;> simp [h]
  · rintro (h | h | h) <;> simp [h]
theorem with_length (l : List Step) (s : Step) : (withP l s).length = l.length + 1 := by
  have := placeAt_le s.at_ l
  simp [withP]; omega
theorem isLineP_with {k : Int} {l : List Step} {s : Step} (h : isLineP k l = true) (hs : isStepP k s = true) (hh : hasP l s.at_ = false) (hl : l.length < 60) : isLineP k (withP l s) = true := by
  obtain ⟨h1, h3, _, ha, _⟩ := isLineP_spec h
  exact isLineP_mk h1 h3 (by rw [with_length]; omega) (fun x hx => (with_mem.1 hx).elim (fun e => e ▸ hs) (ha x)) (with_strict (line_strict h) hh)
theorem without_sub (l : List Step) (i : Nat) : (withoutP l i).Sublist l := by
  unfold withoutP
  conv => rhs; rw [← List.take_append_drop i l]
  exact (List.Sublist.refl _).append (by rw [← List.drop_drop]; exact List.drop_sublist _ _)
theorem isLineP_without {k : Int} {l : List Step} (i : Nat) (h : isLineP k l = true) : isLineP k (withoutP l i) = true := by
  obtain ⟨h1, h3, hl, ha, _⟩ := isLineP_spec h
  have hsub := without_sub l i
  exact isLineP_mk h1 h3 (Nat.le_trans hsub.length_le hl) (fun x hx => ha x (hsub.subset hx)) ((line_strict h).sublist hsub)
theorem has_lt {l : List Step} {t : Int} (h : hasP l t = true) : placeAt t l < l.length := by
  unfold hasP at h
  split at h
  · rename_i s hs; exact (List.getElem?_eq_some_iff.1 hs).1
  · cases h
def insertP (k : Int) (l : List Step) (s : Step) : (Int × List Step) × List Span × Int :=
  if isLineP k l && isStepP k s then
    if hasP l s.at_ then ((0, []), [], 7) else if l.length = 60 then ((0, []), [], 3) else ((k, withP l s), diffOf k l (withP l s), 0)
  else ((0, []), [], 2)
def deleteP (k : Int) (l : List Step) (t : Int) : (Int × List Step) × List Span × Int :=
  if isLineP k l then
    if hasP l t then ((k, withoutP l (placeAt t l)), diffOf k l (withoutP l (placeAt t l)), 0) else ((0, []), [], 5)
  else ((0, []), [], 2)
end Go.Proofs.Ytkoeplbkeboklaa
/- The reference's Insert. -/
set_option linter.unusedVariables false
set_option linter.unusedSimpArgs false
namespace Go.Proofs.Ytkoeplbkeboklaa
open Go.RowKit
theorem win_slok {α : Type} {enc : α → List Value} {k e : Nat} {w : World} {v : Value} {S : Nat → Prop} {xs : List α} (h : Win enc k e w v S xs) : SlOk v := by
  rcases h.2 with ⟨h1, _⟩ | ⟨g, off, cap, cur, hv, _, _, hnc, _⟩
  · exact .inl h1
  · exact .inr ⟨g, off, _, cap, hv, hnc⟩
set_option maxHeartbeats 4000000 in
theorem refInsert_any (k : Int) (v : Value) (l : List Step) (s : Step) (w : World) (hr : Rd Step.cells 4 w v l) (hcap : SlOk v) :
    Calls Try.prog 23 #[.agg #[.int .i64 k, v], .agg #[.int .i64 s.at_, .int .i64 s.do_, .int .i64 s.key, .int .i64 s.val]] w fun e w' =>
      ∃ v' vs, e = .returned (.tuple #[.agg #[.int .i64 (insertP k l s).1.1, v'], vs, .int .i64 (insertP k l s).2.2]) ∧ Win Step.cells 4 39 w' v' (fun i => w.heap.size ≤ i) (insertP k l s).1.2 ∧ Win Span.cells 2 58 w' vs (fun i => w.heap.size ≤ i) (insertP k l s).2.1 ∧ Below w.heap.size w w' := by
  obtain ⟨a, c, rfl⟩ : ∃ a c, v = .slice a l.length c := by obtain ⟨_, a, c, rfl, _⟩ := hr; exact ⟨a, c, rfl⟩
  have HR := Lib.hid (And.intro hr hcap)
  have HC := Lib.hid (fun W h => good_any k _ l W (hr.below h))
  clear hr hcap
  cases hl : isLineP k l with
  | false =>
    have hat : insertP k l s = ((0, []), [], 2) := by simp [insertP, hl]
    rw [hat]
    rw [hl] at HC
    clear hat hl
    go_enter Try.func23, Try.ntmps23
    go_wp2_with fail
    refine named_box3 (G := fun W => Calls _ _ _ W _) w _ _ _ _ _ _ fun W0 hb0 hz0 hx0 hx1 hx2 => ?_
    refine (HC.out _ hb0).mono ?_
    rintro e w1 ⟨rfl, hb1⟩
    have hB := hb0.trans (hb1.mono (by omega))
    have hr2 := (hb1.block _ (by omega)).trans hx2
    have f0 := cell_blk hr2 0
    have f1 := cell_blk hr2 1
    have k0 := free_blk hr2 0
    have k1 := free_blk hr2 1
    have hE := line_end (k := 0) hB.size hB hr2 (by omega) (win_nil Step.cells 4 39 w1 (fun i => i ≠ w.heap.size + 1 + 1 ∧ w.heap.size ≤ i)) (fun i hi => hi)
    have HE := Lib.hid (hE _ rfl)
    clear hE hB hr2
    go_wp2
    have g0 := HE.out.1
    have g1 := HE.out.2.1
    exact bodyPost_ret (v := .tuple #[.agg #[.int .i64 0, .slice none 0 0], .slice none 0 0, .int .i64 2]) (by simp [results, Try.results23, go_sem, g0, g1]) rfl ⟨_, _, rfl, winC_nil _ _ _ _, winC_nil _ _ _ _, HE.out.2.2.2⟩

  | true =>
    rw [hl] at HC
    have hlen := line_len hl
    have HL := Lib.hid hl
    have HS := Lib.hid (fun W => refStep_any k s W)
    have HH := Lib.hid (fun W h => has_any k _ l s.at_ W (HR.out.1.below h) (by omega))
    clear hl
    cases hs : isStepP k s with
    | false =>
      have hat : insertP k l s = ((0, []), [], 2) := by simp [insertP, hs]
      rw [hat]
      rw [hs] at HS
      clear hat hs
      go_enter Try.func23, Try.ntmps23
      go_wp2_with fail
      refine named_box3 (G := fun W => Calls _ _ _ W _) w _ _ _ _ _ _ fun W0 hb0 hz0 hx0 hx1 hx2 => ?_
      refine (HC.out _ hb0).mono ?_
      rintro e w1 ⟨rfl, hb1⟩
      have hB1 := hb0.trans (hb1.mono (by omega))
      have hz1 := hb1.size
      have d0 : w1.cell? ⟨w.heap.size, 0, none⟩ = some (.int .i64 k) := below_cell hb1 (cell_blk hx0 0)
      have d1 : w1.cell? ⟨w.heap.size, 1, none⟩ = some (.slice a l.length c) := below_cell hb1 (cell_blk hx0 1)
      have e0 : w1.cell? ⟨w.heap.size + 1, 0, none⟩ = some (.int .i64 s.at_) := below_cell hb1 (cell_blk hx1 0)
      have e1 : w1.cell? ⟨w.heap.size + 1, 1, none⟩ = some (.int .i64 s.do_) := below_cell hb1 (cell_blk hx1 1)
      have e2 : w1.cell? ⟨w.heap.size + 1, 2, none⟩ = some (.int .i64 s.key) := below_cell hb1 (cell_blk hx1 2)
      have e3 : w1.cell? ⟨w.heap.size + 1, 3, none⟩ = some (.int .i64 s.val) := below_cell hb1 (cell_blk hx1 3)
      have HB1 := Lib.hid (And.intro hB1 (And.intro ((hb1.block _ (by omega)).trans hx2) hz1))
      clear hB1 hx0 hx1 hx2 hb0 hb1

      go_wp2_with fail
      refine (HS.out _).mono ?_
      rintro e w2 ⟨rfl, hb2⟩
      have hB := HB1.out.1.trans (hb2.mono HB1.out.1.size)
      have hr2 := (hb2.block _ (by omega)).trans HB1.out.2.1
      have f0 := cell_blk hr2 0
      have f1 := cell_blk hr2 1
      have k0 := free_blk hr2 0
      have k1 := free_blk hr2 1
      have hE := line_end (k := 0) hB.size hB hr2 (by omega) (win_nil Step.cells 4 39 w2 (fun i => i ≠ w.heap.size + 1 + 1 ∧ w.heap.size ≤ i)) (fun i hi => hi)
      have HE := Lib.hid (hE _ rfl)
      clear hE hB hr2
      go_wp2
      have g0 := HE.out.1
      have g1 := HE.out.2.1
      exact bodyPost_ret (v := .tuple #[.agg #[.int .i64 0, .slice none 0 0], .slice none 0 0, .int .i64 2]) (by simp [results, Try.results23, go_sem, g0, g1]) rfl ⟨_, _, rfl, winC_nil _ _ _ _, winC_nil _ _ _ _, HE.out.2.2.2⟩

    | true =>
      rw [hs] at HS
      have HSS := Lib.hid hs
      clear hs
      cases hh : hasP l s.at_ with
      | true =>
        have hat : insertP k l s = ((0, []), [], 7) := by simp [insertP, HL.out, HSS.out, hh]
        rw [hat]
        rw [hh] at HH
        clear hat hh
        go_enter Try.func23, Try.ntmps23
        go_wp2_with fail
        refine named_box3 (G := fun W => Calls _ _ _ W _) w _ _ _ _ _ _ fun W0 hb0 hz0 hx0 hx1 hx2 => ?_
        refine (HC.out _ hb0).mono ?_
        rintro e w1 ⟨rfl, hb1⟩
        have hB1 := hb0.trans (hb1.mono (by omega))
        have hz1 := hb1.size
        have d0 : w1.cell? ⟨w.heap.size, 0, none⟩ = some (.int .i64 k) := below_cell hb1 (cell_blk hx0 0)
        have d1 : w1.cell? ⟨w.heap.size, 1, none⟩ = some (.slice a l.length c) := below_cell hb1 (cell_blk hx0 1)
        have e0 : w1.cell? ⟨w.heap.size + 1, 0, none⟩ = some (.int .i64 s.at_) := below_cell hb1 (cell_blk hx1 0)
        have e1 : w1.cell? ⟨w.heap.size + 1, 1, none⟩ = some (.int .i64 s.do_) := below_cell hb1 (cell_blk hx1 1)
        have e2 : w1.cell? ⟨w.heap.size + 1, 2, none⟩ = some (.int .i64 s.key) := below_cell hb1 (cell_blk hx1 2)
        have e3 : w1.cell? ⟨w.heap.size + 1, 3, none⟩ = some (.int .i64 s.val) := below_cell hb1 (cell_blk hx1 3)
        have HB1 := Lib.hid (And.intro hB1 (And.intro ((hb1.block _ (by omega)).trans hx2) hz1))
        clear hB1 hx0 hx1 hx2 hb0 hb1

        go_wp2_with fail
        refine (HS.out _).mono ?_
        rintro e w2 ⟨rfl, hb2⟩
        have hB2 := HB1.out.1.trans (hb2.mono HB1.out.1.size)
        have p0 := below_cell hb2 d0
        have p1 := below_cell hb2 d1
        have p2 := below_cell hb2 e0
        have p3 := below_cell hb2 e1
        have p4 := below_cell hb2 e2
        have p5 := below_cell hb2 e3
        have hz2 := hb2.size
        have HB2 := Lib.hid (And.intro hB2 ((hb2.block _ (by omega)).trans HB1.out.2.1))
        clear hb2 hB2 d0 d1 e0 e1 e2 e3
        go_wp2_with fail
        refine (HH.out _ HB2.out.1).mono ?_
        rintro e w3 ⟨rfl, hb3⟩
        have hB3 := HB2.out.1.trans (hb3.mono HB2.out.1.size)
        have d0 := below_cell hb3 p0
        have d1 := below_cell hb3 p1
        have e0 := below_cell hb3 p2
        have e1 := below_cell hb3 p3
        have e2 := below_cell hb3 p4
        have e3 := below_cell hb3 p5
        have hz3 := hb3.size
        have HB3 := Lib.hid (And.intro hB3 (And.intro ((hb3.block _ (by omega)).trans HB2.out.2) trivial))
        clear hb3 hB3 p0 p1 p2 p3 p4 p5

        have hB := HB3.out.1
        have hr2 := HB3.out.2.1
        have f0 := cell_blk hr2 0
        have f1 := cell_blk hr2 1
        have k0 := free_blk hr2 0
        have k1 := free_blk hr2 1
        have hE := line_end (k := 0) hB.size hB hr2 (by omega) (win_nil Step.cells 4 39 w3 (fun i => i ≠ w.heap.size + 1 + 1 ∧ w.heap.size ≤ i)) (fun i hi => hi)
        have HE := Lib.hid (hE _ rfl)
        clear hE hB hr2
        go_wp2
        have g0 := HE.out.1
        have g1 := HE.out.2.1
        exact bodyPost_ret (v := .tuple #[.agg #[.int .i64 0, .slice none 0 0], .slice none 0 0, .int .i64 7]) (by simp [results, Try.results23, go_sem, g0, g1]) rfl ⟨_, _, rfl, winC_nil _ _ _ _, winC_nil _ _ _ _, HE.out.2.2.2⟩

      | false =>
        rw [hh] at HH
        by_cases h60 : l.length = 60
        · have hat : insertP k l s = ((0, []), [], 3) := by simp [insertP, HL.out, HSS.out, hh, h60]
          rw [hat]
          have h60c : (60 : Int) ≤ (l.length : Int) := by omega
          clear hat hh h60
          go_enter Try.func23, Try.ntmps23
          go_wp2_with fail
          refine named_box3 (G := fun W => Calls _ _ _ W _) w _ _ _ _ _ _ fun W0 hb0 hz0 hx0 hx1 hx2 => ?_
          refine (HC.out _ hb0).mono ?_
          rintro e w1 ⟨rfl, hb1⟩
          have hB1 := hb0.trans (hb1.mono (by omega))
          have hz1 := hb1.size
          have d0 : w1.cell? ⟨w.heap.size, 0, none⟩ = some (.int .i64 k) := below_cell hb1 (cell_blk hx0 0)
          have d1 : w1.cell? ⟨w.heap.size, 1, none⟩ = some (.slice a l.length c) := below_cell hb1 (cell_blk hx0 1)
          have e0 : w1.cell? ⟨w.heap.size + 1, 0, none⟩ = some (.int .i64 s.at_) := below_cell hb1 (cell_blk hx1 0)
          have e1 : w1.cell? ⟨w.heap.size + 1, 1, none⟩ = some (.int .i64 s.do_) := below_cell hb1 (cell_blk hx1 1)
          have e2 : w1.cell? ⟨w.heap.size + 1, 2, none⟩ = some (.int .i64 s.key) := below_cell hb1 (cell_blk hx1 2)
          have e3 : w1.cell? ⟨w.heap.size + 1, 3, none⟩ = some (.int .i64 s.val) := below_cell hb1 (cell_blk hx1 3)
          have HB1 := Lib.hid (And.intro hB1 (And.intro ((hb1.block _ (by omega)).trans hx2) hz1))
          clear hB1 hx0 hx1 hx2 hb0 hb1

          go_wp2_with fail
          refine (HS.out _).mono ?_
          rintro e w2 ⟨rfl, hb2⟩
          have hB2 := HB1.out.1.trans (hb2.mono HB1.out.1.size)
          have p0 := below_cell hb2 d0
          have p1 := below_cell hb2 d1
          have p2 := below_cell hb2 e0
          have p3 := below_cell hb2 e1
          have p4 := below_cell hb2 e2
          have p5 := below_cell hb2 e3
          have hz2 := hb2.size
          have HB2 := Lib.hid (And.intro hB2 ((hb2.block _ (by omega)).trans HB1.out.2.1))
          clear hb2 hB2 d0 d1 e0 e1 e2 e3
          go_wp2_with fail
          refine (HH.out _ HB2.out.1).mono ?_
          rintro e w3 ⟨rfl, hb3⟩
          have hB3 := HB2.out.1.trans (hb3.mono HB2.out.1.size)
          have d0 := below_cell hb3 p0
          have d1 := below_cell hb3 p1
          have e0 := below_cell hb3 p2
          have e1 := below_cell hb3 p3
          have e2 := below_cell hb3 p4
          have e3 := below_cell hb3 p5
          have hz3 := hb3.size
          have HB3 := Lib.hid (And.intro hB3 (And.intro ((hb3.block _ (by omega)).trans HB2.out.2) trivial))
          clear hb3 hB3 p0 p1 p2 p3 p4 p5

          have hB := HB3.out.1
          have hr2 := HB3.out.2.1
          have f0 := cell_blk hr2 0
          have f1 := cell_blk hr2 1
          have k0 := free_blk hr2 0
          have k1 := free_blk hr2 1
          have hE := line_end (k := 0) hB.size hB hr2 (by omega) (win_nil Step.cells 4 39 w3 (fun i => i ≠ w.heap.size + 1 + 1 ∧ w.heap.size ≤ i)) (fun i hi => hi)
          have HE := Lib.hid (hE _ rfl)
          clear hE hB hr2
          go_wp2
          have g0 := HE.out.1
          have g1 := HE.out.2.1
          exact bodyPost_ret (v := .tuple #[.agg #[.int .i64 0, .slice none 0 0], .slice none 0 0, .int .i64 3]) (by simp [results, Try.results23, go_sem, g0, g1]) rfl ⟨_, _, rfl, winC_nil _ _ _ _, winC_nil _ _ _ _, HE.out.2.2.2⟩

        · have hat : insertP k l s = ((k, withP l s), diffOf k l (withP l s), 0) := by simp [insertP, HL.out, HSS.out, hh, h60]
          rw [hat]
          have hlw := isLineP_with HL.out HSS.out hh (by omega)
          have HW := Lib.hid (And.intro hlw (with_length l s))
          clear hat hh hlw
          have h60c : ¬ ((60 : Int) ≤ (l.length : Int)) := by omega
          go_enter Try.func23, Try.ntmps23
          go_wp2_with fail
          refine named_box3 (G := fun W => Calls _ _ _ W _) w _ _ _ _ _ _ fun W0 hb0 hz0 hx0 hx1 hx2 => ?_
          refine (HC.out _ hb0).mono ?_
          rintro e w1 ⟨rfl, hb1⟩
          have hB1 := hb0.trans (hb1.mono (by omega))
          have hz1 := hb1.size
          have d0 : w1.cell? ⟨w.heap.size, 0, none⟩ = some (.int .i64 k) := below_cell hb1 (cell_blk hx0 0)
          have d1 : w1.cell? ⟨w.heap.size, 1, none⟩ = some (.slice a l.length c) := below_cell hb1 (cell_blk hx0 1)
          have e0 : w1.cell? ⟨w.heap.size + 1, 0, none⟩ = some (.int .i64 s.at_) := below_cell hb1 (cell_blk hx1 0)
          have e1 : w1.cell? ⟨w.heap.size + 1, 1, none⟩ = some (.int .i64 s.do_) := below_cell hb1 (cell_blk hx1 1)
          have e2 : w1.cell? ⟨w.heap.size + 1, 2, none⟩ = some (.int .i64 s.key) := below_cell hb1 (cell_blk hx1 2)
          have e3 : w1.cell? ⟨w.heap.size + 1, 3, none⟩ = some (.int .i64 s.val) := below_cell hb1 (cell_blk hx1 3)
          have HB1 := Lib.hid (And.intro hB1 (And.intro ((hb1.block _ (by omega)).trans hx2) hz1))
          clear hB1 hx0 hx1 hx2 hb0 hb1

          go_wp2_with fail
          refine (HS.out _).mono ?_
          rintro e w2 ⟨rfl, hb2⟩
          have hB2 := HB1.out.1.trans (hb2.mono HB1.out.1.size)
          have p0 := below_cell hb2 d0
          have p1 := below_cell hb2 d1
          have p2 := below_cell hb2 e0
          have p3 := below_cell hb2 e1
          have p4 := below_cell hb2 e2
          have p5 := below_cell hb2 e3
          have hz2 := hb2.size
          have HB2 := Lib.hid (And.intro hB2 ((hb2.block _ (by omega)).trans HB1.out.2.1))
          clear hb2 hB2 d0 d1 e0 e1 e2 e3
          go_wp2_with fail
          refine (HH.out _ HB2.out.1).mono ?_
          rintro e w3 ⟨rfl, hb3⟩
          have hB3 := HB2.out.1.trans (hb3.mono HB2.out.1.size)
          have d0 := below_cell hb3 p0
          have d1 := below_cell hb3 p1
          have e0 := below_cell hb3 p2
          have e1 := below_cell hb3 p3
          have e2 := below_cell hb3 p4
          have e3 := below_cell hb3 p5
          have hz3 := hb3.size
          have HB3 := Lib.hid (And.intro hB3 (And.intro ((hb3.block _ (by omega)).trans HB2.out.2) trivial))
          clear hb3 hB3 p0 p1 p2 p3 p4 p5

          go_wp2_with fail
          refine (with_any k _ l s _ (HR.out.1.below HB3.out.1) (by omega) HR.out.2).mono ?_
          rintro e w4 ⟨v4, rfl, hw4, hb4⟩
          generalize hwl : withP l s = lw at *
          have hll : lw.length ≤ 61 := by have := HW.out.2; omega
          obtain ⟨a4, c4, rfl, _, _⟩ := winC_slice hw4
          go_wp2
          refine named_box w4 _ _ fun W5 hb5 hz5 hx5 => ?_
          have u0 : W5.cell? ⟨w4.heap.size, 0, none⟩ = some (.int .i64 k) := hx5 0
          have u1 : W5.cell? ⟨w4.heap.size, 1, none⟩ = some (.slice a4 lw.length c4) := hx5 1
          have hb35 : Below w3.heap.size w3 W5 := hb4.trans (hb5.mono hb4.size)
          have hB5 : Below w.heap.size w W5 := HB3.out.1.trans (hb35.mono HB3.out.1.size)
          have z0 := below_cell hb35 d0
          have z1 := below_cell hb35 d1
          have hr5 := (hb35.block _ (by have := HB3.out.1.size; omega)).trans HB3.out.2.1
          have f0 := cell_blk hr5 0
          have f1 := cell_blk hr5 1
          have k0 := free_blk hr5 0
          have k1 := free_blk hr5 1
          have hz4 := hb4.size
          have hw5 : Win Step.cells 4 39 W5 (.slice a4 lw.length c4) (fun i => i ≠ w.heap.size + 1 + 1 ∧ w.heap.size ≤ i) lw := winC_mono (winC_move hw4 (fr_of_below (S := fun _ => False) hb5) (fun _ _ h => h)) fun i hi => by have := HB3.out.1.size; first | omega | (simp at hi; omega)
          have hDC := diffOf_any k _ _ l lw W5.drew ((HR.out.1.below hB5).below (Below.refl _ _).drew) ((win_rd step_len hw5).below (Below.refl _ _).drew) (okLine_of HL.out) (okLine_of HW.out.1) (lines_time HL.out HW.out.1)
          have H5 := Lib.hid (And.intro hB5 (And.intro hr5 (And.intro hw5 hDC)))
          have hX : w.heap.size + 1 + 1 < w4.heap.size := by omega
          clear hb4 hb5 hb35 hB5 hr5 hx5 hw4 hw5 hDC d0 d1
          generalize w4.heap.size = X at *
          have ED := Lib.hid (enters_of Try.func67 (by kernel_rfl) rfl)
          set_option maxRecDepth 10000 in
          go_region_held3 (fun W => W.cell? ⟨X, 0, none⟩ = some (.int .i64 k) ∧ W.cell? ⟨X, 1, none⟩ = some (.slice a4 lw.length c4) ∧ W.cell? ⟨w.heap.size, 0, none⟩ = some (.int .i64 k) ∧ W.cell? ⟨w.heap.size, 1, none⟩ = some (.slice a l.length c)) (first | exact ⟨u0, u1, z0, z1⟩ | exact ⟨p0, p1, p2, p3⟩ | exact ⟨fr_cell (stored2 w6 (w.heap.size + 1 + 1) _ _) p0 (fun h => by have h2 : X = w.heap.size + 1 + 1 := h; omega), fr_cell (stored2 w6 (w.heap.size + 1 + 1) _ _) p1 (fun h => by have h2 : X = w.heap.size + 1 + 1 := h; omega), fr_cell (stored2 w6 (w.heap.size + 1 + 1) _ _) p2 (fun h => by have h2 : w.heap.size = w.heap.size + 1 + 1 := h; omega), fr_cell (stored2 w6 (w.heap.size + 1 + 1) _ _) p3 (fun h => by have h2 : w.heap.size = w.heap.size + 1 + 1 := h; omega)⟩ | go_keep) ((first | (refine step_call (by rfl) 67 _ _ (by rfl) (ED.out) _ (by rfl) H5.out.2.2.2 ?_; rintro _ w6 ⟨v6, rfl, hw6, hb6⟩; obtain ⟨a6, c6, rfl, _, _⟩ := winC_slice hw6; refine ⟨_, rfl, ?_⟩; have hb6' := (Below.refl W5.heap.size W5).drew.trans hb6; have p0 := below_cell hb6' u0; have p1 := below_cell hb6' u1; have p2 := below_cell hb6' z0; have p3 := below_cell hb6' z1; have q0 := below_cell hb6' f0; have q1 := below_cell hb6' f1; have k2 := below_frozen hb6' (a := ⟨w.heap.size + 1 + 1, 0, none⟩) (by show w.heap.size + 1 + 1 < _; omega) k0; have k3 := below_frozen hb6' (a := ⟨w.heap.size + 1 + 1, 1, none⟩) (by show w.heap.size + 1 + 1 < _; omega) k1) | fail))
          all_goals
            have hB6 := H5.out.1.trans (hb6'.mono H5.out.1.size)
            have hr6 := (hb6'.block _ (by omega)).trans H5.out.2.1
            have hw6l : Win Step.cells 4 39 w6 (.slice a4 lw.length c4) (fun i => i ≠ w.heap.size + 1 + 1 ∧ w.heap.size ≤ i) lw := winC_move H5.out.2.2.1 (fr_of_below (S := fun _ => False) hb6') (fun _ _ h => h)
            have hE := line_end (k := k) hB6.size hB6 hr6 (by omega) hw6l (fun i hi => hi)
            have HE := Lib.hid (hE _ rfl)
            have hsp : Win Span.cells 2 58 ((w6.setCell ⟨w.heap.size + 1 + 1, 0, none⟩ (.int .i64 k)).setCell ⟨w.heap.size + 1 + 1, 1, none⟩ (.slice a4 lw.length c4)) (.slice a6 (diffOf k l lw).length c6) (fun i => w.heap.size ≤ i) (diffOf k l lw) := winC_mono (winC_move hw6 (stored2 w6 (w.heap.size + 1 + 1) _ _) (fun i hi h => by have h2 : i = w.heap.size + 1 + 1 := h; simp [drew_size] at hi; omega)) fun i hi => by have := H5.out.1.size; simp [drew_size] at hi; omega
            have HSP := Lib.hid hsp
            clear hE hB6 hr6 hw6l hsp p0 p1 p2 p3 q0 q1 k2 k3 hw6 hb6 hb6' u0 u1 z0 z1 f0 f1 k0 k1
            generalize (w6.setCell ⟨w.heap.size + 1 + 1, 0, none⟩ (.int .i64 k)).setCell ⟨w.heap.size + 1 + 1, 1, none⟩ (.slice a4 lw.length c4) = W7 at *
            have g0 := HE.out.1
            have g1 := HE.out.2.1
            go_wp2
            exact bodyPost_ret (v := .tuple #[.agg #[.int .i64 k, .slice a4 lw.length c4], .slice a6 (diffOf k l lw).length c6, .int .i64 0]) (by simp [results, Try.results23, go_sem, g0, g1]) rfl ⟨_, _, rfl, by rw [hwl]; exact HE.out.2.2.1, by rw [hwl]; exact HSP.out, HE.out.2.2.2⟩

end Go.Proofs.Ytkoeplbkeboklaa
/- The reference's Delete. -/
set_option linter.unusedVariables false
set_option linter.unusedSimpArgs false
namespace Go.Proofs.Ytkoeplbkeboklaa
open Go.RowKit
theorem slok_le {v : Value} (h : SlOk v) : ∀ a n c, v = .slice a n c → n ≤ c := by
  intro a n c hv
  rcases h with h | ⟨b, off, n', c', h, hc⟩
  · rw [h] at hv; injection hv with h1 h2 h3; omega
  · rw [h] at hv; injection hv with h1 h2 h3; omega
theorem named_store2 {w : World} {X T : Nat} {c0 c1 : Value} (hr : w.heap[X]? = some (.cells #[c0, c1] T (0, 0))) (a b : Value) {G : World → Prop}
    (h : ∀ W, Fr (fun i => i = X) w W → W.cell? ⟨X, 0, none⟩ = some a → W.cell? ⟨X, 1, none⟩ = some b → W.heap.size = w.heap.size → G W) : G ((w.setCell ⟨X, 0, none⟩ a).setCell ⟨X, 1, none⟩ b) :=
  h _ (stored2 w X a b) (cell_blk (stored2_blk hr a b) 0) (cell_blk (stored2_blk hr a b) 1) (by simp [World.setCell])
set_option maxHeartbeats 4000000 in
theorem refDelete_any (k : Int) (v : Value) (l : List Step) (t : Int) (w : World) (hr : Rd Step.cells 4 w v l) (hcap : SlOk v) :
    Calls Try.prog 26 #[.agg #[.int .i64 k, v], .int .i64 t] w fun e w' =>
      ∃ v' vs, e = .returned (.tuple #[.agg #[.int .i64 (deleteP k l t).1.1, v'], vs, .int .i64 (deleteP k l t).2.2]) ∧ Win Step.cells 4 39 w' v' (fun i => w.heap.size ≤ i) (deleteP k l t).1.2 ∧ Win Span.cells 2 58 w' vs (fun i => w.heap.size ≤ i) (deleteP k l t).2.1 ∧ Below w.heap.size w w' := by
  obtain ⟨a, c, rfl⟩ : ∃ a c, v = .slice a l.length c := by obtain ⟨_, a, c, rfl, _⟩ := hr; exact ⟨a, c, rfl⟩
  have HR := Lib.hid (And.intro hr hcap)
  have HC := Lib.hid (fun W h => good_any k _ l W (hr.below h))
  clear hr hcap
  cases hl : isLineP k l with
  | false =>
    have hat : deleteP k l t = ((0, []), [], 2) := by simp [deleteP, hl]
    rw [hat]
    rw [hl] at HC
    clear hat hl
    go_enter Try.func26, Try.ntmps26
    go_wp2_with fail
    refine named_box2 (G := fun W => Calls _ _ _ W _) w _ _ _ _ fun W0 hb0 hz0 hx0 hx1 => ?_
    refine (HC.out _ hb0).mono ?_
    rintro e w1 ⟨rfl, hb1⟩
    have hB := hb0.trans (hb1.mono (by omega))
    have hr2 := (hb1.block _ (by omega)).trans hx1
    have f0 := cell_blk hr2 0
    have f1 := cell_blk hr2 1
    have k0 := free_blk hr2 0
    have k1 := free_blk hr2 1
    have hE := line_end (k := 0) hB.size hB hr2 (by omega) (win_nil Step.cells 4 39 w1 (fun i => i ≠ w.heap.size + 1 ∧ w.heap.size ≤ i)) (fun i hi => hi)
    have HE := Lib.hid (hE _ rfl)
    clear hE hB hr2
    go_wp2
    have g0 := HE.out.1
    have g1 := HE.out.2.1
    exact bodyPost_ret (v := .tuple #[.agg #[.int .i64 0, .slice none 0 0], .slice none 0 0, .int .i64 2]) (by simp [results, Try.results26, go_sem, g0, g1]) rfl ⟨_, _, rfl, winC_nil _ _ _ _, winC_nil _ _ _ _, HE.out.2.2.2⟩

  | true =>
    rw [hl] at HC
    have hlen := line_len hl
    have HL := Lib.hid hl
    have HH := Lib.hid (fun W h => has_any k _ l t W (HR.out.1.below h) (by omega))
    clear hl
    cases hh : hasP l t with
    | false =>
      have hat : deleteP k l t = ((0, []), [], 5) := by simp [deleteP, HL.out, hh]
      rw [hat]
      rw [hh] at HH
      clear hat hh
      go_enter Try.func26, Try.ntmps26
      go_wp2_with fail
      refine named_box2 (G := fun W => Calls _ _ _ W _) w _ _ _ _ fun W0 hb0 hz0 hx0 hx1 => ?_
      refine (HC.out _ hb0).mono ?_
      rintro e w1 ⟨rfl, hb1⟩
      have hB1 := hb0.trans (hb1.mono (by omega))
      have hz1 := hb1.size
      have d0 : w1.cell? ⟨w.heap.size, 0, none⟩ = some (.int .i64 k) := below_cell hb1 (cell_blk hx0 0)
      have d1 : w1.cell? ⟨w.heap.size, 1, none⟩ = some (.slice a l.length c) := below_cell hb1 (cell_blk hx0 1)
      have HB1 := Lib.hid (And.intro hB1 (And.intro ((hb1.block _ (by omega)).trans hx1) hz1))
      clear hB1 hx0 hx1 hb0 hb1
      go_wp2_with fail
      refine (HH.out _ HB1.out.1).mono ?_
      rintro e w3 ⟨rfl, hb3⟩
      have hB3 := HB1.out.1.trans (hb3.mono HB1.out.1.size)
      have p0 := below_cell hb3 d0
      have p1 := below_cell hb3 d1
      have hz3 := hb3.size
      have HB3 := Lib.hid (And.intro hB3 (And.intro ((hb3.block _ (by omega)).trans HB1.out.2.1) trivial))
      clear hb3 hB3 d0 d1
      have d0 := p0; have d1 := p1
      clear p0 p1

      have hB := HB3.out.1
      have hr2 := HB3.out.2.1
      have f0 := cell_blk hr2 0
      have f1 := cell_blk hr2 1
      have k0 := free_blk hr2 0
      have k1 := free_blk hr2 1
      have hE := line_end (k := 0) hB.size hB hr2 (by omega) (win_nil Step.cells 4 39 w3 (fun i => i ≠ w.heap.size + 1 ∧ w.heap.size ≤ i)) (fun i hi => hi)
      have HE := Lib.hid (hE _ rfl)
      clear hE hB hr2
      go_wp2
      have g0 := HE.out.1
      have g1 := HE.out.2.1
      exact bodyPost_ret (v := .tuple #[.agg #[.int .i64 0, .slice none 0 0], .slice none 0 0, .int .i64 5]) (by simp [results, Try.results26, go_sem, g0, g1]) rfl ⟨_, _, rfl, winC_nil _ _ _ _, winC_nil _ _ _ _, HE.out.2.2.2⟩

    | true =>
      have hat : deleteP k l t = ((k, withoutP l (placeAt t l)), diffOf k l (withoutP l (placeAt t l)), 0) := by simp [deleteP, HL.out, hh]
      rw [hat]
      rw [hh] at HH
      have hpl := has_lt hh
      have hlw := isLineP_without (placeAt t l) HL.out
      have HPL := Lib.hid (fun W h => (place_any k _ l t W (HR.out.1.below h) (by omega)))
      have HWO := Lib.hid (fun W h => without_any k _ l (placeAt t l) W (HR.out.1.below h) (by omega) hpl (slok_le HR.out.2))
      have hle := (without_sub l (placeAt t l)).length_le
      clear hat hh
      generalize hq : placeAt t l = q at *
      generalize hwl : withoutP l q = lw at *
      have HW := Lib.hid hlw
      clear hlw
      have EP := Lib.hid (enters_of Try.func70 (by kernel_rfl) rfl)
      have EW := Lib.hid (enters_of Try.func69 (by kernel_rfl) rfl)
      go_enter Try.func26, Try.ntmps26
      go_wp2_with fail
      refine named_box2 (G := fun W => Calls _ _ _ W _) w _ _ _ _ fun W0 hb0 hz0 hx0 hx1 => ?_
      refine (HC.out _ hb0).mono ?_
      rintro e w1 ⟨rfl, hb1⟩
      have hB1 := hb0.trans (hb1.mono (by omega))
      have hz1 := hb1.size
      have d0 : w1.cell? ⟨w.heap.size, 0, none⟩ = some (.int .i64 k) := below_cell hb1 (cell_blk hx0 0)
      have d1 : w1.cell? ⟨w.heap.size, 1, none⟩ = some (.slice a l.length c) := below_cell hb1 (cell_blk hx0 1)
      have HB1 := Lib.hid (And.intro hB1 (And.intro ((hb1.block _ (by omega)).trans hx1) hz1))
      clear hB1 hx0 hx1 hb0 hb1
      go_wp2_with fail
      refine (HH.out _ HB1.out.1).mono ?_
      rintro e w3 ⟨rfl, hb3⟩
      have hB3 := HB1.out.1.trans (hb3.mono HB1.out.1.size)
      have p0 := below_cell hb3 d0
      have p1 := below_cell hb3 d1
      have hz3 := hb3.size
      have HB3 := Lib.hid (And.intro hB3 (And.intro ((hb3.block _ (by omega)).trans HB1.out.2.1) trivial))
      clear hb3 hB3 d0 d1
      have d0 := p0; have d1 := p1
      clear p0 p1

      have hzz : w.heap.size + 1 < w3.heap.size := by omega
      go_wp2
      set_option maxRecDepth 10000 in
      go_region_held3 (fun W => W.cell? ⟨w.heap.size, 0, none⟩ = some (.int .i64 k) ∧ W.cell? ⟨w.heap.size, 1, none⟩ = some (.slice a l.length c)) (first | exact ⟨d0, d1⟩ | exact ⟨p0, p1⟩ | exact ⟨r0, r1⟩ | exact ⟨fr_cell (stored2 w4 w5.heap.size _ _) r0 (fun h => by have h2 : w.heap.size = w5.heap.size := h; omega), fr_cell (stored2 w4 w5.heap.size _ _) r1 (fun h => by have h2 : w.heap.size = w5.heap.size := h; omega)⟩ | exact ⟨fr_cell (stored2 w4 w3.heap.size _ _) r0 (fun h => by have h2 : w.heap.size = w3.heap.size := h; omega), fr_cell (stored2 w4 w3.heap.size _ _) r1 (fun h => by have h2 : w.heap.size = w3.heap.size := h; omega)⟩ | go_keep) ((first | (refine step_call (by rfl) 69 _ _ (by rfl) (EW.out) _ (by rfl) (HWO.out _ (by first | exact hB5 | exact hB5.alloc hB5.size _)) ?_; rintro _ w4 ⟨v4, rfl, hw4, hb4⟩; obtain ⟨a4, c4, rfl, _, _⟩ := winC_slice hw4; refine ⟨_, rfl, ?_⟩; have hb54 : Below w5.heap.size w5 w4 := (by first | exact hb4 | exact ((Below.refl _ _).alloc (Nat.le_refl _) _).trans (hb4.mono (by simp))); have r0 := below_cell hb54 p0; have r1 := below_cell hb54 p1; have hs4 := hb54.size; try (have y0 := below_cell hb4 (World.cell?_alloc_new w5 #[.int .i64 0, .slice none 0 0] 25 0); have y1 := below_cell hb4 (World.cell?_alloc_new w5 #[.int .i64 0, .slice none 0 0] 25 1); have yr := (hb4.block w5.heap.size (by simp)).trans (heap_alloc_new w5 (.cells #[.int .i64 0, .slice none 0 0] 25)); have k0 := free_blk yr 0; have k1 := free_blk yr 1); try (have y0 := below_cell hb54 x0; have y1 := below_cell hb54 x1; have yr := (hb54.block w3.heap.size (by first | omega | (simp at hsx; omega))).trans xr; have k0 := free_blk yr 0; have k1 := free_blk yr 1)) | (refine step_call (by rfl) 70 _ _ (by rfl) (EP.out) _ (by rfl) (HPL.out _ (by first | exact HB3.out.1.drew | exact HB3.out.1.drew.alloc HB3.out.1.size _)) ?_; rintro _ w5 ⟨rfl, hb5⟩; refine ⟨_, rfl, ?_⟩; have hb35 : Below w3.heap.size w3 w5 := (by first | exact (Below.refl _ _).drew.trans hb5 | exact ((Below.refl _ _).drew.alloc (Nat.le_refl _) _).trans (hb5.mono (by simp [drew_size]))); have hB5 := HB3.out.1.trans (hb35.mono (by exact HB3.out.1.size)); have hs5 := hb35.size; have p0 := below_cell hb35 d0; have p1 := below_cell hb35 d1; try (have hba : Below (w3.alloc (.cells #[.int .i64 0, .slice none 0 0] 25)).heap.size (w3.alloc (.cells #[.int .i64 0, .slice none 0 0] 25)) w5 := (Below.refl _ _).drew.trans hb5; have x0 : w5.cell? ⟨w3.heap.size, 0, none⟩ = some (.int .i64 0) := below_cell hba (World.cell?_alloc_new w3 #[.int .i64 0, .slice none 0 0] 25 0); have x1 : w5.cell? ⟨w3.heap.size, 1, none⟩ = some (.slice none 0 0) := below_cell hba (World.cell?_alloc_new w3 #[.int .i64 0, .slice none 0 0] 25 1); have xr := (hba.block w3.heap.size (by simp)).trans (heap_alloc_new w3 (.cells #[.int .i64 0, .slice none 0 0] 25)); have hsx := hba.size; clear hba)) | (have y0 := below_cell hb54 x0; have y1 := below_cell hb54 x1; have yr := (hb54.block w3.heap.size (by first | omega | (simp at hsx; omega))).trans xr; have k0 := free_blk yr 0; have k1 := free_blk yr 1; clear x0; go_simp) | fail))
      · refine named_box w4 _ _ fun W5 hbx hzx hx5 => ?_
        have u0 : W5.cell? ⟨w4.heap.size, 0, none⟩ = some (.int .i64 k) := hx5 0
        have u1 : W5.cell? ⟨w4.heap.size, 1, none⟩ = some (.slice a4 lw.length c4) := hx5 1
        have hF5 : Fr (fun i => i = w4.heap.size) w4 W5 := fr_of_below hbx
        clear hx5 hbx
        have sz4 : w3.heap.size ≤ w4.heap.size := Nat.le_trans hs5 hs4
        have hB4 : Below w.heap.size w w4 := hB5.trans (hb54.mono hB5.size)
        have hBz := hB4.size
        have hB6' : Below w.heap.size w W5 := hB4.trans (below_of_fr hF5 hBz fun i hi => by have h2 : i = w4.heap.size := hi; omega)
        have hr5 := (hF5.block (w.heap.size + 1) (by omega) (fun h => by have h2 : w.heap.size + 1 = w4.heap.size := h; omega)).trans ((hb54.block (w.heap.size + 1) (by omega)).trans ((hb35.block (w.heap.size + 1) (by omega)).trans HB3.out.2.1))
        have z0 := fr_cell hF5 r0 (fun h => by have h2 : w.heap.size = w4.heap.size := h; omega)
        have z1 := fr_cell hF5 r1 (fun h => by have h2 : w.heap.size = w4.heap.size := h; omega)
        have f0 := cell_blk hr5 0
        have f1 := cell_blk hr5 1
        have k0 := free_blk hr5 0
        have k1 := free_blk hr5 1
        have hlt := (Array.getElem?_eq_some_iff.1 hr5).1
        have hw5 : Win Step.cells 4 39 W5 (.slice a4 lw.length c4) (fun i => i ≠ w.heap.size + 1 ∧ w.heap.size ≤ i) lw := winC_mono (winC_move (winC_block hw4) hF5 (fun i hi h => by have h2 : i = w4.heap.size := h; have h3 := hi.2; first | omega | (simp [drew_size] at h3; omega))) fun i hi => by have h3 := hi.2; first | omega | (simp [drew_size] at h3; omega)
        have hDC := diffOf_any k _ _ l lw W5.drew ((HR.out.1.below hB6').below (Below.refl _ _).drew) ((win_rd step_len hw5).below (Below.refl _ _).drew) (okLine_of HL.out) (okLine_of HW.out) (lines_time HL.out HW.out)
        have H5 := Lib.hid (And.intro hB6' (And.intro hr5 (And.intro hw5 hDC)))
        clear hb4 hb5 hb35 hb54 hB5 hB6' hr5 hw4 hw5 hDC d0 d1 p0 p1 r0 r1 hF5 hB4
        have hX : w.heap.size + 1 < w4.heap.size := by omega
        generalize w4.heap.size = X at *
        go_wp2

        have ED := Lib.hid (enters_of Try.func67 (by kernel_rfl) rfl)
        set_option maxRecDepth 10000 in
        go_region_held3 (fun W => W.cell? ⟨X, 0, none⟩ = some (.int .i64 k) ∧ W.cell? ⟨X, 1, none⟩ = some (.slice a4 lw.length c4) ∧ W.cell? ⟨w.heap.size, 0, none⟩ = some (.int .i64 k) ∧ W.cell? ⟨w.heap.size, 1, none⟩ = some (.slice a l.length c)) (first | exact ⟨u0, u1, z0, z1⟩ | exact ⟨p0, p1, p2, p3⟩ | exact ⟨fr_cell (stored2 w6 (w.heap.size + 1) _ _) p0 (fun h => by have h2 : X = w.heap.size + 1 := h; omega), fr_cell (stored2 w6 (w.heap.size + 1) _ _) p1 (fun h => by have h2 : X = w.heap.size + 1 := h; omega), fr_cell (stored2 w6 (w.heap.size + 1) _ _) p2 (fun h => by have h2 : w.heap.size = w.heap.size + 1 := h; omega), fr_cell (stored2 w6 (w.heap.size + 1) _ _) p3 (fun h => by have h2 : w.heap.size = w.heap.size + 1 := h; omega)⟩ | go_keep) ((first | (refine step_call (by rfl) 67 _ _ (by rfl) (ED.out) _ (by rfl) H5.out.2.2.2 ?_; rintro _ w6 ⟨v6, rfl, hw6, hb6⟩; obtain ⟨a6, c6, rfl, _, _⟩ := winC_slice hw6; refine ⟨_, rfl, ?_⟩; have hb6' := (Below.refl W5.heap.size W5).drew.trans hb6; have p0 := below_cell hb6' u0; have p1 := below_cell hb6' u1; have p2 := below_cell hb6' z0; have p3 := below_cell hb6' z1; have q0 := below_cell hb6' f0; have q1 := below_cell hb6' f1; have k2 := below_frozen hb6' (a := ⟨w.heap.size + 1, 0, none⟩) (by show w.heap.size + 1 < _; omega) k0; have k3 := below_frozen hb6' (a := ⟨w.heap.size + 1, 1, none⟩) (by show w.heap.size + 1 < _; omega) k1) | fail))
        all_goals
          have hB6 := H5.out.1.trans (hb6'.mono H5.out.1.size)
          have hr6 := (hb6'.block _ (by omega)).trans H5.out.2.1
          have hw6l : Win Step.cells 4 39 w6 (.slice a4 lw.length c4) (fun i => i ≠ w.heap.size + 1 ∧ w.heap.size ≤ i) lw := winC_move H5.out.2.2.1 (fr_of_below (S := fun _ => False) hb6') (fun _ _ h => h)
          have hE := line_end (k := k) hB6.size hB6 hr6 (by omega) hw6l (fun i hi => hi)
          have HE := Lib.hid (hE _ rfl)
          have hsp : Win Span.cells 2 58 ((w6.setCell ⟨w.heap.size + 1, 0, none⟩ (.int .i64 k)).setCell ⟨w.heap.size + 1, 1, none⟩ (.slice a4 lw.length c4)) (.slice a6 (diffOf k l lw).length c6) (fun i => w.heap.size ≤ i) (diffOf k l lw) := winC_mono (winC_move hw6 (stored2 w6 (w.heap.size + 1) _ _) (fun i hi h => by have h2 : i = w.heap.size + 1 := h; simp [drew_size] at hi; omega)) fun i hi => by have := H5.out.1.size; simp [drew_size] at hi; omega
          have HSP := Lib.hid hsp
          clear hE hB6 hr6 hw6l hsp p0 p1 p2 p3 q0 q1 k2 k3 hw6 hb6 hb6' u0 u1 z0 z1 f0 f1 k0 k1
          generalize (w6.setCell ⟨w.heap.size + 1, 0, none⟩ (.int .i64 k)).setCell ⟨w.heap.size + 1, 1, none⟩ (.slice a4 lw.length c4) = W7 at *
          have g0 := HE.out.1
          have g1 := HE.out.2.1
          go_wp2
          exact bodyPost_ret (v := .tuple #[.agg #[.int .i64 k, .slice a4 lw.length c4], .slice a6 (diffOf k l lw).length c6, .int .i64 0]) (by simp [results, Try.results26, go_sem, g0, g1]) rfl ⟨_, _, rfl, by (try rw [hwl]); exact HE.out.2.2.1, by (try rw [hwl]); exact HSP.out, HE.out.2.2.2⟩

      · refine named_store2 yr _ _ fun W5 hF5 u0 u1 hz5 => ?_
        clear yr y0 y1 k0 k1
        have sz4 : w3.heap.size ≤ w4.heap.size := Nat.le_trans hs5 hs4
        have hB4 : Below w.heap.size w w4 := hB5.trans (hb54.mono hB5.size)
        have hBz := hB4.size
        have hB6' : Below w.heap.size w W5 := hB4.trans (below_of_fr hF5 hBz fun i hi => by have h2 : i = w5.heap.size := hi; omega)
        have hr5 := (hF5.block (w.heap.size + 1) (by omega) (fun h => by have h2 : w.heap.size + 1 = w5.heap.size := h; omega)).trans ((hb54.block (w.heap.size + 1) (by omega)).trans ((hb35.block (w.heap.size + 1) (by omega)).trans HB3.out.2.1))
        have z0 := fr_cell hF5 r0 (fun h => by have h2 : w.heap.size = w5.heap.size := h; omega)
        have z1 := fr_cell hF5 r1 (fun h => by have h2 : w.heap.size = w5.heap.size := h; omega)
        have f0 := cell_blk hr5 0
        have f1 := cell_blk hr5 1
        have k0 := free_blk hr5 0
        have k1 := free_blk hr5 1
        have hlt := (Array.getElem?_eq_some_iff.1 hr5).1
        have hw5 : Win Step.cells 4 39 W5 (.slice a4 lw.length c4) (fun i => i ≠ w.heap.size + 1 ∧ w.heap.size ≤ i) lw := winC_mono (winC_move (winC_block hw4) hF5 (fun i hi h => by have h2 : i = w5.heap.size := h; have h3 := hi.2; first | omega | (simp [drew_size] at h3; omega))) fun i hi => by have h3 := hi.2; first | omega | (simp [drew_size] at h3; omega)
        have hDC := diffOf_any k _ _ l lw W5.drew ((HR.out.1.below hB6').below (Below.refl _ _).drew) ((win_rd step_len hw5).below (Below.refl _ _).drew) (okLine_of HL.out) (okLine_of HW.out) (lines_time HL.out HW.out)
        have H5 := Lib.hid (And.intro hB6' (And.intro hr5 (And.intro hw5 hDC)))
        clear hb4 hb5 hb35 hb54 hB5 hB6' hr5 hw4 hw5 hDC d0 d1 p0 p1 r0 r1 hF5 hB4
        have hX : w.heap.size + 1 < w5.heap.size := by omega
        generalize w5.heap.size = X at *
        go_wp2

        have ED := Lib.hid (enters_of Try.func67 (by kernel_rfl) rfl)
        set_option maxRecDepth 10000 in
        go_region_held3 (fun W => W.cell? ⟨X, 0, none⟩ = some (.int .i64 k) ∧ W.cell? ⟨X, 1, none⟩ = some (.slice a4 lw.length c4) ∧ W.cell? ⟨w.heap.size, 0, none⟩ = some (.int .i64 k) ∧ W.cell? ⟨w.heap.size, 1, none⟩ = some (.slice a l.length c)) (first | exact ⟨u0, u1, z0, z1⟩ | exact ⟨p0, p1, p2, p3⟩ | exact ⟨fr_cell (stored2 w6 (w.heap.size + 1) _ _) p0 (fun h => by have h2 : X = w.heap.size + 1 := h; omega), fr_cell (stored2 w6 (w.heap.size + 1) _ _) p1 (fun h => by have h2 : X = w.heap.size + 1 := h; omega), fr_cell (stored2 w6 (w.heap.size + 1) _ _) p2 (fun h => by have h2 : w.heap.size = w.heap.size + 1 := h; omega), fr_cell (stored2 w6 (w.heap.size + 1) _ _) p3 (fun h => by have h2 : w.heap.size = w.heap.size + 1 := h; omega)⟩ | go_keep) ((first | (refine step_call (by rfl) 67 _ _ (by rfl) (ED.out) _ (by rfl) H5.out.2.2.2 ?_; rintro _ w6 ⟨v6, rfl, hw6, hb6⟩; obtain ⟨a6, c6, rfl, _, _⟩ := winC_slice hw6; refine ⟨_, rfl, ?_⟩; have hb6' := (Below.refl W5.heap.size W5).drew.trans hb6; have p0 := below_cell hb6' u0; have p1 := below_cell hb6' u1; have p2 := below_cell hb6' z0; have p3 := below_cell hb6' z1; have q0 := below_cell hb6' f0; have q1 := below_cell hb6' f1; have k2 := below_frozen hb6' (a := ⟨w.heap.size + 1, 0, none⟩) (by show w.heap.size + 1 < _; omega) k0; have k3 := below_frozen hb6' (a := ⟨w.heap.size + 1, 1, none⟩) (by show w.heap.size + 1 < _; omega) k1) | fail))
        all_goals
          have hB6 := H5.out.1.trans (hb6'.mono H5.out.1.size)
          have hr6 := (hb6'.block _ (by omega)).trans H5.out.2.1
          have hw6l : Win Step.cells 4 39 w6 (.slice a4 lw.length c4) (fun i => i ≠ w.heap.size + 1 ∧ w.heap.size ≤ i) lw := winC_move H5.out.2.2.1 (fr_of_below (S := fun _ => False) hb6') (fun _ _ h => h)
          have hE := line_end (k := k) hB6.size hB6 hr6 (by omega) hw6l (fun i hi => hi)
          have HE := Lib.hid (hE _ rfl)
          have hsp : Win Span.cells 2 58 ((w6.setCell ⟨w.heap.size + 1, 0, none⟩ (.int .i64 k)).setCell ⟨w.heap.size + 1, 1, none⟩ (.slice a4 lw.length c4)) (.slice a6 (diffOf k l lw).length c6) (fun i => w.heap.size ≤ i) (diffOf k l lw) := winC_mono (winC_move hw6 (stored2 w6 (w.heap.size + 1) _ _) (fun i hi h => by have h2 : i = w.heap.size + 1 := h; simp [drew_size] at hi; omega)) fun i hi => by have := H5.out.1.size; simp [drew_size] at hi; omega
          have HSP := Lib.hid hsp
          clear hE hB6 hr6 hw6l hsp p0 p1 p2 p3 q0 q1 k2 k3 hw6 hb6 hb6' u0 u1 z0 z1 f0 f1 k0 k1
          generalize (w6.setCell ⟨w.heap.size + 1, 0, none⟩ (.int .i64 k)).setCell ⟨w.heap.size + 1, 1, none⟩ (.slice a4 lw.length c4) = W7 at *
          have g0 := HE.out.1
          have g1 := HE.out.2.1
          go_wp2
          exact bodyPost_ret (v := .tuple #[.agg #[.int .i64 k, .slice a4 lw.length c4], .slice a6 (diffOf k l lw).length c6, .int .i64 0]) (by simp [results, Try.results26, go_sem, g0, g1]) rfl ⟨_, _, rfl, by (try rw [hwl]); exact HE.out.2.2.1, by (try rw [hwl]); exact HSP.out, HE.out.2.2.2⟩

      · refine named_store2 yr _ _ fun W5 hF5 u0 u1 hz5 => ?_
        clear yr y0 y1 k0 k1 x1 xr
        simp only [World.size_alloc] at hsx
        have sz4 : w3.heap.size ≤ w4.heap.size := Nat.le_trans hs5 hs4
        have hB4 : Below w.heap.size w w4 := hB5.trans (hb54.mono hB5.size)
        have hBz := hB4.size
        have hB6' : Below w.heap.size w W5 := hB4.trans (below_of_fr hF5 hBz fun i hi => by have h2 : i = w3.heap.size := hi; omega)
        have hr5 := (hF5.block (w.heap.size + 1) (by omega) (fun h => by have h2 : w.heap.size + 1 = w3.heap.size := h; omega)).trans ((hb54.block (w.heap.size + 1) (by omega)).trans ((hb35.block (w.heap.size + 1) (by omega)).trans HB3.out.2.1))
        have z0 := fr_cell hF5 r0 (fun h => by have h2 : w.heap.size = w3.heap.size := h; omega)
        have z1 := fr_cell hF5 r1 (fun h => by have h2 : w.heap.size = w3.heap.size := h; omega)
        have f0 := cell_blk hr5 0
        have f1 := cell_blk hr5 1
        have k0 := free_blk hr5 0
        have k1 := free_blk hr5 1
        have hlt := (Array.getElem?_eq_some_iff.1 hr5).1
        have hw5 : Win Step.cells 4 39 W5 (.slice a4 lw.length c4) (fun i => i ≠ w.heap.size + 1 ∧ w.heap.size ≤ i) lw := winC_mono (winC_move (winC_block hw4) hF5 (fun i hi h => by have h2 : i = w3.heap.size := h; have h3 := hi.2; first | omega | (simp [drew_size] at h3; omega))) fun i hi => by have h3 := hi.2; first | omega | (simp [drew_size] at h3; omega)
        have hDC := diffOf_any k _ _ l lw W5.drew ((HR.out.1.below hB6').below (Below.refl _ _).drew) ((win_rd step_len hw5).below (Below.refl _ _).drew) (okLine_of HL.out) (okLine_of HW.out) (lines_time HL.out HW.out)
        have H5 := Lib.hid (And.intro hB6' (And.intro hr5 (And.intro hw5 hDC)))
        clear hb4 hb5 hb35 hb54 hB5 hB6' hr5 hw4 hw5 hDC d0 d1 p0 p1 r0 r1 hF5 hB4
        have hX : w.heap.size + 1 < w3.heap.size := by omega
        generalize w3.heap.size = X at *
        go_wp2

        have ED := Lib.hid (enters_of Try.func67 (by kernel_rfl) rfl)
        set_option maxRecDepth 10000 in
        go_region_held3 (fun W => W.cell? ⟨X, 0, none⟩ = some (.int .i64 k) ∧ W.cell? ⟨X, 1, none⟩ = some (.slice a4 lw.length c4) ∧ W.cell? ⟨w.heap.size, 0, none⟩ = some (.int .i64 k) ∧ W.cell? ⟨w.heap.size, 1, none⟩ = some (.slice a l.length c)) (first | exact ⟨u0, u1, z0, z1⟩ | exact ⟨p0, p1, p2, p3⟩ | exact ⟨fr_cell (stored2 w6 (w.heap.size + 1) _ _) p0 (fun h => by have h2 : X = w.heap.size + 1 := h; omega), fr_cell (stored2 w6 (w.heap.size + 1) _ _) p1 (fun h => by have h2 : X = w.heap.size + 1 := h; omega), fr_cell (stored2 w6 (w.heap.size + 1) _ _) p2 (fun h => by have h2 : w.heap.size = w.heap.size + 1 := h; omega), fr_cell (stored2 w6 (w.heap.size + 1) _ _) p3 (fun h => by have h2 : w.heap.size = w.heap.size + 1 := h; omega)⟩ | go_keep) ((first | (refine step_call (by rfl) 67 _ _ (by rfl) (ED.out) _ (by rfl) H5.out.2.2.2 ?_; rintro _ w6 ⟨v6, rfl, hw6, hb6⟩; obtain ⟨a6, c6, rfl, _, _⟩ := winC_slice hw6; refine ⟨_, rfl, ?_⟩; have hb6' := (Below.refl W5.heap.size W5).drew.trans hb6; have p0 := below_cell hb6' u0; have p1 := below_cell hb6' u1; have p2 := below_cell hb6' z0; have p3 := below_cell hb6' z1; have q0 := below_cell hb6' f0; have q1 := below_cell hb6' f1; have k2 := below_frozen hb6' (a := ⟨w.heap.size + 1, 0, none⟩) (by show w.heap.size + 1 < _; omega) k0; have k3 := below_frozen hb6' (a := ⟨w.heap.size + 1, 1, none⟩) (by show w.heap.size + 1 < _; omega) k1) | fail))
        all_goals
          have hB6 := H5.out.1.trans (hb6'.mono H5.out.1.size)
          have hr6 := (hb6'.block _ (by omega)).trans H5.out.2.1
          have hw6l : Win Step.cells 4 39 w6 (.slice a4 lw.length c4) (fun i => i ≠ w.heap.size + 1 ∧ w.heap.size ≤ i) lw := winC_move H5.out.2.2.1 (fr_of_below (S := fun _ => False) hb6') (fun _ _ h => h)
          have hE := line_end (k := k) hB6.size hB6 hr6 (by omega) hw6l (fun i hi => hi)
          have HE := Lib.hid (hE _ rfl)
          have hsp : Win Span.cells 2 58 ((w6.setCell ⟨w.heap.size + 1, 0, none⟩ (.int .i64 k)).setCell ⟨w.heap.size + 1, 1, none⟩ (.slice a4 lw.length c4)) (.slice a6 (diffOf k l lw).length c6) (fun i => w.heap.size ≤ i) (diffOf k l lw) := winC_mono (winC_move hw6 (stored2 w6 (w.heap.size + 1) _ _) (fun i hi h => by have h2 : i = w.heap.size + 1 := h; simp [drew_size] at hi; omega)) fun i hi => by have := H5.out.1.size; simp [drew_size] at hi; omega
          have HSP := Lib.hid hsp
          clear hE hB6 hr6 hw6l hsp p0 p1 p2 p3 q0 q1 k2 k3 hw6 hb6 hb6' u0 u1 z0 z1 f0 f1 k0 k1
          generalize (w6.setCell ⟨w.heap.size + 1, 0, none⟩ (.int .i64 k)).setCell ⟨w.heap.size + 1, 1, none⟩ (.slice a4 lw.length c4) = W7 at *
          have g0 := HE.out.1
          have g1 := HE.out.2.1
          go_wp2
          exact bodyPost_ret (v := .tuple #[.agg #[.int .i64 k, .slice a4 lw.length c4], .slice a6 (diffOf k l lw).length c6, .int .i64 0]) (by simp [results, Try.results26, go_sem, g0, g1]) rfl ⟨_, _, rfl, by (try rw [hwl]); exact HE.out.2.2.1, by (try rw [hwl]); exact HSP.out, HE.out.2.2.2⟩

end Go.Proofs.Ytkoeplbkeboklaa
/- retro.place$1: how a step's time compares. -/
set_option linter.unusedVariables false
set_option linter.unusedSimpArgs false
namespace Go.Proofs.Ytkoeplbkeboklaa
open Go.RowKit
theorem placeCmp_any (s : Step) (t : Int) (w : World) : Calls Try.prog 85 #[.agg #[.int .i64 s.at_, .int .i64 s.do_, .int .i64 s.key, .int .i64 s.val], .int .i64 t] w fun e w' => e = .returned (.int .i64 (cmpP s.at_ t)) ∧ Below w.heap.size w w' := by
  go_enter Try.func85, Try.ntmps85
  go_wp2_with (go_at_call 86; refine (compare_any _ _ _).mono ?_; rintro e w' ⟨rfl, rfl⟩)
  go_ret
  exact ⟨rfl, (Below.refl _ _).alloc (Nat.le_refl _) _⟩
end Go.Proofs.Ytkoeplbkeboklaa
