/- The law RetroOne: put. -/
import Derived.Test.YtkoeplbkeboklaaXL12
import Derived.Test.YtkoeplbkeboklaaM8
import Derived.Test.YtkoeplbkeboklaaXL5
set_option linter.unusedVariables false
set_option linter.unusedSimpArgs false
namespace Go.Proofs.Ytkoeplbkeboklaa
open Go.RowKit
theorem g_atw {w : World} {k : Int} {v : Value} {l : List Step} (t : Int) (ps : List Pair) (er : Int) (hr : Rd Step.cells 4 w v l) (he : atP k l t = (ps, er)) :
    Calls Try.prog 29 #[.agg #[.int .i64 k, v], .int .i64 t] w fun e w' => ∃ a c, e = .returned (.tuple #[.slice a ps.length c, .int .i64 er]) ∧ Rd Pair.cells 2 w' (.slice a ps.length c) ps ∧ ps.length ≤ c ∧ Below w.heap.size w w' :=
  (at_any k v l t w hr).mono fun e w' ⟨v', h1, h2, h3⟩ => by
    rw [he] at h1 h2
    have hrd := win_rd pair_len h2
    obtain ⟨a, c, rfl, hn, _⟩ := winC_slice h2
    exact ⟨a, c, h1, hrd, hn, h3⟩
def putP (less more : List Pair) : Prop := less = more ∨ (more.length = less.length + 1 ∧ ∃ i, i < more.length ∧ more.take i ++ more.drop (i + 1) = less)
set_option maxHeartbeats 4000000 in
theorem put_any (v1 v2 : Value) (less more : List Pair) (w : World) (h1 : Rd Pair.cells 2 w v1 less) (h2 : Rd Pair.cells 2 w v2 more) (hcap : ∀ a n c, v2 = .slice a n c → n ≤ c) (hl : more.length ≤ 100000) (hput : putP less more) :
    Calls Try.prog 49 #[v1, v2] w fun e w' => e = .returned (.bool true) ∧ Below w.heap.size w w' := by
  obtain ⟨a1, c1, rfl⟩ : ∃ a c, v1 = .slice a less.length c := by obtain ⟨_, a, c, rfl, _⟩ := h1; exact ⟨a, c, rfl⟩
  obtain ⟨a2, c2, rfl⟩ : ∃ a c, v2 = .slice a more.length c := by obtain ⟨_, a, c, rfl, _⟩ := h2; exact ⟨a, c, rfl⟩
  have hc2 := hcap _ _ _ rfl
  have HA := Lib.hid h1
  have HB := Lib.hid h2
  have HP := Lib.hid hput
  clear h1 h2 hcap hput
  go_enter Try.func49, Try.ntmps49
  by_cases hlm : less = more
  · have HE := Lib.hid (decide_eq_true hlm)
    clear hlm
    go_wp2_with fail
    refine (equalPairs_any _ _ less more _ HA.out HB.out).mono ?_
    rintro e w1 ⟨rfl, hb⟩
    rw [HE.out]
    go_wp2
    go_ret
    exact ⟨rfl, hb⟩
  · have HE := Lib.hid (decide_eq_false hlm)
    obtain ⟨hlen, q, hq, hqe⟩ := HP.out.resolve_left hlm
    have hwl : IntKind.i64.wrap ((less.length : Int) + 1) = (more.length : Int) := by rw [Go.IntWalk.i64_in _ (by omega)]; omega
    have hll : less.length ≤ 100000 := by omega
    have HQ := Lib.hid (And.intro hq hqe)
    clear hlm hqe hq hlen
    go_wp2_with fail
    refine (equalPairs_any _ _ less more _ HA.out HB.out).mono ?_
    rintro e w1 ⟨rfl, hb⟩
    rw [HE.out]
    have HB1 := Lib.hid hb
    clear hb
    go_wp2
    go_loopw [17] (fun i W => ∃ n : Nat, i = .int .i64 n ∧ n ≤ more.length ∧ (∀ j, j < n → more.take j ++ more.drop (j + 1) ≠ less) ∧ Below w.heap.size w W) (fun i _ => more.length - (intOf i).toNat)
    case atStart => exact ⟨0, rfl, by omega, fun j hj => absurd hj (by omega), HB1.out⟩
    case round =>
      obtain ⟨n, rfl, hnl, hno, hB⟩ := hrel
      by_cases hlt : n < more.length
      · have hx := List.getElem?_eq_getElem hlt
        obtain ⟨b, off, rfl, hbl, _⟩ := rd_at (HB.out.below hB) hx
        have hrm := HB.out.below hB
        have r1 := rd_cut hrm 0 n (by omega) (by omega) off c2 (fun _ => by omega)
        rw [List.drop_zero, Nat.sub_zero] at r1
        have HN := Lib.hid (And.intro hno hB)
        have hw1 : IntKind.i64.wrap ((n : Int) + 1) = (n : Int) + 1 := Go.IntWalk.i64_in _ (by omega)
        have n1 : (n : Int) ≤ (c2 : Int) := by omega
        have n2 : (n : Int) + 1 ≤ (more.length : Int) := by omega
        have n3 : (more.length : Int) ≤ (c2 : Int) := by omega
        have n4 : (0 : Int) ≤ (n : Int) + 1 := by omega
        have HR1 := Lib.hid r1
        have HRM := Lib.hid hrm
        clear hno hB hx r1 hrm
        by_cases hc : c2 = n + 1
        · have hrest : more.length = n + 1 := by omega
          subst hc
          have HL := Lib.hid hrest
          have n7 : (n : Int) ≤ (n : Int) + 1 := by omega
          have n8 : (more.length : Int) ≤ (n : Int) + 1 := by omega
          have n9 : ¬ ((n : Int) = (n : Int) + 1) := by omega
          clear hrest n1 n3
          have r2 : Rd Pair.cells 2 wr (.slice (some ⟨b, off, none⟩) (0) (0)) (more.drop (n + 1)) := by
            have h := rd_cut HRM.out (n + 1) more.length (by omega) (by omega) (off) (0) (fun h => by omega)
            rw [List.take_of_length_le (by simp)] at h
            rw [show more.length - (n + 1) = 0 by omega] at h
            exact h
          have HCC := Lib.hid (fun T => pairsConcat_any wr.heap.size (.slice (some ⟨b, off, none⟩) n (n + 1)) (.slice (some ⟨b, off, none⟩) (0) (0)) _ _ (wr.alloc (.cells #[.slice (some ⟨b, off, none⟩) n (n + 1), .slice (some ⟨b, off, none⟩) (0) (0)] T)).drew (HR1.out.below ((Below.refl _ _).alloc (Nat.le_refl _) _).drew) (r2.below ((Below.refl _ _).alloc (Nat.le_refl _) _).drew) (box_at wr _ T 0) (box_at wr _ T 1) (by simp; omega) (by simp; omega))
          clear r2
          have hbr := fun o => HN.out.2.trans (((Below.refl wr.heap.size wr).alloc (Nat.le_refl _) o).drew.mono HN.out.2.size)
          have HBR := Lib.hid hbr
          have EJ := Lib.hid (enters_of Try.func76 (by kernel_rfl) rfl)
          have EK := Lib.hid (enters_of Try.func39 (by kernel_rfl) rfl)
          clear hbr
          obtain ⟨g, hg⟩ : ∃ g, decide (more.take n ++ more.drop (n + 1) = less) = g := ⟨_, rfl⟩
          have HG := Lib.hid hg
          clear hg
          go_wp2
          set_option maxRecDepth 10000 in
          go_region_law ((first | (refine step_call (by rfl) 76 _ _ (by rfl) EJ.out _ (by rfl) (HCC.out _) ?_; rintro _ w2 ⟨v3, rfl, hw2, hb2⟩; refine ⟨_, rfl, ?_⟩; have hB2 := Lib.hid ((HBR.out _).trans (hb2.mono (HBR.out _).size)); have HR3 := Lib.hid (equalPairs_any _ _ _ _ _ (win_rd pair_len hw2) (HA.out.below hB2.out)); rw [HG.out] at HR3; clear hw2 hb2) | (refine step_call (by rfl) 39 _ _ (by rfl) EK.out _ (by rfl) HR3.out ?_; rintro _ w4 ⟨rfl, hb4⟩; refine ⟨_, rfl, ?_⟩; have hB4 := Lib.hid (hB2.out.trans (hb4.mono hB2.out.size)); clear hb4) | fail))
          cases g with
          | true =>
            go_wp2
            go_ret
            exact ⟨rfl, hB4.out⟩
          | false =>
            go_wp2
            go_roundw
            case rel => exact ⟨n + 1, by go_num, by omega, fun j hj => by
              rcases Nat.lt_or_ge j n with h | h
              · exact HN.out.1 j h
              · obtain rfl : j = n := by omega
                exact of_decide_eq_false HG.out, hB4.out⟩
            case measure => simp [intOf]; omega

        · have n5 : ¬ ((c2 : Int) = (n : Int) + 1) := by omega
          have n6 : ¬ ((n : Int) + 1 = (c2 : Int)) := by omega
          have r2 : Rd Pair.cells 2 wr (.slice (some ⟨b, off + (n + 1) * 2, none⟩) (more.length - (n + 1)) (c2 - (n + 1))) (more.drop (n + 1)) := by
            have h := rd_cut HRM.out (n + 1) more.length (by omega) (by omega) (off + (n + 1) * 2) (c2 - (n + 1)) (fun _ => rfl)
            rw [List.take_of_length_le (by simp)] at h
            skip
            exact h
          have HCC := Lib.hid (fun T => pairsConcat_any wr.heap.size (.slice (some ⟨b, off, none⟩) n (c2)) (.slice (some ⟨b, off + (n + 1) * 2, none⟩) (more.length - (n + 1)) (c2 - (n + 1))) _ _ (wr.alloc (.cells #[.slice (some ⟨b, off, none⟩) n (c2), .slice (some ⟨b, off + (n + 1) * 2, none⟩) (more.length - (n + 1)) (c2 - (n + 1))] T)).drew (HR1.out.below ((Below.refl _ _).alloc (Nat.le_refl _) _).drew) (r2.below ((Below.refl _ _).alloc (Nat.le_refl _) _).drew) (box_at wr _ T 0) (box_at wr _ T 1) (by simp; omega) (by simp; omega))
          clear r2
          have hbr := fun o => HN.out.2.trans (((Below.refl wr.heap.size wr).alloc (Nat.le_refl _) o).drew.mono HN.out.2.size)
          have HBR := Lib.hid hbr
          have EJ := Lib.hid (enters_of Try.func76 (by kernel_rfl) rfl)
          have EK := Lib.hid (enters_of Try.func39 (by kernel_rfl) rfl)
          clear hbr
          obtain ⟨g, hg⟩ : ∃ g, decide (more.take n ++ more.drop (n + 1) = less) = g := ⟨_, rfl⟩
          have HG := Lib.hid hg
          clear hg
          go_wp2
          set_option maxRecDepth 10000 in
          go_region_law ((first | (refine step_call (by rfl) 76 _ _ (by rfl) EJ.out _ (by rfl) (HCC.out _) ?_; rintro _ w2 ⟨v3, rfl, hw2, hb2⟩; refine ⟨_, rfl, ?_⟩; have hB2 := Lib.hid ((HBR.out _).trans (hb2.mono (HBR.out _).size)); have HR3 := Lib.hid (equalPairs_any _ _ _ _ _ (win_rd pair_len hw2) (HA.out.below hB2.out)); rw [HG.out] at HR3; clear hw2 hb2) | (refine step_call (by rfl) 39 _ _ (by rfl) EK.out _ (by rfl) HR3.out ?_; rintro _ w4 ⟨rfl, hb4⟩; refine ⟨_, rfl, ?_⟩; have hB4 := Lib.hid (hB2.out.trans (hb4.mono hB2.out.size)); clear hb4) | fail))
          cases g with
          | true =>
            go_wp2
            go_ret
            exact ⟨rfl, hB4.out⟩
          | false =>
            go_wp2
            go_roundw
            case rel => exact ⟨n + 1, by go_num, by omega, fun j hj => by
              rcases Nat.lt_or_ge j n with h | h
              · exact HN.out.1 j h
              · obtain rfl : j = n := by omega
                exact of_decide_eq_false HG.out, hB4.out⟩
            case measure => simp [intOf]; omega

      · obtain rfl : n = more.length := by omega
        exact absurd HQ.out.2 (hno q HQ.out.1)
end Go.Proofs.Ytkoeplbkeboklaa
