/- The law RetroLived, walked. (Printed by laws16.py.) -/
import Derived.Test.YtkoeplbkeboklaaGreatM7
import Derived.Lib.MinMax
import Derived.Deep.DeepCutAuto
set_option linter.unusedVariables false
set_option linter.unusedSimpArgs false
namespace Go.Proofs.YtkoeplbkeboklaaGreat
open Go.RowKit Go.Shelf
theorem pw_at {α : Type} {R : α → α → Prop} {l : List α} (h : l.Pairwise R) {m i : Nat} {y x : α} (hm : m < i) (h1 : l[m]? = some y) (h2 : l[i]? = some x) : R y x := by
  obtain ⟨l1, rfl⟩ := List.getElem?_eq_some_iff.1 h1
  obtain ⟨l2, rfl⟩ := List.getElem?_eq_some_iff.1 h2
  exact List.pairwise_iff_getElem.1 h m i l1 l2 hm
theorem _root_.Go.RowKit.Below.below {w w1 w2 : World} (h : Below w.heap.size w w1) (hb : Below w1.heap.size w1 w2) : Below w.heap.size w w2 := h.trans (hb.mono h.size)
set_option maxRecDepth 100000 in
set_option maxHeartbeats 16000000 in
theorem w_RetroLived (k : Int) (u : Value) (l : List Step) (t : Int) (w : World) (hr : Rd Step.cells 4 w u l) :
    Calls Tryz.prog 3 #[.agg #[.int .i64 k, u], .int .i64 t] w fun e w' => e = .returned (.bool true) ∧ Below w.heap.size w w' := by
  obtain ⟨a, c, rfl⟩ : ∃ a c, u = .slice a l.length c := by obtain ⟨_, a, c, rfl, _⟩ := hr; exact ⟨a, c, rfl⟩
  have HB := Lib.hid (Below.refl w.heap.size w)
  have RS := Lib.hid hr
  clear hr
  cases hl : isLineP k l with
  | false =>
    have E1 := Lib.hid (show livesP k l = ([], 2) by simp [livesP, hl])
    have E2 := Lib.hid (show takesP k l = ([], 2) by simp [takesP, hl])
    have E3 := Lib.hid (show atP k l t = ([], 2) by simp [atP, hl])
    have G1 := Lib.hid (fun W v (h : Rd Step.cells 4 W v l) => by have := good_any k v l W h; rwa [hl] at this)
    clear hl
    go_enter Tryz.func3, Tryz.ntmps3
    go_wp2_with fail
    refine named_box1 (G := fun W => Calls _ _ _ W _) w _ _ fun w2 hb hz hx => ?_
    replace RS := Lib.hid (RS.out.below hb)
    replace HB := Lib.hid (HB.out.trans (hb.mono HB.out.size))
    clear hb
    have c0 : w2.cell? ⟨w.heap.size, 0, none⟩ = some (.int .i64 k) := cell_blk hx 0
    have c1 : w2.cell? ⟨w.heap.size, 1, none⟩ = some (.slice a l.length c) := cell_blk hx 1
    clear hx hz
    refine (z_lives [] 2 RS.out E1.out).mono ?_
    rintro e w1 ⟨aL, cL, rfl, rl, hcl, hb⟩
    replace c0 := below_cell hb c0
    replace c1 := below_cell hb c1
    replace RS := Lib.hid (RS.out.below hb)
    replace HB := Lib.hid (HB.out.trans (hb.mono HB.out.size))
    clear hb
    have RL := Lib.hid rl
    clear rl
    clear RL hcl
    go_wp2_with fail
    refine (z_takes [] 2 RS.out E2.out).mono ?_
    rintro e w1 ⟨aT, cT, rfl, rt, hb⟩
    replace c0 := below_cell hb c0
    replace c1 := below_cell hb c1
    replace RS := Lib.hid (RS.out.below hb)
    replace HB := Lib.hid (HB.out.trans (hb.mono HB.out.size))
    clear hb
    have RT := Lib.hid rt
    clear rt
    clear RT
    go_wp2_with fail
    refine (z_at t [] 2 RS.out E3.out).mono ?_
    rintro e w1 ⟨aH, cH, rfl, rh, hb⟩
    replace c0 := below_cell hb c0
    replace c1 := below_cell hb c1
    replace RS := Lib.hid (RS.out.below hb)
    replace HB := Lib.hid (HB.out.trans (hb.mono HB.out.size))
    clear hb
    have RH := Lib.hid rh
    clear rh
    clear RH
    go_wp2_with fail
    refine (G1.out _ _ RS.out).mono ?_
    rintro e w1 ⟨rfl, hb⟩
    replace c0 := below_cell hb c0
    replace c1 := below_cell hb c1
    replace RS := Lib.hid (RS.out.below hb)
    replace HB := Lib.hid (HB.out.trans (hb.mono HB.out.size))
    clear hb
    go_wp2_with fail
    refine (known_any _).mono ?_
    rintro e w1 ⟨rfl, hb⟩
    replace c0 := below_cell hb c0
    replace c1 := below_cell hb c1
    replace RS := Lib.hid (RS.out.below hb)
    replace HB := Lib.hid (HB.out.trans (hb.mono HB.out.size))
    clear hb
    go_wp2
    go_ret
    exact ⟨rfl, HB.out⟩
  | true =>
    obtain ⟨L, hL⟩ : ∃ L, L = livesOf k l := ⟨_, rfl⟩
    obtain ⟨T, hT⟩ : ∃ T, T = takesOf k l := ⟨_, rfl⟩
    obtain ⟨P, hP⟩ : ∃ P, P = thereP k l t := ⟨_, rfl⟩
    have E1 := Lib.hid (show livesP k l = (L, 0) by simp [livesP, hl, hL])
    have E2 := Lib.hid (show takesP k l = (T, 0) by simp [takesP, hl, hT])
    have E3 := Lib.hid (show atP k l t = (P, 0) by simp [atP, hl, hP])
    have h60 := (isLineP_spec hl).2.2.1
    have hLl : L.length ≤ 60 := by rw [hL]; exact Nat.le_trans (livesOf_length k l) h60
    have hTl : T.length ≤ 60 := by rw [hT, takes_count hl]; exact Nat.le_trans (List.length_filter_le _ _) h60
    have LV := Lib.hid (fun (i : Nat) (x : Life) (h : L[i]? = some x) => (lives_lie hl).1 x (hL ▸ List.mem_of_getElem? h))
    have LO := Lib.hid (fun (m i : Nat) (y x : Life) (hm : m < i) (h1 : L[m]? = some y) (h2 : L[i]? = some x) => pw_at (lives_lie hl).2.1 hm (hL ▸ h1) (hL ▸ h2))
    have LI := Lib.hid (fun (m i : Nat) (y x : Life) (hm : m < i) (h1 : L[m]? = some y) (h2 : L[i]? = some x) => pw_at (lives_lie hl).2.2 hm (hL ▸ h1) (hL ▸ h2))
    have N1 := Lib.hid (show k ≠ 3 → (L.filter (nowP t)).map pairL = P from fun h => by rw [hL, hP]; exact now_there hl t h)
    have N3 := Lib.hid (show k = 3 → ∀ ss : List Pair, ss.Perm ((L.filter (nowP t)).map pairL) → (ss.Pairwise fun a b => a.key ≤ b.key) → ss = P from fun h ss h1 h2 => by subst h; rw [hL] at h1; rw [hP]; exact now_sorted hl t h1 h2)
    have NK := Lib.hid (show ∀ p ∈ (L.filter (nowP t)).map pairL, -1000000000 ≤ p.key ∧ p.key ≤ 1000000000 from by rw [hL]; exact now_keys hl t)
    have TP := Lib.hid (fun (n : Nat) (s : Step) (h : l[n]? = some s) (hs : s.do_ = 2) => show T[((l.take n).filter outP).length]? = some ⟨endsAt L s.at_, s.at_⟩ by rw [hL, hT]; exact takes_place hl h hs)
    have TC := Lib.hid (show T.length = (l.filter outP).length by rw [hT]; exact takes_count hl)
    have FN := Lib.hid (fun (x : Life) (h : x ∈ L) => from_nat hl (hL ▸ h))
    have EI := Lib.hid (fun a : Int => idx_ends a L 0)
    have G1 := Lib.hid (fun W v (h : Rd Step.cells 4 W v l) => by have := good_any k v l W h; rwa [hl] at this)
    clear hl hL hT hP
    obtain ⟨M, hM⟩ : ∃ M : Int, M = min t 1000 := ⟨_, rfl⟩
    have HM := Lib.hid hM
    have hMe := hM.symm
    clear hM
    go_enter Tryz.func3, Tryz.ntmps3
    go_wp2_with fail
    refine named_box1 (G := fun W => Calls _ _ _ W _) w _ _ fun w2 hb hz hx => ?_
    replace RS := Lib.hid (RS.out.below hb)
    replace HB := Lib.hid (HB.out.trans (hb.mono HB.out.size))
    clear hb
    have c0 : w2.cell? ⟨w.heap.size, 0, none⟩ = some (.int .i64 k) := cell_blk hx 0
    have c1 : w2.cell? ⟨w.heap.size, 1, none⟩ = some (.slice a l.length c) := cell_blk hx 1
    clear hx hz
    refine (z_lives L 0 RS.out E1.out).mono ?_
    rintro e w1 ⟨aL, cL, rfl, rl, hcl, hb⟩
    replace c0 := below_cell hb c0
    replace c1 := below_cell hb c1
    replace RS := Lib.hid (RS.out.below hb)
    replace HB := Lib.hid (HB.out.trans (hb.mono HB.out.size))
    clear hb
    have RL := Lib.hid rl
    clear rl
    go_wp2_with fail
    refine (z_takes T 0 RS.out E2.out).mono ?_
    rintro e w1 ⟨aT, cT, rfl, rt, hb⟩
    replace c0 := below_cell hb c0
    replace c1 := below_cell hb c1
    replace RS := Lib.hid (RS.out.below hb)
    replace RL := Lib.hid (RL.out.below hb)
    replace HB := Lib.hid (HB.out.trans (hb.mono HB.out.size))
    clear hb
    have RT := Lib.hid rt
    clear rt
    go_wp2_with fail
    refine (z_at t P 0 RS.out E3.out).mono ?_
    rintro e w1 ⟨aH, cH, rfl, rh, hb⟩
    replace c0 := below_cell hb c0
    replace c1 := below_cell hb c1
    replace RS := Lib.hid (RS.out.below hb)
    replace RL := Lib.hid (RL.out.below hb)
    replace RT := Lib.hid (RT.out.below hb)
    replace HB := Lib.hid (HB.out.trans (hb.mono HB.out.size))
    clear hb
    have RH := Lib.hid rh
    clear rh
    go_wp2_with fail
    refine (G1.out _ _ RS.out).mono ?_
    rintro e w1 ⟨rfl, hb⟩
    replace c0 := below_cell hb c0
    replace c1 := below_cell hb c1
    replace RS := Lib.hid (RS.out.below hb)
    replace RL := Lib.hid (RL.out.below hb)
    replace RT := Lib.hid (RT.out.below hb)
    replace RH := Lib.hid (RH.out.below hb)
    replace HB := Lib.hid (HB.out.trans (hb.mono HB.out.size))
    clear hb
    go_wp2
    go_loopw [54, 11] (fun i v W => ∃ (n : Nat) (ns : List Pair) (a1 : Option Addr) (c1 : Nat), i = .int .i64 n ∧ v = .slice a1 ns.length c1 ∧ n ≤ L.length ∧ ns = ((L.take n).filter (nowP t)).map pairL ∧ Win Pair.cells 2 39 W (.slice a1 ns.length c1) (fun j => w1.heap.size ≤ j) ns ∧ Below w1.heap.size w1 W) (fun i _ _ => L.length - (intOf i).toNat)
    case atStart => exact ⟨0, [], none, 0, rfl, rfl, by omega, rfl, winC_nil _ _ _ _, Below.refl _ _⟩
    case round =>
      obtain ⟨n, ns, a1, c1', rfl, rfl, hnl, hns, hw, hB1⟩ := hrel
      have hnn : ns.length ≤ n := by rw [hns, List.length_map]; exact Nat.le_trans (List.length_filter_le _ _) (by rw [List.length_take]; omega)
      have HNS := Lib.hid hns
      have HW := Lib.hid hw
      have HB1 := Lib.hid hB1
      clear hns hw hB1
      by_cases hlt : n < L.length
      · skip
        have hx := List.getElem?_eq_getElem hlt
        generalize L[n] = x at hx
        obtain ⟨b, off, hav, hbl, hc⟩ := rd_at (RL.out.below HB1.out) hx
        subst hav
        have q0 : wr.cell? ⟨b, off + n * 4, none⟩ = some (.int .i64 x.from_) := hc 0 _ rfl
        have q1 := hc 1 _ rfl
        have q2 := hc 2 _ rfl
        have q3 := hc 3 _ rfl
        have HX := Lib.hid hx
        clear hx hc hbl
        obtain ⟨g, hg⟩ : ∃ g, g = nowP t x := ⟨_, rfl⟩
        have HG := Lib.hid hg
        clear hg
        go_upto_region 12 with (fail)
        go_cut [69] (fun v W => v = .bool g ∧ W = wr.alloc (.cells #[.int .i64 x.from_, .int .i64 x.to_, .int .i64 x.key, .int .i64 x.val] 41))
        case first =>
          by_cases h1 : x.from_ ≤ t
          · by_cases h2 : M < x.to_
            · have hgv : g = true := by rw [HG.out]; unfold nowP; rw [← HM.out, decide_eq_true h1, decide_eq_true h2]; rfl
              go_wp2
              go_meet
              exact ⟨by rw [hgv], rfl⟩
            · have hgv : g = false := by rw [HG.out]; unfold nowP; rw [← HM.out, decide_eq_false h2, Bool.and_false]
              go_wp2
              go_meet
              exact ⟨by rw [hgv], rfl⟩
          · have hgv : g = false := by rw [HG.out]; unfold nowP; rw [decide_eq_false h1, Bool.false_and]
            go_wp2
            go_meet
            exact ⟨by rw [hgv], rfl⟩
        case rest =>
        obtain ⟨rfl, hW⟩ := hcut
        have hW2 := hW.symm
        clear hW
        subst hW2
        go_upto_if 69 with (fail)
        go_cut [11] (fun v W => ∃ (ns2 : List Pair) (a2 : Option Addr) (c2 : Nat), v = .slice a2 ns2.length c2 ∧ ns2 = ((L.take (n + 1)).filter (nowP t)).map pairL ∧ Win Pair.cells 2 39 W (.slice a2 ns2.length c2) (fun j => w1.heap.size ≤ j) ns2 ∧ Below w1.heap.size w1 W ∧ W.cell? ⟨wr.heap.size, 0, none⟩ = some (.int .i64 x.from_) ∧ W.cell? ⟨wr.heap.size, 1, none⟩ = some (.int .i64 x.to_))
        case first =>
          have HT1 : Hid ((L.take (n + 1)).filter (nowP t) = (L.take n).filter (nowP t) ++ if nowP t x then [x] else []) := Lib.hid (by
            rw [List.take_add_one, HX.out, Option.toList_some, List.filter_append, List.filter_cons]
            rfl)
          cases g
          · skip
            go_wp2
            go_meet
            exact ⟨ns, a1, c1', rfl, by rw [HT1.out, ← HG.out, HNS.out]; simp, winC_move HW.out (fr_alloc (fun _ => False) _ _) (fun _ _ h => h), HB1.out.alloc HB1.out.size _, box_at wr _ _ 0, box_at wr _ _ 1⟩
          · skip
            have hwa : WinC 2 39 ((wr.alloc (.cells #[.int .i64 x.from_, .int .i64 x.to_, .int .i64 x.key, .int .i64 x.val] 41)).alloc (.cells #[.int .i64 x.key, .int .i64 x.val] 39)) (.slice a1 ns.length c1') (fun j => w1.heap.size ≤ j) ns.length (ns.flatMap Pair.cells) := winC_move HW.out (fr_trans (fr_alloc (fun _ => False) _ _) (fr_alloc (fun _ => False) _ _) (fun _ _ h => h)) (fun _ _ h => h)
            have HWA := Lib.hid hwa
            clear hwa
            have hsz0 : (wr.alloc (.cells #[.int .i64 x.from_, .int .i64 x.to_, .int .i64 x.key, .int .i64 x.val] 41)).heap.size = wr.heap.size + 1 := by simp
            have hnb := heap_alloc_new (wr.alloc (.cells #[.int .i64 x.from_, .int .i64 x.to_, .int .i64 x.key, .int .i64 x.val] 41)) (.cells #[.int .i64 x.key, .int .i64 x.val] 39)
            rw [hsz0] at hnb
            have HNB := Lib.hid hnb
            clear hnb hsz0
            go_wp2_with (at_builtin; (refine wpList_append_win _ (by rfl) _ _ _ (by rfl) 39 2 16 _ Tryz.underlying33 info_pair rfl (by decide) _ _ ns.length _ (by rfl) HWA.out _ _ _ [.int .i64 x.key, .int .i64 x.val] (by rfl) (by rfl) (World.news_of_block HNB.out) (by simp [Value.oneCell']) (by decide) (by unfold maxLen; omega) (by omega) ?_); intro v3 w5 hwin3 hfr3 hsz3; obtain ⟨a4, c4, rfl, hn4, hm4⟩ := winC_slice hwin3)
            have F3 : Fr (fun i => some i = (Value.slice a1 ns.length c1').ownBlock) (wr.alloc (.cells #[.int .i64 x.from_, .int .i64 x.to_, .int .i64 x.key, .int .i64 x.val] 41)) w5 := fr_trans (fr_alloc _ _ _) hfr3 fun _ _ h => h
            have hoX : ¬ some wr.heap.size = (Value.slice a1 ns.length c1').ownBlock := fun h => by have := (winC_ob HW.out _ h).2; omega
            have hoB := fun i hi => (winC_ob HW.out i hi).1
            go_meet
            refine ⟨ns ++ [pairL x], a4, c4, by rw [List.length_append]; rfl, ?_, ?_, HB1.out.trans (below_of_fr (fr_trans (fr_alloc _ wr _) F3 fun _ _ h => h) HB1.out.size fun i hi => hoB i hi), fr_cell F3 (box_at wr _ _ 0) hoX, fr_cell F3 (box_at wr _ _ 1) hoX⟩
            · rw [HT1.out, ← HG.out, HNS.out]; simp
            · have h7 : WinC 2 39 w5 (.slice a4 (ns.length + 1) c4) (fun j => w1.heap.size ≤ j) (ns.length + 1) (ns.flatMap Pair.cells ++ [.int .i64 x.key, .int .i64 x.val]) := winC_mono hwin3 fun i hi => by
                have := HB1.out.size
                rcases hi with hi | hi
                · exact hi.1
                · simp at hi; omega
              simpa [Win, Pair.cells, pairL] using h7
        case rest =>
          obtain ⟨ns2, a2, c2, rfl, hns2, hw2, hb, s0, s1⟩ := hcut
          obtain ⟨wN, rfl⟩ : ∃ y : World, y = wc := ⟨wc, rfl⟩
          have HN := Lib.hid (And.intro hns2 (And.intro hw2 hb))
          clear hns2 hw2 q0 q1 q2 q3 HW HNS HB1 hnn
          replace c0 := below_cell hb c0
          replace c1 := below_cell hb c1
          replace RS := Lib.hid (RS.out.below hb)
          replace RL := Lib.hid (RL.out.below hb)
          replace RT := Lib.hid (RT.out.below hb)
          replace RH := Lib.hid (RH.out.below hb)
          replace HB := Lib.hid (HB.out.trans (hb.mono HB.out.size))
          clear hb
          generalize wr.heap.size = X at *
          have HBN := Lib.hid (Below.refl wN.heap.size wN)
          go_upto_region 14 with (fail)
          go_cut [94] (fun v W => v = .bool false ∧ Below wN.heap.size wN W)
          case first =>
            have hlv := LV.out n x HX.out
            have hle : ¬ x.to_ ≤ x.from_ := by omega
            have hb : Below wN.heap.size wN wN.drew := (Below.refl _ _).drew
            have HD := Lib.hid hb
            replace c0 := below_cell hb c0
            replace c1 := below_cell hb c1
            replace s0 := below_cell hb s0
            replace s1 := below_cell hb s1
            replace RS := Lib.hid (RS.out.below hb)
            replace RL := Lib.hid (RL.out.below hb)
            replace RT := Lib.hid (RT.out.below hb)
            replace RH := Lib.hid (RH.out.below hb)
            replace HBN := Lib.hid (HBN.out.below hb)
            replace HB := Lib.hid (HB.out.trans (hb.mono HB.out.size))
            clear hb
            have HS01 := Lib.hid (And.intro s0 s1)
            cases n with
            | zero =>
              try refine wp_region_noPanic ?_
              refine wp_region_held_drew (S := fun W => W.cell? ⟨X, 0, none⟩ = some (.int .i64 x.from_) ∧ W.cell? ⟨X, 1, none⟩ = some (.int .i64 x.to_)) (by kernel_rfl) ⟨s0, s1⟩ (fun hHeld => ?_)
              set_option maxRecDepth 10000 in
              refine wpAnyH_take (i := 0) (v := ?_) rfl (by kernel_rfl) (by kernel_rfl) (by kernel_rfl) (fun _ _ _ h => h) (Or.inl ⟨by rfl, ?_⟩) (by assumption) ?_
              rotate_left
              · intro w hSw; (try dsimp only at hSw); go_simp; (try with_reducible rfl)
              try simp only [Act.put, List.getElem_toArray, List.getElem_cons_zero, List.getElem_cons_succ, List.setIfInBounds_toArray, List.set_cons_zero, List.set_cons_succ]

              set_option maxRecDepth 10000 in
              refine wpAnyH_take (i := 1) (v := ?_) rfl (by kernel_rfl) (by kernel_rfl) (by kernel_rfl) (fun _ _ _ h => h) (Or.inl ⟨by rfl, ?_⟩) (by assumption) ?_
              rotate_left
              · intro w hSw; (try dsimp only at hSw); go_simp; (try with_reducible rfl)
              try simp only [Act.put, List.getElem_toArray, List.getElem_cons_zero, List.getElem_cons_succ, List.setIfInBounds_toArray, List.set_cons_zero, List.set_cons_succ]

              set_option maxRecDepth 10000 in
              refine wpAnyH_take (i := 2) (v := ?_) rfl (by kernel_rfl) (by kernel_rfl) (by kernel_rfl) (fun _ _ _ h => h) (Or.inl ⟨by rfl, ?_⟩) (by assumption) ?_
              rotate_left
              · intro w hSw; (try dsimp only at hSw); go_simp; (try with_reducible rfl)
              try simp only [Act.put, List.getElem_toArray, List.getElem_cons_zero, List.getElem_cons_succ, List.setIfInBounds_toArray, List.set_cons_zero, List.set_cons_succ]

              set_option maxRecDepth 10000 in
              refine wpAnyH_take (i := 3) (v := ?_) rfl (by kernel_rfl) (by kernel_rfl) (by kernel_rfl) (fun _ _ _ h => h) (Or.inl ⟨by rfl, ?_⟩) (by assumption) ?_
              rotate_left
              · intro w hSw; (try dsimp only at hSw); go_simp; (try with_reducible rfl)
              try simp only [Act.put, List.getElem_toArray, List.getElem_cons_zero, List.getElem_cons_succ, List.setIfInBounds_toArray, List.set_cons_zero, List.set_cons_succ]

              set_option maxRecDepth 10000 in
              refine wpAnyH_take (i := 4) (v := ?_) rfl (by kernel_rfl) (by kernel_rfl) (by kernel_rfl) (fun _ _ _ h => h) (Or.inl ⟨by rfl, ?_⟩) (by assumption) ?_
              rotate_left
              · intro w hSw; (try dsimp only at hSw); go_simp; (try with_reducible rfl)
              try simp only [Act.put, List.getElem_toArray, List.getElem_cons_zero, List.getElem_cons_succ, List.setIfInBounds_toArray, List.set_cons_zero, List.set_cons_succ]

              set_option maxRecDepth 10000 in
              refine wpAnyH_take (i := 5) (v := ?_) rfl (by kernel_rfl) (by kernel_rfl) (by kernel_rfl) (fun _ _ _ h => h) (Or.inl ⟨by rfl, ?_⟩) (by assumption) ?_
              rotate_left
              · intro w hSw; (try dsimp only at hSw); go_simp; (try with_reducible rfl)
              try simp only [Act.put, List.getElem_toArray, List.getElem_cons_zero, List.getElem_cons_succ, List.setIfInBounds_toArray, List.set_cons_zero, List.set_cons_succ]

              set_option maxRecDepth 10000 in
              refine wpAnyH_take (i := 6) (v := ?_) rfl (by kernel_rfl) (by kernel_rfl) (by kernel_rfl) (fun _ _ _ h => h) (Or.inl ⟨by rfl, ?_⟩) (by assumption) ?_
              rotate_left
              · intro w hSw; (try dsimp only at hSw); go_simp; (try with_reducible rfl)
              try simp only [Act.put, List.getElem_toArray, List.getElem_cons_zero, List.getElem_cons_succ, List.setIfInBounds_toArray, List.set_cons_zero, List.set_cons_succ]

              set_option maxRecDepth 10000 in
              refine wpAnyH_take (i := 7) (v := ?_) rfl (by kernel_rfl) (by kernel_rfl) (by kernel_rfl) (fun _ _ _ h => h) (Or.inl ⟨by rfl, ?_⟩) (by assumption) ?_
              rotate_left
              · intro w hSw; (try dsimp only at hSw); go_simp; (try with_reducible rfl)
              try simp only [Act.put, List.getElem_toArray, List.getElem_cons_zero, List.getElem_cons_succ, List.setIfInBounds_toArray, List.set_cons_zero, List.set_cons_succ]

              set_option maxRecDepth 10000 in
              refine wpAnyH_take (i := 8) (v := ?_) rfl (by kernel_rfl) (by kernel_rfl) (by kernel_rfl) (fun _ _ _ h => h) (Or.inl ⟨by rfl, ?_⟩) (by assumption) ?_
              rotate_left
              · intro w hSw; (try dsimp only at hSw); go_simp; (try with_reducible rfl)
              try simp only [Act.put, List.getElem_toArray, List.getElem_cons_zero, List.getElem_cons_succ, List.setIfInBounds_toArray, List.set_cons_zero, List.set_cons_succ]

              set_option maxRecDepth 10000 in
              refine wpAnyH_take (i := 9) (v := undef) rfl (by kernel_rfl) (by kernel_rfl) (by kernel_rfl) (fun _ _ _ h => h) (Or.inr ⟨by rfl, rfl⟩) (by assumption) ?_
              try simp only [Act.put, List.getElem_toArray, List.getElem_cons_zero, List.getElem_cons_succ, List.setIfInBounds_toArray, List.set_cons_zero, List.set_cons_succ]

              set_option maxRecDepth 10000 in
              refine wpAnyH_take (i := 10) (v := undef) rfl (by kernel_rfl) (by kernel_rfl) (by kernel_rfl) (fun _ _ _ h => h) (Or.inr ⟨by rfl, rfl⟩) (by assumption) ?_
              try simp only [Act.put, List.getElem_toArray, List.getElem_cons_zero, List.getElem_cons_succ, List.setIfInBounds_toArray, List.set_cons_zero, List.set_cons_succ]

              set_option maxRecDepth 10000 in
              refine wpAnyH_take (i := 11) (v := undef) rfl (by kernel_rfl) (by kernel_rfl) (by kernel_rfl) (fun _ _ _ h => h) (Or.inr ⟨by rfl, rfl⟩) (by assumption) ?_
              try simp only [Act.put, List.getElem_toArray, List.getElem_cons_zero, List.getElem_cons_succ, List.setIfInBounds_toArray, List.set_cons_zero, List.set_cons_succ]

              set_option maxRecDepth 10000 in
              refine wpAnyH_take (i := 12) (v := undef) rfl (by kernel_rfl) (by kernel_rfl) (by kernel_rfl) (fun _ _ _ h => h) (Or.inr ⟨by rfl, rfl⟩) (by assumption) ?_
              try simp only [Act.put, List.getElem_toArray, List.getElem_cons_zero, List.getElem_cons_succ, List.setIfInBounds_toArray, List.set_cons_zero, List.set_cons_succ]

              set_option maxRecDepth 10000 in
              refine wpAnyH_take (i := 13) (v := undef) rfl (by kernel_rfl) (by kernel_rfl) (by kernel_rfl) (fun _ _ _ h => h) (Or.inr ⟨by rfl, rfl⟩) (by assumption) ?_
              try simp only [Act.put, List.getElem_toArray, List.getElem_cons_zero, List.getElem_cons_succ, List.setIfInBounds_toArray, List.set_cons_zero, List.set_cons_succ]

              set_option maxRecDepth 10000 in
              refine wpAnyH_take (i := 14) (v := undef) rfl (by kernel_rfl) (by kernel_rfl) (by kernel_rfl) (fun _ _ _ h => h) (Or.inr ⟨by rfl, rfl⟩) (by assumption) ?_
              try simp only [Act.put, List.getElem_toArray, List.getElem_cons_zero, List.getElem_cons_succ, List.setIfInBounds_toArray, List.set_cons_zero, List.set_cons_succ]

              set_option maxRecDepth 10000 in
              refine wpAnyH_take (i := 15) (v := undef) rfl (by kernel_rfl) (by kernel_rfl) (by kernel_rfl) (fun _ _ _ h => h) (Or.inr ⟨by rfl, rfl⟩) (by assumption) ?_
              try simp only [Act.put, List.getElem_toArray, List.getElem_cons_zero, List.getElem_cons_succ, List.setIfInBounds_toArray, List.set_cons_zero, List.set_cons_succ]

              set_option maxRecDepth 10000 in
              refine wpAnyH_take (i := 16) (v := undef) rfl (by kernel_rfl) (by kernel_rfl) (by kernel_rfl) (fun _ _ _ h => h) (Or.inr ⟨by rfl, rfl⟩) (by assumption) ?_
              try simp only [Act.put, List.getElem_toArray, List.getElem_cons_zero, List.getElem_cons_succ, List.setIfInBounds_toArray, List.set_cons_zero, List.set_cons_succ]

              set_option maxRecDepth 10000 in
              refine wpAnyH_take (i := 17) (v := undef) rfl (by kernel_rfl) (by kernel_rfl) (by kernel_rfl) (fun _ _ _ h => h) (Or.inr ⟨by rfl, rfl⟩) (by assumption) ?_
              try simp only [Act.put, List.getElem_toArray, List.getElem_cons_zero, List.getElem_cons_succ, List.setIfInBounds_toArray, List.set_cons_zero, List.set_cons_succ]

              set_option maxRecDepth 10000 in
              refine wpAnyH_take (i := 18) (v := ?_) rfl (by kernel_rfl) (by kernel_rfl) (by kernel_rfl) (fun _ _ _ h => h) (Or.inl ⟨by rfl, ?_⟩) (by assumption) ?_
              rotate_left
              · intro w hSw; (try dsimp only at hSw); go_simp; (try with_reducible rfl)
              try simp only [Act.put, List.getElem_toArray, List.getElem_cons_zero, List.getElem_cons_succ, List.setIfInBounds_toArray, List.set_cons_zero, List.set_cons_succ]

              set_option maxRecDepth 10000 in
              refine wpAnyH_take (i := 19) (v := ?_) rfl (by kernel_rfl) (by kernel_rfl) (by kernel_rfl) (fun _ _ _ h => h) (Or.inl ⟨by rfl, ?_⟩) (by assumption) ?_
              rotate_left
              · intro w hSw; (try dsimp only at hSw); go_simp; (try with_reducible rfl)
              try simp only [Act.put, List.getElem_toArray, List.getElem_cons_zero, List.getElem_cons_succ, List.setIfInBounds_toArray, List.set_cons_zero, List.set_cons_succ]

              refine wpAnyH_done (by kernel_rfl) ?_ _
              try refine NoPanic.normal ?_
              go_wp2
              go_meet
              exact ⟨rfl, HD.out⟩
            | succ m =>
              have hy := List.getElem?_eq_getElem (show m < L.length by omega)
              generalize L[m] = y at hy
              obtain ⟨b2, o2, hbe, _, hc⟩ := rd_at RL.out hy
              obtain ⟨rfl, rfl⟩ : b = b2 ∧ off = o2 := by simpa using hbe
              have p0 : wN.drew.cell? ⟨b, off + m * 4, none⟩ = some (.int .i64 y.from_) := hc 0 _ rfl
              have hlo := LO.out m (m + 1) y x (by omega) hy HX.out
              have hge : ¬ x.from_ ≤ y.from_ := by omega
              have hm0 : (0 : Int) < ((m + 1 : Nat) : Int) := by omega
              have hm1 : (0 : Int) < (m : Int) + 1 := by omega
              have hw1 : IntKind.i64.wrap (((m + 1 : Nat) : Int) - 1) = (m : Int) := by rw [Go.IntWalk.i64_in _ (by omega)]; omega
              have hw2 : IntKind.i64.wrap ((m : Int) + 1 - 1) = (m : Int) := by rw [Go.IntWalk.i64_in _ (by omega)]; omega
              have hw3 : IntKind.i64.wrap (m : Int) = (m : Int) := Go.IntWalk.i64_in _ (by omega)
              have hm2 : (m : Int) < (L.length : Int) := by omega
              have hm3 : m < L.length := by omega
              clear hc hbe hy hlo
              try refine wp_region_noPanic ?_
              refine wp_region_held_drew (S := fun W => W.cell? ⟨X, 0, none⟩ = some (.int .i64 x.from_) ∧ W.cell? ⟨X, 1, none⟩ = some (.int .i64 x.to_) ∧ W.cell? ⟨b, off + m * 4, none⟩ = some (.int .i64 y.from_)) (by kernel_rfl) ⟨s0, s1, p0⟩ (fun hHeld => ?_)
              set_option maxRecDepth 10000 in
              refine wpAnyH_take (i := 0) (v := ?_) rfl (by kernel_rfl) (by kernel_rfl) (by kernel_rfl) (fun _ _ _ h => h) (Or.inl ⟨by rfl, ?_⟩) (by assumption) ?_
              rotate_left
              · intro w hSw; (try dsimp only at hSw); go_simp; (try with_reducible rfl)
              try simp only [Act.put, List.getElem_toArray, List.getElem_cons_zero, List.getElem_cons_succ, List.setIfInBounds_toArray, List.set_cons_zero, List.set_cons_succ]

              set_option maxRecDepth 10000 in
              refine wpAnyH_take (i := 1) (v := ?_) rfl (by kernel_rfl) (by kernel_rfl) (by kernel_rfl) (fun _ _ _ h => h) (Or.inl ⟨by rfl, ?_⟩) (by assumption) ?_
              rotate_left
              · intro w hSw; (try dsimp only at hSw); go_simp; (try with_reducible rfl)
              try simp only [Act.put, List.getElem_toArray, List.getElem_cons_zero, List.getElem_cons_succ, List.setIfInBounds_toArray, List.set_cons_zero, List.set_cons_succ]

              set_option maxRecDepth 10000 in
              refine wpAnyH_take (i := 2) (v := ?_) rfl (by kernel_rfl) (by kernel_rfl) (by kernel_rfl) (fun _ _ _ h => h) (Or.inl ⟨by rfl, ?_⟩) (by assumption) ?_
              rotate_left
              · intro w hSw; (try dsimp only at hSw); go_simp; (try with_reducible rfl)
              try simp only [Act.put, List.getElem_toArray, List.getElem_cons_zero, List.getElem_cons_succ, List.setIfInBounds_toArray, List.set_cons_zero, List.set_cons_succ]

              set_option maxRecDepth 10000 in
              refine wpAnyH_take (i := 3) (v := ?_) rfl (by kernel_rfl) (by kernel_rfl) (by kernel_rfl) (fun _ _ _ h => h) (Or.inl ⟨by rfl, ?_⟩) (by assumption) ?_
              rotate_left
              · intro w hSw; (try dsimp only at hSw); go_simp; (try with_reducible rfl)
              try simp only [Act.put, List.getElem_toArray, List.getElem_cons_zero, List.getElem_cons_succ, List.setIfInBounds_toArray, List.set_cons_zero, List.set_cons_succ]

              set_option maxRecDepth 10000 in
              refine wpAnyH_take (i := 4) (v := ?_) rfl (by kernel_rfl) (by kernel_rfl) (by kernel_rfl) (fun _ _ _ h => h) (Or.inl ⟨by rfl, ?_⟩) (by assumption) ?_
              rotate_left
              · intro w hSw; (try dsimp only at hSw); go_simp; (try with_reducible rfl)
              try simp only [Act.put, List.getElem_toArray, List.getElem_cons_zero, List.getElem_cons_succ, List.setIfInBounds_toArray, List.set_cons_zero, List.set_cons_succ]

              set_option maxRecDepth 10000 in
              refine wpAnyH_take (i := 5) (v := ?_) rfl (by kernel_rfl) (by kernel_rfl) (by kernel_rfl) (fun _ _ _ h => h) (Or.inl ⟨by rfl, ?_⟩) (by assumption) ?_
              rotate_left
              · intro w hSw; (try dsimp only at hSw); go_simp; (try with_reducible rfl)
              try simp only [Act.put, List.getElem_toArray, List.getElem_cons_zero, List.getElem_cons_succ, List.setIfInBounds_toArray, List.set_cons_zero, List.set_cons_succ]

              set_option maxRecDepth 10000 in
              refine wpAnyH_take (i := 6) (v := ?_) rfl (by kernel_rfl) (by kernel_rfl) (by kernel_rfl) (fun _ _ _ h => h) (Or.inl ⟨by rfl, ?_⟩) (by assumption) ?_
              rotate_left
              · intro w hSw; (try dsimp only at hSw); go_simp; (try with_reducible rfl)
              try simp only [Act.put, List.getElem_toArray, List.getElem_cons_zero, List.getElem_cons_succ, List.setIfInBounds_toArray, List.set_cons_zero, List.set_cons_succ]

              set_option maxRecDepth 10000 in
              refine wpAnyH_take (i := 7) (v := ?_) rfl (by kernel_rfl) (by kernel_rfl) (by kernel_rfl) (fun _ _ _ h => h) (Or.inl ⟨by rfl, ?_⟩) (by assumption) ?_
              rotate_left
              · intro w hSw; (try dsimp only at hSw); go_simp; (try with_reducible rfl)
              try simp only [Act.put, List.getElem_toArray, List.getElem_cons_zero, List.getElem_cons_succ, List.setIfInBounds_toArray, List.set_cons_zero, List.set_cons_succ]

              set_option maxRecDepth 10000 in
              refine wpAnyH_take (i := 8) (v := ?_) rfl (by kernel_rfl) (by kernel_rfl) (by kernel_rfl) (fun _ _ _ h => h) (Or.inl ⟨by rfl, ?_⟩) (by assumption) ?_
              rotate_left
              · intro w hSw; (try dsimp only at hSw); go_simp; (try with_reducible rfl)
              try simp only [Act.put, List.getElem_toArray, List.getElem_cons_zero, List.getElem_cons_succ, List.setIfInBounds_toArray, List.set_cons_zero, List.set_cons_succ]

              set_option maxRecDepth 10000 in
              refine wpAnyH_take (i := 9) (v := ?_) rfl (by kernel_rfl) (by kernel_rfl) (by kernel_rfl) (fun _ _ _ h => h) (Or.inl ⟨by rfl, ?_⟩) (by assumption) ?_
              rotate_left
              · intro w hSw; (try dsimp only at hSw); go_simp; (try with_reducible rfl)
              try simp only [Act.put, List.getElem_toArray, List.getElem_cons_zero, List.getElem_cons_succ, List.setIfInBounds_toArray, List.set_cons_zero, List.set_cons_succ]

              set_option maxRecDepth 10000 in
              refine wpAnyH_take (i := 10) (v := ?_) rfl (by kernel_rfl) (by kernel_rfl) (by kernel_rfl) (fun _ _ _ h => h) (Or.inl ⟨by rfl, ?_⟩) (by assumption) ?_
              rotate_left
              · intro w hSw; (try dsimp only at hSw); go_simp; (try with_reducible rfl)
              try simp only [Act.put, List.getElem_toArray, List.getElem_cons_zero, List.getElem_cons_succ, List.setIfInBounds_toArray, List.set_cons_zero, List.set_cons_succ]

              set_option maxRecDepth 10000 in
              refine wpAnyH_take (i := 11) (v := ?_) rfl (by kernel_rfl) (by kernel_rfl) (by kernel_rfl) (fun _ _ _ h => h) (Or.inl ⟨by rfl, ?_⟩) (by assumption) ?_
              rotate_left
              · intro w hSw; (try dsimp only at hSw); go_simp; (try with_reducible rfl)
              try simp only [Act.put, List.getElem_toArray, List.getElem_cons_zero, List.getElem_cons_succ, List.setIfInBounds_toArray, List.set_cons_zero, List.set_cons_succ]

              set_option maxRecDepth 10000 in
              refine wpAnyH_take (i := 12) (v := ?_) rfl (by kernel_rfl) (by kernel_rfl) (by kernel_rfl) (fun _ _ _ h => h) (Or.inl ⟨by rfl, ?_⟩) (by assumption) ?_
              rotate_left
              · intro w hSw; (try dsimp only at hSw); go_simp; (try with_reducible rfl)
              try simp only [Act.put, List.getElem_toArray, List.getElem_cons_zero, List.getElem_cons_succ, List.setIfInBounds_toArray, List.set_cons_zero, List.set_cons_succ]

              set_option maxRecDepth 10000 in
              refine wpAnyH_take (i := 13) (v := ?_) rfl (by kernel_rfl) (by kernel_rfl) (by kernel_rfl) (fun _ _ _ h => h) (Or.inl ⟨by rfl, ?_⟩) (by assumption) ?_
              rotate_left
              · intro w hSw; (try dsimp only at hSw); go_simp; (try with_reducible rfl)
              try simp only [Act.put, List.getElem_toArray, List.getElem_cons_zero, List.getElem_cons_succ, List.setIfInBounds_toArray, List.set_cons_zero, List.set_cons_succ]

              set_option maxRecDepth 10000 in
              refine wpAnyH_take (i := 14) (v := ?_) rfl (by kernel_rfl) (by kernel_rfl) (by kernel_rfl) (fun _ _ _ h => h) (Or.inl ⟨by rfl, ?_⟩) (by assumption) ?_
              rotate_left
              · intro w hSw; (try dsimp only at hSw); go_simp; (try with_reducible rfl)
              try simp only [Act.put, List.getElem_toArray, List.getElem_cons_zero, List.getElem_cons_succ, List.setIfInBounds_toArray, List.set_cons_zero, List.set_cons_succ]

              set_option maxRecDepth 10000 in
              refine wpAnyH_take (i := 15) (v := ?_) rfl (by kernel_rfl) (by kernel_rfl) (by kernel_rfl) (fun _ _ _ h => h) (Or.inl ⟨by rfl, ?_⟩) (by assumption) ?_
              rotate_left
              · intro w hSw; (try dsimp only at hSw); go_simp; (try with_reducible rfl)
              try simp only [Act.put, List.getElem_toArray, List.getElem_cons_zero, List.getElem_cons_succ, List.setIfInBounds_toArray, List.set_cons_zero, List.set_cons_succ]

              set_option maxRecDepth 10000 in
              refine wpAnyH_take (i := 16) (v := ?_) rfl (by kernel_rfl) (by kernel_rfl) (by kernel_rfl) (fun _ _ _ h => h) (Or.inl ⟨by rfl, ?_⟩) (by assumption) ?_
              rotate_left
              · intro w hSw; (try dsimp only at hSw); go_simp; (try with_reducible rfl)
              try simp only [Act.put, List.getElem_toArray, List.getElem_cons_zero, List.getElem_cons_succ, List.setIfInBounds_toArray, List.set_cons_zero, List.set_cons_succ]

              set_option maxRecDepth 10000 in
              refine wpAnyH_take (i := 17) (v := ?_) rfl (by kernel_rfl) (by kernel_rfl) (by kernel_rfl) (fun _ _ _ h => h) (Or.inl ⟨by rfl, ?_⟩) (by assumption) ?_
              rotate_left
              · intro w hSw; (try dsimp only at hSw); go_simp; (try with_reducible rfl)
              try simp only [Act.put, List.getElem_toArray, List.getElem_cons_zero, List.getElem_cons_succ, List.setIfInBounds_toArray, List.set_cons_zero, List.set_cons_succ]

              set_option maxRecDepth 10000 in
              refine wpAnyH_take (i := 18) (v := ?_) rfl (by kernel_rfl) (by kernel_rfl) (by kernel_rfl) (fun _ _ _ h => h) (Or.inl ⟨by rfl, ?_⟩) (by assumption) ?_
              rotate_left
              · intro w hSw; (try dsimp only at hSw); go_simp; (try with_reducible rfl)
              try simp only [Act.put, List.getElem_toArray, List.getElem_cons_zero, List.getElem_cons_succ, List.setIfInBounds_toArray, List.set_cons_zero, List.set_cons_succ]

              set_option maxRecDepth 10000 in
              refine wpAnyH_take (i := 19) (v := ?_) rfl (by kernel_rfl) (by kernel_rfl) (by kernel_rfl) (fun _ _ _ h => h) (Or.inl ⟨by rfl, ?_⟩) (by assumption) ?_
              rotate_left
              · intro w hSw; (try dsimp only at hSw); go_simp; (try with_reducible rfl)
              try simp only [Act.put, List.getElem_toArray, List.getElem_cons_zero, List.getElem_cons_succ, List.setIfInBounds_toArray, List.set_cons_zero, List.set_cons_succ]

              refine wpAnyH_done (by kernel_rfl) ?_ _
              try refine NoPanic.normal ?_
              go_wp2
              go_meet
              exact ⟨rfl, HD.out⟩
          case rest =>
            obtain ⟨rfl, hb⟩ := hcut
            obtain ⟨wJ, rfl⟩ : ∃ y : World, y = wc := ⟨wc, rfl⟩
            replace c0 := below_cell hb c0
            replace c1 := below_cell hb c1
            replace s0 := below_cell hb s0
            replace s1 := below_cell hb s1
            replace RS := Lib.hid (RS.out.below hb)
            replace RL := Lib.hid (RL.out.below hb)
            replace RT := Lib.hid (RT.out.below hb)
            replace RH := Lib.hid (RH.out.below hb)
            replace HBN := Lib.hid (HBN.out.below hb)
            replace HB := Lib.hid (HB.out.trans (hb.mono HB.out.size))
            clear hb
            have hn1 : (n : Int) ≤ (cL : Int) := by omega
            have hn0 : (0 : Int) ≤ (n : Int) := by omega
            go_wp2
            go_loopw [99] (fun i W => ∃ m : Nat, i = .int .i64 m ∧ m ≤ n ∧ Below wJ.heap.size wJ W) (fun i _ => n - (intOf i).toNat)
            case atStart => exact ⟨0, rfl, by omega, Below.refl _ _⟩
            case round =>
              obtain ⟨m, rfl, hmn, hb⟩ := hrel
              have HJ := Lib.hid hb
              replace c0 := below_cell hb c0
              replace c1 := below_cell hb c1
              replace s0 := below_cell hb s0
              replace s1 := below_cell hb s1
              replace RS := Lib.hid (RS.out.below hb)
              replace RL := Lib.hid (RL.out.below hb)
              replace RT := Lib.hid (RT.out.below hb)
              replace RH := Lib.hid (RH.out.below hb)
              replace HBN := Lib.hid (HBN.out.below hb)
              replace HB := Lib.hid (HB.out.trans (hb.mono HB.out.size))
              clear hb
              by_cases hlm : m < n
              · skip
                have hy := List.getElem?_eq_getElem (show m < L.length by omega)
                generalize L[m] = y at hy
                obtain ⟨b2, o2, hbe, _, hc⟩ := rd_at RL.out hy
                obtain ⟨rfl, rfl⟩ : b = b2 ∧ off = o2 := by simpa using hbe
                have p0 : wr.cell? ⟨b, off + m * 4, none⟩ = some (.int .i64 y.from_) := hc 0 _ rfl
                have p1 := hc 1 _ rfl
                have p2 := hc 2 _ rfl
                have p3 := hc 3 _ rfl
                have hli := LI.out m n y x hlm hy HX.out
                have HLI := Lib.hid hli
                have e_c0 := fun o => below_cell ((Below.refl _ _).alloc (Nat.le_refl wr.heap.size) o) c0
                have e_s0 := fun o => below_cell ((Below.refl _ _).alloc (Nat.le_refl wr.heap.size) o) s0
                have e_s1 := fun o => below_cell ((Below.refl _ _).alloc (Nat.le_refl wr.heap.size) o) s1
                clear hc hbe hy hli
                by_cases hk1 : k = 1
                · skip
                  have HK1 := Lib.hid hk1
                  have hkb : (k == 1) = true := by simp [hk1]
                  have hkc : (k == 2) = false := by simp [hk1]
                  clear hk1
                  by_cases h1 : x.from_ < y.to_
                  · have h2 : ¬ y.to_ < x.to_ := fun h => HLI.out.1 HK1.out ⟨h1, h⟩
                    go_wp2
                    go_roundw
                    case rel => exact ⟨m + 1, by go_num, by omega, HJ.out.trans (((Below.refl _ _).alloc (Nat.le_refl _) _).mono HJ.out.size)⟩
                    case measure => simp [intOf]; omega
                  · go_wp2
                    go_roundw
                    case rel => exact ⟨m + 1, by go_num, by omega, HJ.out.trans (((Below.refl _ _).alloc (Nat.le_refl _) _).mono HJ.out.size)⟩
                    case measure => simp [intOf]; omega
                · skip
                  have hkb : (k == 1) = false := by simp [hk1]
                  by_cases hk2 : k = 2
                  · skip
                    have h3 : ¬ x.to_ < y.to_ := HLI.out.2 hk2
                    have hkc : (k == 2) = true := by simp [hk2]
                    clear hk1 hk2
                    by_cases h1 : x.from_ < y.to_
                    · go_wp2
                      go_roundw
                      case rel => exact ⟨m + 1, by go_num, by omega, HJ.out.trans (((Below.refl _ _).alloc (Nat.le_refl _) _).mono HJ.out.size)⟩
                      case measure => simp [intOf]; omega
                    · go_wp2
                      go_roundw
                      case rel => exact ⟨m + 1, by go_num, by omega, HJ.out.trans (((Below.refl _ _).alloc (Nat.le_refl _) _).mono HJ.out.size)⟩
                      case measure => simp [intOf]; omega
                  · skip
                    have hkc : (k == 2) = false := by simp [hk2]
                    clear hk1 hk2
                    by_cases h1 : x.from_ < y.to_
                    · go_wp2
                      go_roundw
                      case rel => exact ⟨m + 1, by go_num, by omega, HJ.out.trans (((Below.refl _ _).alloc (Nat.le_refl _) _).mono HJ.out.size)⟩
                      case measure => simp [intOf]; omega
                    · go_wp2
                      go_roundw
                      case rel => exact ⟨m + 1, by go_num, by omega, HJ.out.trans (((Below.refl _ _).alloc (Nat.le_refl _) _).mono HJ.out.size)⟩
                      case measure => simp [intOf]; omega
              · skip
                obtain rfl : m = n := by omega
                have HZ := Lib.hid (And.intro (winC_move HN.out.2.1 (fr_of_below (S := fun _ => False) HBN.out) (fun _ _ h => h)) (HN.out.2.2.trans (HBN.out.mono HN.out.2.2.size)))
                go_wp2
                go_roundw
                case rel => exact ⟨m + 1, ns2, a2, c2, by go_num, rfl, by omega, HN.out.1, HZ.out.1, HZ.out.2⟩
                case measure => simp [intOf]; omega
      · skip
        obtain rfl : n = L.length := by omega
        rw [List.take_length] at HNS
        obtain ⟨wA, rfl⟩ : ∃ y : World, y = wr := ⟨wr, rfl⟩
        have k0 := below_cell HB1.out c0
        go_upto_if 138 with (fail)
        go_cut [11] (fun v W => ∃ (a2 : Option Addr) (c2 : Nat), v = .slice a2 P.length c2 ∧ Rd Pair.cells 2 W (.slice a2 P.length c2) P ∧ Below w1.heap.size w1 W)
        case first =>
          by_cases h3 : k = 3
          · have hkb : (k == 3) = true := by simp [h3]
            have HK3 := Lib.hid h3
            clear h3
            go_wp2_with fail
            refine (sortPairs_any a1 c1' _ ns wA HW.out (by omega) (by rw [HNS.out]; exact NK.out)).mono ?_
            rintro e w5 ⟨rfl, ss, hp, hs, hrd, hF⟩
            rw [HNS.out] at hp
            obtain rfl : ss = P := N3.out HK3.out ss hp hs
            have hll : ns.length = ss.length := by rw [HNS.out]; exact hp.length_eq.symm
            have HF := Lib.hid (And.intro hrd hF)
            clear hrd hF hp hs
            go_wp2
            go_meet
            exact ⟨a1, c1', by first | rfl | rw [hll], by have := HF.out.1; first | exact this | rwa [hll] at this, HB1.out.trans (below_of_fr HF.out.2 HB1.out.size fun i hi => (winC_ob HW.out i hi).1)⟩
          · have hkb : (k == 3) = false := by simp [h3]
            have hnP : ns = P := by rw [HNS.out]; exact N1.out h3
            have HRD := Lib.hid (win_rd pair_len HW.out)
            clear h3
            go_wp2
            go_meet
            exact ⟨a1, c1', by first | rfl | rw [hnP], by have := HRD.out; first | exact this | rwa [hnP] at this, HB1.out⟩
        case rest =>
          obtain ⟨a2, c2, rfl, rn, hb⟩ := hcut
          clear k0 HNS HW hnn HB1
          obtain ⟨wB, rfl⟩ : ∃ y : World, y = wc := ⟨wc, rfl⟩
          replace c0 := below_cell hb c0
          replace c1 := below_cell hb c1
          replace RS := Lib.hid (RS.out.below hb)
          replace RL := Lib.hid (RL.out.below hb)
          replace RT := Lib.hid (RT.out.below hb)
          replace RH := Lib.hid (RH.out.below hb)
          replace HB := Lib.hid (HB.out.trans (hb.mono HB.out.size))
          clear hb
          have RN := Lib.hid rn
          clear rn
          go_wp2
          go_loopw [144, 18] (fun i v W => ∃ n kk : Nat, i = .int .i64 n ∧ v = .int .i64 kk ∧ n ≤ l.length ∧ kk = ((l.take n).filter outP).length ∧ Below wB.heap.size wB W) (fun i _ _ => l.length - (intOf i).toNat)
          case atStart => exact ⟨0, 0, rfl, rfl, by omega, rfl, Below.refl _ _⟩
          case round =>
            obtain ⟨n, kk, rfl, rfl, hnl, hk, hb⟩ := hrel
            have hkn : kk ≤ n := by rw [hk]; exact Nat.le_trans (List.length_filter_le _ _) (by rw [List.length_take]; omega)
            have HK := Lib.hid hk
            have HBN := Lib.hid hb
            clear hk
            obtain ⟨w1, rfl⟩ : ∃ y : World, y = wr := ⟨wr, rfl⟩
            replace c0 := below_cell hb c0
            replace c1 := below_cell hb c1
            replace RS := Lib.hid (RS.out.below hb)
            replace RL := Lib.hid (RL.out.below hb)
            replace RT := Lib.hid (RT.out.below hb)
            replace RH := Lib.hid (RH.out.below hb)
            replace RN := Lib.hid (RN.out.below hb)
            replace HB := Lib.hid (HB.out.trans (hb.mono HB.out.size))
            clear hb
            by_cases hlt : n < l.length
            · skip
              have hx := List.getElem?_eq_getElem hlt
              generalize l[n] = s at hx
              obtain ⟨b, off, hav, hbl, hc⟩ := rd_at RS.out hx
              subst hav
              have q0 : w1.cell? ⟨b, off + n * 4, none⟩ = some (.int .i64 s.at_) := hc 0 _ rfl
              have q1 := hc 1 _ rfl
              have q2 := hc 2 _ rfl
              have q3 := hc 3 _ rfl
              have HX := Lib.hid hx
              clear hx hc hbl
              by_cases hd : s.do_ = 2
              · skip
                have hdb : (s.do_ != 2) = false := by simp [hd]
                have TPS := Lib.hid (TP.out n s HX.out hd)
                have HK1 : Hid (((l.take (n + 1)).filter outP).length = kk + 1) := Lib.hid (by
                  rw [List.take_add_one, HX.out, Option.toList_some, List.filter_append, List.filter_cons, if_pos (by simp [outP, hd]), List.length_append, ← HK.out]
                  rfl)
                clear hd
                go_wp2_with fail
                refine named_box1 (G := fun W => Calls _ _ _ W _) _ _ _ fun w2 hb hz hx => ?_
                replace c0 := below_cell hb c0
                replace c1 := below_cell hb c1
                replace RS := Lib.hid (RS.out.below hb)
                replace RL := Lib.hid (RL.out.below hb)
                replace RT := Lib.hid (RT.out.below hb)
                replace RH := Lib.hid (RH.out.below hb)
                replace RN := Lib.hid (RN.out.below hb)
                replace HBN := Lib.hid (HBN.out.below hb)
                replace HB := Lib.hid (HB.out.trans (hb.mono HB.out.size))
                clear hb
                have s0 : w2.cell? ⟨w1.heap.size, 0, none⟩ = some (.int .i64 s.at_) := cell_blk hx 0
                clear hx hz q0 q1 q2 q3
                generalize w1.heap.size = X at *
                have HCF := Lib.hid (lives_idx 12 (.pointer (some ⟨X, 0, none⟩)) (fun x : Life => x.to_ == s.at_) _ L w2 RL.out (enters_of Tryz.func12 (by kernel_rfl) rfl) (fun W x hx hW => endAt_any x.from_ x.to_ x.key x.val s.at_ X W (below_cell hW s0)))
                obtain ⟨r, hr⟩ : ∃ r, r = idxFrom (fun x : Life => x.to_ == s.at_) L 0 := ⟨_, rfl⟩
                rw [← hr] at HCF
                have HR := Lib.hid hr
                clear hr
                refine (HCF.out).mono ?_
                rintro e w1 ⟨rfl, hb⟩
                replace c0 := below_cell hb c0
                replace c1 := below_cell hb c1
                replace s0 := below_cell hb s0
                replace RS := Lib.hid (RS.out.below hb)
                replace RL := Lib.hid (RL.out.below hb)
                replace RT := Lib.hid (RT.out.below hb)
                replace RH := Lib.hid (RH.out.below hb)
                replace RN := Lib.hid (RN.out.below hb)
                replace HBN := Lib.hid (HBN.out.below hb)
                replace HB := Lib.hid (HB.out.trans (hb.mono HB.out.size))
                clear hb
                clear HCF
                go_upto_region 33 with (fail)
                have HL1 := Lib.hid (Below.refl w1.heap.size w1)
                obtain ⟨w4, hw4⟩ : ∃ y : World, y = w1 := ⟨_, rfl⟩
                go_cut [195] (fun v W => v = .bool false ∧ Below w1.heap.size w1 W)
                case first =>
                  have hb : Below w1.heap.size w1 w1.drew := (Below.refl _ _).drew
                  have HD := Lib.hid hb
                  replace c0 := below_cell hb c0
                  replace c1 := below_cell hb c1
                  replace s0 := below_cell hb s0
                  replace RS := Lib.hid (RS.out.below hb)
                  replace RL := Lib.hid (RL.out.below hb)
                  replace RT := Lib.hid (RT.out.below hb)
                  replace RH := Lib.hid (RH.out.below hb)
                  replace RN := Lib.hid (RN.out.below hb)
                  replace HBN := Lib.hid (HBN.out.below hb)
                  replace HB := Lib.hid (HB.out.trans (hb.mono HB.out.size))
                  clear hb
                  have hei := EI.out s.at_
                  rw [← HR.out] at hei
                  have htp := TPS.out
                  rw [← HK.out] at htp
                  have hkl : kk < T.length := (List.getElem?_eq_some_iff.1 htp).1
                  obtain ⟨bT, oT, haT, _, hcT⟩ := rd_at RT.out htp
                  subst haT
                  have t0 : w1.drew.cell? ⟨bT, oT + kk * 2, none⟩ = some (.int .i64 (endsAt L s.at_)) := hcT 0 _ rfl
                  have t1 : w1.drew.cell? ⟨bT, oT + kk * 2 + 1, none⟩ = some (.int .i64 s.at_) := hcT 1 _ rfl
                  have hk0 : (kk : Int) < (T.length : Int) := by omega
                  have hk1 : ¬ (T.length : Int) ≤ (kk : Int) := by omega
                  have hk2 : ¬ T.length ≤ kk := by omega
                  clear hcT htp
                  rcases hei with ⟨h1, h2⟩ | ⟨i, x, hi, h1, h2⟩
                  · subst h1
                    rw [h2] at t0
                    try refine wp_region_noPanic ?_
                    refine wp_region_held_drew (S := fun W => W.cell? ⟨bT, oT + kk * 2, none⟩ = some (.int .i64 (-1)) ∧ W.cell? ⟨bT, oT + kk * 2 + 1, none⟩ = some (.int .i64 s.at_) ∧ W.cell? ⟨X, 0, none⟩ = some (.int .i64 s.at_)) (by kernel_rfl) ⟨t0, t1, s0⟩ (fun hHeld => ?_)
                    set_option maxRecDepth 10000 in
                    refine wpAnyH_take (i := 0) (v := ?_) rfl (by kernel_rfl) (by kernel_rfl) (by kernel_rfl) (fun _ _ _ h => h) (Or.inl ⟨by rfl, ?_⟩) (by assumption) ?_
                    rotate_left
                    · intro w hSw; (try dsimp only at hSw); go_simp; (try with_reducible rfl)
                    try simp only [Act.put, List.getElem_toArray, List.getElem_cons_zero, List.getElem_cons_succ, List.setIfInBounds_toArray, List.set_cons_zero, List.set_cons_succ]

                    set_option maxRecDepth 10000 in
                    refine wpAnyH_take (i := 1) (v := ?_) rfl (by kernel_rfl) (by kernel_rfl) (by kernel_rfl) (fun _ _ _ h => h) (Or.inl ⟨by rfl, ?_⟩) (by assumption) ?_
                    rotate_left
                    · intro w hSw; (try dsimp only at hSw); go_simp; (try with_reducible rfl)
                    try simp only [Act.put, List.getElem_toArray, List.getElem_cons_zero, List.getElem_cons_succ, List.setIfInBounds_toArray, List.set_cons_zero, List.set_cons_succ]

                    set_option maxRecDepth 10000 in
                    refine wpAnyH_take (i := 2) (v := ?_) rfl (by kernel_rfl) (by kernel_rfl) (by kernel_rfl) (fun _ _ _ h => h) (Or.inl ⟨by rfl, ?_⟩) (by assumption) ?_
                    rotate_left
                    · intro w hSw; (try dsimp only at hSw); go_simp; (try with_reducible rfl)
                    try simp only [Act.put, List.getElem_toArray, List.getElem_cons_zero, List.getElem_cons_succ, List.setIfInBounds_toArray, List.set_cons_zero, List.set_cons_succ]

                    set_option maxRecDepth 10000 in
                    refine wpAnyH_take (i := 3) (v := ?_) rfl (by kernel_rfl) (by kernel_rfl) (by kernel_rfl) (fun _ _ _ h => h) (Or.inl ⟨by rfl, ?_⟩) (by assumption) ?_
                    rotate_left
                    · intro w hSw; (try dsimp only at hSw); go_simp; (try with_reducible rfl)
                    try simp only [Act.put, List.getElem_toArray, List.getElem_cons_zero, List.getElem_cons_succ, List.setIfInBounds_toArray, List.set_cons_zero, List.set_cons_succ]

                    set_option maxRecDepth 10000 in
                    refine wpAnyH_take (i := 4) (v := ?_) rfl (by kernel_rfl) (by kernel_rfl) (by kernel_rfl) (fun _ _ _ h => h) (Or.inl ⟨by rfl, ?_⟩) (by assumption) ?_
                    rotate_left
                    · intro w hSw; (try dsimp only at hSw); go_simp; (try with_reducible rfl)
                    try simp only [Act.put, List.getElem_toArray, List.getElem_cons_zero, List.getElem_cons_succ, List.setIfInBounds_toArray, List.set_cons_zero, List.set_cons_succ]

                    set_option maxRecDepth 10000 in
                    refine wpAnyH_take (i := 5) (v := ?_) rfl (by kernel_rfl) (by kernel_rfl) (by kernel_rfl) (fun _ _ _ h => h) (Or.inl ⟨by rfl, ?_⟩) (by assumption) ?_
                    rotate_left
                    · intro w hSw; (try dsimp only at hSw); go_simp; (try with_reducible rfl)
                    try simp only [Act.put, List.getElem_toArray, List.getElem_cons_zero, List.getElem_cons_succ, List.setIfInBounds_toArray, List.set_cons_zero, List.set_cons_succ]

                    set_option maxRecDepth 10000 in
                    refine wpAnyH_take (i := 6) (v := ?_) rfl (by kernel_rfl) (by kernel_rfl) (by kernel_rfl) (fun _ _ _ h => h) (Or.inl ⟨by rfl, ?_⟩) (by assumption) ?_
                    rotate_left
                    · intro w hSw; (try dsimp only at hSw); go_simp; (try with_reducible rfl)
                    try simp only [Act.put, List.getElem_toArray, List.getElem_cons_zero, List.getElem_cons_succ, List.setIfInBounds_toArray, List.set_cons_zero, List.set_cons_succ]

                    set_option maxRecDepth 10000 in
                    refine wpAnyH_take (i := 7) (v := ?_) rfl (by kernel_rfl) (by kernel_rfl) (by kernel_rfl) (fun _ _ _ h => h) (Or.inl ⟨by rfl, ?_⟩) (by assumption) ?_
                    rotate_left
                    · intro w hSw; (try dsimp only at hSw); go_simp; (try with_reducible rfl)
                    try simp only [Act.put, List.getElem_toArray, List.getElem_cons_zero, List.getElem_cons_succ, List.setIfInBounds_toArray, List.set_cons_zero, List.set_cons_succ]

                    set_option maxRecDepth 10000 in
                    refine wpAnyH_take (i := 8) (v := ?_) rfl (by kernel_rfl) (by kernel_rfl) (by kernel_rfl) (fun _ _ _ h => h) (Or.inl ⟨by rfl, ?_⟩) (by assumption) ?_
                    rotate_left
                    · intro w hSw; (try dsimp only at hSw); go_simp; (try with_reducible rfl)
                    try simp only [Act.put, List.getElem_toArray, List.getElem_cons_zero, List.getElem_cons_succ, List.setIfInBounds_toArray, List.set_cons_zero, List.set_cons_succ]

                    set_option maxRecDepth 10000 in
                    refine wpAnyH_take (i := 9) (v := ?_) rfl (by kernel_rfl) (by kernel_rfl) (by kernel_rfl) (fun _ _ _ h => h) (Or.inl ⟨by rfl, ?_⟩) (by assumption) ?_
                    rotate_left
                    · intro w hSw; (try dsimp only at hSw); go_simp; (try with_reducible rfl)
                    try simp only [Act.put, List.getElem_toArray, List.getElem_cons_zero, List.getElem_cons_succ, List.setIfInBounds_toArray, List.set_cons_zero, List.set_cons_succ]

                    set_option maxRecDepth 10000 in
                    refine wpAnyH_take (i := 10) (v := ?_) rfl (by kernel_rfl) (by kernel_rfl) (by kernel_rfl) (fun _ _ _ h => h) (Or.inl ⟨by rfl, ?_⟩) (by assumption) ?_
                    rotate_left
                    · intro w hSw; (try dsimp only at hSw); go_simp; (try with_reducible rfl)
                    try simp only [Act.put, List.getElem_toArray, List.getElem_cons_zero, List.getElem_cons_succ, List.setIfInBounds_toArray, List.set_cons_zero, List.set_cons_succ]

                    set_option maxRecDepth 10000 in
                    refine wpAnyH_take (i := 11) (v := ?_) rfl (by kernel_rfl) (by kernel_rfl) (by kernel_rfl) (fun _ _ _ h => h) (Or.inl ⟨by rfl, ?_⟩) (by assumption) ?_
                    rotate_left
                    · intro w hSw; (try dsimp only at hSw); go_simp; (try with_reducible rfl)
                    try simp only [Act.put, List.getElem_toArray, List.getElem_cons_zero, List.getElem_cons_succ, List.setIfInBounds_toArray, List.set_cons_zero, List.set_cons_succ]

                    set_option maxRecDepth 10000 in
                    refine wpAnyH_take (i := 12) (v := ?_) rfl (by kernel_rfl) (by kernel_rfl) (by kernel_rfl) (fun _ _ _ h => h) (Or.inl ⟨by rfl, ?_⟩) (by assumption) ?_
                    rotate_left
                    · intro w hSw; (try dsimp only at hSw); go_simp; (try with_reducible rfl)
                    try simp only [Act.put, List.getElem_toArray, List.getElem_cons_zero, List.getElem_cons_succ, List.setIfInBounds_toArray, List.set_cons_zero, List.set_cons_succ]

                    set_option maxRecDepth 10000 in
                    refine wpAnyH_take (i := 13) (v := ?_) rfl (by kernel_rfl) (by kernel_rfl) (by kernel_rfl) (fun _ _ _ h => h) (Or.inl ⟨by rfl, ?_⟩) (by assumption) ?_
                    rotate_left
                    · intro w hSw; (try dsimp only at hSw); go_simp; (try with_reducible rfl)
                    try simp only [Act.put, List.getElem_toArray, List.getElem_cons_zero, List.getElem_cons_succ, List.setIfInBounds_toArray, List.set_cons_zero, List.set_cons_succ]

                    set_option maxRecDepth 10000 in
                    refine wpAnyH_take (i := 14) (v := ?_) rfl (by kernel_rfl) (by kernel_rfl) (by kernel_rfl) (fun _ _ _ h => h) (Or.inl ⟨by rfl, ?_⟩) (by assumption) ?_
                    rotate_left
                    · intro w hSw; (try dsimp only at hSw); go_simp; (try with_reducible rfl)
                    try simp only [Act.put, List.getElem_toArray, List.getElem_cons_zero, List.getElem_cons_succ, List.setIfInBounds_toArray, List.set_cons_zero, List.set_cons_succ]

                    set_option maxRecDepth 10000 in
                    refine wpAnyH_take (i := 15) (v := ?_) rfl (by kernel_rfl) (by kernel_rfl) (by kernel_rfl) (fun _ _ _ h => h) (Or.inl ⟨by rfl, ?_⟩) (by assumption) ?_
                    rotate_left
                    · intro w hSw; (try dsimp only at hSw); go_simp; (try with_reducible rfl)
                    try simp only [Act.put, List.getElem_toArray, List.getElem_cons_zero, List.getElem_cons_succ, List.setIfInBounds_toArray, List.set_cons_zero, List.set_cons_succ]

                    set_option maxRecDepth 10000 in
                    refine wpAnyH_take (i := 16) (v := ?_) rfl (by kernel_rfl) (by kernel_rfl) (by kernel_rfl) (fun _ _ _ h => h) (Or.inl ⟨by rfl, ?_⟩) (by assumption) ?_
                    rotate_left
                    · intro w hSw; (try dsimp only at hSw); go_simp; (try with_reducible rfl)
                    try simp only [Act.put, List.getElem_toArray, List.getElem_cons_zero, List.getElem_cons_succ, List.setIfInBounds_toArray, List.set_cons_zero, List.set_cons_succ]

                    set_option maxRecDepth 10000 in
                    refine wpAnyH_take (i := 17) (v := ?_) rfl (by kernel_rfl) (by kernel_rfl) (by kernel_rfl) (fun _ _ _ h => h) (Or.inl ⟨by rfl, ?_⟩) (by assumption) ?_
                    rotate_left
                    · intro w hSw; (try dsimp only at hSw); go_simp; (try with_reducible rfl)
                    try simp only [Act.put, List.getElem_toArray, List.getElem_cons_zero, List.getElem_cons_succ, List.setIfInBounds_toArray, List.set_cons_zero, List.set_cons_succ]

                    set_option maxRecDepth 10000 in
                    refine wpAnyH_take (i := 18) (v := ?_) rfl (by kernel_rfl) (by kernel_rfl) (by kernel_rfl) (fun _ _ _ h => h) (Or.inl ⟨by rfl, ?_⟩) (by assumption) ?_
                    rotate_left
                    · intro w hSw; (try dsimp only at hSw); go_simp; (try with_reducible rfl)
                    try simp only [Act.put, List.getElem_toArray, List.getElem_cons_zero, List.getElem_cons_succ, List.setIfInBounds_toArray, List.set_cons_zero, List.set_cons_succ]

                    set_option maxRecDepth 10000 in
                    refine wpAnyH_take (i := 19) (v := ?_) rfl (by kernel_rfl) (by kernel_rfl) (by kernel_rfl) (fun _ _ _ h => h) (Or.inl ⟨by rfl, ?_⟩) (by assumption) ?_
                    rotate_left
                    · intro w hSw; (try dsimp only at hSw); go_simp; (try with_reducible rfl)
                    try simp only [Act.put, List.getElem_toArray, List.getElem_cons_zero, List.getElem_cons_succ, List.setIfInBounds_toArray, List.set_cons_zero, List.set_cons_succ]

                    set_option maxRecDepth 10000 in
                    refine wpAnyH_take (i := 20) (v := ?_) rfl (by kernel_rfl) (by kernel_rfl) (by kernel_rfl) (fun _ _ _ h => h) (Or.inl ⟨by rfl, ?_⟩) (by assumption) ?_
                    rotate_left
                    · intro w hSw; (try dsimp only at hSw); go_simp; (try with_reducible rfl)
                    try simp only [Act.put, List.getElem_toArray, List.getElem_cons_zero, List.getElem_cons_succ, List.setIfInBounds_toArray, List.set_cons_zero, List.set_cons_succ]

                    set_option maxRecDepth 10000 in
                    refine wpAnyH_take (i := 21) (v := ?_) rfl (by kernel_rfl) (by kernel_rfl) (by kernel_rfl) (fun _ _ _ h => h) (Or.inl ⟨by rfl, ?_⟩) (by assumption) ?_
                    rotate_left
                    · intro w hSw; (try dsimp only at hSw); go_simp; (try with_reducible rfl)
                    try simp only [Act.put, List.getElem_toArray, List.getElem_cons_zero, List.getElem_cons_succ, List.setIfInBounds_toArray, List.set_cons_zero, List.set_cons_succ]

                    set_option maxRecDepth 10000 in
                    refine wpAnyH_take (i := 22) (v := ?_) rfl (by kernel_rfl) (by kernel_rfl) (by kernel_rfl) (fun _ _ _ h => h) (Or.inl ⟨by rfl, ?_⟩) (by assumption) ?_
                    rotate_left
                    · intro w hSw; (try dsimp only at hSw); go_simp; (try with_reducible rfl)
                    try simp only [Act.put, List.getElem_toArray, List.getElem_cons_zero, List.getElem_cons_succ, List.setIfInBounds_toArray, List.set_cons_zero, List.set_cons_succ]

                    set_option maxRecDepth 10000 in
                    refine wpAnyH_take (i := 23) (v := ?_) rfl (by kernel_rfl) (by kernel_rfl) (by kernel_rfl) (fun _ _ _ h => h) (Or.inl ⟨by rfl, ?_⟩) (by assumption) ?_
                    rotate_left
                    · intro w hSw; (try dsimp only at hSw); go_simp; (try with_reducible rfl)
                    try simp only [Act.put, List.getElem_toArray, List.getElem_cons_zero, List.getElem_cons_succ, List.setIfInBounds_toArray, List.set_cons_zero, List.set_cons_succ]

                    set_option maxRecDepth 10000 in
                    refine wpAnyH_take (i := 24) (v := ?_) rfl (by kernel_rfl) (by kernel_rfl) (by kernel_rfl) (fun _ _ _ h => h) (Or.inl ⟨by rfl, ?_⟩) (by assumption) ?_
                    rotate_left
                    · intro w hSw; (try dsimp only at hSw); go_simp; (try with_reducible rfl)
                    try simp only [Act.put, List.getElem_toArray, List.getElem_cons_zero, List.getElem_cons_succ, List.setIfInBounds_toArray, List.set_cons_zero, List.set_cons_succ]

                    set_option maxRecDepth 10000 in
                    refine wpAnyH_take (i := 25) (v := ?_) rfl (by kernel_rfl) (by kernel_rfl) (by kernel_rfl) (fun _ _ _ h => h) (Or.inl ⟨by rfl, ?_⟩) (by assumption) ?_
                    rotate_left
                    · intro w hSw; (try dsimp only at hSw); go_simp; (try with_reducible rfl)
                    try simp only [Act.put, List.getElem_toArray, List.getElem_cons_zero, List.getElem_cons_succ, List.setIfInBounds_toArray, List.set_cons_zero, List.set_cons_succ]

                    set_option maxRecDepth 10000 in
                    refine wpAnyH_take (i := 26) (v := ?_) rfl (by kernel_rfl) (by kernel_rfl) (by kernel_rfl) (fun _ _ _ h => h) (Or.inl ⟨by rfl, ?_⟩) (by assumption) ?_
                    rotate_left
                    · intro w hSw; (try dsimp only at hSw); go_simp; (try with_reducible rfl)
                    try simp only [Act.put, List.getElem_toArray, List.getElem_cons_zero, List.getElem_cons_succ, List.setIfInBounds_toArray, List.set_cons_zero, List.set_cons_succ]

                    set_option maxRecDepth 10000 in
                    refine wpAnyH_take (i := 27) (v := ?_) rfl (by kernel_rfl) (by kernel_rfl) (by kernel_rfl) (fun _ _ _ h => h) (Or.inl ⟨by rfl, ?_⟩) (by assumption) ?_
                    rotate_left
                    · intro w hSw; (try dsimp only at hSw); go_simp; (try with_reducible rfl)
                    try simp only [Act.put, List.getElem_toArray, List.getElem_cons_zero, List.getElem_cons_succ, List.setIfInBounds_toArray, List.set_cons_zero, List.set_cons_succ]

                    set_option maxRecDepth 10000 in
                    refine wpAnyH_take (i := 28) (v := ?_) rfl (by kernel_rfl) (by kernel_rfl) (by kernel_rfl) (fun _ _ _ h => h) (Or.inl ⟨by rfl, ?_⟩) (by assumption) ?_
                    rotate_left
                    · intro w hSw; (try dsimp only at hSw); go_simp; (try with_reducible rfl)
                    try simp only [Act.put, List.getElem_toArray, List.getElem_cons_zero, List.getElem_cons_succ, List.setIfInBounds_toArray, List.set_cons_zero, List.set_cons_succ]

                    set_option maxRecDepth 10000 in
                    refine wpAnyH_take (i := 29) (v := undef) rfl (by kernel_rfl) (by kernel_rfl) (by kernel_rfl) (fun _ _ _ h => h) (Or.inr ⟨by rfl, rfl⟩) (by assumption) ?_
                    try simp only [Act.put, List.getElem_toArray, List.getElem_cons_zero, List.getElem_cons_succ, List.setIfInBounds_toArray, List.set_cons_zero, List.set_cons_succ]

                    set_option maxRecDepth 10000 in
                    refine wpAnyH_take (i := 30) (v := undef) rfl (by kernel_rfl) (by kernel_rfl) (by kernel_rfl) (fun _ _ _ h => h) (Or.inr ⟨by rfl, rfl⟩) (by assumption) ?_
                    try simp only [Act.put, List.getElem_toArray, List.getElem_cons_zero, List.getElem_cons_succ, List.setIfInBounds_toArray, List.set_cons_zero, List.set_cons_succ]

                    set_option maxRecDepth 10000 in
                    refine wpAnyH_take (i := 31) (v := undef) rfl (by kernel_rfl) (by kernel_rfl) (by kernel_rfl) (fun _ _ _ h => h) (Or.inr ⟨by rfl, rfl⟩) (by assumption) ?_
                    try simp only [Act.put, List.getElem_toArray, List.getElem_cons_zero, List.getElem_cons_succ, List.setIfInBounds_toArray, List.set_cons_zero, List.set_cons_succ]

                    set_option maxRecDepth 10000 in
                    refine wpAnyH_take (i := 32) (v := undef) rfl (by kernel_rfl) (by kernel_rfl) (by kernel_rfl) (fun _ _ _ h => h) (Or.inr ⟨by rfl, rfl⟩) (by assumption) ?_
                    try simp only [Act.put, List.getElem_toArray, List.getElem_cons_zero, List.getElem_cons_succ, List.setIfInBounds_toArray, List.set_cons_zero, List.set_cons_succ]

                    set_option maxRecDepth 10000 in
                    refine wpAnyH_take (i := 33) (v := undef) rfl (by kernel_rfl) (by kernel_rfl) (by kernel_rfl) (fun _ _ _ h => h) (Or.inr ⟨by rfl, rfl⟩) (by assumption) ?_
                    try simp only [Act.put, List.getElem_toArray, List.getElem_cons_zero, List.getElem_cons_succ, List.setIfInBounds_toArray, List.set_cons_zero, List.set_cons_succ]

                    set_option maxRecDepth 10000 in
                    refine wpAnyH_take (i := 34) (v := undef) rfl (by kernel_rfl) (by kernel_rfl) (by kernel_rfl) (fun _ _ _ h => h) (Or.inr ⟨by rfl, rfl⟩) (by assumption) ?_
                    try simp only [Act.put, List.getElem_toArray, List.getElem_cons_zero, List.getElem_cons_succ, List.setIfInBounds_toArray, List.set_cons_zero, List.set_cons_succ]

                    set_option maxRecDepth 10000 in
                    refine wpAnyH_take (i := 35) (v := undef) rfl (by kernel_rfl) (by kernel_rfl) (by kernel_rfl) (fun _ _ _ h => h) (Or.inr ⟨by rfl, rfl⟩) (by assumption) ?_
                    try simp only [Act.put, List.getElem_toArray, List.getElem_cons_zero, List.getElem_cons_succ, List.setIfInBounds_toArray, List.set_cons_zero, List.set_cons_succ]

                    set_option maxRecDepth 10000 in
                    refine wpAnyH_take (i := 36) (v := undef) rfl (by kernel_rfl) (by kernel_rfl) (by kernel_rfl) (fun _ _ _ h => h) (Or.inr ⟨by rfl, rfl⟩) (by assumption) ?_
                    try simp only [Act.put, List.getElem_toArray, List.getElem_cons_zero, List.getElem_cons_succ, List.setIfInBounds_toArray, List.set_cons_zero, List.set_cons_succ]

                    set_option maxRecDepth 10000 in
                    refine wpAnyH_take (i := 37) (v := undef) rfl (by kernel_rfl) (by kernel_rfl) (by kernel_rfl) (fun _ _ _ h => h) (Or.inr ⟨by rfl, rfl⟩) (by assumption) ?_
                    try simp only [Act.put, List.getElem_toArray, List.getElem_cons_zero, List.getElem_cons_succ, List.setIfInBounds_toArray, List.set_cons_zero, List.set_cons_succ]

                    set_option maxRecDepth 10000 in
                    refine wpAnyH_take (i := 38) (v := undef) rfl (by kernel_rfl) (by kernel_rfl) (by kernel_rfl) (fun _ _ _ h => h) (Or.inr ⟨by rfl, rfl⟩) (by assumption) ?_
                    try simp only [Act.put, List.getElem_toArray, List.getElem_cons_zero, List.getElem_cons_succ, List.setIfInBounds_toArray, List.set_cons_zero, List.set_cons_succ]

                    set_option maxRecDepth 10000 in
                    refine wpAnyH_take (i := 39) (v := undef) rfl (by kernel_rfl) (by kernel_rfl) (by kernel_rfl) (fun _ _ _ h => h) (Or.inr ⟨by rfl, rfl⟩) (by assumption) ?_
                    try simp only [Act.put, List.getElem_toArray, List.getElem_cons_zero, List.getElem_cons_succ, List.setIfInBounds_toArray, List.set_cons_zero, List.set_cons_succ]

                    set_option maxRecDepth 10000 in
                    refine wpAnyH_take (i := 40) (v := ?_) rfl (by kernel_rfl) (by kernel_rfl) (by kernel_rfl) (fun _ _ _ h => h) (Or.inl ⟨by rfl, ?_⟩) (by assumption) ?_
                    rotate_left
                    · intro w hSw; (try dsimp only at hSw); go_simp; (try with_reducible rfl)
                    try simp only [Act.put, List.getElem_toArray, List.getElem_cons_zero, List.getElem_cons_succ, List.setIfInBounds_toArray, List.set_cons_zero, List.set_cons_succ]

                    set_option maxRecDepth 10000 in
                    refine wpAnyH_take (i := 41) (v := ?_) rfl (by kernel_rfl) (by kernel_rfl) (by kernel_rfl) (fun _ _ _ h => h) (Or.inl ⟨by rfl, ?_⟩) (by assumption) ?_
                    rotate_left
                    · intro w hSw; (try dsimp only at hSw); go_simp; (try with_reducible rfl)
                    try simp only [Act.put, List.getElem_toArray, List.getElem_cons_zero, List.getElem_cons_succ, List.setIfInBounds_toArray, List.set_cons_zero, List.set_cons_succ]

                    refine wpAnyH_done (by kernel_rfl) ?_ _
                    try refine NoPanic.normal ?_
                    go_wp2
                    go_meet
                    exact ⟨rfl, HD.out⟩
                  · rw [Nat.zero_add] at h1
                    subst h1
                    rw [h2] at t0
                    have hxm : x.from_ ≠ -1 := FN.out x (List.mem_of_getElem? hi)
                    have hxb : (x.from_ == -1) = false := by simp [hxm]
                    have hil : i < L.length := (List.getElem?_eq_some_iff.1 hi).1
                    obtain ⟨bL, oL, haL, _, hcL⟩ := rd_at RL.out hi
                    subst haL
                    have l0 : w1.drew.cell? ⟨bL, oL + i * 4, none⟩ = some (.int .i64 x.from_) := hcL 0 _ rfl
                    have hi0 : ¬ (i : Int) < 0 := by omega
                    have hi1 : (0 : Int) ≤ (i : Int) := by omega
                    have hi2 : (i : Int) < (L.length : Int) := by omega
                    clear hcL hi
                    try refine wp_region_noPanic ?_
                    refine wp_region_held_drew (S := fun W => W.cell? ⟨bT, oT + kk * 2, none⟩ = some (.int .i64 x.from_) ∧ W.cell? ⟨bT, oT + kk * 2 + 1, none⟩ = some (.int .i64 s.at_) ∧ W.cell? ⟨X, 0, none⟩ = some (.int .i64 s.at_) ∧ W.cell? ⟨bL, oL + i * 4, none⟩ = some (.int .i64 x.from_)) (by kernel_rfl) ⟨t0, t1, s0, l0⟩ (fun hHeld => ?_)
                    set_option maxRecDepth 10000 in
                    refine wpAnyH_take (i := 0) (v := ?_) rfl (by kernel_rfl) (by kernel_rfl) (by kernel_rfl) (fun _ _ _ h => h) (Or.inl ⟨by rfl, ?_⟩) (by assumption) ?_
                    rotate_left
                    · intro w hSw; (try dsimp only at hSw); go_simp; (try with_reducible rfl)
                    try simp only [Act.put, List.getElem_toArray, List.getElem_cons_zero, List.getElem_cons_succ, List.setIfInBounds_toArray, List.set_cons_zero, List.set_cons_succ]

                    set_option maxRecDepth 10000 in
                    refine wpAnyH_take (i := 1) (v := ?_) rfl (by kernel_rfl) (by kernel_rfl) (by kernel_rfl) (fun _ _ _ h => h) (Or.inl ⟨by rfl, ?_⟩) (by assumption) ?_
                    rotate_left
                    · intro w hSw; (try dsimp only at hSw); go_simp; (try with_reducible rfl)
                    try simp only [Act.put, List.getElem_toArray, List.getElem_cons_zero, List.getElem_cons_succ, List.setIfInBounds_toArray, List.set_cons_zero, List.set_cons_succ]

                    set_option maxRecDepth 10000 in
                    refine wpAnyH_take (i := 2) (v := ?_) rfl (by kernel_rfl) (by kernel_rfl) (by kernel_rfl) (fun _ _ _ h => h) (Or.inl ⟨by rfl, ?_⟩) (by assumption) ?_
                    rotate_left
                    · intro w hSw; (try dsimp only at hSw); go_simp; (try with_reducible rfl)
                    try simp only [Act.put, List.getElem_toArray, List.getElem_cons_zero, List.getElem_cons_succ, List.setIfInBounds_toArray, List.set_cons_zero, List.set_cons_succ]

                    set_option maxRecDepth 10000 in
                    refine wpAnyH_take (i := 3) (v := ?_) rfl (by kernel_rfl) (by kernel_rfl) (by kernel_rfl) (fun _ _ _ h => h) (Or.inl ⟨by rfl, ?_⟩) (by assumption) ?_
                    rotate_left
                    · intro w hSw; (try dsimp only at hSw); go_simp; (try with_reducible rfl)
                    try simp only [Act.put, List.getElem_toArray, List.getElem_cons_zero, List.getElem_cons_succ, List.setIfInBounds_toArray, List.set_cons_zero, List.set_cons_succ]

                    set_option maxRecDepth 10000 in
                    refine wpAnyH_take (i := 4) (v := ?_) rfl (by kernel_rfl) (by kernel_rfl) (by kernel_rfl) (fun _ _ _ h => h) (Or.inl ⟨by rfl, ?_⟩) (by assumption) ?_
                    rotate_left
                    · intro w hSw; (try dsimp only at hSw); go_simp; (try with_reducible rfl)
                    try simp only [Act.put, List.getElem_toArray, List.getElem_cons_zero, List.getElem_cons_succ, List.setIfInBounds_toArray, List.set_cons_zero, List.set_cons_succ]

                    set_option maxRecDepth 10000 in
                    refine wpAnyH_take (i := 5) (v := ?_) rfl (by kernel_rfl) (by kernel_rfl) (by kernel_rfl) (fun _ _ _ h => h) (Or.inl ⟨by rfl, ?_⟩) (by assumption) ?_
                    rotate_left
                    · intro w hSw; (try dsimp only at hSw); go_simp; (try with_reducible rfl)
                    try simp only [Act.put, List.getElem_toArray, List.getElem_cons_zero, List.getElem_cons_succ, List.setIfInBounds_toArray, List.set_cons_zero, List.set_cons_succ]

                    set_option maxRecDepth 10000 in
                    refine wpAnyH_take (i := 6) (v := ?_) rfl (by kernel_rfl) (by kernel_rfl) (by kernel_rfl) (fun _ _ _ h => h) (Or.inl ⟨by rfl, ?_⟩) (by assumption) ?_
                    rotate_left
                    · intro w hSw; (try dsimp only at hSw); go_simp; (try with_reducible rfl)
                    try simp only [Act.put, List.getElem_toArray, List.getElem_cons_zero, List.getElem_cons_succ, List.setIfInBounds_toArray, List.set_cons_zero, List.set_cons_succ]

                    set_option maxRecDepth 10000 in
                    refine wpAnyH_take (i := 7) (v := ?_) rfl (by kernel_rfl) (by kernel_rfl) (by kernel_rfl) (fun _ _ _ h => h) (Or.inl ⟨by rfl, ?_⟩) (by assumption) ?_
                    rotate_left
                    · intro w hSw; (try dsimp only at hSw); go_simp; (try with_reducible rfl)
                    try simp only [Act.put, List.getElem_toArray, List.getElem_cons_zero, List.getElem_cons_succ, List.setIfInBounds_toArray, List.set_cons_zero, List.set_cons_succ]

                    set_option maxRecDepth 10000 in
                    refine wpAnyH_take (i := 8) (v := ?_) rfl (by kernel_rfl) (by kernel_rfl) (by kernel_rfl) (fun _ _ _ h => h) (Or.inl ⟨by rfl, ?_⟩) (by assumption) ?_
                    rotate_left
                    · intro w hSw; (try dsimp only at hSw); go_simp; (try with_reducible rfl)
                    try simp only [Act.put, List.getElem_toArray, List.getElem_cons_zero, List.getElem_cons_succ, List.setIfInBounds_toArray, List.set_cons_zero, List.set_cons_succ]

                    set_option maxRecDepth 10000 in
                    refine wpAnyH_take (i := 9) (v := ?_) rfl (by kernel_rfl) (by kernel_rfl) (by kernel_rfl) (fun _ _ _ h => h) (Or.inl ⟨by rfl, ?_⟩) (by assumption) ?_
                    rotate_left
                    · intro w hSw; (try dsimp only at hSw); go_simp; (try with_reducible rfl)
                    try simp only [Act.put, List.getElem_toArray, List.getElem_cons_zero, List.getElem_cons_succ, List.setIfInBounds_toArray, List.set_cons_zero, List.set_cons_succ]

                    set_option maxRecDepth 10000 in
                    refine wpAnyH_take (i := 10) (v := ?_) rfl (by kernel_rfl) (by kernel_rfl) (by kernel_rfl) (fun _ _ _ h => h) (Or.inl ⟨by rfl, ?_⟩) (by assumption) ?_
                    rotate_left
                    · intro w hSw; (try dsimp only at hSw); go_simp; (try with_reducible rfl)
                    try simp only [Act.put, List.getElem_toArray, List.getElem_cons_zero, List.getElem_cons_succ, List.setIfInBounds_toArray, List.set_cons_zero, List.set_cons_succ]

                    set_option maxRecDepth 10000 in
                    refine wpAnyH_take (i := 11) (v := ?_) rfl (by kernel_rfl) (by kernel_rfl) (by kernel_rfl) (fun _ _ _ h => h) (Or.inl ⟨by rfl, ?_⟩) (by assumption) ?_
                    rotate_left
                    · intro w hSw; (try dsimp only at hSw); go_simp; (try with_reducible rfl)
                    try simp only [Act.put, List.getElem_toArray, List.getElem_cons_zero, List.getElem_cons_succ, List.setIfInBounds_toArray, List.set_cons_zero, List.set_cons_succ]

                    set_option maxRecDepth 10000 in
                    refine wpAnyH_take (i := 12) (v := ?_) rfl (by kernel_rfl) (by kernel_rfl) (by kernel_rfl) (fun _ _ _ h => h) (Or.inl ⟨by rfl, ?_⟩) (by assumption) ?_
                    rotate_left
                    · intro w hSw; (try dsimp only at hSw); go_simp; (try with_reducible rfl)
                    try simp only [Act.put, List.getElem_toArray, List.getElem_cons_zero, List.getElem_cons_succ, List.setIfInBounds_toArray, List.set_cons_zero, List.set_cons_succ]

                    set_option maxRecDepth 10000 in
                    refine wpAnyH_take (i := 13) (v := ?_) rfl (by kernel_rfl) (by kernel_rfl) (by kernel_rfl) (fun _ _ _ h => h) (Or.inl ⟨by rfl, ?_⟩) (by assumption) ?_
                    rotate_left
                    · intro w hSw; (try dsimp only at hSw); go_simp; (try with_reducible rfl)
                    try simp only [Act.put, List.getElem_toArray, List.getElem_cons_zero, List.getElem_cons_succ, List.setIfInBounds_toArray, List.set_cons_zero, List.set_cons_succ]

                    set_option maxRecDepth 10000 in
                    refine wpAnyH_take (i := 14) (v := ?_) rfl (by kernel_rfl) (by kernel_rfl) (by kernel_rfl) (fun _ _ _ h => h) (Or.inl ⟨by rfl, ?_⟩) (by assumption) ?_
                    rotate_left
                    · intro w hSw; (try dsimp only at hSw); go_simp; (try with_reducible rfl)
                    try simp only [Act.put, List.getElem_toArray, List.getElem_cons_zero, List.getElem_cons_succ, List.setIfInBounds_toArray, List.set_cons_zero, List.set_cons_succ]

                    set_option maxRecDepth 10000 in
                    refine wpAnyH_take (i := 15) (v := ?_) rfl (by kernel_rfl) (by kernel_rfl) (by kernel_rfl) (fun _ _ _ h => h) (Or.inl ⟨by rfl, ?_⟩) (by assumption) ?_
                    rotate_left
                    · intro w hSw; (try dsimp only at hSw); go_simp; (try with_reducible rfl)
                    try simp only [Act.put, List.getElem_toArray, List.getElem_cons_zero, List.getElem_cons_succ, List.setIfInBounds_toArray, List.set_cons_zero, List.set_cons_succ]

                    set_option maxRecDepth 10000 in
                    refine wpAnyH_take (i := 16) (v := ?_) rfl (by kernel_rfl) (by kernel_rfl) (by kernel_rfl) (fun _ _ _ h => h) (Or.inl ⟨by rfl, ?_⟩) (by assumption) ?_
                    rotate_left
                    · intro w hSw; (try dsimp only at hSw); go_simp; (try with_reducible rfl)
                    try simp only [Act.put, List.getElem_toArray, List.getElem_cons_zero, List.getElem_cons_succ, List.setIfInBounds_toArray, List.set_cons_zero, List.set_cons_succ]

                    set_option maxRecDepth 10000 in
                    refine wpAnyH_take (i := 17) (v := ?_) rfl (by kernel_rfl) (by kernel_rfl) (by kernel_rfl) (fun _ _ _ h => h) (Or.inl ⟨by rfl, ?_⟩) (by assumption) ?_
                    rotate_left
                    · intro w hSw; (try dsimp only at hSw); go_simp; (try with_reducible rfl)
                    try simp only [Act.put, List.getElem_toArray, List.getElem_cons_zero, List.getElem_cons_succ, List.setIfInBounds_toArray, List.set_cons_zero, List.set_cons_succ]

                    set_option maxRecDepth 10000 in
                    refine wpAnyH_take (i := 18) (v := ?_) rfl (by kernel_rfl) (by kernel_rfl) (by kernel_rfl) (fun _ _ _ h => h) (Or.inl ⟨by rfl, ?_⟩) (by assumption) ?_
                    rotate_left
                    · intro w hSw; (try dsimp only at hSw); go_simp; (try with_reducible rfl)
                    try simp only [Act.put, List.getElem_toArray, List.getElem_cons_zero, List.getElem_cons_succ, List.setIfInBounds_toArray, List.set_cons_zero, List.set_cons_succ]

                    set_option maxRecDepth 10000 in
                    refine wpAnyH_take (i := 19) (v := ?_) rfl (by kernel_rfl) (by kernel_rfl) (by kernel_rfl) (fun _ _ _ h => h) (Or.inl ⟨by rfl, ?_⟩) (by assumption) ?_
                    rotate_left
                    · intro w hSw; (try dsimp only at hSw); go_simp; (try with_reducible rfl)
                    try simp only [Act.put, List.getElem_toArray, List.getElem_cons_zero, List.getElem_cons_succ, List.setIfInBounds_toArray, List.set_cons_zero, List.set_cons_succ]

                    set_option maxRecDepth 10000 in
                    refine wpAnyH_take (i := 20) (v := ?_) rfl (by kernel_rfl) (by kernel_rfl) (by kernel_rfl) (fun _ _ _ h => h) (Or.inl ⟨by rfl, ?_⟩) (by assumption) ?_
                    rotate_left
                    · intro w hSw; (try dsimp only at hSw); go_simp; (try with_reducible rfl)
                    try simp only [Act.put, List.getElem_toArray, List.getElem_cons_zero, List.getElem_cons_succ, List.setIfInBounds_toArray, List.set_cons_zero, List.set_cons_succ]

                    set_option maxRecDepth 10000 in
                    refine wpAnyH_take (i := 21) (v := ?_) rfl (by kernel_rfl) (by kernel_rfl) (by kernel_rfl) (fun _ _ _ h => h) (Or.inl ⟨by rfl, ?_⟩) (by assumption) ?_
                    rotate_left
                    · intro w hSw; (try dsimp only at hSw); go_simp; (try with_reducible rfl)
                    try simp only [Act.put, List.getElem_toArray, List.getElem_cons_zero, List.getElem_cons_succ, List.setIfInBounds_toArray, List.set_cons_zero, List.set_cons_succ]

                    set_option maxRecDepth 10000 in
                    refine wpAnyH_take (i := 22) (v := ?_) rfl (by kernel_rfl) (by kernel_rfl) (by kernel_rfl) (fun _ _ _ h => h) (Or.inl ⟨by rfl, ?_⟩) (by assumption) ?_
                    rotate_left
                    · intro w hSw; (try dsimp only at hSw); go_simp; (try with_reducible rfl)
                    try simp only [Act.put, List.getElem_toArray, List.getElem_cons_zero, List.getElem_cons_succ, List.setIfInBounds_toArray, List.set_cons_zero, List.set_cons_succ]

                    set_option maxRecDepth 10000 in
                    refine wpAnyH_take (i := 23) (v := ?_) rfl (by kernel_rfl) (by kernel_rfl) (by kernel_rfl) (fun _ _ _ h => h) (Or.inl ⟨by rfl, ?_⟩) (by assumption) ?_
                    rotate_left
                    · intro w hSw; (try dsimp only at hSw); go_simp; (try with_reducible rfl)
                    try simp only [Act.put, List.getElem_toArray, List.getElem_cons_zero, List.getElem_cons_succ, List.setIfInBounds_toArray, List.set_cons_zero, List.set_cons_succ]

                    set_option maxRecDepth 10000 in
                    refine wpAnyH_take (i := 24) (v := ?_) rfl (by kernel_rfl) (by kernel_rfl) (by kernel_rfl) (fun _ _ _ h => h) (Or.inl ⟨by rfl, ?_⟩) (by assumption) ?_
                    rotate_left
                    · intro w hSw; (try dsimp only at hSw); go_simp; (try with_reducible rfl)
                    try simp only [Act.put, List.getElem_toArray, List.getElem_cons_zero, List.getElem_cons_succ, List.setIfInBounds_toArray, List.set_cons_zero, List.set_cons_succ]

                    set_option maxRecDepth 10000 in
                    refine wpAnyH_take (i := 25) (v := ?_) rfl (by kernel_rfl) (by kernel_rfl) (by kernel_rfl) (fun _ _ _ h => h) (Or.inl ⟨by rfl, ?_⟩) (by assumption) ?_
                    rotate_left
                    · intro w hSw; (try dsimp only at hSw); go_simp; (try with_reducible rfl)
                    try simp only [Act.put, List.getElem_toArray, List.getElem_cons_zero, List.getElem_cons_succ, List.setIfInBounds_toArray, List.set_cons_zero, List.set_cons_succ]

                    set_option maxRecDepth 10000 in
                    refine wpAnyH_take (i := 26) (v := ?_) rfl (by kernel_rfl) (by kernel_rfl) (by kernel_rfl) (fun _ _ _ h => h) (Or.inl ⟨by rfl, ?_⟩) (by assumption) ?_
                    rotate_left
                    · intro w hSw; (try dsimp only at hSw); go_simp; (try with_reducible rfl)
                    try simp only [Act.put, List.getElem_toArray, List.getElem_cons_zero, List.getElem_cons_succ, List.setIfInBounds_toArray, List.set_cons_zero, List.set_cons_succ]

                    set_option maxRecDepth 10000 in
                    refine wpAnyH_take (i := 27) (v := ?_) rfl (by kernel_rfl) (by kernel_rfl) (by kernel_rfl) (fun _ _ _ h => h) (Or.inl ⟨by rfl, ?_⟩) (by assumption) ?_
                    rotate_left
                    · intro w hSw; (try dsimp only at hSw); go_simp; (try with_reducible rfl)
                    try simp only [Act.put, List.getElem_toArray, List.getElem_cons_zero, List.getElem_cons_succ, List.setIfInBounds_toArray, List.set_cons_zero, List.set_cons_succ]

                    set_option maxRecDepth 10000 in
                    refine wpAnyH_take (i := 28) (v := ?_) rfl (by kernel_rfl) (by kernel_rfl) (by kernel_rfl) (fun _ _ _ h => h) (Or.inl ⟨by rfl, ?_⟩) (by assumption) ?_
                    rotate_left
                    · intro w hSw; (try dsimp only at hSw); go_simp; (try with_reducible rfl)
                    try simp only [Act.put, List.getElem_toArray, List.getElem_cons_zero, List.getElem_cons_succ, List.setIfInBounds_toArray, List.set_cons_zero, List.set_cons_succ]

                    set_option maxRecDepth 10000 in
                    refine wpAnyH_take (i := 29) (v := ?_) rfl (by kernel_rfl) (by kernel_rfl) (by kernel_rfl) (fun _ _ _ h => h) (Or.inl ⟨by rfl, ?_⟩) (by assumption) ?_
                    rotate_left
                    · intro w hSw; (try dsimp only at hSw); go_simp; (try with_reducible rfl)
                    try simp only [Act.put, List.getElem_toArray, List.getElem_cons_zero, List.getElem_cons_succ, List.setIfInBounds_toArray, List.set_cons_zero, List.set_cons_succ]

                    set_option maxRecDepth 10000 in
                    refine wpAnyH_take (i := 30) (v := ?_) rfl (by kernel_rfl) (by kernel_rfl) (by kernel_rfl) (fun _ _ _ h => h) (Or.inl ⟨by rfl, ?_⟩) (by assumption) ?_
                    rotate_left
                    · intro w hSw; (try dsimp only at hSw); go_simp; (try with_reducible rfl)
                    try simp only [Act.put, List.getElem_toArray, List.getElem_cons_zero, List.getElem_cons_succ, List.setIfInBounds_toArray, List.set_cons_zero, List.set_cons_succ]

                    set_option maxRecDepth 10000 in
                    refine wpAnyH_take (i := 31) (v := ?_) rfl (by kernel_rfl) (by kernel_rfl) (by kernel_rfl) (fun _ _ _ h => h) (Or.inl ⟨by rfl, ?_⟩) (by assumption) ?_
                    rotate_left
                    · intro w hSw; (try dsimp only at hSw); go_simp; (try with_reducible rfl)
                    try simp only [Act.put, List.getElem_toArray, List.getElem_cons_zero, List.getElem_cons_succ, List.setIfInBounds_toArray, List.set_cons_zero, List.set_cons_succ]

                    set_option maxRecDepth 10000 in
                    refine wpAnyH_take (i := 32) (v := ?_) rfl (by kernel_rfl) (by kernel_rfl) (by kernel_rfl) (fun _ _ _ h => h) (Or.inl ⟨by rfl, ?_⟩) (by assumption) ?_
                    rotate_left
                    · intro w hSw; (try dsimp only at hSw); go_simp; (try with_reducible rfl)
                    try simp only [Act.put, List.getElem_toArray, List.getElem_cons_zero, List.getElem_cons_succ, List.setIfInBounds_toArray, List.set_cons_zero, List.set_cons_succ]

                    set_option maxRecDepth 10000 in
                    refine wpAnyH_take (i := 33) (v := ?_) rfl (by kernel_rfl) (by kernel_rfl) (by kernel_rfl) (fun _ _ _ h => h) (Or.inl ⟨by rfl, ?_⟩) (by assumption) ?_
                    rotate_left
                    · intro w hSw; (try dsimp only at hSw); go_simp; (try with_reducible rfl)
                    try simp only [Act.put, List.getElem_toArray, List.getElem_cons_zero, List.getElem_cons_succ, List.setIfInBounds_toArray, List.set_cons_zero, List.set_cons_succ]

                    set_option maxRecDepth 10000 in
                    refine wpAnyH_take (i := 34) (v := ?_) rfl (by kernel_rfl) (by kernel_rfl) (by kernel_rfl) (fun _ _ _ h => h) (Or.inl ⟨by rfl, ?_⟩) (by assumption) ?_
                    rotate_left
                    · intro w hSw; (try dsimp only at hSw); go_simp; (try with_reducible rfl)
                    try simp only [Act.put, List.getElem_toArray, List.getElem_cons_zero, List.getElem_cons_succ, List.setIfInBounds_toArray, List.set_cons_zero, List.set_cons_succ]

                    set_option maxRecDepth 10000 in
                    refine wpAnyH_take (i := 35) (v := ?_) rfl (by kernel_rfl) (by kernel_rfl) (by kernel_rfl) (fun _ _ _ h => h) (Or.inl ⟨by rfl, ?_⟩) (by assumption) ?_
                    rotate_left
                    · intro w hSw; (try dsimp only at hSw); go_simp; (try with_reducible rfl)
                    try simp only [Act.put, List.getElem_toArray, List.getElem_cons_zero, List.getElem_cons_succ, List.setIfInBounds_toArray, List.set_cons_zero, List.set_cons_succ]

                    set_option maxRecDepth 10000 in
                    refine wpAnyH_take (i := 36) (v := ?_) rfl (by kernel_rfl) (by kernel_rfl) (by kernel_rfl) (fun _ _ _ h => h) (Or.inl ⟨by rfl, ?_⟩) (by assumption) ?_
                    rotate_left
                    · intro w hSw; (try dsimp only at hSw); go_simp; (try with_reducible rfl)
                    try simp only [Act.put, List.getElem_toArray, List.getElem_cons_zero, List.getElem_cons_succ, List.setIfInBounds_toArray, List.set_cons_zero, List.set_cons_succ]

                    set_option maxRecDepth 10000 in
                    refine wpAnyH_take (i := 37) (v := ?_) rfl (by kernel_rfl) (by kernel_rfl) (by kernel_rfl) (fun _ _ _ h => h) (Or.inl ⟨by rfl, ?_⟩) (by assumption) ?_
                    rotate_left
                    · intro w hSw; (try dsimp only at hSw); go_simp; (try with_reducible rfl)
                    try simp only [Act.put, List.getElem_toArray, List.getElem_cons_zero, List.getElem_cons_succ, List.setIfInBounds_toArray, List.set_cons_zero, List.set_cons_succ]

                    set_option maxRecDepth 10000 in
                    refine wpAnyH_take (i := 38) (v := ?_) rfl (by kernel_rfl) (by kernel_rfl) (by kernel_rfl) (fun _ _ _ h => h) (Or.inl ⟨by rfl, ?_⟩) (by assumption) ?_
                    rotate_left
                    · intro w hSw; (try dsimp only at hSw); go_simp; (try with_reducible rfl)
                    try simp only [Act.put, List.getElem_toArray, List.getElem_cons_zero, List.getElem_cons_succ, List.setIfInBounds_toArray, List.set_cons_zero, List.set_cons_succ]

                    set_option maxRecDepth 10000 in
                    refine wpAnyH_take (i := 39) (v := ?_) rfl (by kernel_rfl) (by kernel_rfl) (by kernel_rfl) (fun _ _ _ h => h) (Or.inl ⟨by rfl, ?_⟩) (by assumption) ?_
                    rotate_left
                    · intro w hSw; (try dsimp only at hSw); go_simp; (try with_reducible rfl)
                    try simp only [Act.put, List.getElem_toArray, List.getElem_cons_zero, List.getElem_cons_succ, List.setIfInBounds_toArray, List.set_cons_zero, List.set_cons_succ]

                    set_option maxRecDepth 10000 in
                    refine wpAnyH_take (i := 40) (v := ?_) rfl (by kernel_rfl) (by kernel_rfl) (by kernel_rfl) (fun _ _ _ h => h) (Or.inl ⟨by rfl, ?_⟩) (by assumption) ?_
                    rotate_left
                    · intro w hSw; (try dsimp only at hSw); go_simp; (try with_reducible rfl)
                    try simp only [Act.put, List.getElem_toArray, List.getElem_cons_zero, List.getElem_cons_succ, List.setIfInBounds_toArray, List.set_cons_zero, List.set_cons_succ]

                    set_option maxRecDepth 10000 in
                    refine wpAnyH_take (i := 41) (v := ?_) rfl (by kernel_rfl) (by kernel_rfl) (by kernel_rfl) (fun _ _ _ h => h) (Or.inl ⟨by rfl, ?_⟩) (by assumption) ?_
                    rotate_left
                    · intro w hSw; (try dsimp only at hSw); go_simp; (try with_reducible rfl)
                    try simp only [Act.put, List.getElem_toArray, List.getElem_cons_zero, List.getElem_cons_succ, List.setIfInBounds_toArray, List.set_cons_zero, List.set_cons_succ]

                    refine wpAnyH_done (by kernel_rfl) ?_ _
                    try refine NoPanic.normal ?_
                    go_wp2
                    go_meet
                    exact ⟨rfl, HD.out⟩
                case rest =>
                  obtain ⟨rfl, hb⟩ := hcut
                  obtain ⟨w1, rfl⟩ : ∃ y : World, y = wc := ⟨wc, rfl⟩
                  replace c0 := below_cell hb c0
                  replace c1 := below_cell hb c1
                  replace s0 := below_cell hb s0
                  replace RS := Lib.hid (RS.out.below hb)
                  replace RL := Lib.hid (RL.out.below hb)
                  replace RT := Lib.hid (RT.out.below hb)
                  replace RH := Lib.hid (RH.out.below hb)
                  replace RN := Lib.hid (RN.out.below hb)
                  replace HBN := Lib.hid (HBN.out.below hb)
                  replace HB := Lib.hid (HB.out.trans (hb.mono HB.out.size))
                  clear hb
                  have hwk : IntKind.i64.wrap ((kk : Int) + 1) = (kk : Int) + 1 := Go.IntWalk.i64_in _ (by omega)
                  go_wp2
                  go_roundw
                  case rel => exact ⟨n + 1, kk + 1, by go_num, by go_num, by omega, HK1.out.symm, HBN.out⟩
                  case measure => simp [intOf]; omega
              · skip
                have hdb : (s.do_ != 2) = true := by simp [hd]
                have HK1 : Hid (((l.take (n + 1)).filter outP).length = kk) := Lib.hid (by
                  rw [List.take_add_one, HX.out, Option.toList_some, List.filter_append, List.filter_cons, if_neg (by simp [outP, hd]), List.filter_nil, List.append_nil, ← HK.out])
                clear hd
                go_wp2
                go_roundw
                case rel => exact ⟨n + 1, kk, by go_num, rfl, by omega, HK1.out.symm, HBN.out.below ((Below.refl _ _).alloc (Nat.le_refl _) _)⟩
                case measure => simp [intOf]; omega
            · skip
              obtain rfl : n = l.length := by omega
              rw [List.take_length] at HK
              obtain rfl : kk = T.length := by rw [HK.out, TC.out]
              have HEQ := Lib.hid (fun (W : World) h1 h2 => show Calls Tryz.prog 13 #[.slice a2 P.length c2, .slice aH P.length cH] W fun e w' => e = .returned (.bool true) ∧ Below W.heap.size W w' from (equalPairs_any (.slice a2 P.length c2) (.slice aH P.length cH) P P W h1 h2).mono fun e w' ⟨h, hb⟩ => ⟨by rw [h]; simp, hb⟩)
              go_wp2_with fail
              refine (HEQ.out _ RN.out RH.out).mono ?_
              rintro e w1 ⟨rfl, hb⟩
              replace c0 := below_cell hb c0
              replace c1 := below_cell hb c1
              replace RS := Lib.hid (RS.out.below hb)
              replace RL := Lib.hid (RL.out.below hb)
              replace RT := Lib.hid (RT.out.below hb)
              replace RH := Lib.hid (RH.out.below hb)
              replace RN := Lib.hid (RN.out.below hb)
              replace HBN := Lib.hid (HBN.out.below hb)
              replace HB := Lib.hid (HB.out.trans (hb.mono HB.out.size))
              clear hb
              go_wp2_with fail
              refine (known_any _).mono ?_
              rintro e w1 ⟨rfl, hb⟩
              replace c0 := below_cell hb c0
              replace c1 := below_cell hb c1
              replace RS := Lib.hid (RS.out.below hb)
              replace RL := Lib.hid (RL.out.below hb)
              replace RT := Lib.hid (RT.out.below hb)
              replace RH := Lib.hid (RH.out.below hb)
              replace RN := Lib.hid (RN.out.below hb)
              replace HBN := Lib.hid (HBN.out.below hb)
              replace HB := Lib.hid (HB.out.trans (hb.mono HB.out.size))
              clear hb
              go_wp2
              go_ret
              exact ⟨rfl, HB.out⟩
end Go.Proofs.YtkoeplbkeboklaaGreat
