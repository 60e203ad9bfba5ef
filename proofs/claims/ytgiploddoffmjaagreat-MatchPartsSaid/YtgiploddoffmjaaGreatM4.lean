/- My texts, joined: Base7, W2. -/
import Derived.Below
import Derived.BigQuiet
import Derived.Deep.AppendLies
import Derived.Deep.DeepCutAuto
import Derived.Deep.QuietTactic
import Derived.Deep.RegionHeld
import Derived.Deep.RegionHeld3
import Derived.Deep.RegionLaw
import Derived.KernelRfl
import Derived.Laws.AppendOwn
import Derived.Laws.AppendOwnNone
import Derived.Laws.CopyRow
import Derived.Lib.Hide
import Derived.LoopIn
import Derived.LoopNIn
import Derived.LoopTactic
import Derived.Maps.AppendAt
import Derived.Outline
import Derived.OwnWalk
import Derived.OwnWalkIn
import Derived.RangeFuncBound
import Derived.RangeFuncCalls
import Derived.RangeFuncLeaves
import Derived.RangeFuncNested
import Derived.Shelf.Abstract
import Derived.Shelf.RegionOpen
import Derived.TacticsInMore
import Derived.Test.YtgiploddoffmjaaGreatProg
import Derived.WalkKit
import Derived.WalkSpells
import Derived.Test.YtgiploddoffmjaaGreatM0
import Derived.Test.YtgiploddoffmjaaGreatM1
import Derived.Test.YtgiploddoffmjaaGreatM2
import Derived.Test.YtgiploddoffmjaaGreatM3
set_option linter.unusedVariables false
set_option linter.unusedSimpArgs false
set_option linter.unusedSectionVars false
set_option maxRecDepth 10000
namespace Go.Proofs.YtgiploddoffmjaaGreat
section
open Go.RowKit
theorem range_wide {P : Program} {n : Nat} {g : Operand} {ps : Array Tmp} {assign body : Code} {Q : Exit → Act → World → Prop} {a : Act} {w : World} {gf : Nat} {lb : Array Value} (hg : a.eval g = .func (.func gf) #[] lb) (eg : ∀ args w, (callFunc gf args).run P w = .ok (.enter gf args) w)
 (h : ∀ (fn : FuncId) (W1 : World), Below w.heap.size w W1 → W1.heap.size = w.heap.size + 2 → W1.heap[w.heap.size]? = some (.deferred (some [])) →
   W1.heap[w.heap.size + 1]? = some (.loop { state := .ready, pending := none, fn, tmps := a.tmps, params := ps, assign, body, defers := w.heap.size }) →
   CallsIn Fence.wide n P gf (#[.func (.yield (w.heap.size + 1)) #[] #[]] ++ lb) W1 (rangePost Fence.wide (n + 1) P (w.heap.size + 1) Q { a with defers := { target := .collected w.heap.size, args := #[] } :: a.defers })) :
 (Code.rangeFunc g ps assign body).wpIn Fence.wide (n + 1) P Q a w := by
 refine wpIn_rangeFunc ?_
 intro fn _
 obtain ⟨W1, hW1⟩ : ∃ W1, (w.alloc (.deferred (some []))).alloc (.loop { state := .ready, pending := none, fn, tmps := a.tmps, params := ps, assign, body, defers := w.heap.size }) = W1 := ⟨_, rfl⟩
 refine ⟨w.heap.size + 1, [{ target := .collected w.heap.size, args := #[] }], W1, { target := .fn (.func gf) lb, args := #[.func (.yield (w.heap.size + 1)) #[] #[]] }, W1, gf,
  #[.func (.yield (w.heap.size + 1)) #[] #[]] ++ lb, W1, ?_, ?_, ?_, ?_, fun h => by simp [Fence.wide] at h, ?_⟩
 ·rw [← hW1]; exact run_enterLoop_outer _ _ _ _ _
 ·simp only [resolve, hg]
  simp [go_sem]
 ·intro f' _; trivial
 ·simp [invoke, go_sem, eg]
 ·refine h fn W1 ?_ ?_ ?_ ?_
  ·rw [← hW1]; exact (((Below.refl _ w).alloc (Nat.le_refl _) _).alloc (by simp) _)
  ·rw [← hW1]; simp
  ·rw [← hW1]; exact (Below.heap_alloc _ _ _ (by simp)).trans (heap_alloc_new w _)
  ·rw [← hW1]
   have := heap_alloc_new (w.alloc (.deferred (some []))) (.loop { state := .ready, pending := none, fn, tmps := a.tmps, params := ps, assign, body, defers := w.heap.size })
   rwa [World.size_alloc] at this
theorem yield_wide {P : Program} {n l : Nat} {r : Loop} {args : Array Value} {W : World} {R : Ending → World → Prop} (hr : W.heap[l]? = some (.loop r)) (hs : args.size = r.params.size)
 (h : r.assign.wpIn (Fence.wide.inRound l) n P (Exit.then (fun a₁ w₁ => ∃ r', w₁.heap[l]? = some (.loop r') ∧ r'.state = .ready ∧ r.body.wpIn (Fence.wide.inRound l) n P (roundPost P l R) a₁ (w₁.putObj l (.loop { r' with state := .busy }))) (fun _ _ _ => False))
   { tmps := (r.params.zip args).foldl (fun tmps (t, a) => tmps.setIfInBounds t a) r.tmps, defers := [] } W) : YieldAt Fence.wide n P l args W R :=
 ⟨r.fn, _, r.assign, r.body, run_yield hr hs, roundIn_of_wpIn trivial (wpIn_mono h fun e a₁ w₁ hq => by
  cases e with
  | normal =>
   obtain ⟨r', h1, h2, h3⟩ := hq
   exact ⟨_, run_beginRound h1 h2, h3⟩
  | exit id => exact hq
  | goto l => exact hq
  | ret => exact hq
  | panic c => exact hq
  | outgrown => exact hq)⟩
theorem two_box {w W0 : World} {cs ds : Array Value} {T U : TypeId} (h : (w.alloc (.cells cs T)).alloc (.cells ds U) = W0) : Below w.heap.size w W0 ∧ W0.heap.size = w.heap.size + 2 ∧ W0.heap[w.heap.size]? = some (.cells cs T (0, 0)) ∧ W0.heap[w.heap.size + 1]? = some (.cells ds U (0, 0)) := by
 subst h
 exact named_box2 w cs ds T U (G := fun W0 => Below w.heap.size w W0 ∧ W0.heap.size = w.heap.size + 2 ∧ W0.heap[w.heap.size]? = some (.cells cs T (0, 0)) ∧ W0.heap[w.heap.size + 1]? = some (.cells ds U (0, 0))) fun W0 h1 h2 h3 h4 => ⟨h1, h2, h3, h4⟩
theorem fr_putObj (w : World) (r : Nat) (o : Obj) : Fr (fun i => i = r) w (w.putObj r o) := ⟨rfl, rfl, rfl, by simp, fun k _ hs => World.putObj_heap_other hs⟩
theorem named_put {w : World} {r : Nat} {o : Obj} {G : World → Prop} (hr : r < w.heap.size) (h : ∀ W, Fr (fun i => i = r) w W → W.heap[r]? = some o → W.heap.size = w.heap.size → G W) : G (w.putObj r o) :=
 h _ (fr_putObj w r o) (World.putObj_heap_same hr) (by simp)
theorem round_end {P : Program} {l : Nat} {R : Ending → World → Prop} {r : Loop} {a : Act} {w : World} (h : w.heap[l]? = some (.loop r)) (hk : ∀ W, Fr (fun i => i = l) w W → W.heap[l]? = some (.loop { r with state := .ready, pending := none }) → W.heap.size = w.heap.size → R (.returned (.bool true)) W) : roundPost P l R .normal a w :=
 ⟨_, _, run_endRound none h, named_put (G := R (.returned (.bool true))) (Array.getElem?_eq_some_iff.1 h).1 hk⟩
theorem wpListIn_append_win {F : Fence} {n : Nat} {P : Program} (w : World) {ops : Array Oper} {rest : List Oper} {o : Oper} {a : Act} {Q : Exit → Act → World → Prop} (hgd : o.guard = none) (s x : Operand) (t : TypeId)
 (hop : o.op = .call { callee := .builtin .append, args := #[s, x], argTypes := #[t, t] })
 (e : TypeId) (k bytes : Nat) (z : Value) (ht : P.underlying t = some (.slice e)) (hinfo : (P.info? e).map (fun i => (i.zero, i.size, i.bytes)) = some (some z, k, bytes)) (hzs : z.cells.size = k) (hk : 0 < k)
 (v : Value) (S : Nat → Prop) (nn : Nat) (xs : List Value) (hs : a.eval s = v) (hwin : WinC k e w v S nn xs)
 (ad : Addr) (m c : Nat) (news : List Value) (hx : a.eval x = .slice (some ad) m c) (hl : news.length = m * k) (hnews : ∀ j u, news[j]? = some u → w.cell? (ad.add j) = some u) (h1 : ∀ u ∈ news, u.oneCell' = true)
 (hm : 0 < m) (h63 : nn + m ≤ maxLen) (hbytes : (nn + m) * bytes ≤ 140737488355328)
 (hK : ∀ v' w', WinC k e w' v' (fun i => (S i ∧ i < w.heap.size) ∨ i = w.heap.size) (nn + m) (xs ++ news) → Fr (fun i => some i = v.ownBlock) w w' → w'.heap.size ≤ w.heap.size + 1 → wpListIn F n P ops Q rest (a.put o.dst v') w') : wpListIn F n P ops Q (o :: rest) a w := by
 obtain ⟨i, hi, hzz⟩ := Option.map_eq_some_iff.1 hinfo
 simp only [Prod.mk.injEq] at hzz
 obtain ⟨v', w', hrun, r1, r2, r3⟩ := run_append_win (P := P) w t o.type e i z k bytes ht hi hzz.1 hzz.2.1 hzz.2.2 hzs hk v S nn xs hwin ad m c news hl hnews h1 hm h63 hbytes
 refine wpListIn_plain hgd fun K hK' => ?_
 unfold Oper.wpIn
 refine ⟨?_, ?_⟩
 ·simp [Oper.about, hop, resolve, Target.leads, Sem.run_pure]
 ·rw [Oper.semAt_plain F _ _ (by rw [hop]; intro c hc'; cases hc')]
  simp [execOp, hop, resolve, invoke, builtin, hs, hx, hrun, Result.andThen]
  exact hK' _ _ (hK v' w' r1 r2 r3)
end
section
open Go.RowKit Go.Shelf
attribute [local go_sem] Oper.semAt_some
theorem run_store_fn {P : Program} {w : World} {a : Addr} {m : Mode} (fn : Fn) (first captured : Array Value) : (store a (.func fn first captured) m).run P w = stored P w a (.func fn first captured) m := run_store P w a _ m rfl
attribute [local go_sem] run_store_fn
abbrev patA (x : Node) (v : Value) : Array Value := #[.int .i64 x.op, .int .i64 x.t.src, .int .i64 x.t.low, .int .i64 x.t.high, .int .i64 x.n, v]
theorem nodes_any (x : Node) (v : Value) (w : World) : Calls Tryz.prog 119 #[.agg (patA x v)] w fun e w' => e = .returned (.func (.func 183) #[] #[.pointer (some ⟨w.heap.size, 0, none⟩)]) ∧ w' = w.alloc (.cells (patA x v) 27) := by
 go_enter Tryz.func119, Tryz.ntmps119
 go_wp2
 go_ret
 exact ⟨rfl, rfl⟩
section
variable (L B0 D0 Yb Wb : Nat) (M : Nat → Prop) (J : Nat → World → Prop) (Jx : World → Prop) (N : List (Nat × Node))
def RoundAt : Prop := ∀ (m i : Nat) (x : Nat × Node) (v : Value) (W : World), N[i]? = some x → J i W → RdKB B0 W x.2.ks v → D0 ≤ W.heap.size →
 YieldAt Fence.wide m Tryz.prog L #[.int .i64 x.1, .agg (patA x.2 v)] W fun e W' => (e = .returned (.bool true) ∧ J (i + 1) W' ∧ Fr (fun j => M j) W W') ∨ (e = .returned (.bool false) ∧ Jx W')
set_option maxRecDepth 100000 in
set_option maxHeartbeats 4000000 in
theorem walk_in (hM : ∀ j, M j → B0 ≤ j ∧ j < D0) (hBD : B0 ≤ D0) (hYb : D0 ≤ Yb) (hWb : D0 ≤ Wb) (hJn : ∀ i W, J i W → i ≤ 1000) (hJ : ∀ i W W', J i W → Fr (fun j => D0 ≤ j) W W' → J i W') (hY : RoundAt L B0 D0 M J Jx N) :
 ∀ (q : Nat) (d : Nat) (x : Node) (rest : List (Nat × Node)), x.ks.cnt < q → ∀ (n k : Nat) (v : Value) (W : World), N.drop k = (d, x) :: (x.ks.nodes (d + 1) ++ rest) → d ≤ k + 1 → J k W → RdKB B0 W x.ks v → D0 ≤ W.heap.size →
  W.cell? ⟨Yb, 0, none⟩ = some (.func (.yield L) #[] #[]) → W.cell? ⟨Wb, 0, none⟩ = some (.func (.func 184) #[] #[.pointer (some ⟨Yb, 0, none⟩), .pointer (some ⟨Wb, 0, none⟩)]) →
  CallsIn Fence.wide n Tryz.prog 184 #[.agg (patA x v), .int .i64 d, .pointer (some ⟨Yb, 0, none⟩), .pointer (some ⟨Wb, 0, none⟩)] W fun e W' =>
   (e = .returned (.bool true) ∧ J (k + 1 + x.ks.cnt) W' ∧ Fr (fun j => M j) W W') ∨ (e = .returned (.bool false) ∧ Jx W') := by
 intro q
 induction q with
 | zero => intro d x rest h; omega
 | succ q ih =>
  intro d x rest hq n k v W hN hd hJk hr hDW hy hw
  obtain ⟨op, ⟨ts, tl, th⟩, pn, ks⟩ := x
  dsimp only [patA] at *
  obtain ⟨a, c, rfl, hca, hcl⟩ : ∃ a c, v = .slice a ks.len c ∧ ks.len ≤ c ∧ ks.len ≤ 9223372036854775807 := by obtain ⟨a, c, h1, h2, h3, _⟩ := hr; exact ⟨a, c, h1, h2, h3⟩
  have hb1 : Below W.heap.size W (W.alloc (.cells #[.int .i64 op, .int .i64 ts, .int .i64 tl, .int .i64 th, .int .i64 pn, .slice a ks.len c] 27)) := (Below.refl _ _).alloc (Nat.le_refl _) _
  have hxk : N[k]? = some (d, ⟨op, ⟨ts, tl, th⟩, pn, ks⟩) := by
   have := congrArg (fun l => l[0]?) hN
   simpa [List.getElem?_drop] using this
  have hz : (W.alloc (.cells #[.int .i64 op, .int .i64 ts, .int .i64 tl, .int .i64 th, .int .i64 pn, .slice a ks.len c] 27)).cell? ⟨W.heap.size, 5, none⟩ = some (.slice a ks.len c) := box_at W _ _ 5
  have hyy : YieldAt Fence.wide (n - 1) Tryz.prog L #[.int .i64 d, .agg #[.int .i64 op, .int .i64 ts, .int .i64 tl, .int .i64 th, .int .i64 pn, .slice a ks.len c]] (W.alloc (.cells #[.int .i64 op, .int .i64 ts, .int .i64 tl, .int .i64 th, .int .i64 pn, .slice a ks.len c] 27)) fun e W' =>
   (e = .returned (.bool true) ∧ J (k + 1) W' ∧ Fr (fun j => M j) (W.alloc (.cells #[.int .i64 op, .int .i64 ts, .int .i64 tl, .int .i64 th, .int .i64 pn, .slice a ks.len c] 27)) W' ∧ W'.cell? ⟨W.heap.size, 5, none⟩ = some (.slice a ks.len c)) ∨ (e = .returned (.bool false) ∧ Jx W') :=
   YieldAt.mono (hY (n - 1) k _ (.slice a ks.len c) _ hxk (hJ k W _ hJk (fr_alloc _ _ _)) (hr.move (fun b o hb => hb1.cell (p := ⟨b, o, none⟩) (by show b < _; omega)) (Nat.le_refl _)) (by simp; omega)) fun e W' h => h.elim
    (fun ⟨he, hj, hf⟩ => .inl ⟨he, hj, hf, fr_cell hf hz (fun h => by have := (hM W.heap.size h).2; omega)⟩) .inr
  clear hz
  have y1 := zB hb1 hy
  have w1 := zB hb1 hw
  obtain ⟨fn, tmps, assign, body, hyr, hR⟩ := hyy
  have HR := zH (zA hr (zA hN (zA hJk (zA ih (zA hy hw)))))
  clear hr hN hJk ih hY hy hw hxk
  refine callsIn_of_wp Tryz.func184 rfl trivial ?_ rfl
  simp only [Tryz.ntmps184, List.size_toArray, List.length_cons, List.length_nil, Nat.reduceAdd, Nat.reduceSub, Array.replicate_succ, Array.replicate_zero, List.push_toArray, List.append_toArray, List.nil_append, List.cons_append]
  have hdd : ∀ k : Nat, (Fence.wide.depth.isSome = true → 1 ≤ k) := fun k h => by simp [Fence.wide] at h
  gi_wp2_with ((try refine ⟨hdd _, ?_⟩); refine hR.mono ?_; clear hR; rintro e W2 (⟨rfl, hJ2, hF2, z5⟩ | ⟨rfl, hx2⟩))
  rotate_left
  ·go_ret
   exact .inr ⟨rfl, hx2⟩
  have hk1 := hJn _ _ hJ2
  have hs2 := hF2.size
  have hwd : IntKind.i64.wrap ((d : Int) + 1) = (d : Int) + 1 := Go.IntWalk.i64_in _ (by omega)
  have hF0 : Fr (fun j => M j) W W2 := zT (fr_alloc _ W _) hF2 fun _ _ h => h
  have HX := zH (zA hJ2 hF0)
  clear hJ2 hF2 hF0 hyr y1 w1 hb1
  gi_loopw [17] (fun i W3 => ∃ (m q' : Nat), i = .int .i64 m ∧ m ≤ ks.len ∧ J q' W3 ∧ N.drop q' = (ks.drop m).nodes (d + 1) ++ rest ∧ q' + (ks.drop m).cnt = k + 1 + ks.cnt ∧ k + 1 ≤ q' ∧ Fr (fun j => M j) W W3) (fun i _ => ks.len - (intOf i).toNat)
  case atStart => exact ⟨0, k + 1, rfl, by omega, HX.out.1, by have := congrArg List.tail HR.out.2.1; rw [List.tail_drop] at this; rw [this]; cases ks <;> rfl, by cases ks <;> rfl, by omega, HX.out.2⟩
  case round =>
   obtain ⟨m, q', rfl, hml, hJq, hNq, hcq, hkq, hF⟩ := hrel
   have HL := zH (zA hJq (zA hNq (zA hcq hF)))
   clear hJq hNq hcq hF
   by_cases hlt : m < ks.len
   ·obtain ⟨o', ⟨ts', tl', th'⟩, n', k', hdc⟩ := drop_cons hlt
    have hrd := HR.out.1.fr HL.out.2.2.2 (by omega) fun i hi => (hM i hi).1
    obtain ⟨a0, c0, he, _, _, hrk⟩ := hrd
    injection he with he1 he2 he3
    subst he1
    subst he3
    clear he2
    obtain ⟨b, off, hab, hbB, hps⟩ := hrk (by omega)
    subst hab
    have hps2 := hps.drop m (by omega)
    rw [hdc] at hps2
    obtain ⟨⟨q0, q1, q2, q3, q4⟩, ⟨a5, c5, q5, h6, h7, h8⟩, _⟩ := hps2
    have hsw := HL.out.2.2.2.size
    have hb2 : Below wr.heap.size wr (wr.alloc (.cells #[.int .i64 o', .int .i64 ts', .int .i64 tl', .int .i64 th', .int .i64 n', .slice a5 k'.len c5] 27)) := (Below.refl _ _).alloc (Nat.le_refl _) _
    have y1 := fr_cell HL.out.2.2.2 HR.out.2.2.2.2.1 (by intro h; have := (hM Yb h).2; omega)
    have w1 := fr_cell HL.out.2.2.2 HR.out.2.2.2.2.2 (by intro h; have := (hM Wb h).2; omega)
    have y2 := zB hb2 y1
    have w2 := zB hb2 w1
    have hnd : (ks.drop m).nodes (d + 1) = (d + 1, ⟨o', ⟨ts', tl', th'⟩, n', k'⟩) :: (k'.nodes (d + 1 + 1) ++ (ks.drop (m + 1)).nodes (d + 1)) := by rw [hdc]; rfl
    have hcd : (ks.drop m).cnt = 1 + k'.cnt + (ks.drop (m + 1)).cnt := by rw [hdc]; rfl
    have hnq := HL.out.2.1
    rw [hnd, List.cons_append, List.append_assoc] at hnq
    have hce := HL.out.2.2.1
    rw [hcd] at hce
    have hcall := HR.out.2.2.2.1 (d + 1) ⟨o', ⟨ts', tl', th'⟩, n', k'⟩ ((ks.drop (m + 1)).nodes (d + 1) ++ rest) (by show k'.cnt < q; omega) (n - 1) q' (.slice a5 k'.len c5) _ hnq (by omega) (hJ q' wr _ HL.out.1 (fr_alloc _ _ _)) (RdKB.move (w := wr) ⟨a5, c5, rfl, h6, h7, h8⟩ (fun b o hb => hb2.cell (p := ⟨b, o, none⟩) (by show b < _; omega)) (Nat.le_refl _)) (by simp; omega) y2 w2
    rw [show ((d + 1 : Nat) : Int) = (d : Int) + 1 by omega] at hcall
    have HC := zH (zA hcall (zA hnq hce))
    have hml1 : (m : Int) < (ks.len : Int) := by omega
    clear hcall hnq hce hnd hcd hps hrk h8
    gi_wp2_with (refine ⟨trivial, hdd _, ?_⟩; gi_at_call 184; refine HC.out.1.mono ?_; rintro e W4 (⟨rfl, hJ4, hF4⟩ | ⟨rfl, hx4⟩))
    rotate_left
    ·go_ret
     exact .inr ⟨rfl, hx4⟩
    have hFW := zT HL.out.2.2.2 (zT (fr_alloc (fun j => M j) wr _) hF4 fun _ _ h => h) fun _ _ h => h
    have HW4 := zH (zA hJ4 hFW)
    clear hJ4 hF4 hFW y1 w1 y2 w2 hb2
    go_roundw
    case rel =>
     refine ⟨m + 1, q' + 1 + k'.cnt, by go_num, by omega, HW4.out.1, ?_, by have := HC.out.2.2; omega, by omega, HW4.out.2⟩
     have h1 := congrArg (List.drop (1 + k'.cnt)) HC.out.2.1
     rw [List.drop_drop, show q' + (1 + k'.cnt) = q' + 1 + k'.cnt by omega] at h1
     rw [h1, show 1 + k'.cnt = k'.cnt + 1 by omega, List.drop_succ_cons, ← nodes_length k' (d + 1 + 1), List.drop_left]
    case measure => simp [intOf]; omega
   ·obtain rfl : m = ks.len := by omega
    have hnil : ks.drop ks.len = .nil := by
     have := drop_len ks ks.len
     rw [Nat.sub_self] at this
     cases h : ks.drop ks.len with
     | nil => rfl
     | cons _ _ _ _ _ => rw [h] at this; simp [Pats.len] at this
    have hce := HL.out.2.2.1
    rw [hnil] at hce
    have hq3 : q' = k + 1 + ks.cnt := hce
    have HQ := zH hq3
    clear hce hq3 hnil
    gi_wp2
    go_ret
    exact .inl ⟨rfl, by rw [← HQ.out]; exact HL.out.1, HL.out.2.2.2⟩
end
set_option maxRecDepth 100000 in
set_option maxHeartbeats 4000000 in
/-- The iterator itself. -/
theorem nodes1_in (L B0 Bp : Nat) (M : Nat → Prop) (J : Nat → World → Prop) (Jx : World → Prop) (x : Node) (v : Value) (W0 : World) (hB : B0 ≤ W0.heap.size) (hM : ∀ j, M j → B0 ≤ j ∧ j < W0.heap.size) (hJn : ∀ i W, J i W → i ≤ 1000)
 (hJ : ∀ i W W', J i W → Fr (fun j => W0.heap.size ≤ j) W W' → J i W') (hY : RoundAt L B0 W0.heap.size M J Jx ((1, x) :: x.ks.nodes 2)) (h0 : J 0 W0) (hr : RdKB B0 W0 x.ks v)
 (hp : W0.heap[Bp]? = some (.cells (patA x v) 27 (0, 0))) (n : Nat) :
 CallsIn Fence.wide n Tryz.prog 183 #[.func (.yield L) #[] #[], .pointer (some ⟨Bp, 0, none⟩)] W0 fun e W' => (∃ v, e = .returned v) ∧ (J (1 + x.ks.cnt) W' ∨ Jx W') := by
 have hw := walk_in L B0 W0.heap.size W0.heap.size (W0.heap.size + 1) M J Jx ((1, x) :: x.ks.nodes 2) hM hB (Nat.le_refl _) (by omega) hJn hJ hY (x.ks.cnt + 1) 1 x [] (by omega) (n - 1) 0 v
 obtain ⟨op, ⟨ts, tl, th⟩, pn, ks⟩ := x
 dsimp only [patA] at *
 obtain ⟨Wc, hWc⟩ : ∃ Wc, Wc = (W0.alloc (.cells #[.func (.yield L) #[] #[]] 233)).alloc (.cells #[.func (.func 184) #[] #[.pointer (some ⟨W0.heap.size, 0, none⟩), .pointer (some ⟨W0.heap.size + 1, 0, none⟩)]] 184) := ⟨_, rfl⟩
 have hb1 : Below W0.heap.size W0 Wc := by rw [hWc]; exact ((Below.refl _ _).alloc (Nat.le_refl _) _).alloc (by simp) _
 obtain ⟨_, hsc, ha1, ha2⟩ := two_box hWc.symm
 have hcall := hw Wc (by rw [List.append_nil]; rfl) (by omega) (hJ 0 W0 Wc h0 (zF hb1)) (hr.move (fun b o hb => hb1.cell (p := ⟨b, o, none⟩) (by show b < _; omega)) (Nat.le_refl _)) (by omega) (zC ha1 0) (zC ha2 0)
 have HC := zH hcall
 have p0 := zB hb1 (zC hp 0)
 rw [hWc] at p0
 have p1 := zB hb1 (zC hp 1)
 rw [hWc] at p1
 have p2 := zB hb1 (zC hp 2)
 rw [hWc] at p2
 have p3 := zB hb1 (zC hp 3)
 rw [hWc] at p3
 have p4 := zB hb1 (zC hp 4)
 rw [hWc] at p4
 have p5 := zB hb1 (zC hp 5)
 rw [hWc] at p5
 rw [hWc] at HC
 clear hw h0 hr hJ hY hcall ha1 ha2 hsc hb1 hWc
 refine callsIn_of_wp Tryz.func183 rfl trivial ?_ rfl
 simp only [Tryz.ntmps183, List.size_toArray, List.length_cons, List.length_nil, Nat.reduceAdd, Nat.reduceSub, Array.replicate_succ, Array.replicate_zero, List.push_toArray, List.append_toArray, List.nil_append, List.cons_append]
 have hdd : ∀ k : Nat, (Fence.wide.depth.isSome = true → 1 ≤ k) := fun k h => by simp [Fence.wide] at h
 gi_wp2_with (refine ⟨trivial, hdd _, ?_⟩; gi_at_call 184; refine HC.out.mono ?_; rintro e W4 (⟨rfl, hJ4, _⟩ | ⟨rfl, hx4⟩))
 ·go_end0
  exact ⟨⟨_, rfl⟩, .inl (by rw [Nat.zero_add] at hJ4; exact hJ4)⟩
 ·go_end0
  exact ⟨⟨_, rfl⟩, .inr hx4⟩
end
end Go.Proofs.YtgiploddoffmjaaGreat
