/- My texts, joined: Base3, Base4, W0, BaseT. -/
import Derived.Below
import Derived.BigQuiet
import Derived.Deep.AppendLies
import Derived.Deep.DeepCutAuto
import Derived.Deep.QuietTactic
import Derived.Deep.RegionHeld
import Derived.Deep.RegionLaw
import Derived.KernelRfl
import Derived.Laws.AppendOwn
import Derived.Laws.AppendOwnNone
import Derived.Laws.CopyRow
import Derived.Lib.Hide
import Derived.LoopTactic
import Derived.Maps.AppendAt
import Derived.Outline
import Derived.OwnWalk
import Derived.Shelf.Abstract
import Derived.TacticsInMore
import Derived.Test.YtgiploddoffmjaaGreatProg
import Derived.WalkKit
import Derived.WalkSpells
import Derived.Test.YtgiploddoffmjaaGreatM0
import Derived.Test.YtgiploddoffmjaaGreatM1
set_option linter.unusedVariables false
set_option linter.unusedSimpArgs false
set_option linter.unusedSectionVars false
set_option maxRecDepth 10000
namespace Go.Proofs.YtgiploddoffmjaaGreat
section
open Go.RowKit
def RdC (k : Nat) (w : World) (v : Value) (n : Nat) (cs : List Value) : Prop :=
 cs.length = n * k ∧ (∀ u ∈ cs, u.oneCell' = true) ∧ ∃ a c, v = .slice a n c ∧ (0 < n → ∃ b off, a = some ⟨b, off, none⟩ ∧ b < w.heap.size ∧ ∀ j u, cs[j]? = some u → w.cell? ⟨b, off + j, none⟩ = some u)
theorem rdC_move {k n : Nat} {w W : World} {v : Value} {cs : List Value} {S : Nat → Prop} (h : RdC k w v n cs) (hf : Fr S w W) (hS : ∀ i, some i = v.ownBlock → ¬ S i) : RdC k W v n cs := by
 obtain ⟨h0, h1, a, c, rfl, h⟩ := h
 refine ⟨h0, h1, a, c, rfl, fun hl => ?_⟩
 obtain ⟨b, off, rfl, hlt, hr⟩ := h hl
 exact ⟨b, off, rfl, Nat.lt_of_lt_of_le hlt hf.size, fun j u hu => fr_cell hf (hr j u hu) (hS b rfl)⟩
theorem rdC_below {k n : Nat} {w W : World} {v : Value} {cs : List Value} (h : RdC k w v n cs) (hf : Below w.heap.size w W) : RdC k W v n cs := rdC_move h (zF (S := fun _ => False) hf) fun _ _ h => h
theorem flat_at {α : Type} {enc : α → List Value} {k : Nat} (hk : ∀ x, (enc x).length = k) (hk0 : 0 < k) (xs : List α) (j : Nat) (u : Value) (h : (xs.flatMap enc)[j]? = some u) : ∃ i x, xs[i]? = some x ∧ ∃ r, r < k ∧ j = i * k + r ∧ (enc x)[r]? = some u := by
 induction xs generalizing j with
 | nil => simp at h
 | cons x xs ih =>
  rw [List.flatMap_cons] at h
  by_cases hj : j < k
  ·rw [List.getElem?_append_left (by rw [hk]; exact hj)] at h
   exact ⟨0, x, rfl, j, hj, by simp, h⟩
  ·rw [List.getElem?_append_right (by rw [hk]; omega), hk] at h
   obtain ⟨i, y, hy, r, hr, he, hu⟩ := ih (j - k) h
   exact ⟨i + 1, y, by simpa using hy, r, hr, by rw [Nat.add_mul, Nat.one_mul]; omega, hu⟩
theorem rdC_of_rd {α : Type} {enc : α → List Value} {k : Nat} (hk : ∀ x, (enc x).length = k) (hk0 : 0 < k) (h1 : ∀ x, ∀ u ∈ enc x, u.oneCell' = true) {w : World} {v : Value} {xs : List α} (h : Rd enc k w v xs) : RdC k w v xs.length (xs.flatMap enc) := by
 obtain ⟨h0, a, c, rfl, h⟩ := h
 refine ⟨flat_len hk xs, fun u hu => ?_, a, c, rfl, fun hl => ?_⟩
 ·obtain ⟨x, _, hx⟩ := List.mem_flatMap.1 hu
  exact h1 x u hx
 obtain ⟨b, off, rfl, hlt, hr⟩ := h hl
 refine ⟨b, off, rfl, hlt, fun j u hu => ?_⟩
 obtain ⟨i, x, hx, r, _, rfl, hu'⟩ := flat_at hk hk0 xs j u hu
 rw [← Nat.add_assoc]
 exact hr i x hx r u hu'
theorem rd_cut {α : Type} {enc : α → List Value} {k : Nat} {w : World} {b off n c : Nat} {xs : List α} (h : Rd enc k w (.slice (some ⟨b, off, none⟩) n c) xs) (lo hi : Nat) (hlo : lo ≤ hi) (hhi : hi ≤ xs.length) (off' c' : Nat) (ho : lo < hi → off' = off + lo * k) :
 Rd enc k w (.slice (some ⟨b, off', none⟩) (hi - lo) c') ((xs.drop lo).take (hi - lo)) := by
 obtain ⟨h0, a', c1, he, h⟩ := h
 injection he with h1 h2 h3
 have hl : ((xs.drop lo).take (hi - lo)).length = hi - lo := by simp; omega
 refine ⟨by omega, some ⟨b, off', none⟩, c', by rw [hl], fun hpos => ?_⟩
 rw [hl] at hpos
 obtain ⟨b2, off2, e2, hlt, hr⟩ := h (by omega)
 rw [← h1] at e2
 injection e2 with e2
 injection e2 with e3 e4
 subst e3; subst e4
 refine ⟨b, off', rfl, hlt, fun i x hx j u hu => ?_⟩
 have hi' : i < hi - lo := by have := (List.getElem?_eq_some_iff.1 hx).1; omega
 rw [List.getElem?_take, if_pos hi', List.getElem?_drop] at hx
 have := hr (lo + i) x hx j u hu
 rw [ho (by omega), show off + lo * k + i * k + j = off + (lo + i) * k + j by rw [Nat.add_mul]; omega]
 exact this
section
variable {P : Program} (w : World)
theorem run_append_rd (t ty e : TypeId) (i : TypeInfo) (z : Value) (k bytes : Nat) (ht : P.underlying t = some (.slice e)) (hi : P.info? e = some i) (hz : i.zero = some z)
 (hsize : i.size = k) (hby : i.bytes = bytes) (hzs : z.cells.size = k) (hk : 0 < k)
 (v : Value) (S : Nat → Prop) (n : Nat) (xs : List Value) (hwin : WinC k e w v S n xs) (x : Value) (m : Nat) (news : List Value) (hx : RdC k w x m news)
 (h63 : n + m ≤ maxLen) (hbytes : (n + m) * bytes ≤ 140737488355328) :
 ∃ v' w', (Builtin.append_ #[t, t] ty #[v, x]).run P w = .ok v' w' ∧ WinC k e w' v' (fun i => (S i ∧ i < w.heap.size) ∨ i = w.heap.size) (n + m) (xs ++ news) ∧ Fr (fun i => some i = v.ownBlock) w w' ∧ w'.heap.size ≤ w.heap.size + 1 := by
 obtain ⟨hl, h1, a, c, rfl, hc⟩ := hx
 by_cases hm : 0 < m
 ·obtain ⟨b, off, rfl, hlt, hc⟩ := hc hm
  exact run_append_win w t ty e i z k bytes ht hi hz hsize hby hzs hk v S n xs hwin ⟨b, off, none⟩ m c news hl (fun j u hu => by rw [addr_add]; exact hc j u hu) h1 hm h63 hbytes
 ·obtain rfl : m = 0 := by omega
  have hn : news = [] := List.eq_nil_of_length_eq_zero (by simpa using hl)
  subst hn
  have hwin' : WinC k e w v (fun i => (S i ∧ i < w.heap.size) ∨ i = w.heap.size) (n + 0) (xs ++ []) := by
   rw [List.append_nil, Nat.add_zero]
   exact zN (winC_block hwin) fun i hi => .inl ⟨hi.2.1, hi.2.2⟩
  refine ⟨v, w, ?_, hwin', fr_refl _ _, by omega⟩
  obtain ⟨a0, c0, rfl, hnc, _⟩ := zS hwin
  have hfc : (Builtin.firstCells i.size 0 (.slice a 0 c)).run P w = .ok #[] w := by
   cases a <;> simp [Builtin.firstCells, loadCells, loadCellsFrom]
  cases a0 <;> simp [Builtin.append_, run_underlying ht, sizeOf, typeInfo, hi, Builtin.lenOf, hnc, hfc, Result.andThen, storeCells]
theorem wp_append_rd {o : Oper} {a : Act} {K : Act → World → Prop} {Q : Exit → Act → World → Prop} (s x : Operand) (t : TypeId)
 (ho : o.op = .call { callee := .builtin .append, args := #[s, x], argTypes := #[t, t] })
 (e : TypeId) (k bytes : Nat) (z : Value) (ht : P.underlying t = some (.slice e)) (hinfo : (P.info? e).map (fun i => (i.zero, i.size, i.bytes)) = some (some z, k, bytes)) (hzs : z.cells.size = k) (hk : 0 < k)
 (v : Value) (S : Nat → Prop) (n : Nat) (xs : List Value) (hs : a.eval s = v) (xv : Value) (hx : a.eval x = xv) (hwin : WinC k e w v S n xs) (m : Nat) (news : List Value) (hrd : RdC k w xv m news)
 (h63 : n + m ≤ maxLen) (hbytes : (n + m) * bytes ≤ 140737488355328)
 (h : ∀ v' w', WinC k e w' v' (fun i => (S i ∧ i < w.heap.size) ∨ i = w.heap.size) (n + m) (xs ++ news) → Fr (fun i => some i = v.ownBlock) w w' → w'.heap.size ≤ w.heap.size + 1 → K (a.put o.dst v') w') : o.wp P a w K Q := by
 obtain ⟨i, hi, hzz⟩ := Option.map_eq_some_iff.1 hinfo
 simp only [Prod.mk.injEq] at hzz
 obtain ⟨v', w', hr, h2, h3, h4⟩ := run_append_rd (P := P) w t o.type e i z k bytes ht hi hzz.1 hzz.2.1 hzz.2.2 hzs hk v S n xs hwin xv m news hrd h63 hbytes
 unfold Oper.wp execOp
 simp only [ho, resolve, invoke, builtin, Sem.run_bind, Sem.run_pure, Result.andThen_ok, List.map_toArray, List.map_cons, List.map_nil, hs, hx, hr]
 exact h v' w' h2 h3 h4
theorem wpList_append_rd {ops : Array Oper} {rest : List Oper} {o : Oper} {a : Act} {Q : Exit → Act → World → Prop} (hgd : o.guard = none) (s x : Operand) (t : TypeId)
 (ho : o.op = .call { callee := .builtin .append, args := #[s, x], argTypes := #[t, t] })
 (e : TypeId) (k bytes : Nat) (z : Value) (ht : P.underlying t = some (.slice e)) (hinfo : (P.info? e).map (fun i => (i.zero, i.size, i.bytes)) = some (some z, k, bytes)) (hzs : z.cells.size = k) (hk : 0 < k)
 (v : Value) (S : Nat → Prop) (n : Nat) (xs : List Value) (hs : a.eval s = v) (xv : Value) (hx : a.eval x = xv) (hwin : WinC k e w v S n xs) (m : Nat) (news : List Value) (hrd : RdC k w xv m news)
 (h63 : n + m ≤ maxLen) (hbytes : (n + m) * bytes ≤ 140737488355328)
 (h : ∀ v' w', WinC k e w' v' (fun i => (S i ∧ i < w.heap.size) ∨ i = w.heap.size) (n + m) (xs ++ news) → Fr (fun i => some i = v.ownBlock) w w' → w'.heap.size ≤ w.heap.size + 1 → wpList P ops Q rest (a.put o.dst v') w') : wpList P ops Q (o :: rest) a w :=
 wpList_plain hgd fun _ hK => wp_append_rd w s x t ho e k bytes z ht hinfo hzs hk v S n xs hs xv hx hwin m news hrd h63 hbytes fun v' w' h2 h3 h4 => hK _ _ (h v' w' h2 h3 h4)
theorem step_append_rd {ops : Array Oper} {o : Oper} {a : Act} {K : Act → World → Prop} {Q : Exit → Act → World → Prop} {E : Prop} (hgd : o.guard = none) (s x : Operand) (t : TypeId)
 (ho : o.op = .call { callee := .builtin .append, args := #[s, x], argTypes := #[t, t] })
 (e : TypeId) (k bytes : Nat) (z : Value) (ht : P.underlying t = some (.slice e)) (hinfo : (P.info? e).map (fun i => (i.zero, i.size, i.bytes)) = some (some z, k, bytes)) (hzs : z.cells.size = k) (hk : 0 < k)
 (v : Value) (S : Nat → Prop) (n : Nat) (xs : List Value) (hs : a.eval s = v) (xv : Value) (hx : a.eval x = xv) (hwin : WinC k e w v S n xs) (m : Nat) (news : List Value) (hrd : RdC k w xv m news)
 (h63 : n + m ≤ maxLen) (hbytes : (n + m) * bytes ≤ 140737488355328)
 (h : ∀ v' w', WinC k e w' v' (fun i => (S i ∧ i < w.heap.size) ∨ i = w.heap.size) (n + m) (xs ++ news) → Fr (fun i => some i = v.ownBlock) w w' → w'.heap.size ≤ w.heap.size + 1 → K (a.put o.dst v') w') :
 if Region.wanted o (yielded ops a.tmps) = true then Oper.wp P o a w K Q else E := by
 have hw : Region.wanted o (yielded ops a.tmps) = true := by simp [Region.wanted, hgd]
 rw [if_pos hw]
 exact wp_append_rd w s x t ho e k bytes z ht hinfo hzs hk v S n xs hs xv hx hwin m news hrd h63 hbytes h
end
end
section
open Go.RowKit
theorem setCell_blk {w : World} {b o T : Nat} {cur : Array Value} (h : w.heap[b]? = some (.cells cur T (0, 0))) (u : Value) : (w.setCell ⟨b, o, none⟩ u).heap[b]? = some (.cells (cur.setIfInBounds o u) T (0, 0)) := by
 simp [World.setCell, Array.getElem?_modify, h]
theorem winC_set {k e : Nat} {w : World} {b off n c : Nat} {S : Nat → Prop} {cs : List Value} (h : WinC k e w (.slice (some ⟨b, off, none⟩) n c) S n cs) {j : Nat} (hj : j < n * k) (u : Value) :
 WinC k e (w.setCell ⟨b, off + j, none⟩ u) (.slice (some ⟨b, off, none⟩) n c) S n (cs.set j u) ∧ (w.cell? ⟨b, off + j, none⟩).isSome = true ∧ w.frozen? ⟨b, off + j, none⟩ = false := by
 obtain ⟨hl, h⟩ := h
 rcases h with ⟨hv, h'⟩ | ⟨g, o, cap, cur, hv, hS, hg, hnc, hcm, hcs, ht⟩
 ·simp at hv
 ·injection hv with h1 h2 h3
  injection h1 with h1
  injection h1 with h1 h4
  subst h1; subst h4; subst h3
  refine ⟨⟨by simp [hl], .inr ⟨b, off, c, _, rfl, hS, setCell_blk hg u, hnc, hcm, by simpa using hcs, ?_⟩⟩, ?_, zK hg _⟩
  ·rw [Array.toList_setIfInBounds, List.drop_set, if_neg (by omega), Nat.add_sub_cancel_left, List.take_set, ht]
  ·rw [zC hg]
   have : n * k ≤ c * k := Nat.mul_le_mul_right _ hnc
   simp
   omega
theorem flat_set {α : Type} {enc : α → List Value} {k : Nat} (hk : ∀ x, (enc x).length = k) : ∀ (xs : List α) (i : Nat) (x y : α) (r : Nat) (u : Value), xs[i]? = some x → r < k → enc y = (enc x).set r u → (xs.set i y).flatMap enc = (xs.flatMap enc).set (i * k + r) u
 | [], i, x, y, r, u, h, _, _ => by simp at h
 | z :: xs, 0, x, y, r, u, h, hr, he => by
  simp only [List.getElem?_cons_zero, Option.some.injEq] at h
  subst h
  rw [List.set_cons_zero, List.flatMap_cons, List.flatMap_cons, he, Nat.zero_mul, Nat.zero_add, List.set_append, if_pos (by rw [hk]; exact hr)]
 | z :: xs, i + 1, x, y, r, u, h, hr, he => by
  rw [List.set_cons_succ, List.flatMap_cons, List.flatMap_cons, List.set_append, if_neg (by rw [hk, Nat.add_mul, Nat.one_mul]; omega), hk, flat_set hk xs i x y r u (by simpa using h) hr he, show (i + 1) * k + r - k = i * k + r by rw [Nat.add_mul, Nat.one_mul]; omega]
theorem win_set {α : Type} {enc : α → List Value} {k e : Nat} (hk : ∀ x, (enc x).length = k) {w : World} {b off n c : Nat} {S : Nat → Prop} {xs : List α} (h : Win enc k e w (.slice (some ⟨b, off, none⟩) n c) S xs) (hn : xs.length = n) {i r : Nat} {x y : α} {u : Value} (hx : xs[i]? = some x) (hr : r < k) (he : enc y = (enc x).set r u) :
 Win enc k e (w.setCell ⟨b, off + i * k + r, none⟩ u) (.slice (some ⟨b, off, none⟩) n c) S (xs.set i y) ∧ (w.cell? ⟨b, off + i * k + r, none⟩).isSome = true ∧ w.frozen? ⟨b, off + i * k + r, none⟩ = false := by
 subst hn
 have hi := (List.getElem?_eq_some_iff.1 hx).1
 have hj : i * k + r < xs.length * k := by
  have : (i + 1) * k ≤ xs.length * k := Nat.mul_le_mul_right _ hi
  rw [Nat.add_mul, Nat.one_mul] at this
  omega
 obtain ⟨h1, h2, h3⟩ := winC_set h hj u
 rw [Nat.add_assoc]
 refine ⟨?_, h2, h3⟩
 refine (?_ : WinC _ _ _ _ _ _ _)
 rw [List.length_set, flat_set hk xs i x y r u hx hr he]
 exact h1
end
section
open Go.RowKit
theorem zX (w : World) (cs : Array Value) (T : TypeId) {G : World → Prop}
 (h : ∀ W0, Below w.heap.size w W0 → W0.heap.size = w.heap.size + 1 → W0.heap[w.heap.size]? = some (.cells cs T (0, 0)) → G W0) : G (w.alloc (.cells cs T)) :=
 h _ ((Below.refl _ _).alloc (Nat.le_refl _) _) (by simp) (heap_alloc_new w _)
def Test.cells (t : Test) : List Value := [.int .i64 t.src, .int .i64 t.low, .int .i64 t.high]
def Ev.cells (e : Ev) : List Value := [.int .i64 e.src, .int .i64 e.id, .int .i64 e.at_, .int .i64 e.key, .int .i64 e.val]
def RdPs (B : Nat) (w : World) : Pats → Nat → Nat → Prop
 | .nil, _, _ => True
 | .cons op t n ks r, b, off =>
  (w.cell? ⟨b, off, none⟩ = some (.int .i64 op) ∧ w.cell? ⟨b, off + 1, none⟩ = some (.int .i64 t.src) ∧ w.cell? ⟨b, off + 2, none⟩ = some (.int .i64 t.low) ∧ w.cell? ⟨b, off + 3, none⟩ = some (.int .i64 t.high) ∧ w.cell? ⟨b, off + 4, none⟩ = some (.int .i64 n)) ∧
  (∃ a c, w.cell? ⟨b, off + 5, none⟩ = some (.slice a ks.len c) ∧ ks.len ≤ c ∧ ks.len ≤ 9223372036854775807 ∧ (0 < ks.len → ∃ b' o', a = some ⟨b', o', none⟩ ∧ b' < B ∧ RdPs B w ks b' o')) ∧
  RdPs B w r b (off + 6)
def RdKB (B : Nat) (w : World) (ks : Pats) (v : Value) : Prop := ∃ a c, v = .slice a ks.len c ∧ ks.len ≤ c ∧ ks.len ≤ 9223372036854775807 ∧ (0 < ks.len → ∃ b o, a = some ⟨b, o, none⟩ ∧ b < B ∧ RdPs B w ks b o)
abbrev RdK (w : World) (ks : Pats) (v : Value) : Prop := RdKB w.heap.size w ks v
theorem RdPs.move {B : Nat} {w w1 : World} (h : ∀ b o, b < B → w1.cell? ⟨b, o, none⟩ = w.cell? ⟨b, o, none⟩) {B' : Nat} (hB : B ≤ B') : ∀ {ps : Pats} {b off : Nat}, b < B → RdPs B w ps b off → RdPs B' w1 ps b off
 | .nil, _, _, _, _ => trivial
 | .cons op t n ks r, b, off, hb, ⟨⟨h0, h1, h2, h3, h4⟩, ⟨a, c, h5, h6, h7, h8⟩, h9⟩ =>
  ⟨⟨(h _ _ hb).trans h0, (h _ _ hb).trans h1, (h _ _ hb).trans h2, (h _ _ hb).trans h3, (h _ _ hb).trans h4⟩, ⟨a, c, (h _ _ hb).trans h5, h6, h7, fun hp => by
   obtain ⟨b', o', e, hb', hr⟩ := h8 hp
   exact ⟨b', o', e, Nat.lt_of_lt_of_le hb' hB, hr.move h hB hb'⟩⟩, h9.move h hB hb⟩
theorem RdKB.move {B : Nat} {w w1 : World} {ks : Pats} {v : Value} (hr : RdKB B w ks v) (h : ∀ b o, b < B → w1.cell? ⟨b, o, none⟩ = w.cell? ⟨b, o, none⟩) {B' : Nat} (hB : B ≤ B') : RdKB B' w1 ks v := by
 obtain ⟨a, c, rfl, h1, h2, h3⟩ := hr
 exact ⟨a, c, rfl, h1, h2, fun hp => by
  obtain ⟨b, o, e, hb, hr⟩ := h3 hp
  exact ⟨b, o, e, Nat.lt_of_lt_of_le hb hB, hr.move h hB hb⟩⟩
theorem RdKB.keep {B : Nat} {w w1 : World} {ks : Pats} {v : Value} (hr : RdKB B w ks v) (h : Below B w w1) : RdKB B w1 ks v := hr.move (fun b o hb => h.cell (p := ⟨b, o, none⟩) hb) (Nat.le_refl _)
theorem RdKB.below {w w1 : World} {ks : Pats} {v : Value} (hr : RdK w ks v) (h : Below w.heap.size w w1) : RdK w1 ks v := hr.move (fun b o hb => h.cell (p := ⟨b, o, none⟩) hb) h.size
theorem RdKB.fr {B : Nat} {w w1 : World} {ks : Pats} {v : Value} {S : Nat → Prop} (hr : RdKB B w ks v) (h : Fr S w w1) (hB : B ≤ w.heap.size) (hS : ∀ i, S i → B ≤ i) : RdKB B w1 ks v := hr.keep (zO h hB hS)
theorem RdKB.wide {B : Nat} {w : World} {ks : Pats} {v : Value} (hr : RdKB B w ks v) {B' : Nat} (hB : B ≤ B') : RdKB B' w ks v := hr.move (fun _ _ _ => rfl) hB
def Pats.drop : Pats → Nat → Pats
 | ps, 0 => ps
 | .nil, _ + 1 => .nil
 | .cons _ _ _ _ r, i + 1 => r.drop i
theorem RdPs.drop {B : Nat} {w : World} : ∀ {ps : Pats} {b off : Nat} (i : Nat), RdPs B w ps b off → i ≤ ps.len → RdPs B w (ps.drop i) b (off + i * 6)
 | ps, b, off, 0, h, _ => by cases ps <;> simpa [Pats.drop] using h
 | .nil, b, off, i + 1, h, hl => absurd hl (by simp [Pats.len])
 | .cons op t n ks r, b, off, i + 1, h, hl => by
  have := h.2.2.drop i (by simp [Pats.len] at hl; exact hl)
  rw [show off + 6 + i * 6 = off + (i + 1) * 6 by omega] at this
  exact this
theorem drop_len : ∀ (ps : Pats) (i : Nat), (ps.drop i).len = ps.len - i
 | ps, 0 => by cases ps <;> simp [Pats.drop]
 | .nil, i + 1 => by simp [Pats.drop, Pats.len]
 | .cons _ _ _ _ r, i + 1 => by rw [Pats.drop, drop_len r i, Pats.len]; omega
theorem drop_cons {ps : Pats} {i : Nat} (h : i < ps.len) : ∃ op t n ks, ps.drop i = .cons op t n ks (ps.drop (i + 1)) := by
 induction ps generalizing i with
 | nil => simp [Pats.len] at h
 | cons op t n ks r _ ih =>
  cases i with
  | zero => exact ⟨op, t, n, ks, by cases r <;> rfl⟩
  | succ i =>
   obtain ⟨a, b, c, d, e⟩ := ih (i := i) (by simp [Pats.len] at h; omega)
   exact ⟨a, b, c, d, by rw [Pats.drop, e]; rfl⟩
theorem within_any (n lo hi : Int) (w : World) : Calls Tryz.prog 88 #[.int .i64 n, .int .i64 lo, .int .i64 hi] w fun e w' => e = .returned (.bool (inP n lo hi)) ∧ w = w' := by
 unfold inP
 by_cases h1 : lo ≤ n <;> by_cases h2 : n ≤ hi <;>
 (go_enter Tryz.func88, Tryz.ntmps88
  go_wp2
  go_ret
  exact ⟨by simp [h1, h2], rfl⟩)
theorem value_any (n : Int) (w : World) : Calls Tryz.prog 153 #[.int .i64 n] w fun e w' => e = .returned (.bool (inP n (-1000000000) 1000000000)) ∧ w = w' := by
 go_enter Tryz.func153, Tryz.ntmps153
 go_wp2_with (go_at_call 88; refine (within_any _ _ _ _).mono ?_; rintro e w' ⟨rfl, rfl⟩)
 go_ret
 exact ⟨rfl, rfl⟩
theorem isTest_any (t : Test) (srcs : Int) (hs : 1 ≤ srcs ∧ srcs ≤ 4) (w : World) : Calls Tryz.prog 151 #[.agg #[.int .i64 t.src, .int .i64 t.low, .int .i64 t.high], .int .i64 srcs] w fun e w' => e = .returned (.bool (isTestP t srcs)) ∧ Below w.heap.size w w' := by
 obtain ⟨s, lo, hi⟩ := t
 have hw : IntKind.i64.wrap (srcs - 1) = srcs - 1 := Go.IntWalk.i64_in _ (by omega)
 go_enter Tryz.func151, Tryz.ntmps151
 go_wp2_with (first | (go_at_call 88; refine (within_any _ _ _ _).mono ?_; rintro e w' ⟨rfl, rfl⟩) | (go_at_call 153; refine (value_any _ _).mono ?_; rintro e w' ⟨rfl, rfl⟩))
 all_goals
  go_ret
  refine ⟨ret_bool ?_, (Below.refl _ _).alloc (Nat.le_refl _) _⟩
  simp only [isTestP, inP] at *
  grind
theorem holds_any (t : Test) (e : Ev) (w : World) : Calls Tryz.prog 156 #[.agg #[.int .i64 t.src, .int .i64 t.low, .int .i64 t.high], .agg #[.int .i64 e.src, .int .i64 e.id, .int .i64 e.at_, .int .i64 e.key, .int .i64 e.val]] w fun e' w' => e' = .returned (.bool (holdsP t e)) ∧ Below w.heap.size w w' := by
 obtain ⟨s, lo, hi⟩ := t
 obtain ⟨es, id, at_, key, val⟩ := e
 go_enter Tryz.func156, Tryz.ntmps156
 go_wp2_with (go_at_call 88; refine (within_any _ _ _ _).mono ?_; rintro e w' ⟨rfl, rfl⟩)
 all_goals
  go_ret
  refine ⟨ret_bool ?_, ((Below.refl _ _).alloc (Nat.le_refl _) _).alloc (by simp) _⟩
  simp only [holdsP, inP] at *
  grind
def kidsQ (op : Int) : Int := if op = 4 then 1 else if op = 2 ∨ op = 3 then 2 else if op = 5 then 3 else 0
theorem kids_any (op : Int) (w : World) : Calls Tryz.prog 237 #[.int .i64 op] w fun e w' => e = .returned (.int .i64 (kidsQ op)) ∧ w = w' := by
 go_enter Tryz.func237, Tryz.ntmps237
 go_wp2
 all_goals
  go_ret
  refine ⟨ret_int ?_, rfl⟩
  simp only [kidsQ] at *
  grind
end
section
open Go.RowKit
section
variable {P : Program} {md : Region.Mode} {ops : Array Oper} {Q : Exit → Act → World → Prop} {S : World → Prop}
theorem takeI (i : Nat) {oi : Oper} {v : Value} {fuel : Nat} {listed l' : Array Bool} {a a' : Act} {w : World} (hi : ops[i]? = some oi := by rfl)
 (hs : Region.noSelect ops = true := by kernel_rfl) (hf : Region.free md ops listed i = true := by kernel_rfl) (hr : (Region.ready md ops listed).contains i = true := by kernel_rfl)
 (hw : Region.wanted oi (yielded ops a.tmps) = true := by rfl) (hy : ∀ w, S w → (execOp a.eval oi).run P w = .ok (.value v) w := by intro w hSw; (try dsimp only at hSw); go_simp; (try with_reducible rfl)) (hS : S w := by assumption)
 (hp : a.put oi.dst v = a' := by (try simp only [Act.put, List.getElem_toArray, List.getElem_cons_zero, List.getElem_cons_succ, List.setIfInBounds_toArray, List.set_cons_zero, List.set_cons_succ]); rfl)
 (hl : listed.setIfInBounds i true = l' := by (try simp only [List.setIfInBounds_toArray, List.set_cons_zero, List.set_cons_succ]); rfl)
 (hQ : ∀ c a w, Q (.panic c) (a.put oi.dst v) w → Q (.panic c) a w := by exact fun _ _ _ h => h) (h : wpAnyH P md ops Q S fuel l' a' w) : wpAnyH P md ops Q S (fuel + 1) listed a w := by
 subst hp; subst hl
 exact wpAnyH_take hi hs hf hr hQ (Or.inl ⟨hw, hy⟩) hS h
theorem takeS (i : Nat) {oi : Oper} {fuel : Nat} {listed l' : Array Bool} {a a' : Act} {w : World} (hi : ops[i]? = some oi := by rfl)
 (hs : Region.noSelect ops = true := by kernel_rfl) (hf : Region.free md ops listed i = true := by kernel_rfl) (hr : (Region.ready md ops listed).contains i = true := by kernel_rfl)
 (hw : Region.wanted oi (yielded ops a.tmps) = false := by rfl) (hS : S w := by assumption)
 (hp : a.put oi.dst undef = a' := by (try simp only [Act.put, List.getElem_toArray, List.getElem_cons_zero, List.getElem_cons_succ, List.setIfInBounds_toArray, List.set_cons_zero, List.set_cons_succ]); rfl)
 (hl : listed.setIfInBounds i true = l' := by (try simp only [List.setIfInBounds_toArray, List.set_cons_zero, List.set_cons_succ]); rfl)
 (hQ : ∀ c a w, Q (.panic c) (a.put oi.dst undef) w → Q (.panic c) a w := by exact fun _ _ _ h => h) (h : wpAnyH P md ops Q S fuel l' a' w) : wpAnyH P md ops Q S (fuel + 1) listed a w := by
 subst hp; subst hl
 exact wpAnyH_take hi hs hf hr hQ (Or.inr ⟨hw, rfl⟩) hS h
end
end
end Go.Proofs.YtgiploddoffmjaaGreat
