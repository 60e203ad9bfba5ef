/- A line opened as an argument, with its reach. -/
import Derived.Test.YtkoeplbkeboklaaM8
import Derived.SizedLaws
set_option linter.unusedVariables false
set_option linter.unusedSimpArgs false
namespace Go.Proofs.Ytkoeplbkeboklaa
open Go.ChangeShapes Go.WideShapes Go.RowKit Go.Joins Go.Deep
section
variable {H : Type} {enc : TypeId × Value → H} {w : World} {base : Nat} {spare : Nat → Bool} {held : Bool}
theorem open_steps2 {n : Nat} {v : Value} {x : DataW H × List MemPlace} (hsp : ∀ a n c, v = .slice (some a) n c → a.spot = none) (h : DataW.trod enc Try.prog w base spare held n 23 [v] = some x) :
    ∃ l : List Step, Rd Step.cells 4 w v l ∧ SlOk v ∧ ((∀ m ∈ DataW.weights Try.prog 23 x.1, m ≤ reachBytes) → l.length * 32 ≤ 140737488351232) := by
  rcases open_slice Try.underlying23 h with ⟨hcs, _⟩ | ⟨a, len, cap, m, n', D, Pl, hcs, _, hl, hm, hmm, hxx, hx⟩
  · injection hcs with hcs
    exact ⟨[], hcs ▸ Rd.nil _ _ _, .inl hcs, fun _ => by simp⟩
  · injection hcs with hcs
    subst hcs
    rw [Try.cells39] at hx
    have hw8 : (∀ m ∈ DataW.weights Try.prog 23 x.1, m ≤ reachBytes) → len * 32 ≤ 140737488351232 := fun h => by
      have h2 := h ((((List.range len).map D).length + ((List.range (m - len)).map fun j => D (len + j)).length) * Try.prog.bytesOf 39) (by rw [hxx]; simp [DataW.weights, Try.underlying23])
      rw [show Try.prog.bytesOf 39 = 32 by kernel_rfl] at h2
      simp only [List.length_map, List.length_range, reachBytes] at h2
      have : len * 32 ≤ (len + (m - len)) * 32 := Nat.mul_le_mul_right _ (by omega)
      omega
    have hlm : len ≤ m := by rw [hmm]; split <;> omega
    obtain ⟨f, hf⟩ := choose_lt (α := Step) (n := len) (p := fun i s => ∀ j, j < 4 → w.cell? (a.add (i * 4 + j)) = s.cells[j]?) fun i hi => by
      obtain ⟨cs', h1, h2⟩ := hx i (by omega)
      obtain ⟨s, rfl⟩ := open_step_cells h2
      obtain ⟨_, _, h3⟩ := World.cells?_some h1
      exact ⟨s, fun j hj => by rw [← h3 j hj, add_add]⟩
    obtain ⟨b, off, spot⟩ := a
    have hspot : spot = none := hsp _ _ _ rfl
    subst hspot
    rcases Nat.eq_zero_or_pos len with h0 | h0
    · subst h0
      exact ⟨[], ⟨by simp, _, _, rfl, fun h => by simp at h⟩, .inr ⟨b, off, 0, cap, rfl, hl⟩, fun _ => by simp⟩
    · have hc0 := hf 0 h0 0 (by omega)
      have hb : b < w.heap.size := World.block_lt_of_cell? w ⟨b, off, none⟩ (u := .int .i64 (f 0).at_) (by
        have : w.cell? ((⟨b, off, none⟩ : Addr).add (0 * 4 + 0)) = some (.int .i64 (f 0).at_) := hc0
        simpa [Addr.add] using this)
      have hlen : ((List.range len).map f).length = len := by simp
      refine ⟨(List.range len).map f, ⟨by rw [hlen]; unfold maxLen at hm; omega, some ⟨b, off, none⟩, cap, by rw [hlen], fun _ => ⟨b, off, rfl, hb, ?_⟩⟩, .inr ⟨b, off, len, cap, rfl, hl⟩, fun h => by rw [hlen]; exact hw8 h⟩
      intro i s hs j u hu
      obtain ⟨hi, hs'⟩ := List.getElem?_eq_some_iff.1 hs
      simp only [List.length_map, List.length_range] at hi
      have hj : j < 4 := (List.getElem?_eq_some_iff.1 hu).1
      have := hf i hi j hj
      rw [addr_add] at this
      rw [Nat.add_assoc, this]
      simp only [List.getElem_map, List.getElem_range] at hs'
      rw [hs']
      exact hu
set_option maxRecDepth 100000 in
/-- A line that came in, with its reach. -/
theorem open_line2 {W : World} {v : Value} {d : DataW H} {p : List MemPlace} {b0 : Nat} (hv : Value.okWide Try.prog W .any b0 25 v) (h : DataW.Trod enc Try.prog W base spare held 25 v d p) :
    ∃ (k : Int) (u : Value) (l : List Step), v = .agg #[.int .i64 k, u] ∧ Rd Step.cells 4 W u l ∧ SlOk u ∧ ((∀ m ∈ DataW.weights Try.prog 25 d, m ≤ reachBytes) → l.length * 32 ≤ 140737488351232) := by
  obtain ⟨c0, c1, y0, y1, m, rfl, rfl, rfl, hy0, hy1⟩ := open_agg2 Try.underlying25 (by kernel_rfl) Try.cells25 hv h
  obtain ⟨a, e0, _, wa⟩ := DataW.trod_int Try.underlying22 hy0
  simp at e0
  subst e0
  obtain ⟨l, h1, h2, h3⟩ := open_steps2 (steps_spot hv) hy1
  refine ⟨a, c1, l, rfl, h1, h2, fun hm => h3 fun n hn => hm n ?_⟩
  simp only [DataW.weights, Try.underlying25, DataW.weightsEach, List.map_cons, List.map_nil, List.append_nil, List.mem_append]
  exact .inr hn
end
end Go.Proofs.Ytkoeplbkeboklaa
