/- My texts, joined: N17. -/
import Derived.Test.YtgiploddoffmjaaGreatM0
import Derived.Test.YtgiploddoffmjaaGreatM1
set_option linter.unusedVariables false
set_option linter.unusedSimpArgs false
set_option linter.unusedSectionVars false
set_option maxRecDepth 10000
namespace Go.Proofs.YtgiploddoffmjaaGreat
section
def smallT (t : Test) : Prop := (-1000000000 ≤ t.src ∧ t.src ≤ 1000000000) ∧ (-1000000000 ≤ t.low ∧ t.low ≤ 1000000000) ∧ (-1000000000 ≤ t.high ∧ t.high ≤ 1000000000)
theorem nodeP_n {srcs op : Int} {t : Test} {n : Int} {ks : Pats} (h : nodeP srcs op t n ks = true) : 0 ≤ n ∧ n ≤ 200 := by
 unfold nodeP inP at h
 simp only [Bool.and_eq_true, decide_eq_true_eq] at h
 exact h.1.1.1.2
theorem nodeP_t {srcs : Int} {t : Test} {n : Int} {ks : Pats} (h : nodeP srcs 1 t n ks = true) : isTestP t srcs = true := by
 unfold nodeP at h
 simp only [Bool.and_eq_true, if_true] at h
 exact h.1.1.2
theorem isTest_small {srcs : Int} {t : Test} (h : isTestP t srcs = true) (hs : srcs ≤ 4) : smallT t := by
 unfold isTestP inP at h
 simp only [Bool.and_eq_true, decide_eq_true_eq] at h
 unfold smallT; omega
theorem zeroT_small : smallT zeroT := by unfold smallT zeroT; simp
theorem linkE_mem {n : Int} {lk : Option Test} {a b : List Int} {e : Edge} (h : e ∈ linkE n lk a b) : e.n = n ∧ e.t = lk.getD zeroT ∧ e.lack = lk.isSome := by
 unfold linkE at h
 simp only [List.mem_flatMap, List.mem_map] at h
 obtain ⟨x, _, y, _, rfl⟩ := h
 exact ⟨rfl, rfl, rfl⟩
def edgeFine (srcs : Int) (e : Edge) : Prop := (0 ≤ e.n ∧ e.n ≤ 200) ∧ ((e.lack = true ∧ isTestP e.t srcs = true) ∨ (e.lack = false ∧ e.t = zeroT))
theorem makeP_fine (srcs : Int) : ∀ (f : Form) (op : Int) (t : Test) (n : Int) (ks : Pats) (k : Int), shape f op t n ks → nodeP srcs op t n ks = true → ks.ok srcs = true → ∀ e ∈ (makeP f k).follow, edgeFine srcs e
 | .one _, _, _, _, _, _, _, _, _, e, he => by simp [makeP] at he
 | .thn m a b, _, _, _, _, k, hs, hn, hk, e, he => by
  obtain ⟨_, _, rfl, o1, t1, n1, k1, o2, t2, n2, k2, rfl, ha, hb⟩ := hs
  simp only [Pats.ok, Bool.and_eq_true] at hk
  simp only [makeP, List.mem_append] at he
  rcases he with (he | he) | he
  ·exact makeP_fine srcs a _ _ _ _ _ ha hk.1.1 hk.1.2 e he
  ·exact makeP_fine srcs b _ _ _ _ _ hb hk.2.1.1 hk.2.1.2 e he
  ·obtain ⟨h1, h2, h3⟩ := linkE_mem he
   exact ⟨by rw [h1]; exact nodeP_n hn, .inr ⟨h3, h2⟩⟩
 | .or a b, _, _, _, _, k, hs, hn, hk, e, he => by
  obtain ⟨_, _, rfl, o1, t1, n1, k1, o2, t2, n2, k2, rfl, ha, hb⟩ := hs
  simp only [Pats.ok, Bool.and_eq_true] at hk
  simp only [makeP, List.mem_append] at he
  rcases he with he | he
  ·exact makeP_fine srcs a _ _ _ _ _ ha hk.1.1 hk.1.2 e he
  ·exact makeP_fine srcs b _ _ _ _ _ hb hk.2.1.1 hk.2.1.2 e he
 | .many m a, _, _, _, _, k, hs, hn, hk, e, he => by
  obtain ⟨_, _, rfl, o1, t1, n1, k1, rfl, ha⟩ := hs
  simp only [Pats.ok, Bool.and_eq_true] at hk
  simp only [makeP, List.mem_append] at he
  rcases he with he | he
  ·exact makeP_fine srcs a _ _ _ _ _ ha hk.1.1 hk.1.2 e he
  ·obtain ⟨h1, h2, h3⟩ := linkE_mem he
   exact ⟨by rw [h1]; exact nodeP_n hn, .inr ⟨h3, h2⟩⟩
 | .lack m a c b, _, _, _, _, k, hs, hn, hk, e, he => by
  obtain ⟨_, _, rfl, o1, t1, n1, k1, o2, t2, n2, k2, rfl, ha, hb⟩ := hs
  simp only [Pats.ok, Bool.and_eq_true] at hk
  simp only [makeP, List.mem_append] at he
  rcases he with (he | he) | he
  ·exact makeP_fine srcs a _ _ _ _ _ ha hk.1.1 hk.1.2 e he
  ·exact makeP_fine srcs b _ _ _ _ _ hb hk.2.2.1.1 hk.2.2.1.2 e he
  ·obtain ⟨h1, h2, h3⟩ := linkE_mem he
   exact ⟨by rw [h1]; exact nodeP_n hn, .inl ⟨h3, by rw [h2]; exact nodeP_t hk.2.1.1⟩⟩
noncomputable def autoP (x : Node) : Auto := { makeP (formOf x) 0 with follow := setO edgeOrd (makeP (formOf x) 0).follow }
theorem autoP_edges {srcs : Int} {x : Node} (h : patP srcs x.op x.t x.n x.ks = true) : ∀ e ∈ (makeP (formOf x) 0).follow, edgeFine srcs e ∧ (0 ≤ e.from_ ∧ e.from_ < (makeP (formOf x) 0).tests.length) ∧ 0 ≤ e.to_ ∧ e.to_ < (makeP (formOf x) 0).tests.length := by
 intro e he
 have hp := h
 unfold patP at hp
 simp only [Bool.and_eq_true] at hp
 have hw := (makeP_within (formOf x) 0).2 e he
 refine ⟨makeP_fine srcs _ _ _ _ _ 0 (formOf_shape h) hp.1.1.1 hp.1.1.2 e he, ?_, ?_⟩ <;> omega
end
end Go.Proofs.YtgiploddoffmjaaGreat
