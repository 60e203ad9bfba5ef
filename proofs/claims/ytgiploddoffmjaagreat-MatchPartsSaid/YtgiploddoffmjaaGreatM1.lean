/- My texts, joined: N1, N2, N3, N4, N5, N7, N6, N9, N10, N12, N13, N14, N15, N16, N24, Base0, Base1. -/
import Derived.Below
import Derived.BigQuiet
import Derived.Deep.AppendLies
import Derived.Deep.QuietTactic
import Derived.KernelRfl
import Derived.Laws.AppendOwn
import Derived.Laws.AppendOwnNone
import Derived.Laws.CopyRow
import Derived.Lib.Hide
import Derived.LoopTactic
import Derived.Maps.AppendAt
import Derived.Outline
import Derived.OwnWalk
import Derived.TacticsInMore
import Derived.WalkKit
import Derived.WalkSpells
import Derived.Test.YtgiploddoffmjaaGreatM0
set_option linter.unusedVariables false
set_option linter.unusedSimpArgs false
set_option linter.unusedSectionVars false
set_option maxRecDepth 10000
namespace Go.Proofs.YtgiploddoffmjaaGreat
section
structure Test where
 src : Int
 low : Int
 high : Int
deriving DecidableEq
inductive Pats where
 | nil
 | cons (op : Int) (t : Test) (n : Int) (kids rest : Pats)
namespace Pats
def len : Pats → Nat
 | nil => 0
 | cons _ _ _ _ r => r.len + 1
def cnt : Pats → Nat
 | nil => 0
 | cons _ _ _ ks r => 1 + ks.cnt + r.cnt
def dep : Pats → Nat
 | nil => 0
 | cons _ _ _ ks r => max (1 + ks.dep) r.dep
def op2 : Pats → Option Int
 | cons _ _ _ _ (cons op _ _ _ _) => some op
 | _ => none
end Pats
def inP (n low high : Int) : Bool := decide (low ≤ n) && decide (n ≤ high)
def isTestP (t : Test) (srcs : Int) : Bool := inP t.src 0 (srcs - 1) && decide (-1000000000 ≤ t.low) && decide (t.low ≤ t.high) && decide (t.high ≤ 1000000000)
def kidsP (op : Int) : Int := if op = 1 then 0 else if op = 4 then 1 else if op = 2 ∨ op = 3 then 2 else if op = 5 then 3 else -1
def zeroT : Test := ⟨0, 0, 0⟩
def nodeP (srcs op : Int) (t : Test) (n : Int) (ks : Pats) : Bool :=
 decide ((ks.len : Int) = kidsP op) && inP n 0 200 && (if op = 1 then isTestP t srcs else decide (t = zeroT)) && (if op = 1 ∨ op = 3 then decide (n = 0) else true) && (if op = 5 then ks.op2 == some 1 else true)
def Pats.ok (srcs : Int) : Pats → Bool
 | nil => true
 | cons op t n ks r => nodeP srcs op t n ks && ks.ok srcs && r.ok srcs
def patP (srcs op : Int) (t : Test) (n : Int) (ks : Pats) : Bool := nodeP srcs op t n ks && ks.ok srcs && decide (ks.dep ≤ 5) && decide (ks.cnt ≤ 11)
structure Node where
 op : Int
 t : Test
 n : Int
 ks : Pats
def Pats.nodes (d : Nat) : Pats → List (Nat × Node)
 | .nil => []
 | .cons op t n ks r => (d, ⟨op, t, n, ks⟩) :: (ks.nodes (d + 1) ++ r.nodes d)
def goodN (srcs : Int) (x : Nat × Node) : Bool := decide (x.1 ≤ 6) && nodeP srcs x.2.op x.2.t x.2.n x.2.ks
theorem nodes_length : ∀ (ps : Pats) (d : Nat), (ps.nodes d).length = ps.cnt
 | .nil, d => rfl
 | .cons op t n ks r, d => by simp [Pats.nodes, Pats.cnt, nodes_length ks, nodes_length r]; omega
theorem nodes_good (srcs : Int) : ∀ (ps : Pats) (d : Nat), 1 ≤ d → d ≤ 7 → ((ps.nodes d).all (goodN srcs) = true ↔ ps.ok srcs = true ∧ ps.dep + d ≤ 7)
 | .nil, d, h1, h7 => by simp [Pats.nodes, Pats.ok, Pats.dep, h7]
 | .cons op t n ks r, d, h1, h7 => by
  have hd : (Pats.cons op t n ks r).dep = max (1 + ks.dep) r.dep := rfl
  rw [hd, Pats.nodes, List.all_cons, List.all_append, Pats.ok, Bool.and_eq_true, Bool.and_eq_true, Bool.and_eq_true, Bool.and_eq_true, nodes_good srcs r d h1 h7]
  clear hd
  by_cases hd : d ≤ 6
  ·rw [nodes_good srcs ks (d + 1) (by omega) (by omega), goodN, decide_eq_true hd, Bool.true_and]
   constructor
   ·rintro ⟨a, ⟨b, c⟩, e, f⟩; exact ⟨⟨⟨a, b⟩, e⟩, by omega⟩
   ·rintro ⟨⟨⟨a, b⟩, e⟩, f⟩; exact ⟨a, ⟨b, by omega⟩, e, by omega⟩
  ·rw [goodN, decide_eq_false hd, Bool.false_and]
   constructor
   ·rintro ⟨a, _⟩; cases a
   ·rintro ⟨_, f⟩; omega
theorem patP_nodes (srcs op : Int) (t : Test) (n : Int) (ks : Pats) : patP srcs op t n ks = (decide (((1, ⟨op, t, n, ks⟩) :: ks.nodes 2 : List (Nat × Node)).length ≤ 12) && ((1, ⟨op, t, n, ks⟩) :: ks.nodes 2 : List (Nat × Node)).all (goodN srcs)) := by
 rw [List.length_cons, nodes_length, List.all_cons, goodN, patP, Bool.eq_iff_iff]
 simp only [Bool.and_eq_true, decide_eq_true_eq]
 rw [nodes_good srcs ks 2 (by omega) (by omega)]
 constructor
 ·rintro ⟨⟨⟨a, b⟩, c⟩, e⟩; exact ⟨by omega, ⟨by omega, a⟩, b, by omega⟩
 ·rintro ⟨a, ⟨_, b⟩, c, e⟩; exact ⟨⟨⟨b, c⟩, by omega⟩, by omega⟩
end
section
structure Ord3 {α : Type} (o : α → α → Int) : Prop where
 eq : ∀ a b, o a b = 0 ↔ a = b
 flip : ∀ a b, o a b < 0 ↔ 0 < o b a
 trans : ∀ a b c, o a b < 0 → o b c < 0 → o a c < 0
section
variable {α : Type} {o : α → α → Int}
def sortedO (o : α → α → Int) (l : List α) : Prop := l.Pairwise fun a b => o a b < 0
def putO (o : α → α → Int) : List α → α → List α
 | [], m => [m]
 | x :: l, m => if o x m < 0 then x :: putO o l m else if o x m = 0 then x :: l else m :: x :: l
theorem mem_putO (h : Ord3 o) (m y : α) : ∀ l : List α, y ∈ putO o l m ↔ y = m ∨ y ∈ l
 | [] => by simp [putO]
 | x :: l => by
  rw [putO]
  split
  ·rw [List.mem_cons, mem_putO h m y l, List.mem_cons]
   constructor
   ·rintro (a | a | a)
    ·exact .inr (.inl a)
    ·exact .inl a
    ·exact .inr (.inr a)
   ·rintro (a | a | a)
    ·exact .inr (.inl a)
    ·exact .inl a
    ·exact .inr (.inr a)
  ·split
   ·rename_i h0
    have := (h.eq _ _).1 h0
    subst this
    simp
   ·simp
theorem sorted_putO (h : Ord3 o) (m : α) : ∀ l : List α, sortedO o l → sortedO o (putO o l m)
 | [], _ => by simp [putO, sortedO]
 | x :: l, hs => by
  obtain ⟨h1, h2⟩ := List.pairwise_cons.1 hs
  rw [putO]
  split
  ·rename_i hx
   refine List.pairwise_cons.2 ⟨fun y hy => ?_, sorted_putO h m l h2⟩
   rcases (mem_putO h m y l).1 hy with rfl | hy
   ·exact hx
   ·exact h1 y hy
  ·split
   ·exact hs
   ·rename_i a b
    have hm : o m x < 0 := by rw [h.flip]; omega
    refine List.pairwise_cons.2 ⟨fun y hy => ?_, hs⟩
    rcases List.mem_cons.1 hy with rfl | hy
    ·exact hm
    ·exact h.trans _ _ _ hm (h1 y hy)
theorem Ord3.irrefl (h : Ord3 o) (a : α) : ¬ o a a < 0 := by rw [(h.eq a a).2 rfl]; omega
theorem sorted_ext (h : Ord3 o) : ∀ {l m : List α}, sortedO o l → sortedO o m → (∀ x, x ∈ l ↔ x ∈ m) → l = m
 | [], [], _, _, _ => rfl
 | [], y :: m, _, _, e => absurd ((e y).2 List.mem_cons_self) (by simp)
 | x :: l, [], _, _, e => absurd ((e x).1 List.mem_cons_self) (by simp)
 | x :: l, y :: m, h1, h2, e => by
  obtain ⟨a1, a2⟩ := List.pairwise_cons.1 h1
  obtain ⟨b1, b2⟩ := List.pairwise_cons.1 h2
  have hxy : x = y := by
   rcases List.mem_cons.1 ((e x).1 List.mem_cons_self) with rfl | hx
   ·rfl
   ·rcases List.mem_cons.1 ((e y).2 List.mem_cons_self) with rfl | hy
    ·rfl
    ·exact absurd (h.trans _ _ _ (a1 y hy) (b1 x hx)) (h.irrefl x)
  subst hxy
  rw [sorted_ext h a2 b2 fun z => ?_]
  constructor
  ·intro hz
   rcases List.mem_cons.1 ((e z).1 (List.mem_cons_of_mem _ hz)) with rfl | h'
   ·exact absurd (a1 z hz) (h.irrefl z)
   ·exact h'
  ·intro hz
   rcases List.mem_cons.1 ((e z).2 (List.mem_cons_of_mem _ hz)) with rfl | h'
   ·exact absurd (b1 z hz) (h.irrefl z)
   ·exact h'
def setO (o : α → α → Int) (l : List α) : List α := l.foldl (putO o) []
theorem foldl_putO (h : Ord3 o) : ∀ (l m : List α), sortedO o m → sortedO o (l.foldl (putO o) m) ∧ ∀ y, y ∈ l.foldl (putO o) m ↔ y ∈ l ∨ y ∈ m
 | [], m, hm => ⟨hm, fun y => by simp⟩
 | x :: l, m, hm => by
  obtain ⟨h1, h2⟩ := foldl_putO h l (putO o m x) (sorted_putO h x m hm)
  refine ⟨h1, fun y => ?_⟩
  rw [List.foldl_cons, h2, mem_putO h, List.mem_cons]
  constructor
  ·rintro (a | a | a)
   ·exact .inl (.inr a)
   ·exact .inl (.inl a)
   ·exact .inr a
  ·rintro ((a | a) | a)
   ·exact .inr (.inl a)
   ·exact .inl a
   ·exact .inr (.inr a)
theorem setO_sorted (h : Ord3 o) (l : List α) : sortedO o (setO o l) := (foldl_putO h l [] .nil).1
theorem mem_setO (h : Ord3 o) (l : List α) (y : α) : y ∈ setO o l ↔ y ∈ l := by rw [setO, (foldl_putO h l [] .nil).2]; simp
theorem setO_unique (h : Ord3 o) {l m : List α} (hs : sortedO o m) (he : ∀ x, x ∈ m ↔ x ∈ l) : m = setO o l := sorted_ext h hs (setO_sorted h l) fun x => by rw [he, mem_setO h]
theorem setO_sortedId (h : Ord3 o) {l : List α} (hs : sortedO o l) : setO o l = l := (setO_unique h hs fun _ => Iff.rfl).symm
def compactL [DecidableEq α] : List α → List α
 | x :: y :: l => if x = y then compactL (y :: l) else x :: compactL (y :: l)
 | l => l
end
section
def ordL : List Int → List Int → Int
 | a :: x, b :: y => if a ≠ b then a - b else ordL x y
 | x, y => (x.length : Int) - y.length
theorem ordL_eq : ∀ x y : List Int, ordL x y = 0 ↔ x = y
 | [], [] => by simp [ordL]
 | [], b :: y => by simp [ordL]; omega
 | a :: x, [] => by simp [ordL]; omega
 | a :: x, b :: y => by
  rw [ordL]
  split
  ·rename_i h; constructor
   ·intro h2; omega
   ·rintro h2; exact absurd (List.cons.inj h2).1 h
  ·rename_i h
   have h := Decidable.not_not.1 h
   subst h
   rw [ordL_eq x y]; simp
theorem ordL_flip : ∀ x y : List Int, ordL x y < 0 ↔ 0 < ordL y x
 | [], [] => by simp [ordL]
 | [], b :: y => by simp [ordL]
 | a :: x, [] => by simp [ordL]
 | a :: x, b :: y => by
  rw [ordL, ordL]
  by_cases h : a = b
  ·subst h; simp; exact ordL_flip x y
  ·rw [if_pos h, if_pos (Ne.symm h)]; omega
theorem ordL_trans : ∀ x y z : List Int, ordL x y < 0 → ordL y z < 0 → ordL x z < 0
 | [], y, [], h1, h2 => by
  cases y with
  | nil => exact h1
  | cons b y => simp [ordL] at h2; omega
 | [], y, c :: z, h1, h2 => by simp [ordL]
 | a :: x, [], z, h1, h2 => by simp [ordL] at h1; omega
 | a :: x, b :: y, [], h1, h2 => by simp [ordL] at h2; omega
 | a :: x, b :: y, c :: z, h1, h2 => by
  rw [ordL] at *
  have ih := ordL_trans x y z
  by_cases hab : a = b
  ·subst hab
   rw [if_neg (by simp)] at h1
   by_cases hac : a = c
   ·subst hac
    rw [if_neg (by simp)] at h2 ⊢
    exact ih h1 h2
   ·rw [if_pos hac] at h2 ⊢; exact h2
  ·rw [if_pos hab] at h1
   by_cases hbc : b = c
   ·subst hbc; rw [if_pos hab]; exact h1
   ·rw [if_pos hbc] at h2
    rw [if_pos (by omega)]; omega
theorem ordL_laws : Ord3 ordL := ⟨ordL_eq, ordL_flip, ordL_trans⟩
def cmpL : List Int → List Int → Int
 | a :: x, b :: y => if a < b then -1 else if b < a then 1 else cmpL x y
 | [], [] => 0
 | [], _ :: _ => -1
 | _ :: _, [] => 1
theorem cmpL_ordL : ∀ x y : List Int, (cmpL x y < 0 ↔ ordL x y < 0)
 | [], [] => by simp [ordL, cmpL]
 | [], b :: y => by simp [ordL, cmpL]
 | a :: x, [] => by simp [ordL, cmpL]; omega
 | a :: x, b :: y => by
  rw [ordL, cmpL]
  by_cases h : a = b
  ·subst h; simp; exact cmpL_ordL x y
  ·rw [if_pos h]
   by_cases h2 : a < b
   ·rw [if_pos h2]; omega
   ·rw [if_neg h2, if_pos (by omega)]; omega
end
end
section
inductive Form where
 | one (t : Test)
 | thn (n : Int) (a b : Form)
 | or (a b : Form)
 | many (n : Int) (a : Form)
 | lack (n : Int) (a : Form) (t : Test) (b : Form)
structure Ev where
 src : Int
 id : Int
 at_ : Int
 key : Int
 val : Int
deriving DecidableEq, Inhabited
def holdsP (t : Test) (e : Ev) : Bool := decide (e.src = t.src) && inP e.val t.low t.high
def evAt (l : List Ev) (i : Int) : Ev := (l[i.toNat]?).getD default
def followsP (l : List Ev) (a b n : Int) : Bool := decide (a < b) && decide ((evAt l b).at_ - (evAt l a).at_ ≤ n)
def lacksP (l : List Ev) (t : Test) (a b : Int) : Bool := ((l.take b.toNat).drop (a + 1).toNat).all fun e => !holdsP t e
def linkP (l : List Ev) (n : Int) (lack : Option Test) (a b : Int) : Bool := followsP l a b n && (match lack with | none => true | some t => lacksP l t a b)
def lastI (x : List Int) : Int := x.getLastD 0
def headI (x : List Int) : Int := x.headD 0
def joinP (l : List Ev) (n : Int) (lack : Option Test) (a b : List (List Int)) : List (List Int) := a.flatMap fun x => (b.filter fun y => linkP l n lack (lastI x) (headI y)).map (x ++ ·)
def lim (m : List (List Int)) : Option (List (List Int)) := if m.length ≤ 200 then some m else none
def oneFrom (t : Test) : List Ev → Int → List (List Int)
 | [], _ => []
 | e :: l, i => if holdsP t e then [i] :: oneFrom t l (i + 1) else oneFrom t l (i + 1)
def againP (l : List Ev) (n : Int) (own : List (List Int)) : Nat → List (List Int) → List (List Int) → Option (List (List Int))
 | 0, out, _ => some out
 | k + 1, out, last =>
  if last = [] then some out else
  let last' := setO ordL (joinP l n none last own)
  let out' := setO ordL (out ++ last')
  if out'.length ≤ 200 then againP l n own k out' last' else none
def allP (l : List Ev) : Form → Option (List (List Int))
 | .one t => some (oneFrom t l 0)
 | .thn n a b => do let x ← allP l a; let y ← allP l b; lim (setO ordL (joinP l n none x y))
 | .or a b => do let x ← allP l a; let y ← allP l b; lim (setO ordL (x ++ y))
 | .many n a => do let x ← allP l a; againP l n x (l.length + 1) x x
 | .lack n a t b => do let x ← allP l a; let y ← allP l b; lim (setO ordL (joinP l n (some t) x y))
end
section
theorem mem_joinP {l : List Ev} {n : Int} {lack : Option Test} {a b : List (List Int)} {y : List Int} : y ∈ joinP l n lack a b ↔ ∃ x ∈ a, ∃ z ∈ b, linkP l n lack (lastI x) (headI z) = true ∧ y = x ++ z := by
 unfold joinP
 simp only [List.mem_flatMap, List.mem_map, List.mem_filter]
 constructor
 ·rintro ⟨x, hx, z, ⟨hz, hl⟩, rfl⟩; exact ⟨x, hx, z, hz, hl, rfl⟩
 ·rintro ⟨x, hx, z, hz, hl, rfl⟩; exact ⟨x, hx, z, ⟨hz, hl⟩, rfl⟩
theorem sorted_nodup {α : Type} {o : α → α → Int} (h : Ord3 o) {a : List α} (ha : sortedO o a) : a.Nodup :=
 List.nodup_iff_pairwise_ne.2 (List.Pairwise.imp (R := fun x y => o x y < 0) (S := fun x y => x ≠ y) (fun {x y} hxy (e : x = y) => h.irrefl x (by rw [← e] at hxy; exact hxy)) ha)
theorem nodup_length {α : Type} : ∀ {a b : List α}, a.Nodup → (∀ x ∈ a, x ∈ b) → a.length ≤ b.length
 | [], b, _, _ => Nat.zero_le _
 | x :: a, b, hn, hs => by
  obtain ⟨h1, h2⟩ := List.nodup_cons.1 hn
  obtain ⟨s, t, rfl⟩ := List.append_of_mem (hs x List.mem_cons_self)
  have ih := nodup_length (b := s ++ t) h2 fun y hy => by
   rcases List.mem_append.1 (hs y (List.mem_cons_of_mem _ hy)) with h | h
   ·exact List.mem_append.2 (.inl h)
   ·rcases List.mem_cons.1 h with rfl | h
    ·exact absurd hy h1
    ·exact List.mem_append.2 (.inr h)
  simp only [List.length_append, List.length_cons] at ih ⊢
  omega
theorem sorted_length {α : Type} {o : α → α → Int} (h : Ord3 o) {a b : List α} (ha : sortedO o a) (hb : ∀ x ∈ a, x ∈ b) : a.length ≤ b.length := nodup_length (sorted_nodup h ha) hb
end
section
structure Wk {α : Type} (o : α → α → Int) : Prop where
 flip : ∀ a b, o a b < 0 ↔ 0 < o b a
 le : ∀ a b c, o a b ≤ 0 → o b c ≤ 0 → o a c ≤ 0
def lexO {α : Type} (o p : α → α → Int) (a b : α) : Int := if o a b ≠ 0 then o a b else p a b
theorem wk_key {α : Type} (f : α → Int) : Wk fun a b => f a - f b := ⟨fun a b => by omega, fun a b c => by omega⟩
theorem wk_lex {α : Type} {o p : α → α → Int} (h : Wk o) (g : Wk p) : Wk (lexO o p) where
 flip a b := by
  unfold lexO
  have h1 := h.flip a b
  have h2 := h.flip b a
  have h3 := g.flip a b
  split <;> split <;> omega
 le a b c := by
  unfold lexO
  have a1 := h.flip a b
  have a2 := h.flip b a
  have b1 := h.flip b c
  have b2 := h.flip c b
  have c1 := h.flip a c
  have c2 := h.flip c a
  have l1 := h.le a b c
  have l2 := h.le c a b
  have l3 := h.le b c a
  have g1 := g.le a b c
  split <;> split <;> split <;> omega
theorem Wk.ord {α : Type} {o : α → α → Int} (h : Wk o) (he : ∀ a b, o a b = 0 → a = b) : Ord3 o where
 eq a b := ⟨he a b, fun e => by subst e; have := h.flip a a; omega⟩
 flip := h.flip
 trans a b c h1 h2 := by
  have := h.le a b c (by omega) (by omega)
  have e1 := h.flip a c
  have e2 := h.flip c a
  have l := h.le c a b
  have f := h.flip b c
  omega
structure Edge where
 from_ : Int
 to_ : Int
 n : Int
 lack : Bool
 t : Test
deriving DecidableEq
def bInt (b : Bool) : Int := if b then 1 else 0
def testOrd (a b : Test) : Int := if a.src ≠ b.src then a.src - b.src else if a.low ≠ b.low then a.low - b.low else a.high - b.high
def edgeOrd (a b : Edge) : Int :=
 if a.from_ ≠ b.from_ then a.from_ - b.from_ else if a.to_ ≠ b.to_ then a.to_ - b.to_ else if a.n ≠ b.n then a.n - b.n else if a.lack ≠ b.lack then (if a.lack then 1 else -1) else testOrd a.t b.t
theorem edgeOrd_lex : edgeOrd = lexO (fun a b : Edge => a.from_ - b.from_) (lexO (fun a b => a.to_ - b.to_) (lexO (fun a b => a.n - b.n) (lexO (fun a b => bInt a.lack - bInt b.lack) (lexO (fun a b => a.t.src - b.t.src) (lexO (fun a b => a.t.low - b.t.low) fun a b => a.t.high - b.t.high))))) := by
 funext a b
 unfold edgeOrd lexO testOrd
 have s : ∀ x y : Int, (x - y ≠ 0) = (x ≠ y) := fun x y => by rw [eq_iff_iff]; omega
 have sb : (bInt a.lack ≠ bInt b.lack) = (a.lack ≠ b.lack) := by cases a.lack <;> cases b.lack <;> simp [bInt]
 simp only [s, sb]
 have e : a.lack ≠ b.lack → bInt a.lack - bInt b.lack = if a.lack = true then 1 else -1 := by cases a.lack <;> cases b.lack <;> simp [bInt]
 by_cases h : a.lack ≠ b.lack
 ·simp only [if_pos h, e h]
 ·simp only [if_neg h]
theorem edgeOrd_laws : Ord3 edgeOrd := by
 rw [edgeOrd_lex]
 refine Wk.ord (wk_lex (wk_key _) (wk_lex (wk_key _) (wk_lex (wk_key _) (wk_lex (wk_key fun a : Edge => bInt a.lack) (wk_lex (wk_key fun a : Edge => a.t.src) (wk_lex (wk_key fun a : Edge => a.t.low) (wk_key fun a : Edge => a.t.high))))))) fun a b h => ?_
 unfold lexO at h
 obtain ⟨a1, a2, a3, a4, a5, a6, a7⟩ := a
 obtain ⟨b1, b2, b3, b4, b5, b6, b7⟩ := b
 dsimp only at h
 have hb : bInt a4 - bInt b4 = 0 → a4 = b4 := by cases a4 <;> cases b4 <;> simp [bInt]
 repeat' split at h
 all_goals first | (exfalso; omega) | skip
 have h1 : a1 = b1 := by omega
 have h2 : a2 = b2 := by omega
 have h3 : a3 = b3 := by omega
 have h4 := hb (by omega)
 have h5 : a5 = b5 := by omega
 have h6 : a6 = b6 := by omega
 have h7 : a7 = b7 := by omega
 subst h1 h2 h3 h4 h5 h6 h7
 rfl
structure Auto where
 tests : List Test
 first : List Int
 last : List Int
 follow : List Edge
def linkE (n : Int) (lack : Option Test) (a b : List Int) : List Edge := a.flatMap fun x => b.map fun y => ⟨x, y, n, lack.isSome, lack.getD zeroT⟩
def makeP : Form → Int → Auto
 | .one t, f => ⟨[t], [f], [f], []⟩
 | .thn n a b, f => let x := makeP a f; let y := makeP b (f + x.tests.length); ⟨x.tests ++ y.tests, x.first, y.last, x.follow ++ y.follow ++ linkE n none x.last y.first⟩
 | .or a b, f => let x := makeP a f; let y := makeP b (f + x.tests.length); ⟨x.tests ++ y.tests, x.first ++ y.first, x.last ++ y.last, x.follow ++ y.follow⟩
 | .many n a, f => let x := makeP a f; ⟨x.tests, x.first, x.last, x.follow ++ linkE n none x.last x.first⟩
 | .lack n a t b, f => let x := makeP a f; let y := makeP b (f + x.tests.length); ⟨x.tests ++ y.tests, x.first, y.last, x.follow ++ y.follow ++ linkE n (some t) x.last y.first⟩
theorem makeP_places : ∀ (p : Form) (f : Int), (∀ x ∈ (makeP p f).first, f ≤ x ∧ x < f + (makeP p f).tests.length) ∧ (∀ x ∈ (makeP p f).last, f ≤ x ∧ x < f + (makeP p f).tests.length) ∧ (makeP p f).first.Pairwise (· < ·) ∧ (makeP p f).last.Pairwise (· < ·)
 | .one t, f => by simp [makeP]; omega
 | .thn n a b, f => by
  obtain ⟨a1, a2, a3, a4⟩ := makeP_places a f
  obtain ⟨b1, b2, b3, b4⟩ := makeP_places b (f + (makeP a f).tests.length)
  simp only [makeP, List.length_append]
  exact ⟨fun x hx => by have := a1 x hx; omega, fun x hx => by have := b2 x hx; omega, a3, b4⟩
 | .or a b, f => by
  obtain ⟨a1, a2, a3, a4⟩ := makeP_places a f
  obtain ⟨b1, b2, b3, b4⟩ := makeP_places b (f + (makeP a f).tests.length)
  simp only [makeP, List.length_append]
  refine ⟨fun x hx => ?_, fun x hx => ?_, List.pairwise_append.2 ⟨a3, b3, fun x hx y hy => ?_⟩, List.pairwise_append.2 ⟨a4, b4, fun x hx y hy => ?_⟩⟩
  ·rcases List.mem_append.1 hx with h | h
   ·have := a1 x h; omega
   ·have := b1 x h; omega
  ·rcases List.mem_append.1 hx with h | h
   ·have := a2 x h; omega
   ·have := b2 x h; omega
  ·have := a1 x hx; have := b1 y hy; omega
  ·have := a2 x hx; have := b2 y hy; omega
 | .many n a, f => by
  obtain ⟨a1, a2, a3, a4⟩ := makeP_places a f
  simp only [makeP]
  exact ⟨a1, a2, a3, a4⟩
 | .lack n a t b, f => by
  obtain ⟨a1, a2, a3, a4⟩ := makeP_places a f
  obtain ⟨b1, b2, b3, b4⟩ := makeP_places b (f + (makeP a f).tests.length)
  simp only [makeP, List.length_append]
  exact ⟨fun x hx => by have := a1 x hx; omega, fun x hx => by have := b2 x hx; omega, a3, b4⟩
end
section
def betw (i k : Nat) : List Nat := (List.range k).drop (i + 1)
theorem mem_betw {i k j : Nat} : j ∈ betw i k ↔ i < j ∧ j < k := by
 unfold betw
 rw [List.mem_iff_getElem?]
 simp only [List.getElem?_drop]
 constructor
 ·rintro ⟨a, h⟩
  obtain ⟨h1, h2⟩ := List.getElem?_eq_some_iff.1 h
  simp at h1 h2
  omega
 ·rintro ⟨h1, h2⟩
  exact ⟨j - (i + 1), by rw [List.getElem?_eq_some_iff]; exact ⟨by simp; omega, by simp; omega⟩⟩
def numAt (m : List Int) (j : Nat) : Int := (m[j]?).getD 0
def linkAt (l : List Ev) (m : List Int) (n : Int) (lack : Option Test) (j : Nat) : Bool := linkP l n lack (numAt m (j - 1)) (numAt m j)
def manyIs (f : Nat → Nat → Bool) (g : Nat → Bool) : Nat → Nat → Nat → Bool
 | 0, _, _ => false
 | q + 1, i, k => f i k || (betw i k).any fun j => g j && f i j && manyIs f g q j k
def isP (l : List Ev) (m : List Int) : Form → Nat → Nat → Bool
 | .one t, i, k => decide (k = i + 1) && holdsP t (evAt l (numAt m i))
 | .or a b, i, k => isP l m a i k || isP l m b i k
 | .thn n a b, i, k => (betw i k).any fun j => linkAt l m n none j && isP l m a i j && isP l m b j k
 | .lack n a t b, i, k => (betw i k).any fun j => linkAt l m n (some t) j && isP l m a i j && isP l m b j k
 | .many n a, i, k => manyIs (isP l m a) (linkAt l m n none) (k - i) i k
theorem any_congr {α : Type} {p q : α → Bool} {l : List α} (h : ∀ x ∈ l, p x = q x) : l.any p = l.any q := by
 induction l with
 | nil => rfl
 | cons x l ih => rw [List.any_cons, List.any_cons, h x List.mem_cons_self, ih fun y hy => h y (List.mem_cons_of_mem _ hy)]
theorem manyIs_fuel (f : Nat → Nat → Bool) (g : Nat → Bool) (h0 : ∀ i k, k ≤ i → f i k = false) : ∀ (q i k : Nat), k - i ≤ q → manyIs f g q i k = manyIs f g (k - i) i k
 | 0, i, k, h => by rw [show k - i = 0 by omega]
 | q + 1, i, k, h => by
  by_cases hk : k ≤ i
  ·rw [show k - i = 0 by omega, manyIs, manyIs, h0 i k hk, Bool.false_or]
   rw [List.any_eq_false]
   intro j hj
   have := mem_betw.1 hj
   omega
  ·obtain ⟨r, hr⟩ : ∃ r, k - i = r + 1 := ⟨k - i - 1, by omega⟩
   rw [hr, manyIs, manyIs]
   congr 1
   refine any_congr fun j hj => ?_
   have := mem_betw.1 hj
   rw [manyIs_fuel f g h0 q j k (by omega), manyIs_fuel f g h0 r j k (by omega)]
theorem isP_empty (l : List Ev) (m : List Int) : ∀ (p : Form) (i k : Nat), k ≤ i → isP l m p i k = false
 | .one t, i, k, h => by rw [isP, decide_eq_false (by omega), Bool.false_and]
 | .or a b, i, k, h => by rw [isP, isP_empty l m a i k h, isP_empty l m b i k h]; rfl
 | .thn n a b, i, k, h => by rw [isP, List.any_eq_false]; intro j hj; have := mem_betw.1 hj; omega
 | .lack n a t b, i, k, h => by rw [isP, List.any_eq_false]; intro j hj; have := mem_betw.1 hj; omega
 | .many n a, i, k, h => by rw [isP, show k - i = 0 by omega, manyIs]
theorem isP_many (l : List Ev) (m : List Int) (n : Int) (a : Form) (i k : Nat) : isP l m (.many n a) i k = (isP l m a i k || (betw i k).any fun j => linkAt l m n none j && isP l m a i j && isP l m (.many n a) j k) := by
 by_cases hk : k ≤ i
 ·rw [isP_empty l m _ i k hk, isP_empty l m a i k hk, Bool.false_or]
  symm
  rw [List.any_eq_false]
  intro j hj
  have := mem_betw.1 hj
  omega
 ·obtain ⟨r, hr⟩ : ∃ r, k - i = r + 1 := ⟨k - i - 1, by omega⟩
  rw [isP, hr, manyIs]
  congr 1
  refine any_congr fun j hj => ?_
  have := mem_betw.1 hj
  rw [isP, manyIs_fuel _ _ (fun i k h => isP_empty l m a i k h) r j k (by omega)]
end
section
abbrev Beg := List Int × Int
def addB (l : List Beg) (x : Beg) : List Beg := if x ∈ l then l else l ++ [x]
def edgeOk (a : Auto) (l : List Ev) (x : Beg) (i : Int) (e : Edge) : Bool :=
 decide (e.from_ = x.2) && holdsP ((a.tests[e.to_.toNat]?).getD zeroT) (evAt l i) && linkP l e.n (if e.lack then some e.t else none) (lastI x.1) i
def candB (a : Auto) (l : List Ev) (own : List Beg) (i : Int) : List Beg :=
 ((a.first.filter fun f => holdsP ((a.tests[f.toNat]?).getD zeroT) (evAt l i)).map fun f => ([i], f)) ++ own.flatMap fun x => (a.follow.filter (edgeOk a l x i)).map fun e => (x.1 ++ [i], e.to_)
def dedupB (c : List Beg) : List Beg := c.foldl addB []
def stepB (a : Auto) (l : List Ev) (own : List Beg) (i : Int) : Option (List Beg) :=
 let more := dedupB (candB a l own i)
 if own.length + more.length ≤ 1000 then some (own ++ more) else none
theorem addB_mem {l : List Beg} {x y : Beg} : y ∈ addB l x ↔ y = x ∨ y ∈ l := by
 unfold addB
 split
 ·rename_i h
  constructor
  ·exact .inr
  ·rintro (rfl | h2)
   ·exact h
   ·exact h2
 ·rw [List.mem_append, List.mem_singleton]; exact Or.comm
theorem addB_nodup {l : List Beg} {x : Beg} (h : l.Nodup) : (addB l x).Nodup := by
 unfold addB
 split
 ·exact h
 ·rename_i hx
  exact List.nodup_append.2 ⟨h, by simp, fun a ha b hb => by simp at hb; subst hb; rintro rfl; exact hx ha⟩
theorem foldl_addB : ∀ (c l : List Beg), l.Nodup → (c.foldl addB l).Nodup ∧ ∀ y, y ∈ c.foldl addB l ↔ y ∈ c ∨ y ∈ l
 | [], l, h => ⟨h, fun y => by simp⟩
 | x :: c, l, h => by
  obtain ⟨h1, h2⟩ := foldl_addB c (addB l x) (addB_nodup h)
  refine ⟨h1, fun y => ?_⟩
  rw [List.foldl_cons, h2, addB_mem, List.mem_cons]
  constructor
  ·rintro (a | a | a)
   ·exact .inl (.inr a)
   ·exact .inl (.inl a)
   ·exact .inr a
  ·rintro ((a | a) | a)
   ·exact .inr (.inl a)
   ·exact .inl a
   ·exact .inr (.inr a)
theorem dedupB_nodup (c : List Beg) : (dedupB c).Nodup := (foldl_addB c [] List.nodup_nil).1
theorem mem_dedupB {c : List Beg} {y : Beg} : y ∈ dedupB c ↔ y ∈ c := by rw [dedupB, (foldl_addB c [] List.nodup_nil).2]; simp
structure Kept (A : Nat → List (List Int)) (own : List Beg) : Prop where
 mem : ∀ p x, x ∈ A p ↔ (x, (p : Int)) ∈ own
 nodupA : ∀ p, (A p).Nodup
 nodup : own.Nodup
 range : ∀ y ∈ own, 0 ≤ y.2 ∧ y.2 < 12
def sumA (A : Nat → List (List Int)) : Nat → Nat
 | 0 => 0
 | k + 1 => sumA A k + (A k).length
theorem filter_split (k : Nat) : ∀ l : List Beg, (l.filter fun y => decide (y.2 < ((k + 1 : Nat) : Int))).length = (l.filter fun y => decide (y.2 < (k : Int))).length + (l.filter fun y => decide (y.2 = (k : Int))).length
 | [] => rfl
 | y :: l => by
  have ih := filter_split k l
  rw [List.filter_cons, List.filter_cons, List.filter_cons]
  by_cases h1 : y.2 < (k : Int)
  ·rw [decide_eq_true h1, decide_eq_true (show y.2 < ((k + 1 : Nat) : Int) by omega), decide_eq_false (show ¬ y.2 = (k : Int) by omega)]
   simp only [if_true, Bool.false_eq_true, if_false, List.length_cons]; omega
  ·by_cases h2 : y.2 = (k : Int)
   ·rw [decide_eq_false h1, decide_eq_true (show y.2 < ((k + 1 : Nat) : Int) by omega), decide_eq_true h2]
    simp only [if_true, Bool.false_eq_true, if_false, List.length_cons]; omega
   ·rw [decide_eq_false h1, decide_eq_false (show ¬ y.2 < ((k + 1 : Nat) : Int) by omega), decide_eq_false h2]
    simp only [Bool.false_eq_true, if_false]; omega
theorem kept_at {A : Nat → List (List Int)} {own : List Beg} (h : Kept A own) (k : Nat) : (A k).length = (own.filter fun y => decide (y.2 = (k : Int))).length := by
 have hn : ((A k).map fun x => ((x, (k : Int)) : Beg)).Nodup := by
  refine List.nodup_iff_pairwise_ne.2 (List.pairwise_map.2 ((List.nodup_iff_pairwise_ne.1 (h.nodupA k)).imp fun hne e => hne (Prod.mk.inj e).1))
 have hm : ∀ y : Beg, y ∈ ((A k).map fun x => ((x, (k : Int)) : Beg)) ↔ y ∈ own.filter fun y => decide (y.2 = (k : Int)) := by
  rintro ⟨x, p⟩
  simp only [List.mem_map, List.mem_filter, decide_eq_true_eq]
  constructor
  ·rintro ⟨z, hz, e⟩
   obtain ⟨rfl, rfl⟩ := Prod.mk.inj e
   exact ⟨(h.mem k z).1 hz, rfl⟩
  ·rintro ⟨h1, rfl⟩
   exact ⟨x, (h.mem k x).2 h1, rfl⟩
 have a := nodup_length hn fun y hy => (hm y).1 hy
 have b := nodup_length (h.nodup.filter _) fun y hy => (hm y).2 hy
 rw [List.length_map] at a b
 omega
theorem kept_count {A : Nat → List (List Int)} {own : List Beg} (h : Kept A own) : sumA A 12 = own.length := by
 have key : ∀ k, sumA A k = (own.filter fun y => decide (y.2 < (k : Int))).length := by
  intro k
  induction k with
  | zero =>
   rw [sumA]
   symm
   rw [List.length_eq_zero_iff, List.filter_eq_nil_iff]
   intro y hy
   have := (h.range y hy).1
   simp; omega
  | succ k ih => rw [sumA, ih, kept_at h k, filter_split]
 rw [key 12]
 congr 1
 rw [List.filter_eq_self]
 intro y hy
 have := (h.range y hy).2
 simp; omega
def nextA (c : List Beg) (p : Nat) : List (List Int) := setO ordL ((c.filter fun y => decide (y.2 = (p : Int))).map (·.1))
theorem mem_nextA {c : List Beg} {p : Nat} {x : List Int} : x ∈ nextA c p ↔ (x, (p : Int)) ∈ c := by
 rw [nextA, mem_setO ordL_laws]
 simp only [List.mem_map, List.mem_filter, decide_eq_true_eq]
 constructor
 ·rintro ⟨⟨z, q⟩, ⟨h1, h2⟩, rfl⟩
  dsimp only at h2
  subst h2
  exact h1
 ·intro h; exact ⟨(x, (p : Int)), ⟨h, rfl⟩, rfl⟩
theorem kept_step {A : Nat → List (List Int)} {own c : List Beg} (h : Kept A own) (hr : ∀ y ∈ c, 0 ≤ y.2 ∧ y.2 < 12) (hd : ∀ y ∈ c, y ∉ own) : Kept (fun p => A p ++ nextA c p) (own ++ dedupB c) where
 mem p x := by rw [List.mem_append, List.mem_append, h.mem, mem_nextA, mem_dedupB]
 nodupA p := List.nodup_append.2 ⟨h.nodupA p, sorted_nodup ordL_laws (setO_sorted ordL_laws _), fun a ha b hb e => by
  subst e
  exact hd _ (mem_nextA.1 hb) ((h.mem p a).1 ha)⟩
 nodup := List.nodup_append.2 ⟨h.nodup, dedupB_nodup c, fun a ha b hb e => by
  subst e
  exact hd _ (mem_dedupB.1 hb) ha⟩
 range y hy := by
  rcases List.mem_append.1 hy with hy | hy
  ·exact h.range y hy
  ·exact hr y (mem_dedupB.1 hy)
def runFrom (a : Auto) (l : List Ev) : Nat → Int → List Beg → Option (List Beg)
 | 0, _, own => some own
 | k + 1, i, own => match stepB a l own i with
  | none => none
  | some o => runFrom a l k (i + 1) o
def nearP (l : List Ev) (m : List Int) (within : Int) (same : Bool) : Bool := m.all fun i => decide ((evAt l i).at_ - (evAt l (headI m)).at_ ≤ within) && (!same || decide ((evAt l i).key = (evAt l (headI m)).key))
def runP (a : Auto) (within : Int) (same : Bool) (l : List Ev) : Option (List (List Int)) :=
 (runFrom a l l.length 0 []).map fun own => setO ordL ((own.filter fun y => a.last.contains y.2 && nearP l y.1 within same).map (·.1))
end
section
def shape : Form → Int → Test → Int → Pats → Prop
 | .one t', op, t, n, ks => op = 1 ∧ t = t' ∧ n = 0 ∧ ks = .nil
 | .thn m a b, op, t, n, ks => op = 2 ∧ t = zeroT ∧ n = m ∧ ∃ o1 t1 n1 k1 o2 t2 n2 k2, ks = .cons o1 t1 n1 k1 (.cons o2 t2 n2 k2 .nil) ∧ shape a o1 t1 n1 k1 ∧ shape b o2 t2 n2 k2
 | .or a b, op, t, n, ks => op = 3 ∧ t = zeroT ∧ n = 0 ∧ ∃ o1 t1 n1 k1 o2 t2 n2 k2, ks = .cons o1 t1 n1 k1 (.cons o2 t2 n2 k2 .nil) ∧ shape a o1 t1 n1 k1 ∧ shape b o2 t2 n2 k2
 | .many m a, op, t, n, ks => op = 4 ∧ t = zeroT ∧ n = m ∧ ∃ o1 t1 n1 k1, ks = .cons o1 t1 n1 k1 .nil ∧ shape a o1 t1 n1 k1
 | .lack m a c b, op, t, n, ks => op = 5 ∧ t = zeroT ∧ n = m ∧ ∃ o1 t1 n1 k1 o2 t2 n2 k2, ks = .cons o1 t1 n1 k1 (.cons 1 c 0 .nil (.cons o2 t2 n2 k2 .nil)) ∧ shape a o1 t1 n1 k1 ∧ shape b o2 t2 n2 k2
def shapes : Pats → List Form → Prop
 | .nil, fs => fs = []
 | .cons op t n ks r, fs => ∃ f fs', fs = f :: fs' ∧ shape f op t n ks ∧ shapes r fs'
theorem node_shape {srcs op : Int} {t : Test} {n : Int} {ks : Pats} (h : nodeP srcs op t n ks = true) (hk : ks.ok srcs = true) (hs : ∃ fs, shapes ks fs) : ∃ f, shape f op t n ks := by
 unfold nodeP at h
 simp only [Bool.and_eq_true, decide_eq_true_eq] at h
 obtain ⟨⟨⟨⟨hlen, hn⟩, ht⟩, hn0⟩, hop⟩ := h
 unfold kidsP at hlen
 obtain ⟨fs, hfs⟩ := hs
 by_cases h1 : op = 1
 ·subst h1
  rw [if_pos rfl] at hlen
  rw [if_pos (Or.inl rfl)] at hn0
  cases ks with
  | nil => exact ⟨.one t, rfl, rfl, by simpa using hn0, rfl⟩
  | cons _ _ _ _ _ => simp [Pats.len] at hlen; omega
 ·rw [if_neg h1] at hlen ht
  have ht' : t = zeroT := by simpa using ht
  by_cases h4 : op = 4
  ·subst h4
   rw [if_pos rfl] at hlen
   match ks, hlen, hfs with
   | .nil, hlen, _ => simp [Pats.len] at hlen
   | .cons o1 t1 n1 k1 .nil, _, ⟨f, _, _, hf, _⟩ => exact ⟨.many n f, rfl, ht', rfl, o1, t1, n1, k1, rfl, hf⟩
   | .cons _ _ _ _ (.cons _ _ _ _ _), hlen, _ => simp [Pats.len] at hlen; omega
  ·rw [if_neg h4] at hlen
   by_cases h23 : op = 2 ∨ op = 3
   ·rw [if_pos h23] at hlen
    match ks, hlen, hfs with
    | .nil, hlen, _ => simp [Pats.len] at hlen
    | .cons _ _ _ _ .nil, hlen, _ => simp [Pats.len] at hlen
    | .cons o1 t1 n1 k1 (.cons o2 t2 n2 k2 .nil), _, ⟨f, _, _, hf, g, _, _, hg, _⟩ =>
     rcases h23 with h2 | h3
     ·exact ⟨.thn n f g, h2, ht', rfl, o1, t1, n1, k1, o2, t2, n2, k2, rfl, hf, hg⟩
     ·refine ⟨.or f g, h3, ht', ?_, o1, t1, n1, k1, o2, t2, n2, k2, rfl, hf, hg⟩
      rw [if_pos (Or.inr h3)] at hn0
      simpa using hn0
    | .cons _ _ _ _ (.cons _ _ _ _ (.cons _ _ _ _ _)), hlen, _ => simp [Pats.len] at hlen; omega
   ·rw [if_neg h23] at hlen
    by_cases h5 : op = 5
    ·rw [if_pos h5] at hlen hop
     match ks, hlen, hfs, hop, hk with
     | .nil, hlen, _, _, _ => simp [Pats.len] at hlen
     | .cons _ _ _ _ .nil, hlen, _, _, _ => simp [Pats.len] at hlen
     | .cons _ _ _ _ (.cons _ _ _ _ .nil), hlen, _, _, _ => simp [Pats.len] at hlen
     | .cons o1 t1 n1 k1 (.cons oc tc nc kc (.cons o2 t2 n2 k2 .nil)), _, ⟨f, _, _, hf, c, _, _, hc, g, _, _, hg, _⟩, hop, hk =>
      have hoc : oc = 1 := by simpa [Pats.op2] using hop
      subst hoc
      have hc1 : nc = 0 ∧ kc = .nil := by
       simp only [Pats.ok, Bool.and_eq_true] at hk
       have hnode := hk.2.1.1
       unfold nodeP kidsP at hnode
       simp at hnode
       refine ⟨by omega, ?_⟩
       cases kc with
       | nil => rfl
       | cons _ _ _ _ _ => simp [Pats.len] at hnode
      obtain ⟨rfl, rfl⟩ := hc1
      exact ⟨.lack n f tc g, h5, ht', rfl, o1, t1, n1, k1, o2, t2, n2, k2, rfl, hf, hg⟩
     | .cons _ _ _ _ (.cons _ _ _ _ (.cons _ _ _ _ (.cons _ _ _ _ _))), hlen, _, _, _ => simp [Pats.len] at hlen; omega
    ·rw [if_neg h5] at hlen
     omega
theorem shapes_ex (srcs : Int) : ∀ ks : Pats, ks.ok srcs = true → ∃ fs, shapes ks fs
 | .nil, _ => ⟨[], rfl⟩
 | .cons op t n ks r, h => by
  simp only [Pats.ok, Bool.and_eq_true] at h
  obtain ⟨f, hf⟩ := node_shape h.1.1 h.1.2 (shapes_ex srcs ks h.1.2)
  obtain ⟨fs, hfs⟩ := shapes_ex srcs r h.2
  exact ⟨f :: fs, f, fs, rfl, hf, hfs⟩
theorem shape_ex {srcs op : Int} {t : Test} {n : Int} {ks : Pats} (h : patP srcs op t n ks = true) : ∃ f, shape f op t n ks := by
 unfold patP at h
 simp only [Bool.and_eq_true] at h
 exact node_shape h.1.1.1 h.1.1.2 (shapes_ex srcs ks h.1.1.2)
def beforeP (a b : Ev) : Bool := if a.at_ ≠ b.at_ then decide (a.at_ < b.at_) else if a.src ≠ b.src then decide (a.src < b.src) else decide (a.id < b.id)
def evOk (srcs : Int) (e : Ev) : Bool := inP e.src 0 (srcs - 1) && inP e.id 0 999 && inP e.at_ 0 200 && inP e.key (-1000000000) 1000000000 && inP e.val (-1000000000) 1000000000
def evGood (srcs : Int) (l : List Ev) (i : Nat) : Bool :=
 match l[i]? with
 | none => true
 | some e => evOk srcs e && (decide (i = 0) || beforeP ((l[i - 1]?).getD default) e) && (l.take i).all fun d => !(decide (d.src = e.src) && decide (d.id = e.id))
def eventsP (srcs : Int) (l : List Ev) : Bool := inP srcs 1 4 && decide (l.length ≤ 60) && (List.range l.length).all (evGood srcs l)
theorem ev_step {srcs : Int} {l : List Ev} (h : eventsP srcs l = true) {i : Nat} (hi : i + 1 < l.length) : (evAt l i).at_ ≤ (evAt l (i + 1 : Nat)).at_ := by
 unfold eventsP at h
 simp only [Bool.and_eq_true, List.all_eq_true] at h
 have hg := h.2 (i + 1) (List.mem_range.2 hi)
 have e1 : l[i + 1]? = some l[i + 1] := List.getElem?_eq_getElem hi
 have e0 : l[i]? = some l[i] := List.getElem?_eq_getElem (by omega)
 unfold evGood at hg
 rw [e1] at hg
 simp only [Bool.and_eq_true, Nat.add_sub_cancel, e0, Option.getD_some] at hg
 have hb := hg.1.2
 rw [decide_eq_false (by omega), Bool.false_or] at hb
 unfold evAt
 rw [Int.toNat_natCast, Int.toNat_natCast, e0, e1, Option.getD_some, Option.getD_some]
 unfold beforeP at hb
 split at hb
 ·simp only [decide_eq_true_eq] at hb; omega
 ·omega
theorem ev_mono {srcs : Int} {l : List Ev} (h : eventsP srcs l = true) : ∀ (d i : Nat), i + d < l.length → (evAt l i).at_ ≤ (evAt l (i + d : Nat)).at_
 | 0, i, _ => Int.le_refl _
 | d + 1, i, hd => Int.le_trans (ev_mono h d i (by omega)) (ev_step h (i := i + d) (by omega))
def askedP (l : List Ev) (m : List Int) (within : Int) (same : Bool) : Bool := decide ((evAt l (lastI m)).at_ - (evAt l (headI m)).at_ ≤ within) && (!same || m.all fun i => decide ((evAt l i).key = (evAt l (headI m)).key))
theorem near_asked {srcs : Int} {l : List Ev} (h : eventsP srcs l = true) {m : List Int} (hm : m ≠ []) (hr : ∀ i ∈ m, 0 ≤ i ∧ i ≤ lastI m ∧ i < l.length) (within : Int) (same : Bool) : nearP l m within same = askedP l m within same := by
 have hl : lastI m ∈ m := by
  unfold lastI
  cases hg : m.getLast? with
  | none => exact absurd (List.getLast?_eq_none_iff.1 hg) hm
  | some z => rw [List.getLastD_eq_getLast?, hg]; exact List.mem_of_getLast? hg
 rw [Bool.eq_iff_iff]
 unfold nearP askedP
 simp only [List.all_eq_true, Bool.and_eq_true, decide_eq_true_eq, Bool.or_eq_true]
 constructor
 ·intro hh
  refine ⟨(hh _ hl).1, ?_⟩
  cases same with
  | false => exact .inl rfl
  | true => exact .inr fun i hi => (hh i hi).2.resolve_left (by simp)
 ·rintro ⟨h1, h2⟩ i hi
  obtain ⟨a, b, c⟩ := hr i hi
  obtain ⟨a', b', c'⟩ := hr _ hl
  have := ev_mono h ((lastI m).toNat - i.toNat) i.toNat (by omega)
  rw [show (i.toNat : Int) = i by omega, show ((i.toNat + ((lastI m).toNat - i.toNat) : Nat) : Int) = lastI m by omega] at this
  refine ⟨by omega, ?_⟩
  rcases h2 with h2 | h2
  ·exact .inl h2
  ·exact .inr (h2 i hi)
theorem run_final {A : Nat → List (List Int)} {own : List Beg} (h : Kept A own) (last : List Int) (hl : ∀ p ∈ last, 0 ≤ p) (q : List Int → Bool) :
 setO ordL (last.flatMap fun p => (A p.toNat).filter q) = setO ordL ((own.filter fun y => last.contains y.2 && q y.1).map (·.1)) := by
 refine setO_unique ordL_laws (setO_sorted ordL_laws _) fun x => ?_
 rw [mem_setO ordL_laws]
 simp only [List.mem_flatMap, List.mem_filter, List.mem_map, Bool.and_eq_true, List.contains_iff_mem]
 constructor
 ·rintro ⟨p, hp, hx, hq⟩
  have h0 := hl p hp
  have := (h.mem _ _).1 hx
  rw [show ((p.toNat : Nat) : Int) = p by omega] at this
  exact ⟨(x, p), ⟨this, hp, hq⟩, rfl⟩
 ·rintro ⟨⟨z, p⟩, ⟨h1, h2, h3⟩, rfl⟩
  have h0 := hl p h2
  refine ⟨p, h2, (h.mem _ _).2 ?_, h3⟩
  rw [show ((p.toNat : Nat) : Int) = p by omega]
  exact h1
end
section
inductive Lang (l : List Ev) : Form → List Int → Prop
 | one {t : Test} {i : Int} : 0 ≤ i → i < l.length → holdsP t (evAt l i) = true → Lang l (.one t) [i]
 | orl {a b : Form} {x : List Int} : Lang l a x → Lang l (.or a b) x
 | orr {a b : Form} {x : List Int} : Lang l b x → Lang l (.or a b) x
 | thn {n : Int} {a b : Form} {x y : List Int} : Lang l a x → Lang l b y → linkP l n none (lastI x) (headI y) = true → Lang l (.thn n a b) (x ++ y)
 | lack {n : Int} {a b : Form} {t : Test} {x y : List Int} : Lang l a x → Lang l b y → linkP l n (some t) (lastI x) (headI y) = true → Lang l (.lack n a t b) (x ++ y)
 | once {n : Int} {a : Form} {x : List Int} : Lang l a x → Lang l (.many n a) x
 | more {n : Int} {a : Form} {x y : List Int} : Lang l a x → Lang l (.many n a) y → linkP l n none (lastI x) (headI y) = true → Lang l (.many n a) (x ++ y)
section
variable {l : List Ev}
theorem headI_append {x y : List Int} (h : x ≠ []) : headI (x ++ y) = headI x := by cases x with
 | nil => exact absurd rfl h
 | cons a x => rfl
theorem lastI_append {x y : List Int} (h : y ≠ []) : lastI (x ++ y) = lastI y := by
 unfold lastI
 rw [List.getLastD_eq_getLast?, List.getLastD_eq_getLast?, List.getLast?_append]
 cases hy : y.getLast? with
 | none => exact absurd (List.getLast?_eq_none_iff.1 hy) h
 | some z => rfl
theorem headI_mem {x : List Int} (h : x ≠ []) : headI x ∈ x := by cases x with
 | nil => exact absurd rfl h
 | cons a x => exact List.mem_cons_self
theorem lastI_mem {x : List Int} (h : x ≠ []) : lastI x ∈ x := by
 unfold lastI
 rw [List.getLastD_eq_getLast?]
 cases hg : x.getLast? with
 | none => exact absurd (List.getLast?_eq_none_iff.1 hg) h
 | some z => exact List.mem_of_getLast? hg
theorem link_lt {n : Int} {lk : Option Test} {a b : Int} (h : linkP l n lk a b = true) : a < b := by
 unfold linkP followsP at h
 simp only [Bool.and_eq_true, decide_eq_true_eq] at h
 exact h.1.1
def incI (l : List Ev) (x : List Int) : Prop := x ≠ [] ∧ x.Pairwise (· < ·) ∧ ∀ i ∈ x, 0 ≤ i ∧ i < l.length
theorem incI_last {x : List Int} (h : x.Pairwise (· < ·)) : ∀ i ∈ x, i ≤ lastI x := by
 intro i hi
 have hne : x ≠ [] := List.ne_nil_of_mem hi
 obtain ⟨s, z, rfl⟩ : ∃ s z, x = s ++ [z] := ⟨x.dropLast, x.getLast hne, (List.dropLast_concat_getLast hne).symm⟩
 rw [lastI_append (by simp)]
 show i ≤ z
 rcases List.mem_append.1 hi with h1 | h1
 ·exact Int.le_of_lt ((List.pairwise_append.1 h).2.2 i h1 z (by simp))
 ·simp at h1; omega
theorem incI_head {x : List Int} (h : x.Pairwise (· < ·)) : ∀ i ∈ x, headI x ≤ i := by
 intro i hi
 cases x with
 | nil => cases hi
 | cons a x =>
  show a ≤ i
  rcases List.mem_cons.1 hi with rfl | h1
  ·exact Int.le_refl _
  ·exact Int.le_of_lt ((List.pairwise_cons.1 h).1 i h1)
theorem incI_append {x y : List Int} (hx : incI l x) (hy : incI l y) (h : lastI x < headI y) : incI l (x ++ y) := by
 refine ⟨by simp [hx.1], List.pairwise_append.2 ⟨hx.2.1, hy.2.1, fun a ha b hb => ?_⟩, fun i hi => ?_⟩
 ·have := incI_last hx.2.1 a ha
  have := incI_head hy.2.1 b hb
  omega
 ·rcases List.mem_append.1 hi with h1 | h1
  ·exact hx.2.2 i h1
  ·exact hy.2.2 i h1
theorem lang_inc {p : Form} {x : List Int} (h : Lang l p x) : incI l x := by
 induction h with
 | one h0 h1 _ => exact ⟨by simp, by simp, fun i hi => by simp at hi; subst hi; exact ⟨h0, h1⟩⟩
 | orl _ ih => exact ih
 | orr _ ih => exact ih
 | thn _ _ hk iha ihb => exact incI_append iha ihb (link_lt hk)
 | lack _ _ hk iha ihb => exact incI_append iha ihb (link_lt hk)
 | once _ ih => exact ih
 | more _ _ hk iha ihb => exact incI_append iha ihb (link_lt hk)
theorem incI_length {x : List Int} (h : incI l x) : x.length ≤ l.length := by
 have hn : (x.map Int.toNat).Nodup := by
  refine List.nodup_iff_pairwise_ne.2 (List.pairwise_map.2 ?_)
  refine List.Pairwise.imp_of_mem ?_ h.2.1
  intro a b ha hb hab
  have := h.2.2 a ha
  have := h.2.2 b hb
  omega
 have := nodup_length (b := List.range l.length) hn fun y hy => by
  obtain ⟨i, hi, rfl⟩ := List.mem_map.1 hy
  have := h.2.2 i hi
  exact List.mem_range.2 (by omega)
 simpa using this
theorem mem_oneFrom {t : Test} {x : List Int} : ∀ (s : List Ev) (i : Int), x ∈ oneFrom t s i ↔ ∃ k : Nat, k < s.length ∧ x = [i + k] ∧ holdsP t ((s[k]?).getD default) = true
 | [], i => by simp [oneFrom]
 | e :: s, i => by
  have ih := mem_oneFrom (t := t) (x := x) s (i + 1)
  rw [oneFrom]
  constructor
  ·intro h
   have h' : (holdsP t e = true ∧ x = [i]) ∨ x ∈ oneFrom t s (i + 1) := by
    split at h
    ·rename_i he
     rcases List.mem_cons.1 h with h | h
     ·exact .inl ⟨he, h⟩
     ·exact .inr h
    ·exact .inr h
   rcases h' with ⟨he, rfl⟩ | h
   ·exact ⟨0, by simp, by simp, by simpa using he⟩
   ·obtain ⟨k, h1, h2, h3⟩ := ih.1 h
    exact ⟨k + 1, by simp; omega, by rw [h2]; congr 1; omega, by simpa using h3⟩
  ·rintro ⟨k, h1, h2, h3⟩
   cases k with
   | zero =>
    have he : holdsP t e = true := by simpa using h3
    rw [if_pos he, h2]
    simp
   | succ k =>
    have : x ∈ oneFrom t s (i + 1) := ih.2 ⟨k, by simp at h1; omega, by rw [h2]; congr 1; omega, by simpa using h3⟩
    split
    ·exact List.mem_cons_of_mem _ this
    ·exact this
theorem oneFrom_sorted {t : Test} : ∀ (s : List Ev) (i : Int), sortedO ordL (oneFrom t s i) ∧ (oneFrom t s i).length ≤ s.length
 | [], i => ⟨.nil, Nat.le_refl _⟩
 | e :: s, i => by
  obtain ⟨h1, h2⟩ := oneFrom_sorted (t := t) s (i + 1)
  rw [oneFrom]
  split
  ·refine ⟨List.pairwise_cons.2 ⟨fun y hy => ?_, h1⟩, by simp; omega⟩
   obtain ⟨k, _, rfl, _⟩ := (mem_oneFrom s (i + 1)).1 hy
   rw [ordL, if_pos (by omega)]; omega
  ·exact ⟨h1, by simp; omega⟩
def itJ (l : List Ev) (n : Int) (own : List (List Int)) : Nat → List (List Int)
 | 0 => own
 | k + 1 => setO ordL (joinP l n none (itJ l n own k) own)
theorem itJ_nil {n : Int} {own : List (List Int)} {k : Nat} (h : itJ l n own k = []) : ∀ d, itJ l n own (k + d) = []
 | 0 => h
 | d + 1 => by rw [Nat.add_succ, itJ, itJ_nil h d]; rfl
theorem again_mem {n : Int} {own : List (List Int)} : ∀ (q k : Nat) (out res : List (List Int)), sortedO ordL out → out.length ≤ 200 → againP l n own q out (itJ l n own k) = some res → sortedO ordL res ∧ res.length ≤ 200 ∧ ∀ x, x ∈ res ↔ x ∈ out ∨ ∃ j, k < j ∧ j ≤ k + q ∧ x ∈ itJ l n own j
 | 0, k, out, res, h1, h2, h => by
  rw [againP] at h
  injection h with h
  subst h
  exact ⟨h1, h2, fun x => ⟨.inl, fun h => h.elim id fun ⟨j, a, b, _⟩ => by omega⟩⟩
 | q + 1, k, out, res, h1, h2, h => by
  rw [againP] at h
  split at h
  ·rename_i he
   injection h with h
   subst h
   refine ⟨h1, h2, fun x => ⟨.inl, fun h => h.elim id fun ⟨j, a, b, hx⟩ => ?_⟩⟩
   obtain ⟨d, rfl⟩ : ∃ d, j = k + d := ⟨j - k, by omega⟩
   rw [itJ_nil he d] at hx
   cases hx
  ·dsimp only at h
   split at h
   ·rename_i hl
    obtain ⟨a, b, c⟩ := again_mem q (k + 1) _ res (setO_sorted ordL_laws _) hl h
    refine ⟨a, b, fun x => ?_⟩
    rw [c, mem_setO ordL_laws, List.mem_append]
    constructor
    ·rintro ((h | h) | ⟨j, h3, h4, h5⟩)
     ·exact .inl h
     ·exact .inr ⟨k + 1, by omega, by omega, h⟩
     ·exact .inr ⟨j, by omega, by omega, h5⟩
    ·rintro (h | ⟨j, h3, h4, h5⟩)
     ·exact .inl (.inl h)
     ·by_cases hj : j = k + 1
      ·subst hj; exact .inl (.inr h5)
      ·exact .inr ⟨j, by omega, by omega, h5⟩
   ·cases h
theorem lang_append {n : Int} {a : Form} {x y : List Int} (hx : Lang l (.many n a) x) (hy : Lang l a y) (hk : linkP l n none (lastI x) (headI y) = true) : Lang l (.many n a) (x ++ y) := by
 generalize hp : Form.many n a = p at hx
 induction hx with
 | one => cases hp
 | orl => cases hp
 | orr => cases hp
 | thn => cases hp
 | lack => cases hp
 | once h => cases hp; exact .more h (.once hy) hk
 | more h1 h2 h3 _ ih =>
  cases hp
  rw [List.append_assoc]
  rw [lastI_append (lang_inc h2).1] at hk
  exact .more h1 (ih hk rfl) (by rw [headI_append (lang_inc h2).1]; exact h3)
theorem itJ_lang {n : Int} {a : Form} {own : List (List Int)} (ho : ∀ x, x ∈ own ↔ Lang l a x) : ∀ (j : Nat) (x : List Int), x ∈ itJ l n own j → Lang l (.many n a) x
 | 0, x, h => .once ((ho x).1 h)
 | j + 1, x, h => by
  rw [itJ, mem_setO ordL_laws, mem_joinP] at h
  obtain ⟨y, hy, z, hz, hk, rfl⟩ := h
  exact lang_append (itJ_lang ho j y hy) ((ho z).1 hz) hk
theorem lang_itJ {n : Int} {a : Form} {own : List (List Int)} (ho : ∀ x, x ∈ own ↔ Lang l a x) {x : List Int} (h : Lang l (.many n a) x) : ∃ j, j < x.length ∧ x ∈ itJ l n own j := by
 have pre : ∀ (j : Nat) (x y : List Int), Lang l a x → y ∈ itJ l n own j → linkP l n none (lastI x) (headI y) = true → x ++ y ∈ itJ l n own (j + 1) := by
  intro j
  induction j with
  | zero =>
   intro x y hx hy hk
   rw [itJ, mem_setO ordL_laws, mem_joinP]
   exact ⟨x, (ho x).2 hx, y, hy, hk, rfl⟩
  | succ j ih =>
   intro x y hx hy hk
   rw [itJ, mem_setO ordL_laws, mem_joinP] at hy
   obtain ⟨u, hu, v, hv, hk2, rfl⟩ := hy
   have hun := (lang_inc (itJ_lang ho j u hu)).1
   rw [headI_append hun] at hk
   have := ih x u hx hu hk
   rw [itJ, mem_setO ordL_laws, mem_joinP]
   exact ⟨x ++ u, this, v, hv, by rw [lastI_append hun]; exact hk2, (List.append_assoc _ _ _).symm⟩
 generalize hp : Form.many n a = p at h
 induction h with
 | one => cases hp
 | orl => cases hp
 | orr => cases hp
 | thn => cases hp
 | lack => cases hp
 | once h =>
  cases hp
  exact ⟨0, by have := (lang_inc h).1; exact List.length_pos_iff.2 this, (ho _).2 h⟩
 | more h1 h2 h3 _ ih =>
  cases hp
  obtain ⟨j, h4, h5⟩ := ih rfl
  refine ⟨j + 1, ?_, pre j _ _ h1 h5 h3⟩
  have := List.length_pos_iff.2 (lang_inc h1).1
  rw [List.length_append]; omega
theorem lim_some {m r : List (List Int)} (h : lim m = some r) : r = m ∧ m.length ≤ 200 := by
 unfold lim at h
 split at h
 ·injection h with h; exact ⟨h.symm, by assumption⟩
 ·cases h
theorem all_lang (hl : l.length ≤ 200) : ∀ (p : Form) (m : List (List Int)), allP l p = some m → sortedO ordL m ∧ m.length ≤ 200 ∧ ∀ x, x ∈ m ↔ Lang l p x
 | .one t, m, h => by
  rw [allP] at h
  injection h with h
  subst h
  obtain ⟨h1, h2⟩ := oneFrom_sorted (t := t) l 0
  refine ⟨h1, by omega, fun x => ?_⟩
  rw [mem_oneFrom]
  constructor
  ·rintro ⟨k, h1, rfl, h3⟩
   refine .one (by omega) (by omega) ?_
   unfold evAt
   rw [show (0 + (k : Int)).toNat = k by omega]
   exact h3
  ·intro h
   cases h with
   | one h0 h1 h2 =>
    rename_i i
    refine ⟨i.toNat, by omega, by congr 1; omega, h2⟩
 | .thn n a b, m, h => by
  rw [allP] at h
  cases ha : allP l a with
  | none => rw [ha] at h; cases h
  | some x =>
   cases hb : allP l b with
   | none => rw [ha, hb] at h; cases h
   | some y =>
    rw [ha, hb] at h
    obtain ⟨rfl, hlen⟩ := lim_some h
    obtain ⟨_, _, ma⟩ := all_lang hl a x ha
    obtain ⟨_, _, mb⟩ := all_lang hl b y hb
    refine ⟨setO_sorted ordL_laws _, hlen, fun z => ?_⟩
    rw [mem_setO ordL_laws, mem_joinP]
    constructor
    ·rintro ⟨u, hu, v, hv, hk, rfl⟩; exact .thn ((ma u).1 hu) ((mb v).1 hv) hk
    ·intro h
     cases h with
     | thn h1 h2 h3 => exact ⟨_, (ma _).2 h1, _, (mb _).2 h2, h3, rfl⟩
 | .lack n a t b, m, h => by
  rw [allP] at h
  cases ha : allP l a with
  | none => rw [ha] at h; cases h
  | some x =>
   cases hb : allP l b with
   | none => rw [ha, hb] at h; cases h
   | some y =>
    rw [ha, hb] at h
    obtain ⟨rfl, hlen⟩ := lim_some h
    obtain ⟨_, _, ma⟩ := all_lang hl a x ha
    obtain ⟨_, _, mb⟩ := all_lang hl b y hb
    refine ⟨setO_sorted ordL_laws _, hlen, fun z => ?_⟩
    rw [mem_setO ordL_laws, mem_joinP]
    constructor
    ·rintro ⟨u, hu, v, hv, hk, rfl⟩; exact .lack ((ma u).1 hu) ((mb v).1 hv) hk
    ·intro h
     cases h with
     | lack h1 h2 h3 => exact ⟨_, (ma _).2 h1, _, (mb _).2 h2, h3, rfl⟩
 | .or a b, m, h => by
  rw [allP] at h
  cases ha : allP l a with
  | none => rw [ha] at h; cases h
  | some x =>
   cases hb : allP l b with
   | none => rw [ha, hb] at h; cases h
   | some y =>
    rw [ha, hb] at h
    obtain ⟨rfl, hlen⟩ := lim_some h
    obtain ⟨_, _, ma⟩ := all_lang hl a x ha
    obtain ⟨_, _, mb⟩ := all_lang hl b y hb
    refine ⟨setO_sorted ordL_laws _, hlen, fun z => ?_⟩
    rw [mem_setO ordL_laws, List.mem_append, ma, mb]
    constructor
    ·rintro (h | h)
     ·exact .orl h
     ·exact .orr h
    ·intro h
     cases h with
     | orl h => exact .inl h
     | orr h => exact .inr h
 | .many n a, m, h => by
  rw [allP] at h
  cases ha : allP l a with
  | none => rw [ha] at h; cases h
  | some x =>
   rw [ha] at h
   obtain ⟨sa, la, ma⟩ := all_lang hl a x ha
   obtain ⟨h1, h2, h3⟩ := again_mem (l.length + 1) 0 x m sa la h
   refine ⟨h1, h2, fun z => ?_⟩
   rw [h3]
   constructor
   ·rintro (h | ⟨j, _, _, h⟩)
    ·exact .once ((ma z).1 h)
    ·exact itJ_lang ma j z h
   ·intro h
    obtain ⟨j, h4, h5⟩ := lang_itJ ma h
    have := incI_length (lang_inc h)
    cases j with
    | zero => exact .inl h5
    | succ j => exact .inr ⟨j + 1, by omega, by omega, h5⟩
end
end
section
section
variable {l : List Ev} {τ : Int → Test}
def within2 (lo hi : Int) (F : List Int) (E : List Edge) : Prop := (∀ f ∈ F, lo ≤ f ∧ f < hi) ∧ ∀ e ∈ E, (lo ≤ e.from_ ∧ e.from_ < hi) ∧ lo ≤ e.to_ ∧ e.to_ < hi
theorem mem_linkE {n : Int} {lk : Option Test} {a b : List Int} {e : Edge} : e ∈ linkE n lk a b ↔ ∃ x ∈ a, ∃ y ∈ b, e = ⟨x, y, n, lk.isSome, lk.getD zeroT⟩ := by
 unfold linkE
 simp only [List.mem_flatMap, List.mem_map]
 constructor
 ·rintro ⟨x, hx, y, hy, rfl⟩; exact ⟨x, hx, y, hy, rfl⟩
 ·rintro ⟨x, hx, y, hy, rfl⟩; exact ⟨x, hx, y, hy, rfl⟩
theorem makeP_within : ∀ (p : Form) (f : Int), within2 f (f + (makeP p f).tests.length) (makeP p f).first (makeP p f).follow
 | .one t, f => ⟨(makeP_places (.one t) f).1, fun e he => by simp [makeP] at he⟩
 | .thn n a b, f => by
  refine ⟨(makeP_places (.thn n a b) f).1, fun e he => ?_⟩
  obtain ⟨_, a2⟩ := makeP_within a f
  obtain ⟨_, b2⟩ := makeP_within b (f + (makeP a f).tests.length)
  obtain ⟨_, a4, _, _⟩ := makeP_places a f
  obtain ⟨b3, _, _, _⟩ := makeP_places b (f + (makeP a f).tests.length)
  simp only [makeP, List.length_append] at he ⊢
  rcases List.mem_append.1 he with he | he
  ·rcases List.mem_append.1 he with he | he
   ·have := a2 e he; omega
   ·have := b2 e he; omega
  ·obtain ⟨x, hx, y, hy, rfl⟩ := mem_linkE.1 he
   have := a4 x hx
   have := b3 y hy
   dsimp only
   omega
 | .lack n a t b, f => by
  refine ⟨(makeP_places (.lack n a t b) f).1, fun e he => ?_⟩
  obtain ⟨_, a2⟩ := makeP_within a f
  obtain ⟨_, b2⟩ := makeP_within b (f + (makeP a f).tests.length)
  obtain ⟨_, a4, _, _⟩ := makeP_places a f
  obtain ⟨b3, _, _, _⟩ := makeP_places b (f + (makeP a f).tests.length)
  simp only [makeP, List.length_append] at he ⊢
  rcases List.mem_append.1 he with he | he
  ·rcases List.mem_append.1 he with he | he
   ·have := a2 e he; omega
   ·have := b2 e he; omega
  ·obtain ⟨x, hx, y, hy, rfl⟩ := mem_linkE.1 he
   have := a4 x hx
   have := b3 y hy
   dsimp only
   omega
 | .or a b, f => by
  refine ⟨(makeP_places (.or a b) f).1, fun e he => ?_⟩
  obtain ⟨_, a2⟩ := makeP_within a f
  obtain ⟨_, b2⟩ := makeP_within b (f + (makeP a f).tests.length)
  simp only [makeP, List.length_append] at he ⊢
  rcases List.mem_append.1 he with he | he
  ·have := a2 e he; omega
  ·have := b2 e he; omega
 | .many n a, f => by
  refine ⟨(makeP_places (.many n a) f).1, fun e he => ?_⟩
  obtain ⟨_, a2⟩ := makeP_within a f
  obtain ⟨a3, a4, _, _⟩ := makeP_places a f
  simp only [makeP] at he ⊢
  rcases List.mem_append.1 he with he | he
  ·exact a2 e he
  ·obtain ⟨x, hx, y, hy, rfl⟩ := mem_linkE.1 he
   have := a4 x hx
   have := a3 y hy
   dsimp only
   omega
end
end
section
theorem mem_compactL {α : Type} [DecidableEq α] (z : α) : ∀ l : List α, z ∈ compactL l ↔ z ∈ l
 | [] => Iff.rfl
 | [x] => Iff.rfl
 | x :: y :: l => by
  rw [compactL]
  split
  ·rename_i h
   subst h
   rw [mem_compactL z (x :: l)]
   simp
  ·rw [List.mem_cons, mem_compactL z (y :: l), List.mem_cons, List.mem_cons, List.mem_cons]
theorem compact_sorted {α : Type} [DecidableEq α] {o : α → α → Int} (h : Ord3 o) : ∀ l : List α, (l.Pairwise fun x y => o x y ≤ 0) → sortedO o (compactL l)
 | [], _ => .nil
 | [x], _ => by simp [compactL, sortedO]
 | x :: y :: l, hs => by
  obtain ⟨h1, h2⟩ := List.pairwise_cons.1 hs
  have ih := compact_sorted h (y :: l) h2
  rw [compactL]
  split
  ·exact ih
  ·rename_i hne
   refine List.pairwise_cons.2 ⟨fun z hz => ?_, ih⟩
   have hxy : o x y < 0 := by
    have := h1 y List.mem_cons_self
    have : ¬ o x y = 0 := fun e => hne ((h.eq _ _).1 e)
    omega
   rcases List.mem_cons.1 ((mem_compactL z (y :: l)).1 hz) with rfl | hz
   ·exact hxy
   ·have hyz := (List.pairwise_cons.1 h2).1 z hz
    by_cases e : o y z = 0
    ·rw [← (h.eq _ _).1 e]; exact hxy
    ·exact h.trans _ _ _ hxy (by omega)
theorem compact_set {α : Type} [DecidableEq α] {o : α → α → Int} (h : Ord3 o) {l : List α} (hs : l.Pairwise fun x y => o x y ≤ 0) : compactL l = setO o l :=
 setO_unique h (compact_sorted h l hs) fun x => mem_compactL x l
theorem setO_perm {α : Type} {o : α → α → Int} (h : Ord3 o) {l m : List α} (hp : l.Perm m) : setO o l = setO o m :=
 setO_unique h (setO_sorted h l) fun x => by rw [mem_setO h, hp.mem_iff]
theorem unique_set {l s : List (List Int)} (hp : s.Perm l) (hs : s.Pairwise fun x y => ordL x y ≤ 0) : compactL s = setO ordL l := by rw [compact_set ordL_laws hs, setO_perm ordL_laws hp]
theorem compact_snoc {α : Type} [DecidableEq α] : ∀ (l : List α) (x y : α), compactL (l ++ [x, y]) = if x = y then compactL (l ++ [x]) else compactL (l ++ [x]) ++ [y]
 | [], x, y => by
  show compactL [x, y] = _
  rw [compactL]
  split
  ·rename_i h; subst h; simp [compactL]
  ·simp [compactL]
 | [a], x, y => by
  show compactL (a :: x :: [y]) = _
  have ih := compact_snoc [] x y
  rw [compactL]
  show (if a = x then compactL ([] ++ [x, y]) else a :: compactL ([] ++ [x, y])) = _
  rw [ih]
  show _ = if x = y then compactL (a :: x :: []) else compactL (a :: x :: []) ++ [y]
  rw [show compactL (a :: x :: []) = if a = x then compactL [x] else a :: compactL [x] from by rw [compactL]]
  split <;> split <;> simp
 | a :: b :: l, x, y => by
  have ih := compact_snoc (b :: l) x y
  simp only [List.cons_append] at ih ⊢
  rw [compactL, compactL, ih]
  split <;> split <;> simp
end
section
variable {l : List Ev}
theorem itJ_inc {n : Int} {own : List (List Int)} (ho : ∀ x ∈ own, incI l x) : ∀ (k : Nat) (x : List Int), x ∈ itJ l n own k → incI l x ∧ k + 1 ≤ x.length
 | 0, x, h => ⟨ho x h, by have := (ho x h).1; cases x with | nil => exact absurd rfl this | cons => simp⟩
 | k + 1, x, h => by
  rw [itJ, mem_setO ordL_laws, mem_joinP] at h
  obtain ⟨y, hy, z, hz, hl, rfl⟩ := h
  obtain ⟨h1, h2⟩ := itJ_inc ho k y hy
  have h3 := ho z hz
  refine ⟨incI_append h1 h3 (link_lt hl), ?_⟩
  have : 0 < z.length := by cases z with | nil => exact absurd rfl h3.1 | cons => simp
  rw [List.length_append]; omega
theorem itJ_end {n : Int} {own : List (List Int)} (ho : ∀ x ∈ own, incI l x) {k : Nat} (h : itJ l n own k ≠ []) : k < l.length := by
 obtain ⟨x, hx⟩ := List.exists_mem_of_ne_nil _ h
 obtain ⟨h1, h2⟩ := itJ_inc ho k x hx
 have := incI_length h1
 omega
theorem again_step {n : Int} {own : List (List Int)} (ho : ∀ x ∈ own, incI l x) {k : Nat} {out : List (List Int)} (h : itJ l n own k ≠ []) :
 againP l n own (l.length + 1 - k) out (itJ l n own k) = (lim (setO ordL (out ++ itJ l n own (k + 1)))).bind fun o => againP l n own (l.length + 1 - (k + 1)) o (itJ l n own (k + 1)) := by
 have hk := itJ_end ho h
 rw [show l.length + 1 - k = (l.length + 1 - (k + 1)) + 1 by omega, againP, if_neg h]
 show (if (setO ordL (out ++ itJ l n own (k + 1))).length ≤ 200 then _ else none) = _
 unfold lim
 split <;> rfl
theorem again_none {n : Int} {own : List (List Int)} (q : Nat) {out : List (List Int)} : againP l n own q out [] = some out := by cases q <;> simp [againP]
def rawP (l : List Ev) : Form → Option (List (List Int))
 | .one t => some (oneFrom t l 0)
 | .thn n a b => do let x ← allP l a; let y ← allP l b; some (joinP l n none x y)
 | .or a b => do let x ← allP l a; let y ← allP l b; some (x ++ y)
 | .many n a => do let x ← allP l a; againP l n x (l.length + 1) x x
 | .lack n a t b => do let x ← allP l a; let y ← allP l b; some (joinP l n (some t) x y)
theorem allP_raw (hl : l.length ≤ 200) (f : Form) : allP l f = (rawP l f).bind fun m => lim (setO ordL m) := by
 cases f with
 | one t =>
  have h := oneFrom_sorted (t := t) l 0
  show some _ = lim (setO ordL (oneFrom t l 0))
  rw [setO_sortedId ordL_laws h.1, lim, if_pos (by omega)]
 | thn n a b => simp only [allP, rawP]; cases allP l a <;> cases allP l b <;> rfl
 | or a b => simp only [allP, rawP]; cases allP l a <;> cases allP l b <;> rfl
 | lack n a t b => simp only [allP, rawP]; cases allP l a <;> cases allP l b <;> rfl
 | many n a =>
  cases h : rawP l (.many n a) with
  | none => exact h
  | some m =>
   have h2 := all_lang hl (.many n a) m h
   show allP l (.many n a) = lim (setO ordL m)
   rw [setO_sortedId ordL_laws h2.1, lim, if_pos h2.2.1]
   exact h
theorem raw_inc (hl : l.length ≤ 200) {f : Form} {m : List (List Int)} (h : allP l f = some m) : ∀ x ∈ m, incI l x := fun x hx => lang_inc (((all_lang hl f m h).2.2 x).1 hx)
end
section
theorem shape_unique : ∀ (f g : Form) (op : Int) (t : Test) (n : Int) (ks : Pats), shape f op t n ks → shape g op t n ks → f = g
 | .one _, .one _, _, _, _, _, h1, h2 => by
  obtain ⟨_, h, _⟩ := h1
  obtain ⟨_, h', _⟩ := h2
  rw [← h, ← h']
 | .thn m a b, .thn m' a' b', _, _, _, _, h1, h2 => by
  obtain ⟨_, _, rfl, o1, t1, n1, k1, o2, t2, n2, k2, e, ha, hb⟩ := h1
  obtain ⟨_, _, rfl, p1, u1, m1, l1, p2, u2, m2, l2, e', ha', hb'⟩ := h2
  rw [e] at e'
  injection e' with e1 e2 e3 e4 e5
  injection e5 with f1 f2 f3 f4 f5
  subst e1; subst e2; subst e3; subst e4; subst f1; subst f2; subst f3; subst f4
  rw [shape_unique a a' _ _ _ _ ha ha', shape_unique b b' _ _ _ _ hb hb']
 | .or a b, .or a' b', _, _, _, _, h1, h2 => by
  obtain ⟨_, _, _, o1, t1, n1, k1, o2, t2, n2, k2, e, ha, hb⟩ := h1
  obtain ⟨_, _, _, p1, u1, m1, l1, p2, u2, m2, l2, e', ha', hb'⟩ := h2
  rw [e] at e'
  injection e' with e1 e2 e3 e4 e5
  injection e5 with f1 f2 f3 f4 f5
  subst e1; subst e2; subst e3; subst e4; subst f1; subst f2; subst f3; subst f4
  rw [shape_unique a a' _ _ _ _ ha ha', shape_unique b b' _ _ _ _ hb hb']
 | .many m a, .many m' a', _, _, _, _, h1, h2 => by
  obtain ⟨_, _, rfl, o1, t1, n1, k1, e, ha⟩ := h1
  obtain ⟨_, _, rfl, p1, u1, m1, l1, e', ha'⟩ := h2
  rw [e] at e'
  injection e' with e1 e2 e3 e4 e5
  subst e1; subst e2; subst e3; subst e4
  rw [shape_unique a a' _ _ _ _ ha ha']
 | .lack m a c b, .lack m' a' c' b', _, _, _, _, h1, h2 => by
  obtain ⟨_, _, rfl, o1, t1, n1, k1, o2, t2, n2, k2, e, ha, hb⟩ := h1
  obtain ⟨_, _, rfl, p1, u1, m1, l1, p2, u2, m2, l2, e', ha', hb'⟩ := h2
  rw [e] at e'
  injection e' with e1 e2 e3 e4 e5
  injection e5 with f1 f2 f3 f4 f5
  injection f5 with g1 g2 g3 g4 g5
  subst e1; subst e2; subst e3; subst e4; subst f2; subst g1; subst g2; subst g3; subst g4
  rw [shape_unique a a' _ _ _ _ ha ha', shape_unique b b' _ _ _ _ hb hb']
 | .one _, .thn .., _, _, _, _, h1, h2 | .one _, .or .., _, _, _, _, h1, h2 | .one _, .many .., _, _, _, _, h1, h2 | .one _, .lack .., _, _, _, _, h1, h2
 | .thn .., .one _, _, _, _, _, h1, h2 | .thn .., .or .., _, _, _, _, h1, h2 | .thn .., .many .., _, _, _, _, h1, h2 | .thn .., .lack .., _, _, _, _, h1, h2
 | .or .., .one _, _, _, _, _, h1, h2 | .or .., .thn .., _, _, _, _, h1, h2 | .or .., .many .., _, _, _, _, h1, h2 | .or .., .lack .., _, _, _, _, h1, h2
 | .many .., .one _, _, _, _, _, h1, h2 | .many .., .thn .., _, _, _, _, h1, h2 | .many .., .or .., _, _, _, _, h1, h2 | .many .., .lack .., _, _, _, _, h1, h2
 | .lack .., .one _, _, _, _, _, h1, h2 | .lack .., .thn .., _, _, _, _, h1, h2 | .lack .., .or .., _, _, _, _, h1, h2 | .lack .., .many .., _, _, _, _, h1, h2 => by
  have := h1.1
  have := h2.1
  omega
open Classical in
noncomputable def formOf (x : Node) : Form := if h : ∃ f, shape f x.op x.t x.n x.ks then Classical.choose h else .one zeroT
theorem formOf_eq {x : Node} {f : Form} (h : shape f x.op x.t x.n x.ks) : formOf x = f := by
 have hx : ∃ f, shape f x.op x.t x.n x.ks := ⟨f, h⟩
 unfold formOf
 rw [dif_pos hx]
 exact shape_unique _ _ _ _ _ _ (Classical.choose_spec hx) h
theorem formOf_shape {srcs : Int} {x : Node} (h : patP srcs x.op x.t x.n x.ks = true) : shape (formOf x) x.op x.t x.n x.ks := by
 obtain ⟨f, hf⟩ := shape_ex h
 rw [formOf_eq hf]; exact hf
def matchP (l : List Ev) (f : Form) (within : Int) (same : Bool) : Option (List (List Int)) := (allP l f).map fun m => m.filter fun x => askedP l x within same
def queryP (srcs : Int) (x : Node) (within : Int) : Bool := inP srcs 1 4 && patP srcs x.op x.t x.n x.ks && inP within 0 200
noncomputable def allRes (srcs : Int) (l : List Ev) (x : Node) (within : Int) (same : Bool) : List (List Int) × Int :=
 if queryP srcs x within && eventsP srcs l then (match matchP l (formOf x) within same with | none => ([], 3) | some m => (m, 0)) else ([], 2)
theorem events_small {srcs : Int} {l : List Ev} (h : eventsP srcs l = true) : l.length ≤ 60 ∧ ∀ e ∈ l, evOk srcs e = true := by
 unfold eventsP at h
 simp only [Bool.and_eq_true, decide_eq_true_eq, List.all_eq_true] at h
 refine ⟨h.1.2, fun e he => ?_⟩
 obtain ⟨i, hi, rfl⟩ := List.getElem_of_mem he
 have := h.2 i (List.mem_range.2 hi)
 rw [evGood, List.getElem?_eq_getElem hi] at this
 simp only [Bool.and_eq_true] at this
 exact this.1.1
theorem ev_at {srcs : Int} {e : Ev} (h : evOk srcs e = true) : 0 ≤ e.at_ ∧ e.at_ ≤ 200 := by
 simp only [evOk, inP, Bool.and_eq_true, decide_eq_true_eq] at h
 exact h.1.1.2
end
section
def fsize : Form → Nat
 | .one _ => 1
 | .thn _ a b => 1 + fsize a + fsize b
 | .or a b => 1 + fsize a + fsize b
 | .many _ a => 1 + fsize a
 | .lack _ a _ b => 2 + fsize a + fsize b
theorem shape_size : ∀ (f : Form) (op : Int) (t : Test) (n : Int) (ks : Pats), shape f op t n ks → fsize f = 1 + ks.cnt
 | .one _, _, _, _, _, h => by obtain ⟨_, _, _, rfl⟩ := h; rfl
 | .thn _ a b, _, _, _, _, h => by
  obtain ⟨_, _, _, o1, t1, n1, k1, o2, t2, n2, k2, rfl, ha, hb⟩ := h
  rw [fsize, shape_size a _ _ _ _ ha, shape_size b _ _ _ _ hb]; simp only [Pats.cnt]; omega
 | .or a b, _, _, _, _, h => by
  obtain ⟨_, _, _, o1, t1, n1, k1, o2, t2, n2, k2, rfl, ha, hb⟩ := h
  rw [fsize, shape_size a _ _ _ _ ha, shape_size b _ _ _ _ hb]; simp only [Pats.cnt]; omega
 | .many _ a, _, _, _, _, h => by
  obtain ⟨_, _, _, o1, t1, n1, k1, rfl, ha⟩ := h
  rw [fsize, shape_size a _ _ _ _ ha]; simp only [Pats.cnt]; omega
 | .lack _ a _ b, _, _, _, _, h => by
  obtain ⟨_, _, _, o1, t1, n1, k1, o2, t2, n2, k2, rfl, ha, hb⟩ := h
  rw [fsize, shape_size a _ _ _ _ ha, shape_size b _ _ _ _ hb]; simp only [Pats.cnt]; omega
theorem makeP_size : ∀ (f : Form) (k : Int), 0 < (makeP f k).tests.length ∧ (makeP f k).tests.length ≤ fsize f
 | .one _, _ => by simp [makeP, fsize]
 | .thn _ a b, k => by
  have h1 := makeP_size a k
  have h2 := makeP_size b (k + (makeP a k).tests.length)
  simp only [makeP, fsize, List.length_append]; omega
 | .or a b, k => by
  have h1 := makeP_size a k
  have h2 := makeP_size b (k + (makeP a k).tests.length)
  simp only [makeP, fsize, List.length_append]; omega
 | .many _ a, k => by
  have h1 := makeP_size a k
  simp only [makeP, fsize]; omega
 | .lack _ a _ b, k => by
  have h1 := makeP_size a k
  have h2 := makeP_size b (k + (makeP a k).tests.length)
  simp only [makeP, fsize, List.length_append]; omega
theorem inc_len : ∀ (l : List Int) (a b : Int), l.Pairwise (· < ·) → (∀ x ∈ l, a ≤ x ∧ x < b) → a ≤ b → (l.length : Int) ≤ b - a
 | [], a, b, _, _, h => by simp; omega
 | x :: l, a, b, hp, hr, hab => by
  have hx := hr x List.mem_cons_self
  have hp := List.pairwise_cons.1 hp
  have ih := inc_len l (x + 1) b hp.2 (fun y hy => ⟨by have := hp.1 y hy; omega, (hr y (List.mem_cons_of_mem _ hy)).2⟩) (by omega)
  rw [List.length_cons]; omega
theorem makeP_ends (f : Form) (k : Int) : (makeP f k).first.length ≤ (makeP f k).tests.length ∧ (makeP f k).last.length ≤ (makeP f k).tests.length := by
 obtain ⟨h1, h2, h3, h4⟩ := makeP_places f k
 have g1 := inc_len _ k _ h3 h1 (by omega)
 have g2 := inc_len _ k _ h4 h2 (by omega)
 omega
theorem linkE_len {n : Int} {lk : Option Test} {a b : List Int} (ha : a.length ≤ 12) (hb : b.length ≤ 12) : (linkE n lk a b).length ≤ 144 := by
 have h : ∀ l : List Int, (linkE n lk l b).length = l.length * b.length := by
  intro l
  unfold linkE
  induction l with
  | nil => simp
  | cons x l ih => rw [List.flatMap_cons, List.length_append, ih, List.length_map, List.length_cons, Nat.add_mul]; omega
 rw [h]
 exact Nat.le_trans (Nat.mul_le_mul ha hb) (by decide)
theorem makeP_follow : ∀ (f : Form) (k : Int), fsize f ≤ 12 → (makeP f k).follow.length ≤ 144 * fsize f
 | .one _, _, _ => by simp [makeP]
 | .thn n a b, k, h => by
  rw [fsize] at h
  have h1 := makeP_follow a k (by omega)
  have h2 := makeP_follow b (k + (makeP a k).tests.length) (by omega)
  have s1 := makeP_size a k
  have s2 := makeP_size b (k + (makeP a k).tests.length)
  have e1 := makeP_ends a k
  have e2 := makeP_ends b (k + (makeP a k).tests.length)
  have hl := linkE_len (n := n) (lk := none) (a := (makeP a k).last) (b := (makeP b (k + (makeP a k).tests.length)).first) (by omega) (by omega)
  simp only [makeP, fsize, List.length_append]; omega
 | .or a b, k, h => by
  rw [fsize] at h
  have h1 := makeP_follow a k (by omega)
  have h2 := makeP_follow b (k + (makeP a k).tests.length) (by omega)
  simp only [makeP, fsize, List.length_append]; omega
 | .many n a, k, h => by
  rw [fsize] at h
  have h1 := makeP_follow a k (by omega)
  have s1 := makeP_size a k
  have e1 := makeP_ends a k
  have hl := linkE_len (n := n) (lk := none) (a := (makeP a k).last) (b := (makeP a k).first) (by omega) (by omega)
  simp only [makeP, fsize, List.length_append]; omega
 | .lack n a t b, k, h => by
  rw [fsize] at h
  have h1 := makeP_follow a k (by omega)
  have h2 := makeP_follow b (k + (makeP a k).tests.length) (by omega)
  have s1 := makeP_size a k
  have s2 := makeP_size b (k + (makeP a k).tests.length)
  have e1 := makeP_ends a k
  have e2 := makeP_ends b (k + (makeP a k).tests.length)
  have hl := linkE_len (n := n) (lk := some t) (a := (makeP a k).last) (b := (makeP b (k + (makeP a k).tests.length)).first) (by omega) (by omega)
  simp only [makeP, fsize, List.length_append]; omega
theorem shape_small {srcs : Int} {x : Node} (h : patP srcs x.op x.t x.n x.ks = true) : fsize (formOf x) ≤ 12 := by
 rw [shape_size _ _ _ _ _ (formOf_shape h)]
 unfold patP at h
 simp only [Bool.and_eq_true, decide_eq_true_eq] at h
 omega
end
section
def subs : Form → List Form
 | .one t => [.one t]
 | .thn n a b => .thn n a b :: (subs a ++ subs b)
 | .or a b => .or a b :: (subs a ++ subs b)
 | .many n a => .many n a :: subs a
 | .lack n a t b => .lack n a t b :: (subs a ++ (.one t :: subs b))
theorem subs_len : ∀ f : Form, (subs f).length = fsize f
 | .one t => rfl
 | .thn n a b => by simp only [subs, fsize, List.length_cons, List.length_append, subs_len a, subs_len b]; omega
 | .or a b => by simp only [subs, fsize, List.length_cons, List.length_append, subs_len a, subs_len b]; omega
 | .many n a => by simp only [subs, fsize, List.length_cons, subs_len a]; omega
 | .lack n a t b => by simp only [subs, fsize, List.length_cons, List.length_append, subs_len a, subs_len b]; omega
def SubAt (L : List Form) (n : Nat) (f : Form) : Prop := ∃ r, L.drop n = subs f ++ r
theorem SubAt.get {L : List Form} {n : Nat} {f : Form} (h : SubAt L n f) : L[n]? = some f := by
 obtain ⟨r, h⟩ := h
 have := congrArg (fun l => l[0]?) h
 simp only [List.getElem?_drop, Nat.add_zero] at this
 rw [this]
 cases f <;> rfl
theorem SubAt.root (f : Form) : SubAt (subs f) 0 f := ⟨[], by simp⟩
theorem subAt_cut {L : List Form} {n k : Nat} {A B r : List Form} (h : L.drop n = A ++ B ++ r) (hk : A.length = k) : L.drop (n + k) = B ++ r := by
 subst hk
 rw [← List.drop_drop, h, List.append_assoc, List.drop_left]
theorem SubAt.thn1 {L : List Form} {n : Nat} {m : Int} {a b : Form} (h : SubAt L n (.thn m a b)) : SubAt L (n + 1) a := by
 obtain ⟨r, h⟩ := h
 exact ⟨subs b ++ r, by rw [subAt_cut (k := 1) (A := [.thn m a b]) (B := subs a ++ subs b) (r := r) (by simpa [subs] using h) rfl, List.append_assoc]⟩
theorem SubAt.thn2 {L : List Form} {n : Nat} {m : Int} {a b : Form} (h : SubAt L n (.thn m a b)) : SubAt L (n + 1 + fsize a) b := by
 obtain ⟨r, h⟩ := h
 exact ⟨r, by rw [Nat.add_assoc, subAt_cut (k := 1 + fsize a) (A := .thn m a b :: subs a) (B := subs b) (r := r) (by simpa [subs] using h) (by rw [List.length_cons, subs_len]; omega)]⟩
theorem SubAt.or1 {L : List Form} {n : Nat} {a b : Form} (h : SubAt L n (.or a b)) : SubAt L (n + 1) a := by
 obtain ⟨r, h⟩ := h
 exact ⟨subs b ++ r, by rw [subAt_cut (k := 1) (A := [.or a b]) (B := subs a ++ subs b) (r := r) (by simpa [subs] using h) rfl, List.append_assoc]⟩
theorem SubAt.or2 {L : List Form} {n : Nat} {a b : Form} (h : SubAt L n (.or a b)) : SubAt L (n + 1 + fsize a) b := by
 obtain ⟨r, h⟩ := h
 exact ⟨r, by rw [Nat.add_assoc, subAt_cut (k := 1 + fsize a) (A := .or a b :: subs a) (B := subs b) (r := r) (by simpa [subs] using h) (by rw [List.length_cons, subs_len]; omega)]⟩
theorem SubAt.many {L : List Form} {n : Nat} {m : Int} {a : Form} (h : SubAt L n (.many m a)) : SubAt L (n + 1) a := by
 obtain ⟨r, h⟩ := h
 exact ⟨r, by rw [subAt_cut (k := 1) (A := [.many m a]) (B := subs a) (r := r) (by simpa [subs] using h) rfl]⟩
theorem SubAt.lack1 {L : List Form} {n : Nat} {m : Int} {a b : Form} {t : Test} (h : SubAt L n (.lack m a t b)) : SubAt L (n + 1) a := by
 obtain ⟨r, h⟩ := h
 exact ⟨.one t :: subs b ++ r, by rw [subAt_cut (k := 1) (A := [.lack m a t b]) (B := subs a ++ .one t :: subs b) (r := r) (by simpa [subs] using h) rfl, List.append_assoc]⟩
theorem SubAt.lack2 {L : List Form} {n : Nat} {m : Int} {a b : Form} {t : Test} (h : SubAt L n (.lack m a t b)) : SubAt L (n + 1 + fsize a + 1) b := by
 obtain ⟨r, h⟩ := h
 exact ⟨r, by rw [show n + 1 + fsize a + 1 = n + (2 + fsize a) by omega, subAt_cut (k := 2 + fsize a) (A := .lack m a t b :: (subs a ++ [.one t])) (B := subs b) (r := r) (by simpa [subs] using h) (by simp [subs_len]; omega)]⟩
theorem betw_succ {i j : Nat} (h : i < j) : betw i (j + 1) = betw i j ++ [j] := by
 unfold betw
 rw [List.range_succ, List.drop_append_of_le_length (by simp; omega)]
theorem betw_nil {i j : Nat} (h : j ≤ i + 1) : betw i j = [] := by
 unfold betw
 exact List.drop_eq_nil_of_le (by simp; omega)
theorem betw_any {i k j : Nat} {p : Nat → Bool} (hj : i < j) (hk : j < k) (hp : p j = true) : (betw i k).any p = true := List.any_eq_true.2 ⟨j, mem_betw.2 ⟨hj, hk⟩, hp⟩
theorem betw_step {i j : Nat} {p : Nat → Bool} (h : i < j) (h0 : (betw i j).any p = false) (hp : p j = false) : (betw i (j + 1)).any p = false := by
 rw [betw_succ h, List.any_append, h0, List.any_cons, hp]; rfl
theorem fsize_pos (f : Form) : 0 < fsize f := by cases f <;> simp only [fsize] <;> omega
end
section
open Go.RowKit
theorem ret_bool {a b : Bool} (h : a = b) : Ending.returned (.bool a) = Ending.returned (.bool b) := by rw [h]
theorem ret_int {k : IntKind} {a b : Int} (h : a = b) : Ending.returned (.int k a) = Ending.returned (.int k b) := by rw [h]
theorem below_drewN {B : Nat} {w W : World} (h : Below B w W) (n : Nat) : Below B w (W.drewN n) := ⟨h.os, h.tape, h.output, h.size, h.block⟩
theorem zB {w w1 : World} (h : Below w.heap.size w w1) {a : Addr} {v : Value} (hc : w.cell? a = some v) : w1.cell? a = some v :=
 (h.cell (World.block_lt_of_cell? w a hc)).trans hc
theorem below_frozen {w w1 : World} (h : Below w.heap.size w w1) {a : Addr} (hl : a.block < w.heap.size) {b : Bool} (hc : w.frozen? a = b) : w1.frozen? a = b := (h.frozen hl).trans hc
structure Ext (w : World) where
 W : World
 h : Below w.heap.size w W
instance (w : World) : Inhabited (Ext w) := ⟨⟨w, Below.refl _ _⟩⟩
theorem Ext.cell {w : World} (p : Ext w) {a : Addr} {v : Value} (h : w.cell? a = some v) : p.W.cell? a = some v := zB p.h h
theorem Ext.of {P : Program} {f : FuncId} {args : Array Value} {w : World} {p : Ext w} {v : Value}
 (h : Calls P f args p.W fun e w' => e = .returned v ∧ Below p.W.heap.size p.W w') : Calls P f args p.W fun e w'' => e = .returned v ∧ ∃ q : Ext w, w'' = q.W :=
 h.mono fun _ w' ⟨he, hb⟩ => ⟨he, ⟨w', p.h.trans (hb.mono p.h.size)⟩, rfl⟩
theorem box_at (w : World) (cs : Array Value) (T : TypeId) (j : Nat) : (w.alloc (.cells cs T)).cell? ⟨w.heap.size, j, none⟩ = cs[j]? := World.cell?_alloc_new w cs T j
theorem named_box2 (w : World) (cs ds : Array Value) (T U : TypeId) {G : World → Prop}
 (h : ∀ W0, Below w.heap.size w W0 → W0.heap.size = w.heap.size + 2 → W0.heap[w.heap.size]? = some (.cells cs T (0, 0)) → W0.heap[w.heap.size + 1]? = some (.cells ds U (0, 0)) → G W0) : G ((w.alloc (.cells cs T)).alloc (.cells ds U)) :=
 h _ (((Below.refl _ _).alloc (Nat.le_refl _) _).alloc (by simp) _) (by simp) ((Below.heap_alloc _ _ _ (by simp)).trans (heap_alloc_new w _)) (by
  have := heap_alloc_new (w.alloc (.cells cs T)) (.cells ds U)
  rwa [World.size_alloc] at this)
theorem named_box3 (w : World) (cs ds es : Array Value) (T U V : TypeId) {G : World → Prop}
 (h : ∀ W0, Below w.heap.size w W0 → W0.heap.size = w.heap.size + 3 → W0.heap[w.heap.size]? = some (.cells cs T (0, 0)) → W0.heap[w.heap.size + 1]? = some (.cells ds U (0, 0)) → W0.heap[w.heap.size + 1 + 1]? = some (.cells es V (0, 0)) → G W0) :
 G (((w.alloc (.cells cs T)).alloc (.cells ds U)).alloc (.cells es V)) := by
 have e1 := heap_alloc_new (w.alloc (.cells cs T)) (.cells ds U)
 have e2 := heap_alloc_new ((w.alloc (.cells cs T)).alloc (.cells ds U)) (.cells es V)
 simp only [World.size_alloc] at e1 e2
 exact h _ ((((Below.refl _ _).alloc (Nat.le_refl _) _).alloc (by simp) _).alloc (by simp; omega) _) (by simp) ((Below.heap_alloc _ _ _ (by simp; omega)).trans ((Below.heap_alloc _ _ _ (by simp)).trans (heap_alloc_new w _))) ((Below.heap_alloc _ _ _ (by simp)).trans e1) e2
theorem zC {w : World} {b : Nat} {cs : Array Value} {T : TypeId} (h : w.heap[b]? = some (.cells cs T (0, 0))) (j : Nat) : w.cell? ⟨b, j, none⟩ = cs[j]? := cell_of_row w b j cs T (0, 0) h
theorem zK {w : World} {b : Nat} {cs : Array Value} {T : TypeId} (h : w.heap[b]? = some (.cells cs T (0, 0))) (j : Nat) : w.frozen? ⟨b, j, none⟩ = false := by simp [World.frozen?, h]
def RdAt {α : Type} (enc : α → List Value) (k : Nat) (w : World) (b off : Nat) (xs : List α) : Prop :=
 ∀ i x, xs[i]? = some x → ∀ j u, (enc x)[j]? = some u → w.cell? ⟨b, off + i * k + j, none⟩ = some u
def Rd {α : Type} (enc : α → List Value) (k : Nat) (w : World) (v : Value) (xs : List α) : Prop :=
 xs.length ≤ 9223372036854775807 ∧ ∃ a c, v = .slice a xs.length c ∧ (0 < xs.length → ∃ b off, a = some ⟨b, off, none⟩ ∧ b < w.heap.size ∧ RdAt enc k w b off xs)
theorem RdAt.below {α : Type} {enc : α → List Value} {k : Nat} {w w1 : World} {b off : Nat} {xs : List α} (h : RdAt enc k w b off xs) {B : Nat} (hb : Below B w w1) (hlt : b < B) : RdAt enc k w1 b off xs :=
 fun i x hx j u hu => (hb.cell (p := ⟨b, _, none⟩) hlt).trans (h i x hx j u hu)
theorem Rd.below {α : Type} {enc : α → List Value} {k : Nat} {w w1 : World} {v : Value} {xs : List α} (h : Rd enc k w v xs) (hb : Below w.heap.size w w1) : Rd enc k w1 v xs := by
 obtain ⟨h0, a, c, rfl, h⟩ := h
 refine ⟨h0, a, c, rfl, fun hl => ?_⟩
 obtain ⟨b, off, rfl, hlt, hr⟩ := h hl
 exact ⟨b, off, rfl, Nat.lt_of_lt_of_le hlt hb.size, hr.below hb hlt⟩
theorem Rd.nil {α : Type} (enc : α → List Value) (k : Nat) (w : World) : Rd enc k w (.slice none 0 0) ([] : List α) := ⟨by simp, none, 0, rfl, fun h => absurd h (by simp)⟩
end
section
open Go.RowKit
structure Fr (S : Nat → Prop) (w W : World) : Prop where
 os : W.os = w.os
 tape : W.tape = w.tape
 output : W.output = w.output
 size : w.heap.size ≤ W.heap.size
 block : ∀ k, k < w.heap.size → ¬ S k → W.heap[k]? = w.heap[k]?
theorem fr_refl (S : Nat → Prop) (w : World) : Fr S w w := ⟨rfl, rfl, rfl, Nat.le_refl _, fun _ _ _ => rfl⟩
theorem zT {S T : Nat → Prop} {w W W2 : World} (h : Fr S w W) (k : Fr T W W2) (hT : ∀ i, i < w.heap.size → T i → S i) : Fr S w W2 :=
 ⟨k.os.trans h.os, k.tape.trans h.tape, k.output.trans h.output, Nat.le_trans h.size k.size, fun i hi hS => (k.block i (Nat.lt_of_lt_of_le hi h.size) fun ht => hS (hT i hi ht)).trans (h.block i hi hS)⟩
theorem fr_mono {S T : Nat → Prop} {w W : World} (h : Fr S w W) (hT : ∀ i, S i → T i) : Fr T w W :=
 ⟨h.os, h.tape, h.output, h.size, fun i hi ht => h.block i hi fun hs => ht (hT i hs)⟩
theorem zF {S : Nat → Prop} {w W : World} (h : Below w.heap.size w W) : Fr S w W := ⟨h.os, h.tape, h.output, h.size, fun k hk _ => h.block k hk⟩
theorem zO {S : Nat → Prop} {w W : World} {B : Nat} (h : Fr S w W) (hB : B ≤ w.heap.size) (hS : ∀ i, S i → B ≤ i) : Below B w W :=
 ⟨h.os, h.tape, h.output, h.size, fun k hk => h.block k (by omega) fun hs => by have := hS k hs; omega⟩
theorem fr_cell {S : Nat → Prop} {w W : World} (h : Fr S w W) {a : Addr} {v : Value} (hc : w.cell? a = some v) (hS : ¬ S a.block) : W.cell? a = some v :=
 (World.cell?_of_block (h.block a.block (World.block_lt_of_cell? w a hc) hS)).trans hc
theorem fr_frozen {S : Nat → Prop} {w W : World} (h : Fr S w W) {a : Addr} (hl : a.block < w.heap.size) {b : Bool} (hc : w.frozen? a = b) (hS : ¬ S a.block) : W.frozen? a = b :=
 (World.frozen?_of_block (h.block a.block hl hS)).trans hc
theorem fr_grown {w W : World} {row : Option Nat} (h : w.grownBy W row) : Fr (fun i => some i = row) w W := ⟨h.os, h.tape, h.output, h.size, fun k hk hs => h.block k hk hs⟩
theorem fr_alloc (S : Nat → Prop) (w : World) (o : Obj) : Fr S w (w.alloc o) := zF ((Below.refl _ _).alloc (Nat.le_refl _) _)
theorem fr_setCell (w : World) (p : Addr) (u : Value) : Fr (fun i => i = p.block) w (w.setCell p u) :=
 ⟨rfl, rfl, rfl, by simp [World.setCell], fun k _ hs => Below.heap_setCell w p u k hs⟩
theorem fr_setRow (w : World) (g : Nat) (cs : Array Value) : Fr (fun i => i = g) w (w.setRow g cs) :=
 ⟨rfl, rfl, rfl, by simp [World.setRow], fun k _ hs => setRow_other w g k cs hs⟩
theorem fr_drewN (S : Nat → Prop) (w : World) (n : Nat) : Fr S w (w.drewN n) := ⟨rfl, rfl, rfl, Nat.le_refl _, fun _ _ _ => rfl⟩
def WinC (k e : Nat) (w : World) (v : Value) (S : Nat → Prop) (n : Nat) (cs : List Value) : Prop :=
 cs.length = n * k ∧ ((v = .slice none 0 0 ∧ n = 0) ∨ ∃ g off cap cur, v = .slice (some ⟨g, off, none⟩) n cap ∧ S g ∧ w.heap[g]? = some (.cells cur e (0, 0)) ∧ n ≤ cap ∧ cap ≤ maxLen ∧ off + cap * k ≤ cur.size ∧ (cur.toList.drop off).take (n * k) = cs)
theorem winC_nil (k e : Nat) (w : World) (S : Nat → Prop) : WinC k e w (.slice none 0 0) S 0 [] := ⟨by simp, .inl ⟨rfl, rfl⟩⟩
theorem zM {k e : Nat} {w W : World} {v : Value} {S T : Nat → Prop} {n : Nat} {cs : List Value} (h : WinC k e w v S n cs) (hf : Fr T w W) (hT : ∀ i, S i → ¬ T i) : WinC k e W v S n cs := by
 obtain ⟨hl, h⟩ := h
 refine ⟨hl, ?_⟩
 rcases h with h | ⟨g, off, cap, cur, hv, hS, hg, r⟩
 ·exact .inl h
 ·exact .inr ⟨g, off, cap, cur, hv, hS, (hf.block g (Array.getElem?_eq_some_iff.1 hg).1 (hT g hS)).trans hg, r⟩
theorem zN {k e : Nat} {w : World} {v : Value} {S T : Nat → Prop} {n : Nat} {cs : List Value} (h : WinC k e w v S n cs) (hT : ∀ i, S i → T i) : WinC k e w v T n cs := by
 obtain ⟨hl, h⟩ := h
 refine ⟨hl, ?_⟩
 rcases h with h | ⟨g, off, cap, cur, hv, hS, r⟩
 ·exact .inl h
 ·exact .inr ⟨g, off, cap, cur, hv, hT g hS, r⟩
theorem winC_block {k e : Nat} {w : World} {v : Value} {S : Nat → Prop} {n : Nat} {cs : List Value} (h : WinC k e w v S n cs) : WinC k e w v (fun i => some i = v.ownBlock ∧ S i ∧ i < w.heap.size) n cs := by
 obtain ⟨hl, h⟩ := h
 refine ⟨hl, ?_⟩
 rcases h with h | ⟨g, off, cap, cur, rfl, hS, hg, r⟩
 ·exact .inl h
 ·exact .inr ⟨g, off, cap, cur, rfl, ⟨rfl, hS, (Array.getElem?_eq_some_iff.1 hg).1⟩, hg, r⟩
theorem zS {k e : Nat} {w : World} {v : Value} {S : Nat → Prop} {n : Nat} {cs : List Value} (h : WinC k e w v S n cs) : ∃ a c, v = .slice a n c ∧ n ≤ c ∧ n ≤ 9223372036854775807 := by
 rcases h.2 with ⟨rfl, rfl⟩ | ⟨g, off, cap, cur, rfl, hS, hg, hn, hm, r⟩
 ·exact ⟨none, 0, rfl, by simp, by simp⟩
 ·exact ⟨_, cap, rfl, hn, by simp only [maxLen] at hm; omega⟩
theorem winC_ob {k e : Nat} {w : World} {v : Value} {S : Nat → Prop} {n : Nat} {cs : List Value} (h : WinC k e w v S n cs) : ∀ i, some i = v.ownBlock → S i ∧ i < w.heap.size := by
 intro i hi
 rcases h.2 with ⟨rfl, _⟩ | ⟨g, off, cap, cur, rfl, hS, hg, r⟩
 ·simp [Value.ownBlock] at hi
 ·simp [Value.ownBlock] at hi
  subst hi
  exact ⟨hS, (Array.getElem?_eq_some_iff.1 hg).1⟩
theorem addr_add (g off n : Nat) : (⟨g, off, none⟩ : Addr).add n = ⟨g, off + n, none⟩ := by unfold Addr.add; split <;> simp_all
theorem winC_cells {k e : Nat} {w : World} {g off n cap : Nat} {S : Nat → Prop} {cs : List Value} (h : WinC k e w (.slice (some ⟨g, off, none⟩) n cap) S n cs) :
 ∀ j u, cs[j]? = some u → w.cell? ⟨g, off + j, none⟩ = some u := by
 intro j u hu
 rcases h.2 with ⟨hv, _⟩ | ⟨g', off', cap', cur, hv, hS, hg, hn, hm, hs, ht⟩
 ·simp at hv
 ·injection hv with h1 h2 h3
  injection h1 with h1
  injection h1 with h1 h4
  subst h1; subst h4; subst h3
  rw [cell_of_row w g (off + j) cur e (0, 0) hg]
  rw [← ht, List.getElem?_take] at hu
  split at hu
  ·rw [List.getElem?_drop] at hu; simpa using hu
  ·cases hu
section
variable {P : Program} (w : World)
theorem run_append_win (t ty e : TypeId) (i : TypeInfo) (z : Value) (k bytes : Nat) (ht : P.underlying t = some (.slice e)) (hi : P.info? e = some i) (hz : i.zero = some z)
 (hsize : i.size = k) (hby : i.bytes = bytes) (hzs : z.cells.size = k) (hk : 0 < k)
 (v : Value) (S : Nat → Prop) (n : Nat) (xs : List Value) (hwin : WinC k e w v S n xs)
 (a : Addr) (m c : Nat) (news : List Value) (hl : news.length = m * k) (hnews : ∀ j u, news[j]? = some u → w.cell? (a.add j) = some u) (h1 : ∀ u ∈ news, u.oneCell' = true)
 (hm : 0 < m) (h63 : n + m ≤ maxLen) (hbytes : (n + m) * bytes ≤ 140737488355328) :
 ∃ v' w', (Builtin.append_ #[t, t] ty #[v, .slice (some a) m c]).run P w = .ok v' w' ∧ WinC k e w' v' (fun i => (S i ∧ i < w.heap.size) ∨ i = w.heap.size) (n + m) (xs ++ news) ∧ Fr (fun i => some i = v.ownBlock) w w' ∧ w'.heap.size ≤ w.heap.size + 1 := by
 subst hsize
 subst hby
 have hsmall : n + m ≤ 9223372036854775807 := by simp only [maxLen] at h63; omega
 have hlen : (xs ++ news).length = (n + m) * i.size := by rw [List.length_append, hwin.1, hl, Nat.add_mul]
 have grown : ∀ (old : Nat), old < n + m →
  WinC i.size e (w.drew.alloc (.cells (xs.toArray ++ news.toArray ++ Builtin.zeroCells z.cells (grownCap w (n + m) old e - (n + m))) e))
   (.slice (some ⟨w.heap.size, 0, none⟩) (n + m) (grownCap w (n + m) old e)) (fun i => (S i ∧ i < w.heap.size) ∨ i = w.heap.size) (n + m) (xs ++ news) ∧
  ∀ row, w.grownBy (w.drew.alloc (.cells (xs.toArray ++ news.toArray ++ Builtin.zeroCells z.cells (grownCap w (n + m) old e - (n + m))) e)) row := by
  intro old ho
  have hge := grownCap_ge w (n + m) old e
  have hcm : grownCap w (n + m) old e ≤ maxLen := grownCap_le_maxLen w (n + m) old e h63
  refine ⟨⟨hlen, .inr ⟨w.heap.size, 0, _, _, rfl, .inr rfl, heap_alloc_new w.drew _, hge, hcm, ?_, ?_⟩⟩, fun row => ⟨rfl, rfl, rfl, by simp, fun k hk _ => Below.heap_alloc w.drew _ k hk⟩⟩
  ·simp only [Array.size_append, List.size_toArray, size_zeroCells, hzs, hwin.1, hl, ← Nat.add_mul, Nat.zero_add]
   refine Nat.le_of_eq ?_
   congr 1
   omega
  ·simp only [Array.toList_append, List.append_assoc, List.drop_zero]
   rw [← List.append_assoc, ← hlen]
   exact List.take_left
 rcases hwin.2 with ⟨rfl, rfl⟩ | ⟨g, off, cap, cur, rfl, hS, hg, hnc, hcm, hcs, htake⟩
 ·have hx : xs = [] := List.eq_nil_of_length_eq_zero (by simpa using hwin.1)
  subst hx
  have hr := run_append_nil (P := P) w t ty e i z ht hi hz a m c news hl hnews (by omega) (by omega) (by have hb := hbytes; simp only [Nat.zero_add] at hb; omega)
  have hgr := grown 0 (by omega)
  simp only [Nat.zero_add, List.nil_append, Array.empty_append] at hgr ⊢
  exact ⟨_, _, hr, hgr.1, fr_grown (hgr.2 _), by simp⟩
 ·by_cases hroom : n + m ≤ cap
  ·have hfit : off + n * i.size + news.length ≤ cur.size := by
    have : (n + m) * i.size ≤ cap * i.size := Nat.mul_le_mul_right _ hroom
    rw [Nat.add_mul] at this
    rw [hl]; omega
   have hf := run_firstCells_some (P := P) w i.size m a m c news hl hnews
   have hst := run_storeCells_at P g (off + n * i.size) e news 0 cur w hg (by simpa using hfit) h1
   simp only [Nat.add_zero] at hst
   have hr : (Builtin.append_ #[t, t] ty #[.slice (some ⟨g, off, none⟩) n cap, .slice (some a) m c]).run P w =
    .ok (.slice (some ⟨g, off, none⟩) (n + m) cap) (w.setRow g (cur.toList.take (off + n * i.size) ++ news ++ cur.toList.drop (off + n * i.size + news.length)).toArray) := by
    simp [Builtin.append_, run_underlying ht, sizeOf, typeInfo, hi, Builtin.lenOf, hroom, hf, addr_add, hst]
   refine ⟨_, _, hr, ⟨hlen, .inr ⟨g, off, cap, _, rfl, .inl ⟨hS, (Array.getElem?_eq_some_iff.1 hg).1⟩, setRow_heap w g cur _ e _ hg, hroom, hcm, ?_, ?_⟩⟩, fr_mono (fr_setRow w g _) (fun i hi => by simp [Value.ownBlock, hi]), by simp [World.setRow]⟩
   ·simp only [List.size_toArray, List.length_append, List.length_take, List.length_drop, Array.length_toList]
    omega
   ·have hxl := hwin.1
    show List.take ((n + m) * i.size) (List.drop off (cur.toList.take (off + n * i.size) ++ news ++ cur.toList.drop (off + n * i.size + news.length))) = xs ++ news
    have e1 : List.drop off (cur.toList.take (off + n * i.size)) = xs := by
     rw [List.drop_take, show off + n * i.size - off = n * i.size by omega]
     exact htake
    rw [List.append_assoc, List.drop_append_of_le_length (by rw [List.length_take, Array.length_toList]; omega), e1, ← List.append_assoc, ← hlen]
    exact List.take_left
  ·have holds : ∀ j u, xs[j]? = some u → w.cell? ((⟨g, off, none⟩ : Addr).add j) = some u := fun j u hu => by rw [addr_add]; exact winC_cells hwin j u hu
   have hr := run_append_grow (P := P) w t ty e i z ht hi hz ⟨g, off, none⟩ n cap xs hwin.1 holds a m c news hl hnews (by omega) (by omega) (growslice_fits (by omega) hbytes)
   have hgr := grown cap (by omega)
   exact ⟨_, _, hr, hgr.1, fr_grown (hgr.2 _), by simp⟩
theorem wp_append_win {o : Oper} {a : Act} {K : Act → World → Prop} {Q : Exit → Act → World → Prop} (s x : Operand) (t : TypeId)
 (ho : o.op = .call { callee := .builtin .append, args := #[s, x], argTypes := #[t, t] })
 (e : TypeId) (k bytes : Nat) (z : Value) (ht : P.underlying t = some (.slice e)) (hinfo : (P.info? e).map (fun i => (i.zero, i.size, i.bytes)) = some (some z, k, bytes)) (hzs : z.cells.size = k) (hk : 0 < k)
 (v : Value) (S : Nat → Prop) (n : Nat) (xs : List Value) (hs : a.eval s = v) (hwin : WinC k e w v S n xs)
 (ad : Addr) (m c : Nat) (news : List Value) (hx : a.eval x = .slice (some ad) m c) (hl : news.length = m * k) (hnews : ∀ j u, news[j]? = some u → w.cell? (ad.add j) = some u) (h1 : ∀ u ∈ news, u.oneCell' = true)
 (hm : 0 < m) (h63 : n + m ≤ maxLen) (hbytes : (n + m) * bytes ≤ 140737488355328)
 (h : ∀ v' w', WinC k e w' v' (fun i => (S i ∧ i < w.heap.size) ∨ i = w.heap.size) (n + m) (xs ++ news) → Fr (fun i => some i = v.ownBlock) w w' → w'.heap.size ≤ w.heap.size + 1 → K (a.put o.dst v') w') : o.wp P a w K Q := by
 obtain ⟨i, hi, hzz⟩ := Option.map_eq_some_iff.1 hinfo
 simp only [Prod.mk.injEq] at hzz
 obtain ⟨v', w', hr, h2, h3, h4⟩ := run_append_win (P := P) w t o.type e i z k bytes ht hi hzz.1 hzz.2.1 hzz.2.2 hzs hk v S n xs hwin ad m c news hl hnews h1 hm h63 hbytes
 unfold Oper.wp execOp
 simp only [ho, resolve, invoke, builtin, Sem.run_bind, Sem.run_pure, Result.andThen_ok, List.map_toArray, List.map_cons, List.map_nil, hs, hx, hr]
 exact h v' w' h2 h3 h4
theorem wpList_append_win {ops : Array Oper} {rest : List Oper} {o : Oper} {a : Act} {Q : Exit → Act → World → Prop} (hgd : o.guard = none) (s x : Operand) (t : TypeId)
 (ho : o.op = .call { callee := .builtin .append, args := #[s, x], argTypes := #[t, t] })
 (e : TypeId) (k bytes : Nat) (z : Value) (ht : P.underlying t = some (.slice e)) (hinfo : (P.info? e).map (fun i => (i.zero, i.size, i.bytes)) = some (some z, k, bytes)) (hzs : z.cells.size = k) (hk : 0 < k)
 (v : Value) (S : Nat → Prop) (n : Nat) (xs : List Value) (hs : a.eval s = v) (hwin : WinC k e w v S n xs)
 (ad : Addr) (m c : Nat) (news : List Value) (hx : a.eval x = .slice (some ad) m c) (hl : news.length = m * k) (hnews : ∀ j u, news[j]? = some u → w.cell? (ad.add j) = some u) (h1 : ∀ u ∈ news, u.oneCell' = true)
 (hm : 0 < m) (h63 : n + m ≤ maxLen) (hbytes : (n + m) * bytes ≤ 140737488355328)
 (h : ∀ v' w', WinC k e w' v' (fun i => (S i ∧ i < w.heap.size) ∨ i = w.heap.size) (n + m) (xs ++ news) → Fr (fun i => some i = v.ownBlock) w w' → w'.heap.size ≤ w.heap.size + 1 → wpList P ops Q rest (a.put o.dst v') w') : wpList P ops Q (o :: rest) a w :=
 wpList_plain hgd fun _ hK => wp_append_win w s x t ho e k bytes z ht hinfo hzs hk v S n xs hs hwin ad m c news hx hl hnews h1 hm h63 hbytes fun v' w' h2 h3 h4 => hK _ _ (h v' w' h2 h3 h4)
end
theorem news1 (w : World) (cs : Array Value) (T : TypeId) : ∀ j u, cs.toList[j]? = some u → (w.alloc (.cells cs T)).cell? ((⟨w.heap.size, 0, none⟩ : Addr).add j) = some u := World.news_of_block (heap_alloc_new w _)
theorem news2 (w : World) (o : Obj) (cs : Array Value) (T : TypeId) : ∀ j u, cs.toList[j]? = some u → ((w.alloc o).alloc (.cells cs T)).cell? ((⟨w.heap.size + 1, 0, none⟩ : Addr).add j) = some u := by
 have := news1 (w.alloc o) cs T
 rwa [World.size_alloc] at this
theorem rd_move {α : Type} {enc : α → List Value} {k : Nat} {w W : World} {v : Value} {xs : List α} {S : Nat → Prop} (h : Rd enc k w v xs) (hf : Fr S w W) (hS : ∀ i, some i = v.ownBlock → ¬ S i) : Rd enc k W v xs := by
 obtain ⟨h0, a, c, rfl, h⟩ := h
 refine ⟨h0, a, c, rfl, fun hl => ?_⟩
 obtain ⟨b, off, rfl, hlt, hr⟩ := h hl
 exact ⟨b, off, rfl, Nat.lt_of_lt_of_le hlt hf.size, fun i x hx j u hu => fr_cell hf (hr i x hx j u hu) (hS b rfl)⟩
theorem rd_at {α : Type} {enc : α → List Value} {k : Nat} {w : World} {a : Option Addr} {n c : Nat} {xs : List α} (h : Rd enc k w (.slice a n c) xs) {i : Nat} {x : α} (hx : xs[i]? = some x) :
 ∃ b off, a = some ⟨b, off, none⟩ ∧ b < w.heap.size ∧ ∀ j u, (enc x)[j]? = some u → w.cell? ⟨b, off + i * k + j, none⟩ = some u := by
 obtain ⟨h0, a', c', he, h⟩ := h
 injection he with h1 h2 h3
 subst h1
 have hl := (List.getElem?_eq_some_iff.1 hx).1
 obtain ⟨b, off, rfl, hlt, hr⟩ := h (by omega)
 exact ⟨b, off, rfl, hlt, hr i x hx⟩
theorem flat_len {α : Type} {enc : α → List Value} {k : Nat} (hk : ∀ x, (enc x).length = k) : ∀ xs : List α, (xs.flatMap enc).length = xs.length * k
 | [] => by simp
 | x :: xs => by rw [List.flatMap_cons, List.length_append, flat_len hk xs, hk, List.length_cons, Nat.add_mul, Nat.one_mul, Nat.add_comm]
theorem flat_get {α : Type} {enc : α → List Value} {k : Nat} (hk : ∀ x, (enc x).length = k) : ∀ (xs : List α) (i : Nat) (x : α), xs[i]? = some x → ∀ j u, (enc x)[j]? = some u → (xs.flatMap enc)[i * k + j]? = some u
 | [], i, x, h, j, u, hu => by simp at h
 | y :: xs, 0, x, h, j, u, hu => by
  simp only [List.getElem?_cons_zero, Option.some.injEq] at h
  subst h
  have := (List.getElem?_eq_some_iff.1 hu).1
  rw [List.flatMap_cons, Nat.zero_mul, Nat.zero_add, List.getElem?_append_left this]
  exact hu
 | y :: xs, i + 1, x, h, j, u, hu => by
  rw [List.flatMap_cons, List.getElem?_append_right (by rw [hk, Nat.add_mul, Nat.one_mul]; omega), hk, show (i + 1) * k + j - k = i * k + j by rw [Nat.add_mul, Nat.one_mul]; omega]
  exact flat_get hk xs i x (by simpa using h) j u hu
def Win {α : Type} (enc : α → List Value) (k e : Nat) (w : World) (v : Value) (S : Nat → Prop) (xs : List α) : Prop := WinC k e w v S xs.length (xs.flatMap enc)
theorem win_nil {α : Type} (enc : α → List Value) (k e : Nat) (w : World) (S : Nat → Prop) : Win enc k e w (.slice none 0 0) S ([] : List α) := winC_nil k e w S
theorem win_rd {α : Type} {enc : α → List Value} {k e : Nat} {w : World} {v : Value} {S : Nat → Prop} {xs : List α} (hk : ∀ x, (enc x).length = k) (h : Win enc k e w v S xs) : Rd enc k w v xs := by
 obtain ⟨a, c, rfl, hn, hm⟩ := zS h
 refine ⟨hm, a, c, rfl, fun hpos => ?_⟩
 rcases h.2 with ⟨hv, h0⟩ | ⟨g, off, cap, cur, hv, hS, hg, r⟩
 ·omega
 ·injection hv with h1 h2 h3
  subst h1
  exact ⟨g, off, rfl, (Array.getElem?_eq_some_iff.1 hg).1, fun i x hx j u hu => by rw [Nat.add_assoc]; exact winC_cells h _ u (flat_get hk xs i x hx j u hu)⟩
end
end Go.Proofs.YtgiploddoffmjaaGreat
