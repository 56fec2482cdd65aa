/- Parts of the proof that belong together: Ta Tb Tc Td Te Tf Tg Th Ti Tj Tk Ua. -/
import Derived.Test.YtkhoengjdfmfaaaGreatGF04
set_option maxRecDepth 10000
set_option maxHeartbeats 4000000
set_option linter.unusedSimpArgs false
set_option linter.unusedVariables false
namespace Go.Proofs.YtkhoengjdfmfaaaGreat
structure Sl where
 tab : Int
 seq : Int
 kind : Int
 turn : Int
 farm : Int
 hour : Int
 lit : Int
 off : Int
 deriving Inhabited, DecidableEq
def inB (n lo hi : Int) : Bool := decide (lo ≤ n) && decide (n ≤ hi)
theorem inB_iff {n lo hi : Int} : inB n lo hi = true ↔ lo ≤ n ∧ n ≤ hi := by simp [inB]
def uR (x : Sl) : Bool :=
 if x.kind = 3 then decide (x.turn = 0) && decide (x.farm = 0) && decide (x.hour = 0) && decide (x.lit = 0) && inB x.off 1 x.seq
 else (decide (x.kind = 1) || decide (x.kind = 2)) && inB x.turn 0 1048576 && inB x.farm 0 599 && inB x.hour 0 4096 && inB x.lit 0 1073741824 && decide (x.off = 0) && (decide (x.kind = 1) || decide (x.lit = 0))
theorem slip_void {x : Sl} (h : x.kind = 3) : uR x = true ↔ x.turn = 0 ∧ x.farm = 0 ∧ x.hour = 0 ∧ x.lit = 0 ∧ 1 ≤ x.off ∧ x.off ≤ x.seq := by
 unfold uR; rw [if_pos h]; simp only [Bool.and_eq_true, decide_eq_true_eq, inB_iff]
 exact ⟨fun h => ⟨h.1.1.1.1, h.1.1.1.2, h.1.1.2, h.1.2, h.2.1, h.2.2⟩, fun h => ⟨⟨⟨⟨h.1, h.2.1⟩, h.2.2.1⟩, h.2.2.2.1⟩, h.2.2.2.2⟩⟩
theorem slip_not {x : Sl} (h : x.kind ≠ 3) : uR x = true ↔ (x.kind = 1 ∨ x.kind = 2) ∧ (0 ≤ x.turn ∧ x.turn ≤ 1048576) ∧ (0 ≤ x.farm ∧ x.farm ≤ 599) ∧ (0 ≤ x.hour ∧ x.hour ≤ 4096) ∧ (0 ≤ x.lit ∧ x.lit ≤ 1073741824) ∧ x.off = 0 ∧ (x.kind = 1 ∨ x.lit = 0) := by
 unfold uR; rw [if_neg h]; simp only [Bool.and_eq_true, Bool.or_eq_true, decide_eq_true_eq, inB_iff]
 exact ⟨fun h => ⟨h.1.1.1.1.1.1, h.1.1.1.1.1.2, h.1.1.1.1.2, h.1.1.1.2, h.1.1.2, h.1.2, h.2⟩, fun h => ⟨⟨⟨⟨⟨⟨h.1, h.2.1⟩, h.2.2.1⟩, h.2.2.2.1⟩, h.2.2.2.2.1⟩, h.2.2.2.2.2.1⟩, h.2.2.2.2.2.2⟩⟩
def stepB (p : Option Sl) (x : Sl) : Bool := match p with
 | none => decide (x.seq = 0)
 | some p => (decide (p.tab < x.tab) && decide (x.seq = 0)) || (decide (p.tab = x.tab) && decide (x.seq = p.seq + 1))
def voidB (l : List Sl) (i : Nat) (x : Sl) : Bool := !decide (x.kind = 3) || (decide (x.seq.toNat ≤ i) && (match l[i - x.seq.toNat + (x.off - 1).toNat]? with | some y => !decide (y.kind = 3) | none => true))
def pW (l : List Sl) : Nat → Option Sl
 | 0 => none
 | j + 1 => l[j]?
def okAt (l : List Sl) (i : Nat) : Bool := match l[i]? with
 | none => true
 | some x => inB x.tab 0 7 && stepB (pW l i) x && uR x && voidB l i x
def qN (l : List Sl) : Bool := (List.range l.length).all (okAt l)
def xQ (l : List Sl) : Int := if (512 : Int) < l.length then 2 else if qN l then 0 else 540
theorem book_iff {l : List Sl} : qN l = true ↔ ∀ i, i < l.length → okAt l i = true := by
 unfold qN; rw [List.all_eq_true]; simp only [List.mem_range]
theorem ok_some {l : List Sl} {i : Nat} {x : Sl} (h : l[i]? = some x) : okAt l i = true ↔ (0 ≤ x.tab ∧ x.tab ≤ 7) ∧ stepB (pW l i) x = true ∧ uR x = true ∧ voidB l i x = true := by
 unfold okAt; rw [h]; simp only [Bool.and_eq_true, inB_iff]
 exact ⟨fun h => ⟨h.1.1.1, h.1.1.2, h.1.2, h.2⟩, fun h => ⟨⟨⟨h.1, h.2.1⟩, h.2.2.1⟩, h.2.2.2⟩⟩
theorem check_zero {l : List Sl} : xQ l = 0 ↔ l.length ≤ 512 ∧ qN l = true := by
 unfold xQ
 split
 ·exact ⟨fun h => absurd h (by decide), fun h => by omega⟩
 ·split
  ·rename_i h; exact ⟨fun _ => ⟨by omega, h⟩, fun _ => rfl⟩
  ·rename_i h; exact ⟨fun e => absurd e (by decide), fun e => absurd e.2 h⟩
def ltS (x y : Sl) : Prop := x.tab < y.tab ∨ (x.tab = y.tab ∧ x.seq < y.seq)
instance (x y : Sl) : Decidable (ltS x y) := by unfold ltS; infer_instance
theorem yW {α : Type} {l : List α} {i : Nat} (h : i < l.length) : ∃ x, l[i]? = some x := ⟨_, List.getElem?_eq_getElem h⟩
theorem wD {α : Type} {q : List α} {y : α} {i : Nat} (h : q[i]? = some y) : i < q.length := (List.getElem?_eq_some_iff.1 h).1
theorem book_up {l : List Sl} (h : qN l = true) : ∀ (i j : Nat) x y, i < j → l[i]? = some x → l[j]? = some y → ltS x y := by
 intro i j
 induction j with
 | zero => intro x y hij; omega
 | succ j ih =>
  intro x y hij hx hy
  have hl := wD hy
  obtain ⟨p, hp⟩ : ∃ p, l[j]? = some p := yW (by omega)
  have h1 := ((ok_some hy).1 (book_iff.1 h (j + 1) hl)).2.1
  rw [show pW l (j + 1) = some p from hp] at h1
  simp only [stepB, Bool.or_eq_true, Bool.and_eq_true, decide_eq_true_eq] at h1
  have hpy : ltS p y := by unfold ltS; omega
  by_cases e : i = j
  ·subst e; rw [hx] at hp; cases hp; exact hpy
  ·have := ih x p (by omega) hx hp
   unfold ltS at *; omega
theorem book_pair {l : List Sl} (h : qN l = true) : l.Pairwise ltS := by
 rw [List.pairwise_iff_getElem]
 intro i j hi hj hij
 exact book_up h i j _ _ hij (List.getElem?_eq_getElem hi) (List.getElem?_eq_getElem hj)
theorem lt_irrefl (x : Sl) : ¬ ltS x x := by unfold ltS; omega
theorem up_same : ∀ {l m : List Sl}, l.Pairwise ltS → m.Pairwise ltS → (∀ y, y ∈ l ↔ y ∈ m) → l = m
 | [], [], _, _, _ => rfl
 | [], y :: m, _, _, h => absurd ((h y).2 (by simp)) (by simp)
 | x :: l, [], _, _, h => absurd ((h x).1 (by simp)) (by simp)
 | x :: l, y :: m, hl, hm, h => by
  rw [List.pairwise_cons] at hl hm
  have hxy : x = y := by
   rcases List.mem_cons.1 ((h x).1 (by simp)) with e | h1
   ·exact e
   ·rcases List.mem_cons.1 ((h y).2 (by simp)) with e | h2
    ·exact e.symm
    ·have h3 := hm.1 x h1; have h4 := hl.1 y h2; unfold ltS at h3 h4; omega
  subst hxy
  rw [up_same hl.2 hm.2 fun z => ?_]
  constructor
  ·intro hz
   rcases List.mem_cons.1 ((h z).1 (by simp [hz])) with rfl | h1
   ·exact absurd (hl.1 z hz) (lt_irrefl z)
   ·exact h1
  ·intro hz
   rcases List.mem_cons.1 ((h z).2 (by simp [hz])) with rfl | h1
   ·exact absurd (hm.1 z hz) (lt_irrefl z)
   ·exact h1
theorem qH {α : Type} {l : List α} {x : α} {i : Nat} (h : i < l.length) : (l ++ [x])[i]? = l[i]? := List.getElem?_append_left h
theorem get_end {α : Type} (l : List α) (x : α) : (l ++ [x])[l.length]? = some x := by rw [List.getElem?_append_right (Nat.le_refl _), Nat.sub_self]; rfl
theorem tT {x : Sl} (h : uR x = true) (hk : x.kind = 3) : 1 ≤ x.off ∧ x.off ≤ x.seq := by
 have := (slip_void hk).1 h; omega
theorem ok_app {l : List Sl} {x : Sl} {i : Nat} (h : i < l.length) : okAt (l ++ [x]) i = okAt l i := by
 obtain ⟨y, hy⟩ := yW h
 unfold okAt
 rw [qH h, hy]
 have hp : pW (l ++ [x]) i = pW l i := by
  cases i with
  | zero => rfl
  | succ j => exact qH (by omega)
 dsimp only
 rw [hp]
 cases hb : uR y with
 | false => simp
 | true =>
  unfold voidB
  by_cases hk : y.kind = 3
  ·have ho := tT hb hk
   by_cases hq : y.seq.toNat ≤ i
   ·rw [qH (show i - y.seq.toNat + (y.off - 1).toNat < l.length by omega)]
   ·rw [decide_eq_false hq]; simp
  ·rw [decide_eq_false hk]; simp
theorem book_snoc {l : List Sl} {x : Sl} : qN (l ++ [x]) = true ↔ qN l = true ∧ okAt (l ++ [x]) l.length = true := by
 rw [book_iff, book_iff]
 constructor
 ·intro h
  exact ⟨fun i hi => by rw [← ok_app hi]; exact h i (by simp; omega), h _ (by simp)⟩
 ·rintro ⟨h1, h2⟩ i hi
  by_cases e : i < l.length
  ·rw [ok_app e]; exact h1 i e
  ·rw [show i = l.length by simp at hi; omega]; exact h2
def qE (l : List Sl) (t : Int) : List Sl := l.filter fun x => decide (x.tab = t)
structure RightT (t : Int) (m : List Sl) : Prop where
 tab : ∀ x ∈ m, x.tab = t
 seq : ∀ (i : Nat) x, m[i]? = some x → x.seq = i
 slip : ∀ x ∈ m, uR x = true
 void : ∀ x ∈ m, x.kind = 3 → ∀ y, m[(x.off - 1).toNat]? = some y → y.kind ≠ 3
structure BookC (l : List Sl) : Prop where
 up : l.Pairwise fun x y => x.tab ≤ y.tab
 tab : ∀ x ∈ l, 0 ≤ x.tab ∧ x.tab ≤ 7
 each : ∀ t, RightT t (qE l t)
theorem rightT_nil (t : Int) : RightT t [] := ⟨by simp, by simp, by simp, by simp⟩
theorem ofT_snoc (l : List Sl) (x : Sl) (t : Int) : qE (l ++ [x]) t = if x.tab = t then qE l t ++ [x] else qE l t := by
 unfold qE; rw [List.filter_append]
 by_cases h : x.tab = t
 ·rw [if_pos h, List.filter_cons_of_pos (by simpa using h)]; rfl
 ·rw [if_neg h, List.filter_cons_of_neg (by simpa using h)]; simp
theorem rightT_snoc {t : Int} {m : List Sl} {x : Sl} : RightT t (m ++ [x]) ↔ RightT t m ∧ x.tab = t ∧ x.seq = m.length ∧ uR x = true ∧ (x.kind = 3 → ∀ y, m[(x.off - 1).toNat]? = some y → y.kind ≠ 3) := by
 constructor
 ·intro h
  have hx : (m ++ [x])[m.length]? = some x := get_end m x
  have hm : x ∈ m ++ [x] := by simp
  refine ⟨⟨fun y hy => h.tab y (by simp [hy]), fun i y hy => h.seq i y (by rw [qH (wD hy)]; exact hy), fun y hy => h.slip y (by simp [hy]), fun y hy hk z hz => h.void y (by simp [hy]) hk z (by rw [qH (wD hz)]; exact hz)⟩, h.tab x hm, h.seq _ x hx, h.slip x hm, fun hk y hy => h.void x hm hk y (by rw [qH (wD hy)]; exact hy)⟩
 ·rintro ⟨h, h1, h2, h3, h4⟩
  refine ⟨fun y hy => ?_, fun i y hy => ?_, fun y hy => ?_, fun y hy hk z hz => ?_⟩
  ·rcases List.mem_append.1 hy with hy | hy
   ·exact h.tab y hy
   ·rw [List.mem_singleton] at hy; subst hy; exact h1
  ·by_cases e : i < m.length
   ·rw [qH e] at hy; exact h.seq i y hy
   ·have := wD hy
    have e2 : i = m.length := by simp at this; omega
    subst e2; rw [get_end] at hy; cases hy; exact h2
  ·rcases List.mem_append.1 hy with hy | hy
   ·exact h.slip y hy
   ·rw [List.mem_singleton] at hy; subst hy; exact h3
  ·rcases List.mem_append.1 hy with hy | hy
   ·obtain ⟨i, hi⟩ := List.getElem?_of_mem hy
    have hs := h.seq i y hi
    have ho := tT (h.slip y hy) hk
    have hl := wD hi
    rw [qH (by omega)] at hz
    exact h.void y hy hk z hz
   ·rw [List.mem_singleton] at hy; subst hy
    have ho := tT h3 hk
    rw [qH (by omega)] at hz
    exact h4 hk z hz
theorem ofT_last {l : List Sl} {p : Sl} : qE (l ++ [p]) p.tab = qE l p.tab ++ [p] := by rw [ofT_snoc, if_pos rfl]
theorem snoc_or {α : Type} (l : List α) : l = [] ∨ ∃ k x, l = k ++ [x] := by
 rcases List.eq_nil_or_concat l with h | ⟨k, x, h⟩
 ·exact .inl h
 ·exact .inr ⟨k, x, by simpa using h⟩
theorem prev_last (k : List Sl) (p x : Sl) : pW (k ++ [p] ++ [x]) (k ++ [p]).length = some p := by
 rw [show (k ++ [p]).length = k.length + 1 by simp]
 show (k ++ [p] ++ [x])[k.length]? = some p
 rw [qH (by simp), get_end]
theorem snoc_up {l : List Sl} {x : Sl} : (l ++ [x]).Pairwise (fun x y => x.tab ≤ y.tab) ↔ l.Pairwise (fun x y => x.tab ≤ y.tab) ∧ ∀ y ∈ l, y.tab ≤ x.tab := by
 rw [List.pairwise_append]
 exact ⟨fun h => ⟨h.1, fun y hy => h.2.2 y hy x (by simp)⟩, fun h => ⟨h.1, by simp, fun y hy z hz => by rw [List.mem_singleton] at hz; subst hz; exact h.2 y hy⟩⟩
theorem ofT_none {l : List Sl} {t : Int} (h : ∀ y ∈ l, y.tab < t) : qE l t = [] := by
 unfold qE; rw [List.filter_eq_nil_iff]
 intro y hy
 have := h y hy
 simp; omega
theorem ofT_length {l : List Sl} {p : Sl} (h : RightT p.tab (qE (l ++ [p]) p.tab)) : p.seq = (qE l p.tab).length := by
 rw [ofT_last] at h
 exact (rightT_snoc.1 h).2.2.1
theorem ofT_end : ∀ {l : List Sl} {t : Int}, l.Pairwise (fun x y => x.tab ≤ y.tab) → (∀ y ∈ l, y.tab ≤ t) → ∃ A, l = A ++ qE l t
 | l, t, hu, hl => by
  induction l with
  | nil => exact ⟨[], rfl⟩
  | cons x l ih =>
   rw [List.pairwise_cons] at hu
   obtain ⟨A, hA⟩ := ih hu.2 fun y hy => hl y (by simp [hy])
   by_cases hx : x.tab = t
   ·have hall : qE (x :: l) t = x :: l := by
     unfold qE; rw [List.filter_eq_self]
     intro y hy
     rcases List.mem_cons.1 hy with rfl | hy
     ·simpa using hx
     ·have h1 := hu.1 y hy; have h2 := hl y (by simp [hy]); simp; omega
    exact ⟨[], by rw [hall]; rfl⟩
   ·refine ⟨x :: A, ?_⟩
    have : qE (x :: l) t = qE l t := by unfold qE; rw [List.filter_cons_of_neg (by simpa using hx)]
    rw [this, List.cons_append, ← hA]
theorem book_char_snoc {l : List Sl} {x : Sl} (hl : BookC l) : okAt (l ++ [x]) l.length = true ↔ (0 ≤ x.tab ∧ x.tab ≤ 7) ∧ (∀ y ∈ l, y.tab ≤ x.tab) ∧ RightT x.tab (qE l x.tab ++ [x]) := by
 rw [ok_some (get_end l x), rightT_snoc]
 have hst : stepB (pW (l ++ [x]) l.length) x = true ↔ (∀ y ∈ l, y.tab ≤ x.tab) ∧ x.seq = (qE l x.tab).length := by
  rcases snoc_or l with rfl | ⟨k, p, rfl⟩
  ·simp [pW, stepB, qE]
  ·rw [prev_last]
   have hup := snoc_up.1 hl.up
   have hp := ofT_length (hl.each p.tab)
   simp only [stepB, Bool.or_eq_true, Bool.and_eq_true, decide_eq_true_eq]
   constructor
   ·rintro (⟨h1, h2⟩ | ⟨h1, h2⟩)
    ·have hall : ∀ y ∈ k ++ [p], y.tab < x.tab := fun y hy => by
      rcases List.mem_append.1 hy with hy | hy
      ·have := hup.2 y hy; omega
      ·rw [List.mem_singleton] at hy; subst hy; exact h1
     exact ⟨fun y hy => by have := hall y hy; omega, by rw [ofT_none hall]; simpa using h2⟩
    ·refine ⟨fun y hy => ?_, ?_⟩
     ·rcases List.mem_append.1 hy with hy | hy
      ·have := hup.2 y hy; omega
      ·rw [List.mem_singleton] at hy; subst hy; omega
     ·rw [← h1, ofT_last, List.length_append, List.length_singleton]; omega
   ·rintro ⟨h1, h2⟩
    have hpx := h1 p (by simp)
    by_cases e : p.tab = x.tab
    ·right
     rw [← e, ofT_last, List.length_append, List.length_singleton] at h2
     exact ⟨e, by omega⟩
    ·left
     have hall : ∀ y ∈ k ++ [p], y.tab < x.tab := fun y hy => by
      rcases List.mem_append.1 hy with hy | hy
      ·have := hup.2 y hy; omega
      ·rw [List.mem_singleton] at hy; subst hy; omega
     rw [ofT_none hall] at h2
     exact ⟨by omega, by simpa using h2⟩
 rw [hst]
 constructor
 ·rintro ⟨h1, ⟨h2, h3⟩, h4, h5⟩
  refine ⟨h1, h2, hl.each _, rfl, h3, h4, fun hk y hy => ?_⟩
  obtain ⟨A, hA⟩ := ofT_end hl.up h2
  have ho := tT h4 hk
  unfold voidB at h5
  rw [decide_eq_true hk] at h5
  simp only [Bool.not_true, Bool.false_or, Bool.and_eq_true] at h5
  have hlen : l.length = A.length + (qE l x.tab).length := by
   have := congrArg List.length hA; rw [List.length_append] at this; exact this
  have hy2 : (l ++ [x])[l.length - x.seq.toNat + (x.off - 1).toNat]? = some y := by
   rw [qH (by omega), show l.length - x.seq.toNat + (x.off - 1).toNat = A.length + (x.off - 1).toNat by omega]
   have e := congrArg (fun m : List Sl => m[A.length + (x.off - 1).toNat]?) hA
   rw [e, List.getElem?_append_right (by omega), show A.length + (x.off - 1).toNat - A.length = (x.off - 1).toNat by omega]
   exact hy
  rw [hy2] at h5
  simpa using h5.2
 ·rintro ⟨h1, h2, _, _, h3, h4, h5⟩
  refine ⟨h1, ⟨h2, h3⟩, h4, ?_⟩
  unfold voidB
  by_cases hk : x.kind = 3
  ·obtain ⟨A, hA⟩ := ofT_end hl.up h2
   have ho := tT h4 hk
   have hlen : l.length = A.length + (qE l x.tab).length := by
    have := congrArg List.length hA; rw [List.length_append] at this; exact this
   obtain ⟨y, hy⟩ : ∃ y, (qE l x.tab)[(x.off - 1).toNat]? = some y := yW (by omega)
   have hy2 : (l ++ [x])[l.length - x.seq.toNat + (x.off - 1).toNat]? = some y := by
    rw [qH (by omega), show l.length - x.seq.toNat + (x.off - 1).toNat = A.length + (x.off - 1).toNat by omega]
    have e := congrArg (fun m : List Sl => m[A.length + (x.off - 1).toNat]?) hA
    rw [e, List.getElem?_append_right (by omega), show A.length + (x.off - 1).toNat - A.length = (x.off - 1).toNat by omega]
    exact hy
   rw [hy2]
   have := h5 hk y hy
   simp [this]; omega
  ·rw [decide_eq_false hk]; rfl
theorem book_char {l : List Sl} : qN l = true ↔ BookC l := by
 generalize hn : l.length = n
 induction n generalizing l with
 | zero =>
  obtain rfl := List.length_eq_zero_iff.1 hn
  exact ⟨fun _ => ⟨.nil, by simp, fun t => rightT_nil t⟩, fun _ => rfl⟩
 | succ n ih =>
  rcases snoc_or l with rfl | ⟨k, x, rfl⟩
  ·simp at hn
  ·have hk : k.length = n := by simp at hn; omega
   have hfall : ∀ t, qE (k ++ [x]) t = if x.tab = t then qE k t ++ [x] else qE k t := ofT_snoc k x
   rw [book_snoc, ih hk]
   constructor
   ·rintro ⟨h1, h2⟩
    obtain ⟨g1, g2, g3⟩ := (book_char_snoc h1).1 h2
    refine ⟨snoc_up.2 ⟨h1.up, g2⟩, fun y hy => ?_, fun t => ?_⟩
    ·rcases List.mem_append.1 hy with hy | hy
     ·exact h1.tab y hy
     ·rw [List.mem_singleton] at hy; subst hy; exact g1
    ·rw [hfall]
     by_cases e : x.tab = t
     ·rw [if_pos e, ← e]; exact g3
     ·rw [if_neg e]; exact h1.each t
   ·intro h
    have hup := snoc_up.1 h.up
    have h1 : BookC k := by
     refine ⟨hup.1, fun y hy => h.tab y (by simp [hy]), fun t => ?_⟩
     have := h.each t
     rw [hfall] at this
     by_cases e : x.tab = t
     ·rw [if_pos e] at this; exact (rightT_snoc.1 this).1
     ·rw [if_neg e] at this; exact this
    refine ⟨h1, (book_char_snoc h1).2 ⟨h.tab x (by simp), hup.2, ?_⟩⟩
    have := h.each x.tab
    rw [ofT_last] at this; exact this
def atS (l : List Sl) (t : Int) : Nat := l.countP fun x => decide (x.tab ≤ t)
def uJ (l : List Sl) (t : Int) : Nat := l.countP fun x => decide (x.tab = t)
def uT (l : List Sl) (s : Sl) : List Sl := l.take (atS l s.tab) ++ s :: l.drop (atS l s.tab)
def vQ (l : List Sl) (s : Sl) : List Sl × Int :=
 if xQ l ≠ 0 then ([], xQ l) else if l.length = 512 then ([], 2)
 else if qN (uT l { s with seq := (uJ l s.tab : Nat) }) then (uT l { s with seq := (uJ l s.tab : Nat) }, 0) else ([], 540)
theorem many_len (l : List Sl) (t : Int) : uJ l t = (qE l t).length := by unfold uJ qE; rw [List.countP_eq_length_filter]
theorem at_split : ∀ {l : List Sl} {t : Int}, l.Pairwise (fun x y => x.tab ≤ y.tab) → ∃ A B, l = A ++ B ∧ atS l t = A.length ∧ (∀ y ∈ A, y.tab ≤ t) ∧ ∀ y ∈ B, t < y.tab
 | [], t, _ => ⟨[], [], rfl, rfl, by simp, by simp⟩
 | x :: l, t, h => by
  rw [List.pairwise_cons] at h
  by_cases hx : x.tab ≤ t
  ·obtain ⟨A, B, h1, h2, h3, h4⟩ := at_split (t := t) h.2
   refine ⟨x :: A, B, by rw [h1]; rfl, ?_, fun y hy => ?_, h4⟩
   ·unfold atS at h2 ⊢
    rw [List.countP_cons_of_pos (by simpa using hx), h2, List.length_cons]
   ·rcases List.mem_cons.1 hy with rfl | hy
    ·exact hx
    ·exact h3 y hy
  ·have hall : ∀ y ∈ x :: l, t < y.tab := fun y hy => by
    rcases List.mem_cons.1 hy with rfl | hy
    ·omega
    ·have := h.1 y hy; omega
   refine ⟨[], x :: l, rfl, ?_, by simp, hall⟩
   unfold atS
   rw [List.length_nil, List.countP_eq_zero]
   intro y hy
   have := hall y hy
   simp; omega
theorem put_split {l : List Sl} {s : Sl} (h : l.Pairwise (fun x y => x.tab ≤ y.tab)) : ∃ A B, l = A ++ B ∧ atS l s.tab = A.length ∧ uT l s = A ++ s :: B ∧ (∀ y ∈ A, y.tab ≤ s.tab) ∧ ∀ y ∈ B, s.tab < y.tab := by
 obtain ⟨A, B, h1, h2, h3, h4⟩ := at_split (t := s.tab) h
 refine ⟨A, B, h1, h2, ?_, h3, h4⟩
 unfold uT
 rw [h2, h1, List.take_left, List.drop_left]
theorem put_len (l : List Sl) (s : Sl) : (uT l s).length = l.length + 1 := by
 unfold uT; rw [List.length_append, List.length_cons, List.length_take, List.length_drop]; omega
theorem ofT_app (l m : List Sl) (t : Int) : qE (l ++ m) t = qE l t ++ qE m t := by unfold qE; rw [List.filter_append]
theorem ofT_hi {l : List Sl} {t : Int} (h : ∀ y ∈ l, t < y.tab) : qE l t = [] := by
 unfold qE; rw [List.filter_eq_nil_iff]; intro y hy; have := h y hy; simp; omega
theorem ofT_put {l : List Sl} {s : Sl} (h : l.Pairwise (fun x y => x.tab ≤ y.tab)) (t : Int) : qE (uT l s) t = if s.tab = t then qE l t ++ [s] else qE l t := by
 obtain ⟨A, B, h1, _, h3, h4, h5⟩ := put_split (s := s) h
 rw [h3, ofT_app, show s :: B = [s] ++ B from rfl, ofT_app, h1, ofT_app]
 have e : qE [s] t = if s.tab = t then [s] else [] := by
  have := ofT_snoc [] s t
  simpa [qE] using this
 rw [e]
 split
 ·rename_i hs
  subst hs
  rw [ofT_hi h5]; simp
 ·simp
theorem put_mem {l : List Sl} {s y : Sl} : y ∈ uT l s ↔ y = s ∨ y ∈ l := by
 unfold uT
 have h2 : y ∈ l ↔ y ∈ l.take (atS l s.tab) ∨ y ∈ l.drop (atS l s.tab) := by rw [← List.mem_append, List.take_append_drop]
 rw [h2, List.mem_append, List.mem_cons]
 constructor
 ·rintro (h | h | h)
  ·exact .inr (.inl h)
  ·exact .inl h
  ·exact .inr (.inr h)
 ·rintro (h | h | h)
  ·exact .inr (.inl h)
  ·exact .inl h
  ·exact .inr (.inr h)
def wR : List Sl → List Sl → Option (List Sl)
 | [], m => some m
 | x :: l, [] => some (x :: l)
 | x :: l, y :: m => if ltS x y then (wR l (y :: m)).map (x :: ·) else if ltS y x then (wR (x :: l) m).map (y :: ·) else if x = y then (wR l m).map (x :: ·) else none
termination_by l m => l.length + m.length
theorem mergeR_nil (l : List Sl) : wR l [] = some l := by cases l <;> simp [wR]
def pV (l m : List Sl) : List Sl × Int :=
 if xQ l ≠ 0 then ([], xQ l) else if xQ m ≠ 0 then ([], xQ m)
 else match wR l m with | none => ([], 540) | some o => if (512 : Int) < o.length then ([], 2) else (o, 0)
def Agree (l m : List Sl) : Prop := ∀ x ∈ l, ∀ y ∈ m, x.tab = y.tab → x.seq = y.seq → x = y
theorem lt_trans {x y z : Sl} (h : ltS x y) (k : ltS y z) : ltS x z := by unfold ltS at *; omega
theorem not_lt {x y : Sl} (h : ¬ ltS x y) (k : ¬ ltS y x) : x.tab = y.tab ∧ x.seq = y.seq := by unfold ltS at *; omega
theorem merge_some : ∀ {l m o : List Sl}, l.Pairwise ltS → m.Pairwise ltS → wR l m = some o → o.Pairwise ltS ∧ (∀ y, y ∈ o ↔ y ∈ l ∨ y ∈ m) ∧ Agree l m
 | [], m, o, _, hm, h => by
  simp only [wR, Option.some.injEq] at h; subst h
  exact ⟨hm, by simp, by simp [Agree]⟩
 | x :: l, [], o, hl, _, h => by
  simp only [wR, Option.some.injEq] at h; subst h
  exact ⟨hl, by simp, by simp [Agree]⟩
 | x :: l, y :: m, o, hl, hm, h => by
  have hl' := List.pairwise_cons.1 hl
  have hm' := List.pairwise_cons.1 hm
  rw [wR] at h
  split at h
  ·rename_i hxy
   rw [Option.map_eq_some_iff] at h
   obtain ⟨q, hq, rfl⟩ := h
   obtain ⟨g1, g2, g3⟩ := merge_some hl'.2 hm hq
   refine ⟨List.pairwise_cons.2 ⟨fun z hz => ?_, g1⟩, fun z => ?_, fun a ha b hb e1 e2 => ?_⟩
   ·rcases (g2 z).1 hz with hz | hz
    ·exact hl'.1 z hz
    ·rcases List.mem_cons.1 hz with rfl | hz
     ·exact hxy
     ·exact lt_trans hxy (hm'.1 z hz)
   ·rw [List.mem_cons, g2, List.mem_cons (a := z) (b := x)]
    exact or_assoc.symm
   ·rcases List.mem_cons.1 ha with rfl | ha
    ·rcases List.mem_cons.1 hb with rfl | hb
     ·unfold ltS at hxy; omega
     ·have := lt_trans hxy (hm'.1 b hb); unfold ltS at this; omega
    ·exact g3 a ha b hb e1 e2
  ·rename_i hxy
   split at h
   ·rename_i hyx
    rw [Option.map_eq_some_iff] at h
    obtain ⟨q, hq, rfl⟩ := h
    obtain ⟨g1, g2, g3⟩ := merge_some hl hm'.2 hq
    refine ⟨List.pairwise_cons.2 ⟨fun z hz => ?_, g1⟩, fun z => ?_, fun a ha b hb e1 e2 => ?_⟩
    ·rcases (g2 z).1 hz with hz | hz
     ·rcases List.mem_cons.1 hz with rfl | hz
      ·exact hyx
      ·exact lt_trans hyx (hl'.1 z hz)
     ·exact hm'.1 z hz
    ·rw [List.mem_cons, g2, List.mem_cons (a := z) (b := y)]
     exact or_left_comm
    ·rcases List.mem_cons.1 hb with rfl | hb
     ·rcases List.mem_cons.1 ha with rfl | ha
      ·unfold ltS at hyx; omega
      ·have := lt_trans hyx (hl'.1 a ha); unfold ltS at this; omega
     ·exact g3 a ha b hb e1 e2
   ·rename_i hyx
    split at h
    ·rename_i e
     subst e
     rw [Option.map_eq_some_iff] at h
     obtain ⟨q, hq, rfl⟩ := h
     obtain ⟨g1, g2, g3⟩ := merge_some hl'.2 hm'.2 hq
     refine ⟨List.pairwise_cons.2 ⟨fun z hz => ?_, g1⟩, fun z => ?_, fun a ha b hb e1 e2 => ?_⟩
     ·rcases (g2 z).1 hz with hz | hz
      ·exact hl'.1 z hz
      ·exact hm'.1 z hz
     ·rw [List.mem_cons, g2, List.mem_cons, List.mem_cons]
      constructor
      ·rintro (h | h | h)
       ·exact .inl (.inl h)
       ·exact .inl (.inr h)
       ·exact .inr (.inr h)
      ·rintro ((h | h) | (h | h))
       ·exact .inl h
       ·exact .inr (.inl h)
       ·exact .inl h
       ·exact .inr (.inr h)
     ·rcases List.mem_cons.1 ha with ha2 | ha2
      ·rcases List.mem_cons.1 hb with hb2 | hb2
       ·rw [ha2, hb2]
       ·have := hm'.1 b hb2; rw [← ha2] at this; unfold ltS at this; omega
      ·rcases List.mem_cons.1 hb with hb2 | hb2
       ·have := hl'.1 a ha2; rw [← hb2] at this; unfold ltS at this; omega
       ·exact g3 a ha2 b hb2 e1 e2
    ·cases h
termination_by l m => l.length + m.length
theorem merge_none : ∀ {l m : List Sl}, wR l m = none → ¬ Agree l m
 | [], m, h => by simp [wR] at h
 | x :: l, [], h => by simp [wR] at h
 | x :: l, y :: m, h => by
  rw [wR] at h
  split at h
  ·rw [Option.map_eq_none_iff] at h
   exact fun g => merge_none h fun a ha b hb => g a (by simp [ha]) b hb
  ·rename_i hxy
   split at h
   ·rw [Option.map_eq_none_iff] at h
    exact fun g => merge_none h fun a ha b hb => g a ha b (by simp [hb])
   ·rename_i hyx
    split at h
    ·rw [Option.map_eq_none_iff] at h
     exact fun g => merge_none h fun a ha b hb => g a (by simp [ha]) b (by simp [hb])
    ·rename_i hne
     obtain ⟨e1, e2⟩ := not_lt hxy hyx
     exact fun g => hne (g x (by simp) y (by simp) e1 e2)
termination_by l m => l.length + m.length
theorem merge_is {l m o : List Sl} (hl : l.Pairwise ltS) (hm : m.Pairwise ltS) (ho : o.Pairwise ltS) (hag : Agree l m) (hmem : ∀ y, y ∈ o ↔ y ∈ l ∨ y ∈ m) : wR l m = some o := by
 cases h : wR l m with
 | none => exact absurd hag (merge_none h)
 | some q =>
  obtain ⟨g1, g2, _⟩ := merge_some hl hm h
  rw [up_same g1 ho fun y => by rw [g2, hmem]]
theorem book_lt {l : List Sl} (h : BookC l) : l.Pairwise ltS := book_pair (book_char.2 h)
theorem ofT_mem {l : List Sl} {t : Int} {x : Sl} : x ∈ qE l t ↔ x ∈ l ∧ x.tab = t := by unfold qE; rw [List.mem_filter]; simp
theorem mergeS_of {l m o : List Sl} (h1 : xQ l = 0) (h2 : xQ m = 0) (h : wR l m = some o) (hl : o.length ≤ 512) : pV l m = (o, 0) := by
 unfold pV
 rw [if_neg (by rw [h1]; simp), if_neg (by rw [h2]; simp), h]
 dsimp only
 rw [if_neg (by omega)]
theorem uC {l : List Sl} (h : xQ l = 0) : BookC l := book_char.1 (check_zero.1 h).2
theorem mergeS_self {l : List Sl} (h : xQ l = 0) : pV l l = (l, 0) := by
 have hu := book_lt (uC h)
 have hag : Agree l l := fun x hx y hy e1 e2 => by
  obtain ⟨i, hi⟩ := List.getElem?_of_mem hx
  obtain ⟨j, hj⟩ := List.getElem?_of_mem hy
  have hb := (check_zero.1 h).2
  rcases Nat.lt_trichotomy i j with g | g | g
  ·have := book_up hb i j x y g hi hj; unfold ltS at this; omega
  ·subst g; rw [hi] at hj; exact Option.some.inj hj
  ·have := book_up hb j i y x g hj hi; unfold ltS at this; omega
 exact mergeS_of h h (merge_is hu hu hu hag fun y => by simp) (check_zero.1 h).1
theorem at_first {l : List Sl} {t : Int} {i : Nat} (h : l.Pairwise fun x y => x.tab ≤ y.tab) (hi : i ≤ l.length) (h1 : ∀ y ∈ l.take i, y.tab ≤ t) (h2 : ∀ y, l[i]? = some y → t < y.tab) : i = atS l t := by
 obtain ⟨A, B, e, ha, hA, hB⟩ := at_split (t := t) h
 rw [ha]
 rcases Nat.lt_trichotomy i A.length with g | g | g
 ·obtain ⟨y, hy⟩ : ∃ y, A[i]? = some y := yW g
  have := h2 y (by rw [e, List.getElem?_append_left g]; exact hy)
  have := hA y (List.mem_of_getElem? hy)
  omega
 ·exact g
 ·have hl : A.length < l.length := by omega
  obtain ⟨y, hy⟩ : ∃ y, l[A.length]? = some y := yW hl
  have hyB : y ∈ B := by
   have hy2 := hy
   rw [e, List.getElem?_append_right (Nat.le_refl _), Nat.sub_self] at hy2
   exact List.mem_of_getElem? hy2
  have := hB y hyB
  have : y ∈ l.take i := List.mem_of_getElem? (i := A.length) (by rw [List.getElem?_take, if_pos g]; exact hy)
  have := h1 y this
  omega
theorem take_next {b : List Sl} {k : Nat} {s y : Sl} (hs : b[k]? = some s) : y ∈ b.take (k + 1) ↔ y ∈ b.take k ∨ y = s := by
 rw [List.take_add_one, hs, List.mem_append]; simp
abbrev Ey := Nat × Sl
def voidIn (l : List Sl) (x : Sl) : Bool := l.any fun y => decide (y.kind = 3) && decide (y.tab = x.tab) && decide (y.off = x.seq + 1)
def cntB (l : List Sl) (x : Sl) : Bool := !decide (x.kind = 3) && !voidIn l x
def qQ (l : List Sl) : Nat → List Sl → List Ey
 | _, [] => []
 | i, x :: m => if cntB l x then (i, x) :: qQ l (i + 1) m else qQ l (i + 1) m
def entL (l : List Sl) : List Ey := qQ l 0 l
def entT (l : List Sl) (n : Int) : List Ey := (entL l).filter fun e => decide (e.2.turn = n)
theorem entF_app (l : List Sl) : ∀ (m k : List Sl) (i : Nat), qQ l i (m ++ k) = qQ l i m ++ qQ l (i + m.length) k
 | [], k, i => by simp [qQ]
 | x :: m, k, i => by
  rw [List.cons_append, qQ, qQ, entF_app l m k (i + 1), List.length_cons, show i + 1 + m.length = i + (m.length + 1) by omega]
  split <;> rfl
theorem entF_mem {l : List Sl} : ∀ {m : List Sl} {i : Nat} {e : Ey}, e ∈ qQ l i m ↔ ∃ k, m[k]? = some e.2 ∧ e.1 = i + k ∧ cntB l e.2 = true
 | [], i, e => by simp [qQ]
 | x :: m, i, e => by
  have ih := @entF_mem l m (i + 1) e
  rw [qQ]
  constructor
  ·intro h
   split at h
   ·rename_i hc
    rcases List.mem_cons.1 h with rfl | h
    ·exact ⟨0, rfl, rfl, hc⟩
    ·obtain ⟨k, h1, h2, h3⟩ := ih.1 h
     exact ⟨k + 1, h1, by omega, h3⟩
   ·obtain ⟨k, h1, h2, h3⟩ := ih.1 h
    exact ⟨k + 1, h1, by omega, h3⟩
  ·rintro ⟨k, h1, h2, h3⟩
   cases k with
   | zero =>
    have hx : x = e.2 := by simpa using h1
    rw [hx, if_pos h3]
    exact List.mem_cons.2 (.inl (Prod.ext (by rw [h2]; rfl) rfl))
   | succ k =>
    have := ih.2 ⟨k, by simpa using h1, by omega, h3⟩
    split
    ·exact List.mem_cons_of_mem _ this
    ·exact this
theorem entF_up (l : List Sl) : ∀ (m : List Sl) (i : Nat), (qQ l i m).Pairwise fun a b => a.1 < b.1
 | [], i => .nil
 | x :: m, i => by
  rw [qQ]
  split
  ·refine List.pairwise_cons.2 ⟨fun e he => ?_, entF_up l m (i + 1)⟩
   obtain ⟨k, _, h2, _⟩ := entF_mem.1 he
   dsimp only; omega
  ·exact entF_up l m (i + 1)
def qL (a b : Ey) : Prop := a.2.hour < b.2.hour ∨ (a.2.hour = b.2.hour ∧ a.1 < b.1)
instance (a b : Ey) : Decidable (qL a b) := by unfold qL; infer_instance
def insE (e : Ey) : List Ey → List Ey
 | [] => [e]
 | x :: l => if qL e x then e :: x :: l else x :: insE e l
def sortE (l : List Ey) : List Ey := l.foldr insE []
theorem insE_mem {e y : Ey} : ∀ {l : List Ey}, y ∈ insE e l ↔ y = e ∨ y ∈ l
 | [] => by simp [insE]
 | x :: l => by
  rw [insE]
  split
  ·simp
  ·rw [List.mem_cons, insE_mem (l := l), List.mem_cons]; exact or_left_comm
theorem sortE_mem {y : Ey} : ∀ {l : List Ey}, y ∈ sortE l ↔ y ∈ l
 | [] => by simp [sortE]
 | x :: l => by
  show y ∈ insE x (sortE l) ↔ _
  rw [insE_mem, sortE_mem (l := l), List.mem_cons]
theorem ltE_trans {a b c : Ey} (h : qL a b) (k : qL b c) : qL a c := by unfold qL at *; omega
theorem insE_up {e : Ey} : ∀ {l : List Ey}, l.Pairwise qL → (∀ x ∈ l, x.1 ≠ e.1) → (insE e l).Pairwise qL
 | [], _, _ => by simp [insE]
 | x :: l, h, hn => by
  rw [insE]
  have h' := List.pairwise_cons.1 h
  split
  ·rename_i hlt
   refine List.pairwise_cons.2 ⟨fun y hy => ?_, h⟩
   rcases List.mem_cons.1 hy with rfl | hy
   ·exact hlt
   ·exact ltE_trans hlt (h'.1 y hy)
  ·rename_i hlt
   refine List.pairwise_cons.2 ⟨fun y hy => ?_, insE_up h'.2 fun y hy => hn y (by simp [hy])⟩
   rcases insE_mem.1 hy with rfl | hy
   ·have := hn x (by simp); unfold qL at *; omega
   ·exact h'.1 y hy
theorem sortE_up : ∀ {l : List Ey}, l.Pairwise (fun a b => a.1 < b.1) → (sortE l).Pairwise qL
 | [], _ => .nil
 | x :: l, h => by
  have h' := List.pairwise_cons.1 h
  refine insE_up (sortE_up h'.2) fun y hy => ?_
  have := h'.1 y (sortE_mem.1 hy); omega
structure Tn where
 turn : Int
 farm : Int
 given : Int
 twice : List Int
 deriving Inhabited, DecidableEq
def stepT (t : Tn) (e : Ey) : Tn :=
 if e.2.kind = 2 then (if t.given = 0 then { t with farm := e.2.farm } else t)
 else if e.2.kind = 1 then (if t.given = 0 then { t with given := (e.1 : Int) + 1, farm := e.2.farm } else { t with twice := t.twice ++ [(e.1 : Int)] })
 else t
def foldT (n : Int) (S : List Ey) : Tn := S.foldl stepT ⟨n, 0, 0, []⟩
def insN (n : Int) : List Int → List Int
 | [] => [n]
 | x :: l => if n < x then n :: x :: l else if n = x then x :: l else x :: insN n l
def numsE (E : List Ey) : List Int := E.foldr (fun e l => insN e.2.turn l) []
theorem insN_mem {n y : Int} : ∀ {l : List Int}, y ∈ insN n l ↔ y = n ∨ y ∈ l
 | [] => by simp [insN]
 | x :: l => by
  rw [insN]
  split
  ·simp
  ·split
   ·rename_i h; subst h; simp
   ·rw [List.mem_cons, insN_mem (l := l), List.mem_cons]; exact or_left_comm
theorem insN_up {n : Int} : ∀ {l : List Int}, l.Pairwise (· < ·) → (insN n l).Pairwise (· < ·)
 | [], _ => by simp [insN]
 | x :: l, h => by
  have h' := List.pairwise_cons.1 h
  rw [insN]
  split
  ·rename_i hlt
   refine List.pairwise_cons.2 ⟨fun y hy => ?_, h⟩
   rcases List.mem_cons.1 hy with rfl | hy
   ·exact hlt
   ·have := h'.1 y hy; omega
  ·split
   ·exact h
   ·rename_i h1 h2
    refine List.pairwise_cons.2 ⟨fun y hy => ?_, insN_up h'.2⟩
    rcases insN_mem.1 hy with rfl | hy
    ·omega
    ·exact h'.1 y hy
theorem nums_mem {n : Int} : ∀ {E : List Ey}, n ∈ numsE E ↔ ∃ e ∈ E, e.2.turn = n
 | [] => by simp [numsE]
 | e :: E => by
  show n ∈ insN e.2.turn (numsE E) ↔ _
  rw [insN_mem, nums_mem (E := E)]
  constructor
  ·rintro (h | ⟨x, hx, h⟩)
   ·exact ⟨e, by simp, h.symm⟩
   ·exact ⟨x, by simp [hx], h⟩
  ·rintro ⟨x, hx, h⟩
   rcases List.mem_cons.1 hx with rfl | hx
   ·exact .inl h.symm
   ·exact .inr ⟨x, hx, h⟩
theorem nums_up : ∀ (E : List Ey), (numsE E).Pairwise (· < ·)
 | [] => .nil
 | e :: E => insN_up (nums_up E)
def insJ (n : Int) : List Int → List Int
 | [] => [n]
 | x :: l => if n ≤ x then n :: x :: l else x :: insJ n l
def sortJ (l : List Int) : List Int := l.foldr insJ []
def turnS (l : List Sl) (n : Int) : Tn := { foldT n (sortE (entT l n)) with twice := sortJ (foldT n (sortE (entT l n))).twice }
def turnsS (l : List Sl) : List Tn × Int := if xQ l ≠ 0 then ([], xQ l) else ((numsE (entL l)).map (turnS l), 0)
theorem same_up {α : Type} {r : α → α → Prop} (ha : ∀ a b, r a b → r b a → False) : ∀ {l m : List α}, l.Pairwise r → m.Pairwise r → (∀ y, y ∈ l ↔ y ∈ m) → l = m
 | [], [], _, _, _ => rfl
 | [], y :: m, _, _, h => absurd ((h y).2 (by simp)) (by simp)
 | x :: l, [], _, _, h => absurd ((h x).1 (by simp)) (by simp)
 | x :: l, y :: m, hl, hm, h => by
  rw [List.pairwise_cons] at hl hm
  have hxy : x = y := by
   rcases List.mem_cons.1 ((h x).1 (by simp)) with e | h1
   ·exact e
   ·rcases List.mem_cons.1 ((h y).2 (by simp)) with e | h2
    ·exact e.symm
    ·exact (ha _ _ (hm.1 x h1) (hl.1 y h2)).elim
  subst hxy
  rw [same_up ha hl.2 hm.2 fun z => ?_]
  constructor
  ·intro hz
   rcases List.mem_cons.1 ((h z).1 (by simp [hz])) with rfl | h1
   ·exact (ha _ _ (hl.1 z hz) (hl.1 z hz)).elim
   ·exact h1
  ·intro hz
   rcases List.mem_cons.1 ((h z).2 (by simp [hz])) with rfl | h1
   ·exact (ha _ _ (hm.1 z hz) (hm.1 z hz)).elim
   ·exact h1
theorem ltE_asymm (a b : Ey) (h : qL a b) (k : qL b a) : False := by unfold qL at *; omega
theorem insJ_mem {n y : Int} : ∀ {l : List Int}, y ∈ insJ n l ↔ y = n ∨ y ∈ l
 | [] => by simp [insJ]
 | x :: l => by
  rw [insJ]
  split
  ·simp
  ·rw [List.mem_cons, insJ_mem (l := l), List.mem_cons]; exact or_left_comm
theorem int_asymm (a b : Int) (h : a < b) (k : b < a) : False := by omega
theorem dropW_len {α : Type} (p : α → Bool) (l : List α) : (l.dropWhile p).length ≤ l.length := (List.dropWhile_sublist p).length_le
abbrev sameT (x y : Sl) : Bool := decide (y.tab = x.tab)
def vL : List Sl → List (List Sl)
 | [] => []
 | x :: l => (x :: l.takeWhile (sameT x)) :: vL (l.dropWhile (sameT x))
termination_by l => l.length
decreasing_by
 have := dropW_len (sameT x) l
 simp only [List.length_cons]; omega
theorem runsL_cons (x : Sl) (l : List Sl) : vL (x :: l) = (x :: l.takeWhile (sameT x)) :: vL (l.dropWhile (sameT x)) := by rw [vL]
def elB (r : List Sl) (i : Nat) (x : Sl) : Bool := decide (x.seq = i) && uR x && !(decide (x.kind = 3) && (match r[(x.off - 1).toNat]? with | some y => decide (y.kind = 3) | none => false))
def allE (r : List Sl) : Bool := (List.range r.length).all fun i => match r[i]? with | some x => elB r i x | none => true
def runB (last : Int) (r : List Sl) : Bool := match r with
 | [] => true
 | x :: _ => inB x.tab (last + 1) 7 && allE r
def tabR (r : List Sl) : Int := match r with
 | [] => 0
 | x :: _ => x.tab
def runsB : Int → List (List Sl) → Bool
 | _, [] => true
 | last, r :: R => runB last r && runsB (tabR r) R
theorem allE_iff {r : List Sl} : allE r = true ↔ ∀ (i : Nat) x, r[i]? = some x → elB r i x = true := by
 unfold allE
 rw [List.all_eq_true]
 constructor
 ·intro h i x hx
  have := h i (List.mem_range.2 (wD hx))
  rw [hx] at this; exact this
 ·intro h i hi
  cases hx : r[i]? with
  | none => rfl
  | some x => exact h i x hx
theorem el_iff {r : List Sl} {i : Nat} {x : Sl} : elB r i x = true ↔ x.seq = i ∧ uR x = true ∧ (x.kind = 3 → ∀ y, r[(x.off - 1).toNat]? = some y → y.kind ≠ 3) := by
 unfold elB
 simp only [Bool.and_eq_true, decide_eq_true_eq, Bool.not_eq_true', Bool.and_eq_false_iff, decide_eq_false_iff_not]
 constructor
 ·rintro ⟨⟨h1, h2⟩, h3⟩
  refine ⟨h1, h2, fun hk y hy => ?_⟩
  rcases h3 with h3 | h3
  ·exact absurd hk h3
  ·rw [hy] at h3; simpa using h3
 ·rintro ⟨h1, h2, h3⟩
  refine ⟨⟨h1, h2⟩, ?_⟩
  by_cases hk : x.kind = 3
  ·right
   cases hy : r[(x.off - 1).toNat]? with
   | none => rfl
   | some y => simpa using h3 hk y hy
  ·exact .inl hk
theorem rightT_all {t : Int} {r : List Sl} (ht : ∀ x ∈ r, x.tab = t) : RightT t r ↔ allE r = true := by
 rw [allE_iff]
 constructor
 ·intro h i x hx
  have hm := List.mem_of_getElem? hx
  exact el_iff.2 ⟨h.seq i x hx, h.slip x hm, fun hk y hy => h.void x hm hk y hy⟩
 ·intro h
  refine ⟨ht, fun i x hx => (el_iff.1 (h i x hx)).1, fun x hx => ?_, fun x hx => ?_⟩
  ·obtain ⟨i, hi⟩ := List.getElem?_of_mem hx
   exact (el_iff.1 (h i x hi)).2.1
  ·obtain ⟨i, hi⟩ := List.getElem?_of_mem hx
   exact (el_iff.1 (h i x hi)).2.2
theorem ofT_all {l : List Sl} {t : Int} (h : ∀ x ∈ l, x.tab = t) : qE l t = l := by
 unfold qE; rw [List.filter_eq_self]; intro x hx; simpa using h x hx
theorem ofT_no {l : List Sl} {t : Int} (h : ∀ x ∈ l, x.tab ≠ t) : qE l t = [] := by
 unfold qE; rw [List.filter_eq_nil_iff]; intro x hx; simpa using h x hx
theorem book_app {A B : List Sl} {t last : Int} (hA : A ≠ []) (ht : ∀ x ∈ A, x.tab = t) (hl : -1 ≤ last) :
  (BookC (A ++ B) ∧ ∀ y ∈ A ++ B, last < y.tab) ∧ (∀ y ∈ B, y.tab ≠ t) ↔ (last + 1 ≤ t ∧ t ≤ 7) ∧ RightT t A ∧ BookC B ∧ ∀ y ∈ B, t < y.tab := by
 obtain ⟨a, ha⟩ := List.exists_mem_of_ne_nil A hA
 have hta := ht a ha
 constructor
 ·rintro ⟨⟨h, hgt⟩, hne⟩
  have hup := List.pairwise_append.1 h.up
  have hB : ∀ y ∈ B, t < y.tab := fun y hy => by
   have h1 := hup.2.2 a ha y hy
   have h2 := hne y hy
   omega
  have h1 := hgt a (List.mem_append_left _ ha)
  have h2 := h.tab a (List.mem_append_left _ ha)
  have hAt : qE (A ++ B) t = A := by rw [ofT_app, ofT_all ht, ofT_no hne, List.append_nil]
  refine ⟨by omega, ?_, ⟨hup.2.1, fun y hy => h.tab y (List.mem_append_right _ hy), fun u => ?_⟩, hB⟩
  ·have := h.each t; rwa [hAt] at this
  ·by_cases hu : u = t
   ·subst hu; rw [ofT_no hne]; exact rightT_nil _
   ·have := h.each u
    rwa [ofT_app, ofT_no (l := A) (fun x hx => by rw [ht x hx]; exact fun e => hu e.symm), List.nil_append] at this
 ·rintro ⟨h1, hr, hB, hgt⟩
  have hne : ∀ y ∈ B, y.tab ≠ t := fun y hy => by have := hgt y hy; omega
  refine ⟨⟨⟨?_, fun y hy => ?_, fun u => ?_⟩, fun y hy => ?_⟩, hne⟩
  ·refine List.pairwise_append.2 ⟨?_, hB.up, fun x hx y hy => by have := ht x hx; have := hgt y hy; omega⟩
   exact List.pairwise_of_forall_mem_list fun x hx y hy => by rw [ht x hx, ht y hy]; omega
  ·rcases List.mem_append.1 hy with hy | hy
   ·rw [ht y hy]; omega
   ·exact hB.tab y hy
  ·by_cases hu : u = t
   ·subst hu; rw [ofT_app, ofT_all ht, ofT_no hne, List.append_nil]; exact hr
   ·rw [ofT_app, ofT_no (l := A) (fun x hx => by rw [ht x hx]; exact fun e => hu e.symm), List.nil_append]; exact hB.each u
  ·rcases List.mem_append.1 hy with hy | hy
   ·rw [ht y hy]; omega
   ·have := hgt y hy; omega
theorem takeW_mem {α : Type} {p : α → Bool} : ∀ {l : List α} {y : α}, y ∈ l.takeWhile p → p y = true ∧ y ∈ l
 | [], y, h => by simp at h
 | x :: l, y, h => by
  by_cases hp : p x = true
  ·rw [List.takeWhile_cons_of_pos hp] at h
   rcases List.mem_cons.1 h with rfl | h
   ·exact ⟨hp, by simp⟩
   ·exact ⟨(takeW_mem h).1, by simp [(takeW_mem h).2]⟩
  ·rw [List.takeWhile_cons_of_neg hp] at h; simp at h
theorem drop_head {α : Type} {p : α → Bool} : ∀ {l : List α} {x : α} {r : List α}, l.dropWhile p = x :: r → p x = false
 | [], x, r, h => by simp at h
 | z :: l, x, r, h => by
  by_cases hp : p z = true
  ·rw [List.dropWhile_cons_of_pos hp] at h; exact drop_head h
  ·rw [List.dropWhile_cons_of_neg hp] at h; cases h; simpa using hp
theorem qV (x : Sl) (l : List Sl) : x :: l = (x :: l.takeWhile (sameT x)) ++ l.dropWhile (sameT x) := by
 rw [List.cons_append, List.takeWhile_append_dropWhile]
theorem run_tab (x : Sl) (l : List Sl) : ∀ y ∈ x :: l.takeWhile (sameT x), y.tab = x.tab := by
 intro y hy
 rcases List.mem_cons.1 hy with rfl | hy
 ·rfl
 ·simpa using (takeW_mem hy).1
theorem rest_ne {x : Sl} {l : List Sl} (h : (l.dropWhile (sameT x)).Pairwise fun x y => x.tab ≤ y.tab) (h2 : ∀ y ∈ l.dropWhile (sameT x), x.tab ≤ y.tab) : ∀ y ∈ l.dropWhile (sameT x), y.tab ≠ x.tab := by
 cases hd : l.dropWhile (sameT x) with
 | nil => simp
 | cons z r =>
  rw [hd] at h h2
  have hz : ¬ z.tab = x.tab := by simpa using drop_head hd
  have hz2 := h2 z (by simp)
  intro y hy
  rcases List.mem_cons.1 hy with rfl | hy
  ·exact hz
  ·have := (List.pairwise_cons.1 h).1 y hy; omega
theorem runsB_iff : ∀ {n : Nat} {l : List Sl} {last : Int}, l.length ≤ n → -1 ≤ last → (runsB last (vL l) = true ↔ BookC l ∧ ∀ y ∈ l, last < y.tab)
 | _, [], last, _, _ => by
  rw [vL]
  exact ⟨fun _ => ⟨⟨.nil, by simp, fun t => rightT_nil t⟩, by simp⟩, fun _ => rfl⟩
 | 0, x :: l, _, h, _ => by simp at h
 | n + 1, x :: l, last, h, hl => by
  have hlen := dropW_len (sameT x) l
  have ht := run_tab x l
  have hb := book_app (A := x :: l.takeWhile (sameT x)) (B := l.dropWhile (sameT x)) (t := x.tab) (by simp) ht hl
  rw [← qV] at hb
  rw [runsL_cons, runsB]
  show (runB last (x :: l.takeWhile (sameT x)) && runsB x.tab (vL (l.dropWhile (sameT x)))) = true ↔ _
  rw [Bool.and_eq_true]
  have hin : runB last (x :: l.takeWhile (sameT x)) = true ↔ (last + 1 ≤ x.tab ∧ x.tab ≤ 7) ∧ RightT x.tab (x :: l.takeWhile (sameT x)) := by
   show (inB x.tab (last + 1) 7 && allE _) = true ↔ _
   rw [Bool.and_eq_true, inB_iff, rightT_all ht]
  rw [hin]
  constructor
  ·rintro ⟨⟨h1, h2⟩, h3⟩
   obtain ⟨h4, h5⟩ := (runsB_iff (n := n) (by simp only [List.length_cons] at h; omega) (by omega)).1 h3
   exact (hb.2 ⟨h1, h2, h4, h5⟩).1
  ·intro h1
   have hup := h1.1.up
   rw [qV, List.pairwise_append] at hup
   have hne := rest_ne hup.2.1 (fun y hy => hup.2.2 x (by simp) y hy)
   obtain ⟨h2, h3, h4, h5⟩ := hb.1 ⟨h1, hne⟩
   exact ⟨⟨h2, h3⟩, (runsB_iff (n := n) (by simp only [List.length_cons] at h; omega) (by omega)).2 ⟨h4, h5⟩⟩
theorem runs_book (l : List Sl) : runsB (-1) (vL l) = qN l := by
 rw [Bool.eq_iff_iff, runsB_iff (Nat.le_refl _) (Int.le_refl _), book_char]
 exact ⟨fun h => h.1, fun h => ⟨h, fun y hy => by have := h.tab y hy; omega⟩⟩
theorem runs_flat : ∀ {n : Nat} {l : List Sl}, l.length ≤ n → (vL l).flatten = l
 | _, [], _ => by rw [vL]; rfl
 | 0, x :: l, h => by simp at h
 | n + 1, x :: l, h => by
  have hlen := dropW_len (sameT x) l
  rw [runsL_cons, List.flatten_cons, runs_flat (n := n) (by simp only [List.length_cons] at h; omega), ← qV]
theorem runs_ofT : ∀ {n : Nat} {l : List Sl}, l.length ≤ n → l.Pairwise (fun x y => x.tab ≤ y.tab) → ∀ r ∈ vL l, ∃ t, r = qE l t ∧ r ≠ []
 | _, [], _, _, r, hr => by rw [vL] at hr; simp at hr
 | 0, x :: l, h, _, _, _ => by simp at h
 | n + 1, x :: l, h, hp, r, hr => by
  have hlen := dropW_len (sameT x) l
  have hp2 := hp
  rw [qV, List.pairwise_append] at hp2
  have hne := rest_ne hp2.2.1 (fun y hy => hp2.2.2 x (by simp) y hy)
  rw [runsL_cons] at hr
  rcases List.mem_cons.1 hr with rfl | hr
  ·refine ⟨x.tab, ?_, by simp⟩
   have e : qE (x :: l) x.tab = qE ((x :: l.takeWhile (sameT x)) ++ l.dropWhile (sameT x)) x.tab := by rw [← qV]
   rw [e, ofT_app, ofT_all (run_tab x l), ofT_no hne, List.append_nil]
  ·obtain ⟨t, h1, h2⟩ := runs_ofT (n := n) (by simp only [List.length_cons] at h; omega) hp2.2.1 r hr
   refine ⟨t, ?_, h2⟩
   have htx : t ≠ x.tab := fun e => by
    subst e
    rw [ofT_no hne] at h1; exact h2 h1
   have e : qE (x :: l) t = qE ((x :: l.takeWhile (sameT x)) ++ l.dropWhile (sameT x)) t := by rw [← qV]
   rw [e, ofT_app, ofT_no (fun y hy => by rw [run_tab x l y hy]; exact fun e => htx e.symm), List.nil_append]
   exact h1
theorem cnt_run {l r : List Sl} {t : Int} {x : Sl} (hr : r = qE l t) (hx : x ∈ r) : cntB l x = (!decide (x.kind = 3) && !r.any fun y => decide (y.kind = 3) && decide (y.off - 1 = x.seq)) := by
 subst hr
 unfold cntB voidIn
 have htx := (ofT_mem.1 hx).2
 have : (l.any fun y => decide (y.kind = 3) && decide (y.tab = x.tab) && decide (y.off = x.seq + 1)) = (qE l t).any fun y => decide (y.kind = 3) && decide (y.off - 1 = x.seq) := by
  rw [Bool.eq_iff_iff, List.any_eq_true, List.any_eq_true]
  constructor
  ·rintro ⟨y, hy, h⟩
   simp only [Bool.and_eq_true, decide_eq_true_eq] at h
   exact ⟨y, ofT_mem.2 ⟨hy, by omega⟩, by simp only [Bool.and_eq_true, decide_eq_true_eq]; omega⟩
  ·rintro ⟨y, hy, h⟩
   obtain ⟨h1, h2⟩ := ofT_mem.1 hy
   simp only [Bool.and_eq_true, decide_eq_true_eq] at h
   exact ⟨y, h1, by simp only [Bool.and_eq_true, decide_eq_true_eq]; omega⟩
 rw [this]
theorem entL_get {l : List Sl} {e : Ey} : e ∈ entL l ↔ l[e.1]? = some e.2 ∧ cntB l e.2 = true := by
 unfold entL
 rw [entF_mem]
 constructor
 ·rintro ⟨k, h1, h2, h3⟩
  rw [show e.1 = k by omega]; exact ⟨h1, h3⟩
 ·rintro ⟨h1, h2⟩; exact ⟨e.1, h1, by omega, h2⟩
theorem entL_up (l : List Sl) : (entL l).Pairwise fun a b => a.1 < b.1 := entF_up l l 0
theorem entT_mem {l : List Sl} {n : Int} {e : Ey} : e ∈ entT l n ↔ e ∈ entL l ∧ e.2.turn = n := by unfold entT; rw [List.mem_filter]; simp
theorem entT_up (l : List Sl) (n : Int) : (entT l n).Pairwise fun a b => a.1 < b.1 := (entL_up l).filter _
theorem book_slip {l : List Sl} (h : BookC l) {x : Sl} (hx : x ∈ l) : uR x = true := (h.each x.tab).slip x (ofT_mem.2 ⟨hx, rfl⟩)
theorem book_seq {l : List Sl} (h : BookC l) {x : Sl} (hx : x ∈ l) : 0 ≤ x.seq ∧ x.seq < l.length := by
 obtain ⟨i, hi⟩ := List.getElem?_of_mem (ofT_mem.2 ⟨hx, rfl⟩ : x ∈ qE l x.tab)
 have h1 := (h.each x.tab).seq i x hi
 have h2 := wD hi
 have h3 : (qE l x.tab).length ≤ l.length := List.length_filter_le _ _
 omega
theorem entL_len (l : List Sl) : (entL l).length ≤ l.length := by
 have : ∀ (m : List Sl) i, (qQ l i m).length ≤ m.length := by
  intro m
  induction m with
  | nil => intro i; simp [qQ]
  | cons x m ih => intro i; rw [qQ]; have := ih (i + 1); split <;> simp <;> omega
 exact this l 0
theorem insN_len (n : Int) : ∀ l : List Int, (insN n l).length ≤ l.length + 1
 | [] => by simp [insN]
 | x :: l => by
  rw [insN]
  have := insN_len n l
  split
  ·simp
  ·split
   ·simp
   ·simp; omega
theorem nums_len : ∀ E : List Ey, (numsE E).length ≤ E.length
 | [] => Nat.le_refl _
 | e :: E => by
  have h1 := insN_len e.2.turn (numsE E)
  have h2 := nums_len E
  show (insN e.2.turn (numsE E)).length ≤ _
  rw [List.length_cons]; omega
def tR (u : Nat) : List Nat := if u < 128 then [u] else (u % 128 + 128) :: tR (u / 128)
termination_by u
decreasing_by omega
theorem qT {u : Nat} (h : u < 128) : tR u = [u] := by rw [tR, if_pos h]
theorem numL_hi {u : Nat} (h : ¬ u < 128) : tR u = (u % 128 + 128) :: tR (u / 128) := by rw [tR, if_neg h]
theorem numL_len : ∀ {k u : Nat}, u < 128 ^ (k + 1) → (tR u).length ≤ k + 1
 | 0, u, h => by rw [qT (by omega)]; simp
 | k + 1, u, h => by
  by_cases hu : u < 128
  ·rw [qT hu]; simp
  ·rw [numL_hi hu, List.length_cons]
   have := numL_len (k := k) (u := u / 128) (by rw [Nat.div_lt_iff_lt_mul (by decide)]; rw [Nat.pow_succ] at h; exact h)
   omega
theorem numL_byte : ∀ (k u : Nat), u ≤ k → ∀ b ∈ tR u, b < 256
 | 0, u, h, b, hb => by rw [qT (by omega)] at hb; simp at hb; omega
 | k + 1, u, h, b, hb => by
  by_cases hu : u < 128
  ·rw [qT hu] at hb; simp at hb; omega
  ·rw [numL_hi hu] at hb
   rcases List.mem_cons.1 hb with rfl | hb
   ·omega
   ·exact numL_byte k (u / 128) (by omega) b hb
def wZ (s : Sl) : List Int := [s.tab, s.seq, s.kind, s.turn, s.farm, s.hour, s.lit, s.off]
def vH (n : Int) : List Nat := 1 :: tR (2 * n.toNat)
def msgS (s : Sl) : List Nat := 3 :: 8 :: (wZ s).flatMap vH
structure Sendable (s : Sl) : Prop where
 slip : uR s = true
 tab : 0 ≤ s.tab ∧ s.tab ≤ 7
 seq : 0 ≤ s.seq ∧ s.seq < 512
theorem Sendable.nats {s : Sl} (h : Sendable s) : ∀ n ∈ wZ s, 0 ≤ n ∧ n ≤ 1073741824 := by
 have h1 := h.tab
 have h2 := h.seq
 have h0 := h.slip
 intro n hn
 unfold wZ at hn
 simp only [List.mem_cons, List.not_mem_nil, or_false] at hn
 by_cases hk : s.kind = 3
 ·have := (slip_void hk).1 h0
  omega
 ·have := (slip_not hk).1 h0
  omega
theorem sendable_book {l : List Sl} (hc : xQ l = 0) {s : Sl} (h : s ∈ l) : Sendable s := by
 have hb := uC hc
 have h1 := book_seq hb h
 have h2 := (check_zero.1 hc).1
 exact ⟨book_slip hb h, hb.tab s h, by omega⟩
theorem pU {n : Int} (h : 0 ≤ n ∧ n ≤ 1073741824) : (vH n).length ≤ 6 := by
 unfold vH
 have := numL_len (k := 4) (u := 2 * n.toNat) (by omega)
 rw [List.length_cons]; omega
theorem msg_len {s : Sl} (h : Sendable s) : (msgS s).length ≤ 50 := by
 have hn := h.nats
 unfold msgS wZ at *
 simp only [List.mem_cons, List.not_mem_nil, or_false, forall_eq_or_imp, forall_eq] at hn
 obtain ⟨h1, h2, h3, h4, h5, h6, h7, h8⟩ := hn
 have := pU h1; have := pU h2; have := pU h3; have := pU h4
 have := pU h5; have := pU h6; have := pU h7; have := pU h8
 simp only [List.flatMap_cons, List.flatMap_nil, List.length_cons, List.length_append, List.length_nil]
 omega
theorem or_add {a c i : Nat} (h : a < 2 ^ i) : a ||| (c <<< i) = a + c * 2 ^ i := by
 rw [Nat.or_comm, Nat.shiftLeft_eq, ← Nat.shiftLeft_eq, ← Nat.shiftLeft_add_eq_or_of_lt h, Nat.shiftLeft_eq, Nat.add_comm]
theorem scall_permu {P : Program} {f : FuncId} {args : List AV} {σ σ' : List Ent} {Q : AV → List Ent → Prop} (hp : σ.Perm σ') (h : SCall P f args σ' Q) : SCall P f args σ Q :=
 ⟨fun X M w vs hg ha => h.run X M w vs (hg.perm hp) ha⟩
abbrev slC (s : Sl) : List AV := [.int .i64 s.tab, .int .i64 s.seq, .int .i64 s.kind, .int .i64 s.turn, .int .i64 s.farm, .int .i64 s.hour, .int .i64 s.lit, .int .i64 s.off]
abbrev slV (s : Sl) : AV := .agg (slC s)
abbrev sls (l : List Sl) : AV := .dl 8 (l.map slC)
theorem uH {l : List Sl} {k : Nat} {x : Sl} (h : l[k]? = some x) : (l.map slC)[k]? = some (slC x) := by rw [List.getElem?_map, h]; rfl
theorem sl_drop {α : Type} {l : List α} {k : Nat} {c : α} (h : l[k]? = some c) : l.drop k = c :: l.drop (k + 1) := by
 obtain ⟨h1, h2⟩ := List.getElem?_eq_some_iff.1 h
 rw [List.drop_eq_getElem_cons h1, h2]
theorem in_c (n lo hi : Int) (σ : List Ent) : SCall Tryz.prog 44 [.int .i64 n, .int .i64 lo, .int .i64 hi] σ (Is (.bool (inB n lo hi)) σ) := by
 refine zL Tryz.func44 rfl (by simp) ?_
 refine zY (zZ ?_); refine zP ?_; refine zX (zY (zZ ?_)); (iterate 2 refine zR ?_); refine xY ?_; intro _ _; refine zR ?_; refine xT ?_ ?_ <;> (intro h hp k; (try subst k); (try simp only [q_n] at hp); try first | omega | (cases hp; done));
 (iterate 2 refine vN ?_); refine wT ?_; intro _ _; refine xF ?_; refine zP ?_; refine zX (zV ?_); simp only [yX]; rotate_left; (iterate 3 refine yC ?_); refine yB ?_; refine zP ?_; refine zX (zV ?_); simp only [yX]; rotate_left
 all_goals ((repeat (rename BV _ _ => k; first | cases k | clear k)); try exact zN)
 all_goals
  refine xW (tV ?_)
  unfold inB
  simp [*]
theorem valid_c (x : Sl) (σ : List Ent) : SCall Tryz.prog 59 [slV x] σ (Is (.bool (uR x)) σ) := by
 refine zL Tryz.func59 rfl (by simp) ?_
 unfold uR
 refine zY (zZ ?_); refine xB ?_; intro _; refine zP ?_; refine zX (zY (zY (zZ ?_))); refine yG ?_; refine zX (zT ?_); refine zY (zY (zZ ?_)); refine xY ?_; intro _ _; refine zP ?_; refine zX (yN ?_ ?_) <;> (intro h hp k; (try subst k); (try simp only [q_n] at hp); try first | omega | (cases hp; done));
 refine zW (zG rfl (by rfl) ?_); refine zY (zZ ?_); refine yG ?_; apply yE; rfl; rfl; rfl; (refine yJ ?_; exact in_c _ _ _ _); intro _ _; refine zR ?_; refine xT ?_ ?_ <;> (intro h hp k; (try subst k); (try simp only [q_n] at hp); try first | omega | (cases hp; done));
 refine wL ?_; apply xR; rfl; (rfl); rfl; rfl; (refine yJ ?_; exact in_c _ _ _ _); intro _ _; refine xF ?_; refine zR ?_; refine xT ?_ ?_ <;> (intro h hp k; (try subst k); (try simp only [q_n] at hp); try first | omega | (cases hp; done));
 refine wL ?_; apply xR; rfl; (rfl); rfl; rfl; (refine yJ ?_; exact in_c _ _ _ _); intro _ _; refine xF ?_; refine zR ?_; refine xT ?_ ?_ <;> (intro h hp k; (try subst k); (try simp only [q_n] at hp); try first | omega | (cases hp; done));
 refine wL ?_; apply xR; rfl; (rfl); rfl; rfl; (refine yJ ?_; exact in_c _ _ _ _); intro _ _; refine xF ?_; refine zR ?_; refine xT ?_ ?_ <;> (intro h hp k; (try subst k); (try simp only [q_n] at hp); try first | omega | (cases hp; done));
 refine wL ?_; refine wT ?_; intro _ _; refine xF ?_; refine zR ?_; refine xT ?_ ?_ <;> (intro h hp k; (try subst k); (try simp only [q_n] at hp); try first | omega | (cases hp; done));
 refine wL ?_; refine wT ?_; intro _ _; refine vN ?_; refine xT ?_ ?_ <;> (intro h hp k; (try subst k); (try simp only [q_n] at hp); try first | omega | (cases hp; done));
 (iterate 3 refine yC ?_); refine yPt ?_; refine xF ?_; refine zP ?_; refine zX (zV ?_); simp only [yX]; rotate_left; (iterate 4 refine yC ?_); (iterate 3 refine xSr ?_); refine yC ?_; refine yB ?_; refine zP ?_; refine zX (zV ?_); simp only [yX]; rotate_left; (iterate 3 refine yC ?_); refine yB ?_; refine zR ?_; (iterate 4 refine yC ?_); (iterate 3 refine xSr ?_); refine yC ?_; refine yB ?_; refine zP ?_; refine zX (zV ?_); simp only [yX]; rotate_left; (iterate 3 refine yC ?_); refine yB ?_; refine zR ?_; (iterate 3 refine yC ?_); refine yB ?_; refine zR ?_; (iterate 4 refine yC ?_); (iterate 3 refine xSr ?_); refine yC ?_; refine yB ?_; refine zP ?_; refine zX (zV ?_); simp only [yX]; rotate_left; (iterate 3 refine yC ?_); refine yB ?_; refine zR ?_; (iterate 3 refine yC ?_); refine yB ?_; refine zR ?_; (iterate 3 refine yC ?_); refine yB ?_; refine zR ?_; (iterate 4 refine yC ?_); (iterate 3 refine xSr ?_); refine yC ?_; refine yB ?_; refine zP ?_; refine zX (zV ?_); simp only [yX]; rotate_left; (iterate 3 refine yC ?_); refine yB ?_; refine zR ?_; (iterate 3 refine yC ?_); refine yB ?_; refine zR ?_; (iterate 3 refine yC ?_); refine yB ?_; refine zR ?_; (iterate 3 refine yC ?_); refine yB ?_; refine zR ?_; (iterate 4 refine yC ?_); (iterate 3 refine xSr ?_); refine yC ?_; refine yB ?_; refine zP ?_; refine zX (zV ?_); simp only [yX]; rotate_left; refine zZ (xY ?_); intro _ _; refine zP ?_; refine zX (yN ?_ ?_) <;> (intro h hp k; (try subst k); (try simp only [q_n] at hp); try first | omega | (cases hp; done));
 refine zY (zZ ?_); refine yG ?_; apply yE; rfl; rfl; rfl; (refine yJ ?_; exact in_c _ _ _ _); intro _ _; refine zR ?_; refine xT ?_ ?_ <;> (intro h hp k; (try subst k); (try simp only [q_n] at hp); try first | omega | (cases hp; done));
 refine wL ?_; apply xR; rfl; (rfl); rfl; rfl; (refine yJ ?_; exact in_c _ _ _ _); intro _ _; refine xF ?_; refine zR ?_; refine xT ?_ ?_ <;> (intro h hp k; (try subst k); (try simp only [q_n] at hp); try first | omega | (cases hp; done));
 refine wL ?_; apply xR; rfl; (rfl); rfl; rfl; (refine yJ ?_; exact in_c _ _ _ _); intro _ _; refine xF ?_; refine zR ?_; refine xT ?_ ?_ <;> (intro h hp k; (try subst k); (try simp only [q_n] at hp); try first | omega | (cases hp; done));
 refine wL ?_; apply xR; rfl; (rfl); rfl; rfl; (refine yJ ?_; exact in_c _ _ _ _); intro _ _; refine xF ?_; refine zR ?_; refine xT ?_ ?_ <;> (intro h hp k; (try subst k); (try simp only [q_n] at hp); try first | omega | (cases hp; done));
 refine wL ?_; refine wT ?_; intro _ _; refine xF ?_; refine zR ?_; refine xT ?_ ?_ <;> (intro h hp k; (try subst k); (try simp only [q_n] at hp); try first | omega | (cases hp; done));
 refine wL ?_; refine wT ?_; intro _ _; refine vN ?_; refine xT ?_ ?_ <;> (intro h hp k; (try subst k); (try simp only [q_n] at hp); try first | omega | (cases hp; done));
 refine wL ?_; refine wT ?_; intro _ _; refine yPf ?_; refine xF ?_; refine zP ?_; refine zX (zV ?_); simp only [yX]; rotate_left; (iterate 4 refine yC ?_); (iterate 3 refine xSr ?_); refine yC ?_; refine yB ?_; refine zP ?_; refine zX (zV ?_); simp only [yX]; rotate_left; (iterate 3 refine yC ?_); refine yB ?_; refine zR ?_; (iterate 4 refine yC ?_); (iterate 3 refine xSr ?_); refine yC ?_; refine yB ?_; refine zP ?_; refine zX (zV ?_); simp only [yX]; rotate_left; (iterate 3 refine yC ?_); refine yB ?_; refine zR ?_; (iterate 3 refine yC ?_); refine yB ?_; refine zR ?_; (iterate 4 refine yC ?_); (iterate 3 refine xSr ?_); refine yC ?_; refine yB ?_; refine zP ?_; refine zX (zV ?_); simp only [yX]; rotate_left; (iterate 3 refine yC ?_); refine yB ?_; refine zR ?_; (iterate 3 refine yC ?_); refine yB ?_; refine zR ?_; (iterate 3 refine yC ?_); refine yB ?_; refine zR ?_; (iterate 4 refine yC ?_); (iterate 3 refine xSr ?_); refine yC ?_; refine yB ?_; refine zP ?_; refine zX (zV ?_); simp only [yX]; rotate_left; (iterate 3 refine yC ?_); refine yB ?_; refine zR ?_; (iterate 3 refine yC ?_); refine yB ?_; refine zR ?_; (iterate 3 refine yC ?_); refine yB ?_; refine zR ?_; (iterate 3 refine yC ?_); refine yB ?_; refine zR ?_; (iterate 4 refine yC ?_); (iterate 3 refine xSr ?_); refine yC ?_; refine yB ?_; refine zP ?_; refine zX (zV ?_); simp only [yX]; rotate_left; refine zY (zZ ?_); refine xY ?_; intro _ _; refine zP ?_; refine zX (yN ?_ ?_) <;> (intro h hp k; (try subst k); (try simp only [q_n] at hp); try first | omega | (cases hp; done));
 refine zY (zZ ?_); refine yG ?_; refine xY ?_; intro _ _; refine zR ?_; refine xT ?_ ?_ <;> (intro h hp k; (try subst k); (try simp only [q_n] at hp); try first | omega | (cases hp; done));
 refine wL ?_; refine wT ?_; intro _ _; refine xF ?_; refine zR ?_; refine xT ?_ ?_ <;> (intro h hp k; (try subst k); (try simp only [q_n] at hp); try first | omega | (cases hp; done));
 refine wL ?_; refine wT ?_; intro _ _; refine xF ?_; refine zR ?_; refine xT ?_ ?_ <;> (intro h hp k; (try subst k); (try simp only [q_n] at hp); try first | omega | (cases hp; done));
 refine wL ?_; refine wT ?_; intro _ _; refine xF ?_; refine zR ?_; refine xT ?_ ?_ <;> (intro h hp k; (try subst k); (try simp only [q_n] at hp); try first | omega | (cases hp; done));
 (iterate 2 refine wL ?_); apply xR; rfl; (rfl); rfl; rfl; (refine yJ ?_; exact in_c _ _ _ _); intro _ _; refine xF ?_; refine zP ?_; refine zX (zV ?_); simp only [yX]; rotate_left; (iterate 5 refine yC ?_); refine yB ?_; refine zP ?_; refine zX (zV ?_); simp only [yX]; rotate_left; (iterate 3 refine yC ?_); refine yB ?_; refine zR ?_; (iterate 5 refine yC ?_); refine yB ?_; refine zP ?_; refine zX (zV ?_); simp only [yX]; rotate_left; (iterate 3 refine yC ?_); refine yB ?_; refine zR ?_; (iterate 3 refine yC ?_); refine yB ?_; refine zR ?_; (iterate 5 refine yC ?_); refine yB ?_; refine zP ?_; refine zX (zV ?_); simp only [yX]; rotate_left; (iterate 3 refine yC ?_); refine yB ?_; refine zR ?_; (iterate 3 refine yC ?_); refine yB ?_; refine zR ?_; (iterate 3 refine yC ?_); refine yB ?_; refine zR ?_; (iterate 5 refine yC ?_); refine yB ?_; refine zP ?_; refine zX (zV ?_); simp only [yX]; rotate_left; refine zW (zY (zZ ?_)); refine zP ?_; refine zX (zV ?_); simp only [yX]; rotate_left
 all_goals ((repeat (rename BV _ _ => k; first | cases k | clear k)); try exact zN)
 all_goals
  refine xW (tV ?_)
  first
   | (simp [*]; done)
   | (rw [Bool.eq_iff_iff]; simp [*]; done)
   | (rw [Bool.eq_iff_iff]; simp [*]; omega)
   | (rw [Bool.eq_iff_iff]; simp; omega)
theorem slip_c (x : Sl) (σ : List Ent) : SCall Tryz.prog 90 [slV x] σ (Is (.bool (uR x)) σ) := by
 refine zL Tryz.func90 rfl (by simp) ?_
 unfold uR inB
 refine zY (zZ ?_); refine xB ?_; intro _; refine zP ?_; refine zX (zY (zY (zZ ?_))); refine yG ?_; refine zD ?_ ?_ <;> (intro h hp; (try simp only [q_n] at hp); try first | omega | (cases hp; done));
 refine zY (zZ ?_); refine yG ?_; refine xY ?_; intro _ _; refine zR ?_; refine xT ?_ ?_ <;> (intro h hp k; (try subst k); (try simp only [q_n] at hp); try first | omega | (cases hp; done));
 refine wL ?_; refine wT ?_; intro _ _; refine xF ?_; refine zR ?_; refine xT ?_ ?_ <;> (intro h hp k; (try subst k); (try simp only [q_n] at hp); try first | omega | (cases hp; done));
 refine wL ?_; refine wT ?_; intro _ _; refine xF ?_; refine zR ?_; refine xT ?_ ?_ <;> (intro h hp k; (try subst k); (try simp only [q_n] at hp); try first | omega | (cases hp; done));
 refine wL ?_; refine wT ?_; intro _ _; refine xF ?_; refine zR ?_; refine xT ?_ ?_ <;> (intro h hp k; (try subst k); (try simp only [q_n] at hp); try first | omega | (cases hp; done));
 refine wL ?_; refine wT ?_; intro _ _; refine xF ?_; refine zR ?_; refine xT ?_ ?_ <;> (intro h hp k; (try subst k); (try simp only [q_n] at hp); try first | omega | (cases hp; done));
 (iterate 2 refine wL ?_); refine wT ?_; intro _ _; refine xF ?_; refine zP ?_; refine zX (zV ?_); simp only [yX]; rotate_left; (iterate 5 refine yC ?_); refine yB ?_; refine zP ?_; refine zX (zV ?_); simp only [yX]; rotate_left; (iterate 3 refine yC ?_); refine yB ?_; refine zR ?_; (iterate 5 refine yC ?_); refine yB ?_; refine zP ?_; refine zX (zV ?_); simp only [yX]; rotate_left; (iterate 3 refine yC ?_); refine yB ?_; refine zR ?_; (iterate 3 refine yC ?_); refine yB ?_; refine zR ?_; (iterate 5 refine yC ?_); refine yB ?_; refine zP ?_; refine zX (zV ?_); simp only [yX]; rotate_left; (iterate 3 refine yC ?_); refine yB ?_; refine zR ?_; (iterate 3 refine yC ?_); refine yB ?_; refine zR ?_; (iterate 3 refine yC ?_); refine yB ?_; refine zR ?_; (iterate 5 refine yC ?_); refine yB ?_; refine zP ?_; refine zX (zV ?_); simp only [yX]; rotate_left; (iterate 3 refine yC ?_); refine yB ?_; refine zR ?_; (iterate 3 refine yC ?_); refine yB ?_; refine zR ?_; (iterate 3 refine yC ?_); refine yB ?_; refine zR ?_; (iterate 3 refine yC ?_); refine yB ?_; refine zR ?_; (iterate 5 refine yC ?_); refine yB ?_; refine zP ?_; refine zX (zV ?_); simp only [yX]; rotate_left; refine zW (zY (zY (zZ ?_))); refine yG ?_; refine xY ?_; intro _ _; refine zR ?_; refine xT ?_ ?_ <;> (intro h hp k; (try subst k); (try simp only [q_n] at hp); try first | omega | (cases hp; done));
 refine wL ?_; refine wT ?_; intro _ _; refine xF ?_; refine zR ?_; refine xT ?_ ?_ <;> (intro h hp k; (try subst k); (try simp only [q_n] at hp); try first | omega | (cases hp; done));
 (iterate 4 refine yC ?_); (iterate 3 refine xSr ?_); refine yC ?_; refine xF ?_; refine zX (zG rfl (by rfl) ?_); refine zY (zZ ?_); refine zP ?_; refine zX (zV ?_); simp only [yX]; rotate_left; refine wL ?_; refine wT ?_; intro _ _; refine vN ?_; refine xT ?_ ?_ <;> (intro h hp k; (try subst k); (try simp only [q_n] at hp); try first | omega | (cases hp; done));
 refine wL ?_; refine wT ?_; intro _ _; refine yPt ?_; refine yB ?_; refine zX (yN ?_ ?_) <;> (intro h hp k; (try subst k); (try simp only [q_n] at hp); try first | omega | (cases hp; done));
 refine zY (zZ ?_); refine zP ?_; refine zX (zV ?_); simp only [yX]; rotate_left; refine zW (zY (zZ ?_)); refine yG ?_; refine xY ?_; intro _ _; refine zR ?_; refine xT ?_ ?_ <;> (intro h hp k; (try subst k); (try simp only [q_n] at hp); try first | omega | (cases hp; done));
 refine wL ?_; refine wT ?_; intro _ _; refine xF ?_; refine zR ?_; refine xT ?_ ?_ <;> (intro h hp k; (try subst k); (try simp only [q_n] at hp); try first | omega | (cases hp; done));
 refine wL ?_; refine wT ?_; intro _ _; refine xF ?_; refine zR ?_; refine xT ?_ ?_ <;> (intro h hp k; (try subst k); (try simp only [q_n] at hp); try first | omega | (cases hp; done));
 refine wL ?_; refine wT ?_; intro _ _; refine xF ?_; refine zR ?_; refine xT ?_ ?_ <;> (intro h hp k; (try subst k); (try simp only [q_n] at hp); try first | omega | (cases hp; done));
 refine wL ?_; refine wT ?_; intro _ _; refine xF ?_; refine zR ?_; refine xT ?_ ?_ <;> (intro h hp k; (try subst k); (try simp only [q_n] at hp); try first | omega | (cases hp; done));
 refine wL ?_; refine wT ?_; intro _ _; refine xF ?_; refine zR ?_; refine xT ?_ ?_ <;> (intro h hp k; (try subst k); (try simp only [q_n] at hp); try first | omega | (cases hp; done));
 refine wL ?_; refine wT ?_; intro _ _; refine xF ?_; refine zR ?_; refine xT ?_ ?_ <;> (intro h hp k; (try subst k); (try simp only [q_n] at hp); try first | omega | (cases hp; done));
 refine wL ?_; refine wT ?_; intro _ _; refine xF ?_; refine zR ?_; refine xT ?_ ?_ <;> (intro h hp k; (try subst k); (try simp only [q_n] at hp); try first | omega | (cases hp; done));
 refine wL ?_; refine wT ?_; intro _ _; refine xF ?_; refine zP ?_; refine zX (zV ?_); simp only [yX]; rotate_left; (iterate 3 refine yC ?_); refine yB ?_; refine zR ?_; (iterate 3 refine yC ?_); refine yB ?_; refine zR ?_; (iterate 3 refine yC ?_); refine yB ?_; refine zP ?_; refine zX (zV ?_); simp only [yX]; rotate_left; (iterate 3 refine yC ?_); refine yB ?_; refine zR ?_; (iterate 3 refine yC ?_); refine yB ?_; refine zR ?_; (iterate 3 refine yC ?_); refine yB ?_; refine zR ?_; (iterate 3 refine yC ?_); refine yB ?_; refine zP ?_; refine zX (zV ?_); simp only [yX]; rotate_left; (iterate 3 refine yC ?_); refine yB ?_; refine zR ?_; (iterate 3 refine yC ?_); refine yB ?_; refine zR ?_; (iterate 3 refine yC ?_); refine yB ?_; refine zR ?_; (iterate 3 refine yC ?_); refine yB ?_; refine zR ?_; (iterate 3 refine yC ?_); refine yB ?_; refine zP ?_; refine zX (zV ?_); simp only [yX]; rotate_left; (iterate 3 refine yC ?_); refine yB ?_; refine zR ?_; (iterate 3 refine yC ?_); refine yB ?_; refine zR ?_; (iterate 3 refine yC ?_); refine yB ?_; refine zR ?_; (iterate 3 refine yC ?_); refine yB ?_; refine zR ?_; (iterate 3 refine yC ?_); refine yB ?_; refine zR ?_; (iterate 3 refine yC ?_); refine yB ?_; refine zP ?_; refine zX (zV ?_); simp only [yX]; rotate_left; (iterate 3 refine yC ?_); refine yB ?_; refine zR ?_; (iterate 3 refine yC ?_); refine yB ?_; refine zR ?_; (iterate 3 refine yC ?_); refine yB ?_; refine zR ?_; (iterate 3 refine yC ?_); refine yB ?_; refine zR ?_; (iterate 3 refine yC ?_); refine yB ?_; refine zR ?_; (iterate 3 refine yC ?_); refine yB ?_; refine zR ?_; (iterate 3 refine yC ?_); refine yB ?_; refine zP ?_; refine zX (zV ?_); simp only [yX]; rotate_left; (iterate 3 refine yC ?_); refine yB ?_; refine zR ?_; (iterate 3 refine yC ?_); refine yB ?_; refine zR ?_; (iterate 3 refine yC ?_); refine yB ?_; refine zR ?_; (iterate 3 refine yC ?_); refine yB ?_; refine zR ?_; (iterate 3 refine yC ?_); refine yB ?_; refine zR ?_; (iterate 3 refine yC ?_); refine yB ?_; refine zR ?_; (iterate 3 refine yC ?_); refine yB ?_; refine zR ?_; (iterate 3 refine yC ?_); refine yB ?_; refine zP ?_; refine zX (zV ?_); simp only [yX]; rotate_left; (iterate 3 refine yC ?_); refine yB ?_; refine zR ?_; refine wL ?_; refine wT ?_; intro _ _; refine vN ?_; refine xT ?_ ?_ <;> (intro h hp k; (try subst k); (try simp only [q_n] at hp); try first | omega | (cases hp; done));
 (iterate 3 refine yC ?_); refine yPf ?_; refine yB ?_; refine zX (yH rfl (by rfl) ?_); refine zW (zY (zZ ?_)); refine yG ?_; refine xY ?_; intro _ _; refine zR ?_; refine xT ?_ ?_ <;> (intro h hp k; (try subst k); (try simp only [q_n] at hp); try first | omega | (cases hp; done));
 refine wL ?_; refine wT ?_; intro _ _; refine xF ?_; refine zR ?_; refine xT ?_ ?_ <;> (intro h hp k; (try subst k); (try simp only [q_n] at hp); try first | omega | (cases hp; done));
 refine wL ?_; refine wT ?_; intro _ _; refine xF ?_; refine zR ?_; refine xT ?_ ?_ <;> (intro h hp k; (try subst k); (try simp only [q_n] at hp); try first | omega | (cases hp; done));
 refine wL ?_; refine wT ?_; intro _ _; refine xF ?_; refine zR ?_; refine xT ?_ ?_ <;> (intro h hp k; (try subst k); (try simp only [q_n] at hp); try first | omega | (cases hp; done));
 refine wL ?_; refine wT ?_; intro _ _; refine xF ?_; refine zR ?_; refine xT ?_ ?_ <;> (intro h hp k; (try subst k); (try simp only [q_n] at hp); try first | omega | (cases hp; done));
 refine wL ?_; refine wT ?_; intro _ _; refine xF ?_; refine zR ?_; refine xT ?_ ?_ <;> (intro h hp k; (try subst k); (try simp only [q_n] at hp); try first | omega | (cases hp; done));
 refine wL ?_; refine wT ?_; intro _ _; refine xF ?_; refine zR ?_; refine xT ?_ ?_ <;> (intro h hp k; (try subst k); (try simp only [q_n] at hp); try first | omega | (cases hp; done));
 refine wL ?_; refine wT ?_; intro _ _; refine xF ?_; refine zR ?_; refine xT ?_ ?_ <;> (intro h hp k; (try subst k); (try simp only [q_n] at hp); try first | omega | (cases hp; done));
 refine wL ?_; refine wT ?_; intro _ _; refine xF ?_; refine zP ?_; refine zX (zV ?_); simp only [yX]; rotate_left; (iterate 3 refine yC ?_); refine yB ?_; refine zP ?_; refine zX (zV ?_); simp only [yX]; rotate_left; (iterate 3 refine yC ?_); refine yB ?_; refine zR ?_; (iterate 3 refine yC ?_); refine yB ?_; refine zP ?_; refine zX (zV ?_); simp only [yX]; rotate_left; (iterate 3 refine yC ?_); refine yB ?_; refine zR ?_; (iterate 3 refine yC ?_); refine yB ?_; refine zR ?_; (iterate 3 refine yC ?_); refine yB ?_; refine zP ?_; refine zX (zV ?_); simp only [yX]; rotate_left; (iterate 3 refine yC ?_); refine yB ?_; refine zR ?_; (iterate 3 refine yC ?_); refine yB ?_; refine zR ?_; (iterate 3 refine yC ?_); refine yB ?_; refine zR ?_; (iterate 3 refine yC ?_); refine yB ?_; refine zP ?_; refine zX (zV ?_); simp only [yX]; rotate_left; (iterate 3 refine yC ?_); refine yB ?_; refine zR ?_; (iterate 3 refine yC ?_); refine yB ?_; refine zR ?_; (iterate 3 refine yC ?_); refine yB ?_; refine zR ?_; (iterate 3 refine yC ?_); refine yB ?_; refine zR ?_; (iterate 3 refine yC ?_); refine yB ?_; refine zP ?_; refine zX (zV ?_); simp only [yX]; rotate_left; (iterate 3 refine yC ?_); refine yB ?_; refine zR ?_; (iterate 3 refine yC ?_); refine yB ?_; refine zR ?_; (iterate 3 refine yC ?_); refine yB ?_; refine zR ?_; (iterate 3 refine yC ?_); refine yB ?_; refine zR ?_; (iterate 3 refine yC ?_); refine yB ?_; refine zR ?_; (iterate 3 refine yC ?_); refine yB ?_; refine zP ?_; refine zX (zV ?_); simp only [yX]; rotate_left; (iterate 3 refine yC ?_); refine yB ?_; refine zR ?_; (iterate 3 refine yC ?_); refine yB ?_; refine zR ?_; (iterate 3 refine yC ?_); refine yB ?_; refine zR ?_; (iterate 3 refine yC ?_); refine yB ?_; refine zR ?_; (iterate 3 refine yC ?_); refine yB ?_; refine zR ?_; (iterate 3 refine yC ?_); refine yB ?_; refine zR ?_; (iterate 3 refine yC ?_); refine yB ?_; refine zP ?_; refine zX (zV ?_); simp only [yX]; rotate_left; (iterate 3 refine yC ?_); refine yB ?_; refine zR ?_; (iterate 3 refine yC ?_); refine yB ?_; refine zR ?_; (iterate 3 refine yC ?_); refine yB ?_; refine zR ?_; (iterate 3 refine yC ?_); refine yB ?_; refine zR ?_; (iterate 3 refine yC ?_); refine yB ?_; refine zR ?_; (iterate 3 refine yC ?_); refine yB ?_; refine zR ?_; (iterate 3 refine yC ?_); refine yB ?_; refine zR ?_; (iterate 3 refine yC ?_); refine yB ?_; refine zP ?_; refine zX (zV ?_); simp only [yX]; rotate_left
 all_goals ((repeat (rename BV _ _ => k; first | cases k | clear k)); try exact zN)
 all_goals
  refine xW (tV ?_)
  first
   | (simp [*]; done)
   | (rw [Bool.eq_iff_iff]; simp [*]; done)
   | (rw [Bool.eq_iff_iff]; simp [*]; omega)
   | (rw [Bool.eq_iff_iff]; simp; omega)
def uK {α : Type} (p : α → Bool) : List α → Nat → Int
 | [], _ => -1
 | x :: r, k => if p x then (k : Int) else uK p r (k + 1)
theorem idxFrom_drop {α : Type} (p : α → Bool) {l : List α} {k : Nat} {c : α} (h : l[k]? = some c) : uK p (l.drop k) k = if p c then (k : Int) else uK p (l.drop (k + 1)) (k + 1) := by
 rw [sl_drop h]; rfl
theorem idxFrom_any {α : Type} (p : α → Bool) : ∀ (l : List α) (k : Nat), decide (0 ≤ uK p l k) = l.any p
 | [], k => rfl
 | x :: r, k => by
  by_cases hx : p x = true
  ·have h1 : uK p (x :: r) k = (k : Int) := if_pos hx
   rw [h1]; simp [hx]
  ·have h1 : uK p (x :: r) k = uK p r (k + 1) := if_neg hx
   rw [h1, idxFrom_any p r (k + 1)]; simp [hx]
theorem idx_run {α : Type} (p : α → Bool) : ∀ (l : List α) (k : Nat), uK p l k = if l.dropWhile (fun x => !p x) = [] then -1 else ((k + (l.takeWhile fun x => !p x).length : Nat) : Int)
 | [], k => rfl
 | x :: r, k => by
  by_cases hx : p x = true
  ·have h1 : uK p (x :: r) k = (k : Int) := if_pos hx
   rw [h1, List.dropWhile_cons_of_neg (by simp [hx]), List.takeWhile_cons_of_neg (by simp [hx]), if_neg (by simp)]; rfl
  ·have h1 : uK p (x :: r) k = uK p r (k + 1) := if_neg hx
   rw [h1, idx_run p r (k + 1), List.dropWhile_cons_of_pos (by simpa using hx), List.takeWhile_cons_of_pos (by simpa using hx), List.length_cons, show k + 1 + (r.takeWhile fun x => !p x).length = k + ((r.takeWhile fun x => !p x).length + 1) by omega]
theorem fSl_idx (l : List Sl) (g : Nat) (first cap : List AV) (p : Sl → Bool) (σ : List Ent) (he : Enters Tryz.prog g) (hf : ∀ (k : Nat) (c : Sl), l[k]? = some c → SCall Tryz.prog g (first ++ [(slV) c] ++ cap) σ (Is (.bool (p c)) σ)) :
  SCall Tryz.prog 70 [.dl 8 (l.map slC), .fn (.func g) first cap] σ (Is (.int .i64 (uK p l 0)) σ) := by
 refine zL Tryz.func70 rfl (by simp) ?_
 refine zY (zZ ?_); refine zP ?_; refine zX (zY (zY (zZ ?_))); refine zR ?_; refine wH ?_; refine zR ?_; refine zX (zT ?_); rotate_left
 all_goals ((repeat (rename BV _ _ => k; first | cases k | clear k)); try exact zN)
 refine pS (t := 0) rfl ((List.length_map _).symm) (fun hlen => ?_)
 refine yD (fun (k : Nat) => (⟨[(0, .dl 8 (l.map slC)), (1, .fn (.func g) first cap), (7, .int .i64 l.length), (8, .int .i64 k)], σ, [], Tryz.f70.ntmps⟩ : St)) (fun k => k ≤ l.length ∧ uK p l 0 = uK p (l.drop k) k) (fun k => l.length - k) 0 (⟨Nat.zero_le _, rfl⟩) (St.le_of (by repeat (first | exact trivial | refine ⟨rfl, ?_⟩)) (by repeat (first | exact q_r | apply q_q | apply q_k))) ?_
 intro k hI
 by_cases hk : k < l.length
 ·obtain ⟨c, hc⟩ : ∃ c, l[k]? = some c := ⟨_, List.getElem?_eq_getElem hk⟩
  have hd := idxFrom_drop p hc
  refine zY (zZ ?_); refine xY ?_; intro _ _; refine zX (zY (yN ?_ ?_)) <;> (intro h hp k; (try subst k); (try simp only [q_n] at hp); try first | omega | (cases hp; done));
  refine zW (zY (zT ?_)); refine zY (zZ ?_); refine zR ?_; refine zP ?_; refine zX (zY (zZ ?_)); (iterate 3 refine zR ?_); refine vG ?_; refine yA ?_; apply zU; rfl; rfl; rfl; (exact xJ rfl rfl he (hf k c hc)); refine zX (yN ?_ ?_) <;> (intro h hp k; (try subst k); (try simp only [q_n] at hp); try first | omega | (cases hp; done));
  refine zY (zZ ?_); refine zR ?_; refine zP ?_; refine zX (zV ?_); simp only [yX]; rotate_left; refine zW (zZ (vX ?_)); refine zR ?_; refine zQ ?_; simp only [zA, zF, zE, zH, yK, ↓reduceIte, Nat.reduceEqDiff]; rotate_left
  all_goals ((repeat (rename BV _ _ => k; first | cases k | clear k)); try exact zN)
  ·refine xW (int_eq ?_)
   rw [hI.2, hd, if_pos (by assumption)]
  ·refine ⟨k + 1, ⟨hk, by rw [hI.2, hd, if_neg (by simp [*])]⟩, by omega, St.le_of (by repeat (first | exact trivial | refine ⟨rfl, ?_⟩)) (by repeat (first | exact q_r | apply q_q | apply q_k))⟩
 ·refine zY (zZ ?_); refine xY ?_; intro _ _; refine zX (zY (yN ?_ ?_)) <;> (intro h hp k; (try subst k); (try simp only [q_n] at hp); try first | omega | (cases hp; done));
  refine yQ ?_; refine zY (zZ ?_); refine zP ?_; refine zX (zV ?_); simp only [yX]; rotate_left
  all_goals ((repeat (rename BV _ _ => k; first | cases k | clear k)); try exact zN)
  refine xW (int_eq ?_)
  rw [hI.2, List.drop_of_length_le (by omega)]; rfl
theorem fSl_any (l : List Sl) (g : Nat) (first cap : List AV) (p : Sl → Bool) (σ : List Ent) (he : Enters Tryz.prog g) (hf : ∀ (k : Nat) (c : Sl), l[k]? = some c → SCall Tryz.prog g (first ++ [(slV) c] ++ cap) σ (Is (.bool (p c)) σ)) :
  SCall Tryz.prog 79 [.dl 8 (l.map slC), .fn (.func g) first cap] σ (Is (.bool (l.any p)) σ) := by
 refine zL Tryz.func79 rfl (by simp) ?_
 refine zY (zZ ?_); refine zP ?_; refine zX (zY (zZ ?_)); (iterate 2 refine zR ?_); apply zU; rfl; rfl; rfl; (refine yJ ?_; exact fSl_idx l g first cap p σ he hf); refine xY ?_; intro _ _; refine zP ?_; refine zX (zV ?_); simp only [yX]; rotate_left
 all_goals ((repeat (rename BV _ _ => k; first | cases k | clear k)); try exact zN)
 refine xW (tV ?_)
 exact idxFrom_any p l 0
theorem runs11_c (s x : Sl) (l : List Sl) {b : Nat} {σ : List Ent} (h0 : l[0]? = some x) (hm : Ent.cells b [sls l] 22 ∈ σ) : SCall Tryz.prog 71 [slV s, .ptr b 0] σ (Is (.bool (!decide (s.tab = x.tab))) σ) := by
 refine zL Tryz.func71 rfl (by simp) ?_
 have hg := uH h0
 refine zY (zZ ?_); refine xB ?_; intro _; refine zP ?_; refine zX (zY (wN rfl rfl (by kernel_rfl) rfl ?_)); refine yU rfl (by kernel_rfl) rfl ?_; refine vR ?_; (iterate 2 refine vW ?_); refine wIx ?_; refine vR ?_; refine vW ?_; refine wBi ?_; intro _ _; refine wAs ?_; refine zC ?_; show EX _ _ _ _ _; refine zV ?_; simp only [yX]; rotate_left
 all_goals ((repeat (rename BV _ _ => k; first | cases k | clear k)); try exact zN)
 all_goals
  refine xW (tV ?_)
  first
   | (simp [*]; done)
   | (rw [Bool.eq_iff_iff]; simp [*]; done)
   | (rw [Bool.eq_iff_iff]; simp [*]; omega)
   | (rw [Bool.eq_iff_iff]; simp; omega)
theorem runs1_c (l : List Sl) (b lp : Nat) (σ : List Ent) (I : Nat → List Ent → Prop) (Stop : List Ent → Prop)
  (hy : ∀ k r τ, (vL l)[k]? = some r → I k τ → SRound Tryz.prog lp [sls r] τ fun r σ' => (r = .bool true ∧ I (k + 1) σ') ∨ (r = .bool false ∧ Stop σ')) (h0 : I 0 σ) :
  SCall Tryz.prog 69 [.fn (.yield lp) [] [], .ptr b 0] (.cells b [sls l] 22 :: σ) (fun _ σ' => I (vL l).length σ' ∨ Stop σ') := by
 refine zL Tryz.func69 rfl (by simp) ?_
 refine zT ?_; rotate_left
 all_goals ((repeat (rename BV _ _ => k; first | cases k | clear k)); try exact zN)
 refine yD (fun (z : List Sl × Nat × List Ent) => (⟨[(0, .fn (.yield lp) [] []), (1, .ptr b 0)], .cells b [sls z.1] 22 :: z.2.2, [], Tryz.f69.ntmps⟩ : St)) (fun z => vL z.1 = (vL l).drop z.2.1 ∧ z.2.1 ≤ (vL l).length ∧ I z.2.1 z.2.2) (fun z => z.1.length) (l, 0, σ) (⟨rfl, Nat.zero_le _, h0⟩) (St.le_of (by repeat (first | exact trivial | refine ⟨rfl, ?_⟩)) (by repeat (first | exact q_r | apply q_q | apply q_k))) ?_
 intro z hI
 obtain ⟨m, k, τ⟩ := z
 obtain ⟨hI1, hI2, hI3⟩ := hI
 dsimp only at hI1 hI2 hI3 ⊢
 clear h0
 cases m with
 | nil =>
  have hk : k = (vL l).length := by
   rw [vL] at hI1
   have := List.drop_eq_nil_iff.1 hI1.symm; omega
  clear hy
  refine zY (zY (zZ ?_)); refine xLd ?_; refine wH ?_; refine zD ?_ ?_ <;> (intro h hp; (try simp only [q_n] at hp); try first | omega | (cases hp; done));
  refine yQ ?_; simp only [yX, ↓reduceIte, Nat.reduceEqDiff]; rotate_left
  all_goals ((repeat (rename BV _ _ => k; first | cases k | clear k)); try exact zN)
  refine xX (σ3 := τ) ?_
  exact zJ (.inl (by rw [← hk]; exact hI3))
 | cons x r =>
  obtain ⟨n, hn⟩ : ∃ n, (x :: r.takeWhile (sameT x)).length = n := ⟨_, rfl⟩
  have hnl : n ≤ (x :: r).length := by
   have := congrArg List.length (qV x r)
   rw [List.length_append, hn] at this; omega
  have hn0 : 0 < n := by rw [← hn]; simp
  have htk : (x :: r).take n = x :: r.takeWhile (sameT x) := by
   have h := qV x r
   rw [h, ← hn, List.take_left']; rfl
  have hdr : (x :: r).drop n = r.dropWhile (sameT x) := by
   have h := qV x r
   rw [h, ← hn, List.drop_left']; rfl
  rw [runsL_cons, ← htk, ← hdr] at hI1
  have hkr : (vL l)[k]? = some ((x :: r).take n) := by
   have := congrArg (fun m : List (List Sl) => m[0]?) hI1
   simpa using this.symm
  have hkd : vL ((x :: r).drop n) = (vL l).drop (k + 1) := by
   have := congrArg (fun m : List (List Sl) => m.drop 1) hI1
   simpa using this
  have hkl : k < (vL l).length := (List.getElem?_eq_some_iff.1 hkr).1
  have hidx : uK (fun s => !decide (s.tab = x.tab)) (x :: r) 0 = if r.dropWhile (sameT x) = [] then -1 else (n : Int) := by
   rw [idx_run]
   simp only [Bool.not_not]
   rw [List.dropWhile_cons_of_pos (by simp), List.takeWhile_cons_of_pos (by simp), Nat.zero_add, hn]
  rw [← hdr] at hidx
  have c1 := fSl_idx (x :: r) 71 [] [.ptr b 0] (fun s => !decide (s.tab = x.tab)) (.cells b [sls (x :: r)] 22 :: τ) (zB (by kernel_rfl)) (fun _ s _ => runs11_c s x (x :: r) rfl (by repeat first | exact q_h | apply q_t | assumption))
  rw [hidx] at c1
  have hR := SRound.front [.cells b [sls (x :: r)] 22] (hy k _ τ hkr hI3)
  simp only [List.cons_append, List.nil_append] at hR
  rw [show sls (List.take n (x :: r)) = AV.dl 8 ((List.map slC (x :: r)).take n) from congrArg _ List.map_take] at hR
  have hlm : n ≤ ((x :: r).map slC).length := by rw [List.length_map]; exact hnl
  have hmes : ((x :: r).drop n).length < (x :: r).length := by rw [List.length_drop]; simp only [List.length_cons] at *; omega
  have hlen : 0 < (x :: r).length := by simp
  clear hy hI1 hidx hkr htk hdr hI3
  generalize hM : x :: r = M at *
  clear hM hn
  by_cases hD : M.drop n = []
  ·have hMn : M.length = n := by have := List.drop_eq_nil_iff.1 hD; omega
   subst hMn
   rw [if_pos hD] at c1
   refine zY (zY (zZ ?_)); refine xLd ?_; refine wH ?_; refine zD ?_ ?_ <;> (intro h hp; (try simp only [q_n] at hp); try first | omega | (cases hp; done));
   refine zW (zT ?_); refine zY (zZ ?_); refine xLd ?_; apply zU; rfl; rfl; rfl; (apply qG <;> rfl); apply zU; rfl; rfl; rfl; (refine yJ ?_; exact c1); refine zP ?_; refine zX (zY (zY (zZ ?_))); refine zR ?_; refine zD ?_ ?_ <;> (intro h hp; (try simp only [q_n] at hp); try first | omega | (cases hp; done));
   refine zZ (xLd ?_); refine wH ?_; refine zP ?_; refine zX (zY (zY (zZ ?_))); refine zR ?_; refine xLd ?_; (iterate 2 refine zR ?_); apply zU; rfl; rfl; rfl; (exact g_slice3D rfl rfl rfl rfl rfl rfl hlm); refine xL rfl rfl rfl (g_yield rfl rfl hR) ?_; rintro _ _ ⟨σ2, rfl, ⟨rfl, hs2⟩ | ⟨rfl, hs2⟩⟩; refine qY ?_; intro _ _; refine zX (yN ?_ ?_) <;> (intro h hp k; (try subst k); (try simp only [q_n] at hp); try first | omega | (cases hp; done));
   refine zW (zZ (xLd ?_)); refine zR ?_; apply zU; rfl; rfl; rfl; (apply vD; rfl; rfl; rfl; (rfl); omega); refine yR ?_; refine zQ ?_; simp only [zA, zF, zE, zH, yK, ↓reduceIte, Nat.reduceEqDiff]; rotate_left; refine qY ?_; intro _ _; refine zX (yN ?_ ?_) <;> (intro h hp k; (try subst k); (try simp only [q_n] at hp); try first | omega | (cases hp; done));
   refine zV ?_; simp only [yX]; rotate_left
   all_goals ((repeat (rename BV _ _ => k; first | cases k | clear k)); try exact zN)
   ·refine ⟨(M.drop M.length, k + 1, σ2), ⟨hkd, hkl, hs2⟩, hmes, ?_⟩
    dsimp only
    exact wW
   ·refine xX (σ3 := σ2) ?_
    exact zJ (.inr hs2)
  ·rw [if_neg hD] at c1
   refine zY (zY (zZ ?_)); refine xLd ?_; refine wH ?_; refine zD ?_ ?_ <;> (intro h hp; (try simp only [q_n] at hp); try first | omega | (cases hp; done));
   refine zW (zT ?_); refine zY (zZ ?_); refine xLd ?_; apply zU; rfl; rfl; rfl; (apply qG <;> rfl); apply zU; rfl; rfl; rfl; (refine yJ ?_; exact c1); refine zP ?_; refine zX (zY (zY (zZ ?_))); refine zR ?_; refine zD ?_ ?_ <;> (intro h hp; (try simp only [q_n] at hp); try first | omega | (cases hp; done));
   refine zW (zY (zY (zZ ?_))); refine zR ?_; refine xLd ?_; (iterate 2 refine zR ?_); apply zU; rfl; rfl; rfl; (exact g_slice3D rfl rfl rfl rfl rfl rfl hlm); refine xL rfl rfl rfl (g_yield rfl rfl hR) ?_; rintro _ _ ⟨σ2, rfl, ⟨rfl, hs2⟩ | ⟨rfl, hs2⟩⟩; refine qY ?_; intro _ _; refine zX (yN ?_ ?_) <;> (intro h hp k; (try subst k); (try simp only [q_n] at hp); try first | omega | (cases hp; done));
   refine zW (zZ (xLd ?_)); refine zR ?_; apply zU; rfl; rfl; rfl; (apply vD; rfl; rfl; rfl; (rfl); omega); refine yR ?_; refine zQ ?_; simp only [zA, zF, zE, zH, yK, ↓reduceIte, Nat.reduceEqDiff]; rotate_left; refine qY ?_; intro _ _; refine zX (yN ?_ ?_) <;> (intro h hp k; (try subst k); (try simp only [q_n] at hp); try first | omega | (cases hp; done));
   refine zV ?_; simp only [yX]; rotate_left
   all_goals ((repeat (rename BV _ _ => k; first | cases k | clear k)); try exact zN)
   ·refine ⟨(M.drop n, k + 1, σ2), ⟨hkd, hkl, hs2⟩, hmes, ?_⟩
    dsimp only
    exact wW
   ·refine xX (σ3 := σ2) ?_
    exact zJ (.inr hs2)
theorem runs_c (l : List Sl) (σ : List Ent) : SCall Tryz.prog 33 [sls l] σ (fun r τ => ∃ b, r = .fn (.func 69) [] [.ptr b 0] ∧ τ = .cells b [sls l] 22 :: σ) := by
 refine zL Tryz.func33 rfl (by simp) ?_
 refine zY (zZ ?_); refine xB ?_; intro _; refine zP ?_; refine zX (zY (zZ ?_)); apply zU; rfl; rfl; rfl; (apply qG <;> rfl); refine zP ?_; refine zX (zV ?_); simp only [yX]; rotate_left
 all_goals ((repeat (rename BV _ _ => k; first | cases k | clear k)); try exact zN)
 rename Nat => b
 refine xX (σ3 := .cells b [sls l] 22 :: σ) ?_
 exact zJ ⟨b, rfl, rfl⟩
end Go.Proofs.YtkhoengjdfmfaaaGreat
