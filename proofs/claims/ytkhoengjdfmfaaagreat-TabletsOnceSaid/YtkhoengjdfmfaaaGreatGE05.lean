/- Parts of the proof that belong together: Ta Tb Tc Td Te Tf Tg Th Ti Tj Tk. -/
import Derived.Test.YtkhoengjdfmfaaaGreatGE01
set_option maxRecDepth 10000
set_option linter.unusedSimpArgs false
set_option linter.unusedVariables false
namespace Go.Proofs.YtkhoengjdfmfaaaGreat
structure Sl where
  tab : Int
  seq : Int
  kind : Int
  turn : Int
  farm : Int
  hour : Int
  lit : Int
  off : Int
  deriving Inhabited, DecidableEq
def inB (n lo hi : Int) : Bool := decide (lo ≤ n) && decide (n ≤ hi)
theorem inB_iff {n lo hi : Int} : inB n lo hi = true ↔ lo ≤ n ∧ n ≤ hi := by simp [inB]
def slipB (x : Sl) : Bool :=
  if x.kind = 3 then decide (x.turn = 0) && decide (x.farm = 0) && decide (x.hour = 0) && decide (x.lit = 0) && inB x.off 1 x.seq
  else (decide (x.kind = 1) || decide (x.kind = 2)) && inB x.turn 0 1048576 && inB x.farm 0 599 && inB x.hour 0 4096 && inB x.lit 0 1073741824 && decide (x.off = 0) && (decide (x.kind = 1) || decide (x.lit = 0))
theorem slip_void {x : Sl} (h : x.kind = 3) : slipB x = true ↔ x.turn = 0 ∧ x.farm = 0 ∧ x.hour = 0 ∧ x.lit = 0 ∧ 1 ≤ x.off ∧ x.off ≤ x.seq := by
  unfold slipB; rw [if_pos h]; simp only [Bool.and_eq_true, decide_eq_true_eq, inB_iff]
  exact ⟨fun h => ⟨h.1.1.1.1, h.1.1.1.2, h.1.1.2, h.1.2, h.2.1, h.2.2⟩, fun h => ⟨⟨⟨⟨h.1, h.2.1⟩, h.2.2.1⟩, h.2.2.2.1⟩, h.2.2.2.2⟩⟩
theorem slip_not {x : Sl} (h : x.kind ≠ 3) : slipB x = true ↔ (x.kind = 1 ∨ x.kind = 2) ∧ (0 ≤ x.turn ∧ x.turn ≤ 1048576) ∧ (0 ≤ x.farm ∧ x.farm ≤ 599) ∧ (0 ≤ x.hour ∧ x.hour ≤ 4096) ∧ (0 ≤ x.lit ∧ x.lit ≤ 1073741824) ∧ x.off = 0 ∧ (x.kind = 1 ∨ x.lit = 0) := by
  unfold slipB; rw [if_neg h]; simp only [Bool.and_eq_true, Bool.or_eq_true, decide_eq_true_eq, inB_iff]
  exact ⟨fun h => ⟨h.1.1.1.1.1.1, h.1.1.1.1.1.2, h.1.1.1.1.2, h.1.1.1.2, h.1.1.2, h.1.2, h.2⟩, fun h => ⟨⟨⟨⟨⟨⟨h.1, h.2.1⟩, h.2.2.1⟩, h.2.2.2.1⟩, h.2.2.2.2.1⟩, h.2.2.2.2.2.1⟩, h.2.2.2.2.2.2⟩⟩
def stepB (p : Option Sl) (x : Sl) : Bool := match p with
  | none => decide (x.seq = 0)
  | some p => (decide (p.tab < x.tab) && decide (x.seq = 0)) || (decide (p.tab = x.tab) && decide (x.seq = p.seq + 1))
def voidB (l : List Sl) (i : Nat) (x : Sl) : Bool := !decide (x.kind = 3) || (decide (x.seq.toNat ≤ i) && (match l[i - x.seq.toNat + (x.off - 1).toNat]? with | some y => !decide (y.kind = 3) | none => true))
def prevL (l : List Sl) : Nat → Option Sl
  | 0 => none
  | j + 1 => l[j]?
def okAt (l : List Sl) (i : Nat) : Bool := match l[i]? with
  | none => true
  | some x => inB x.tab 0 7 && stepB (prevL l i) x && slipB x && voidB l i x
def bookB (l : List Sl) : Bool := (List.range l.length).all (okAt l)
def checkS (l : List Sl) : Int := if (512 : Int) < l.length then 2 else if bookB l then 0 else 540
theorem book_iff {l : List Sl} : bookB l = true ↔ ∀ i, i < l.length → okAt l i = true := by
  unfold bookB; rw [List.all_eq_true]; simp only [List.mem_range]
theorem ok_some {l : List Sl} {i : Nat} {x : Sl} (h : l[i]? = some x) : okAt l i = true ↔ (0 ≤ x.tab ∧ x.tab ≤ 7) ∧ stepB (prevL l i) x = true ∧ slipB x = true ∧ voidB l i x = true := by
  unfold okAt; rw [h]; simp only [Bool.and_eq_true, inB_iff]
  exact ⟨fun h => ⟨h.1.1.1, h.1.1.2, h.1.2, h.2⟩, fun h => ⟨⟨⟨h.1, h.2.1⟩, h.2.2.1⟩, h.2.2.2⟩⟩
theorem check_zero {l : List Sl} : checkS l = 0 ↔ l.length ≤ 512 ∧ bookB l = true := by
  unfold checkS
  split
  · exact ⟨fun h => absurd h (by decide), fun h => by omega⟩
  · split
    · rename_i h; exact ⟨fun _ => ⟨by omega, h⟩, fun _ => rfl⟩
    · rename_i h; exact ⟨fun e => absurd e (by decide), fun e => absurd e.2 h⟩
def ltS (x y : Sl) : Prop := x.tab < y.tab ∨ (x.tab = y.tab ∧ x.seq < y.seq)
instance (x y : Sl) : Decidable (ltS x y) := by unfold ltS; infer_instance
theorem get_some {α : Type} {l : List α} {i : Nat} (h : i < l.length) : ∃ x, l[i]? = some x := ⟨_, List.getElem?_eq_getElem h⟩
theorem get_lt {α : Type} {q : List α} {y : α} {i : Nat} (h : q[i]? = some y) : i < q.length := (List.getElem?_eq_some_iff.1 h).1
theorem book_up {l : List Sl} (h : bookB l = true) : ∀ (i j : Nat) x y, i < j → l[i]? = some x → l[j]? = some y → ltS x y := by
  intro i j
  induction j with
  | zero => intro x y hij; omega
  | succ j ih =>
    intro x y hij hx hy
    have hl := get_lt hy
    obtain ⟨p, hp⟩ : ∃ p, l[j]? = some p := get_some (by omega)
    have h1 := ((ok_some hy).1 (book_iff.1 h (j + 1) hl)).2.1
    rw [show prevL l (j + 1) = some p from hp] at h1
    simp only [stepB, Bool.or_eq_true, Bool.and_eq_true, decide_eq_true_eq] at h1
    have hpy : ltS p y := by unfold ltS; omega
    by_cases e : i = j
    · subst e; rw [hx] at hp; cases hp; exact hpy
    · have := ih x p (by omega) hx hp
      unfold ltS at *; omega
theorem book_pair {l : List Sl} (h : bookB l = true) : l.Pairwise ltS := by
  rw [List.pairwise_iff_getElem]
  intro i j hi hj hij
  exact book_up h i j _ _ hij (List.getElem?_eq_getElem hi) (List.getElem?_eq_getElem hj)
theorem lt_irrefl (x : Sl) : ¬ ltS x x := by unfold ltS; omega
theorem up_same : ∀ {l m : List Sl}, l.Pairwise ltS → m.Pairwise ltS → (∀ y, y ∈ l ↔ y ∈ m) → l = m
  | [], [], _, _, _ => rfl
  | [], y :: m, _, _, h => absurd ((h y).2 (by simp)) (by simp)
  | x :: l, [], _, _, h => absurd ((h x).1 (by simp)) (by simp)
  | x :: l, y :: m, hl, hm, h => by
    rw [List.pairwise_cons] at hl hm
    have hxy : x = y := by
      rcases List.mem_cons.1 ((h x).1 (by simp)) with e | h1
      · exact e
      · rcases List.mem_cons.1 ((h y).2 (by simp)) with e | h2
        · exact e.symm
        · have h3 := hm.1 x h1; have h4 := hl.1 y h2; unfold ltS at h3 h4; omega
    subst hxy
    rw [up_same hl.2 hm.2 fun z => ?_]
    constructor
    · intro hz
      rcases List.mem_cons.1 ((h z).1 (by simp [hz])) with rfl | h1
      · exact absurd (hl.1 z hz) (lt_irrefl z)
      · exact h1
    · intro hz
      rcases List.mem_cons.1 ((h z).2 (by simp [hz])) with rfl | h1
      · exact absurd (hm.1 z hz) (lt_irrefl z)
      · exact h1
end Go.Proofs.YtkhoengjdfmfaaaGreat
namespace Go.Proofs.YtkhoengjdfmfaaaGreat
theorem get_app {α : Type} {l : List α} {x : α} {i : Nat} (h : i < l.length) : (l ++ [x])[i]? = l[i]? := List.getElem?_append_left h
theorem get_end {α : Type} (l : List α) (x : α) : (l ++ [x])[l.length]? = some x := by rw [List.getElem?_append_right (Nat.le_refl _), Nat.sub_self]; rfl
theorem slip_off {x : Sl} (h : slipB x = true) (hk : x.kind = 3) : 1 ≤ x.off ∧ x.off ≤ x.seq := by
  have := (slip_void hk).1 h; omega
theorem ok_app {l : List Sl} {x : Sl} {i : Nat} (h : i < l.length) : okAt (l ++ [x]) i = okAt l i := by
  obtain ⟨y, hy⟩ := get_some h
  unfold okAt
  rw [get_app h, hy]
  have hp : prevL (l ++ [x]) i = prevL l i := by
    cases i with
    | zero => rfl
    | succ j => exact get_app (by omega)
  dsimp only
  rw [hp]
  cases hb : slipB y with
  | false => simp
  | true =>
    unfold voidB
    by_cases hk : y.kind = 3
    · have ho := slip_off hb hk
      by_cases hq : y.seq.toNat ≤ i
      · rw [get_app (show i - y.seq.toNat + (y.off - 1).toNat < l.length by omega)]
      · rw [decide_eq_false hq]; simp
    · rw [decide_eq_false hk]; simp
theorem book_snoc {l : List Sl} {x : Sl} : bookB (l ++ [x]) = true ↔ bookB l = true ∧ okAt (l ++ [x]) l.length = true := by
  rw [book_iff, book_iff]
  constructor
  · intro h
    exact ⟨fun i hi => by rw [← ok_app hi]; exact h i (by simp; omega), h _ (by simp)⟩
  · rintro ⟨h1, h2⟩ i hi
    by_cases e : i < l.length
    · rw [ok_app e]; exact h1 i e
    · rw [show i = l.length by simp at hi; omega]; exact h2
def ofT (l : List Sl) (t : Int) : List Sl := l.filter fun x => decide (x.tab = t)
structure RightT (t : Int) (m : List Sl) : Prop where
  tab : ∀ x ∈ m, x.tab = t
  seq : ∀ (i : Nat) x, m[i]? = some x → x.seq = i
  slip : ∀ x ∈ m, slipB x = true
  void : ∀ x ∈ m, x.kind = 3 → ∀ y, m[(x.off - 1).toNat]? = some y → y.kind ≠ 3
structure BookC (l : List Sl) : Prop where
  up : l.Pairwise fun x y => x.tab ≤ y.tab
  tab : ∀ x ∈ l, 0 ≤ x.tab ∧ x.tab ≤ 7
  each : ∀ t, RightT t (ofT l t)
theorem rightT_nil (t : Int) : RightT t [] := ⟨by simp, by simp, by simp, by simp⟩
theorem ofT_snoc (l : List Sl) (x : Sl) (t : Int) : ofT (l ++ [x]) t = if x.tab = t then ofT l t ++ [x] else ofT l t := by
  unfold ofT; rw [List.filter_append]
  by_cases h : x.tab = t
  · rw [if_pos h, List.filter_cons_of_pos (by simpa using h)]; rfl
  · rw [if_neg h, List.filter_cons_of_neg (by simpa using h)]; simp
theorem rightT_snoc {t : Int} {m : List Sl} {x : Sl} : RightT t (m ++ [x]) ↔ RightT t m ∧ x.tab = t ∧ x.seq = m.length ∧ slipB x = true ∧ (x.kind = 3 → ∀ y, m[(x.off - 1).toNat]? = some y → y.kind ≠ 3) := by
  constructor
  · intro h
    have hx : (m ++ [x])[m.length]? = some x := get_end m x
    have hm : x ∈ m ++ [x] := by simp
    refine ⟨⟨fun y hy => h.tab y (by simp [hy]), fun i y hy => h.seq i y (by rw [get_app (get_lt hy)]; exact hy), fun y hy => h.slip y (by simp [hy]), fun y hy hk z hz => h.void y (by simp [hy]) hk z (by rw [get_app (get_lt hz)]; exact hz)⟩, h.tab x hm, h.seq _ x hx, h.slip x hm, fun hk y hy => h.void x hm hk y (by rw [get_app (get_lt hy)]; exact hy)⟩
  · rintro ⟨h, h1, h2, h3, h4⟩
    refine ⟨fun y hy => ?_, fun i y hy => ?_, fun y hy => ?_, fun y hy hk z hz => ?_⟩
    · rcases List.mem_append.1 hy with hy | hy
      · exact h.tab y hy
      · rw [List.mem_singleton] at hy; subst hy; exact h1
    · by_cases e : i < m.length
      · rw [get_app e] at hy; exact h.seq i y hy
      · have := get_lt hy
        have e2 : i = m.length := by simp at this; omega
        subst e2; rw [get_end] at hy; cases hy; exact h2
    · rcases List.mem_append.1 hy with hy | hy
      · exact h.slip y hy
      · rw [List.mem_singleton] at hy; subst hy; exact h3
    · rcases List.mem_append.1 hy with hy | hy
      · obtain ⟨i, hi⟩ := List.getElem?_of_mem hy
        have hs := h.seq i y hi
        have ho := slip_off (h.slip y hy) hk
        have hl := get_lt hi
        rw [get_app (by omega)] at hz
        exact h.void y hy hk z hz
      · rw [List.mem_singleton] at hy; subst hy
        have ho := slip_off h3 hk
        rw [get_app (by omega)] at hz
        exact h4 hk z hz
theorem ofT_last {l : List Sl} {p : Sl} : ofT (l ++ [p]) p.tab = ofT l p.tab ++ [p] := by rw [ofT_snoc, if_pos rfl]
theorem snoc_or {α : Type} (l : List α) : l = [] ∨ ∃ k x, l = k ++ [x] := by
  rcases List.eq_nil_or_concat l with h | ⟨k, x, h⟩
  · exact .inl h
  · exact .inr ⟨k, x, by simpa using h⟩
theorem prev_last (k : List Sl) (p x : Sl) : prevL (k ++ [p] ++ [x]) (k ++ [p]).length = some p := by
  rw [show (k ++ [p]).length = k.length + 1 by simp]
  show (k ++ [p] ++ [x])[k.length]? = some p
  rw [get_app (by simp), get_end]
theorem snoc_up {l : List Sl} {x : Sl} : (l ++ [x]).Pairwise (fun x y => x.tab ≤ y.tab) ↔ l.Pairwise (fun x y => x.tab ≤ y.tab) ∧ ∀ y ∈ l, y.tab ≤ x.tab := by
  rw [List.pairwise_append]
  exact ⟨fun h => ⟨h.1, fun y hy => h.2.2 y hy x (by simp)⟩, fun h => ⟨h.1, by simp, fun y hy z hz => by rw [List.mem_singleton] at hz; subst hz; exact h.2 y hy⟩⟩
theorem ofT_none {l : List Sl} {t : Int} (h : ∀ y ∈ l, y.tab < t) : ofT l t = [] := by
  unfold ofT; rw [List.filter_eq_nil_iff]
  intro y hy
  have := h y hy
  simp; omega
theorem ofT_length {l : List Sl} {p : Sl} (h : RightT p.tab (ofT (l ++ [p]) p.tab)) : p.seq = (ofT l p.tab).length := by
  rw [ofT_last] at h
  exact (rightT_snoc.1 h).2.2.1
theorem ofT_end : ∀ {l : List Sl} {t : Int}, l.Pairwise (fun x y => x.tab ≤ y.tab) → (∀ y ∈ l, y.tab ≤ t) → ∃ A, l = A ++ ofT l t
  | l, t, hu, hl => by
    induction l with
    | nil => exact ⟨[], rfl⟩
    | cons x l ih =>
      rw [List.pairwise_cons] at hu
      obtain ⟨A, hA⟩ := ih hu.2 fun y hy => hl y (by simp [hy])
      by_cases hx : x.tab = t
      · have hall : ofT (x :: l) t = x :: l := by
          unfold ofT; rw [List.filter_eq_self]
          intro y hy
          rcases List.mem_cons.1 hy with rfl | hy
          · simpa using hx
          · have h1 := hu.1 y hy; have h2 := hl y (by simp [hy]); simp; omega
        exact ⟨[], by rw [hall]; rfl⟩
      · refine ⟨x :: A, ?_⟩
        have : ofT (x :: l) t = ofT l t := by unfold ofT; rw [List.filter_cons_of_neg (by simpa using hx)]
        rw [this, List.cons_append, ← hA]
theorem book_char_snoc {l : List Sl} {x : Sl} (hl : BookC l) : okAt (l ++ [x]) l.length = true ↔ (0 ≤ x.tab ∧ x.tab ≤ 7) ∧ (∀ y ∈ l, y.tab ≤ x.tab) ∧ RightT x.tab (ofT l x.tab ++ [x]) := by
  rw [ok_some (get_end l x), rightT_snoc]
  have hst : stepB (prevL (l ++ [x]) l.length) x = true ↔ (∀ y ∈ l, y.tab ≤ x.tab) ∧ x.seq = (ofT l x.tab).length := by
    rcases snoc_or l with rfl | ⟨k, p, rfl⟩
    · simp [prevL, stepB, ofT]
    · rw [prev_last]
      have hup := snoc_up.1 hl.up
      have hp := ofT_length (hl.each p.tab)
      simp only [stepB, Bool.or_eq_true, Bool.and_eq_true, decide_eq_true_eq]
      constructor
      · rintro (⟨h1, h2⟩ | ⟨h1, h2⟩)
        · have hall : ∀ y ∈ k ++ [p], y.tab < x.tab := fun y hy => by
            rcases List.mem_append.1 hy with hy | hy
            · have := hup.2 y hy; omega
            · rw [List.mem_singleton] at hy; subst hy; exact h1
          exact ⟨fun y hy => by have := hall y hy; omega, by rw [ofT_none hall]; simpa using h2⟩
        · refine ⟨fun y hy => ?_, ?_⟩
          · rcases List.mem_append.1 hy with hy | hy
            · have := hup.2 y hy; omega
            · rw [List.mem_singleton] at hy; subst hy; omega
          · rw [← h1, ofT_last, List.length_append, List.length_singleton]; omega
      · rintro ⟨h1, h2⟩
        have hpx := h1 p (by simp)
        by_cases e : p.tab = x.tab
        · right
          rw [← e, ofT_last, List.length_append, List.length_singleton] at h2
          exact ⟨e, by omega⟩
        · left
          have hall : ∀ y ∈ k ++ [p], y.tab < x.tab := fun y hy => by
            rcases List.mem_append.1 hy with hy | hy
            · have := hup.2 y hy; omega
            · rw [List.mem_singleton] at hy; subst hy; omega
          rw [ofT_none hall] at h2
          exact ⟨by omega, by simpa using h2⟩
  rw [hst]
  constructor
  · rintro ⟨h1, ⟨h2, h3⟩, h4, h5⟩
    refine ⟨h1, h2, hl.each _, rfl, h3, h4, fun hk y hy => ?_⟩
    obtain ⟨A, hA⟩ := ofT_end hl.up h2
    have ho := slip_off h4 hk
    unfold voidB at h5
    rw [decide_eq_true hk] at h5
    simp only [Bool.not_true, Bool.false_or, Bool.and_eq_true] at h5
    have hlen : l.length = A.length + (ofT l x.tab).length := by
      have := congrArg List.length hA; rw [List.length_append] at this; exact this
    have hy2 : (l ++ [x])[l.length - x.seq.toNat + (x.off - 1).toNat]? = some y := by
      rw [get_app (by omega), show l.length - x.seq.toNat + (x.off - 1).toNat = A.length + (x.off - 1).toNat by omega]
      have e := congrArg (fun m : List Sl => m[A.length + (x.off - 1).toNat]?) hA
      rw [e, List.getElem?_append_right (by omega), show A.length + (x.off - 1).toNat - A.length = (x.off - 1).toNat by omega]
      exact hy
    rw [hy2] at h5
    simpa using h5.2
  · rintro ⟨h1, h2, _, _, h3, h4, h5⟩
    refine ⟨h1, ⟨h2, h3⟩, h4, ?_⟩
    unfold voidB
    by_cases hk : x.kind = 3
    · obtain ⟨A, hA⟩ := ofT_end hl.up h2
      have ho := slip_off h4 hk
      have hlen : l.length = A.length + (ofT l x.tab).length := by
        have := congrArg List.length hA; rw [List.length_append] at this; exact this
      obtain ⟨y, hy⟩ : ∃ y, (ofT l x.tab)[(x.off - 1).toNat]? = some y := get_some (by omega)
      have hy2 : (l ++ [x])[l.length - x.seq.toNat + (x.off - 1).toNat]? = some y := by
        rw [get_app (by omega), show l.length - x.seq.toNat + (x.off - 1).toNat = A.length + (x.off - 1).toNat by omega]
        have e := congrArg (fun m : List Sl => m[A.length + (x.off - 1).toNat]?) hA
        rw [e, List.getElem?_append_right (by omega), show A.length + (x.off - 1).toNat - A.length = (x.off - 1).toNat by omega]
        exact hy
      rw [hy2]
      have := h5 hk y hy
      simp [this]; omega
    · rw [decide_eq_false hk]; rfl
theorem book_char {l : List Sl} : bookB l = true ↔ BookC l := by
  generalize hn : l.length = n
  induction n generalizing l with
  | zero =>
    obtain rfl := List.length_eq_zero_iff.1 hn
    exact ⟨fun _ => ⟨.nil, by simp, fun t => rightT_nil t⟩, fun _ => rfl⟩
  | succ n ih =>
    rcases snoc_or l with rfl | ⟨k, x, rfl⟩
    · simp at hn
    · have hk : k.length = n := by simp at hn; omega
      have hfall : ∀ t, ofT (k ++ [x]) t = if x.tab = t then ofT k t ++ [x] else ofT k t := ofT_snoc k x
      rw [book_snoc, ih hk]
      constructor
      · rintro ⟨h1, h2⟩
        obtain ⟨g1, g2, g3⟩ := (book_char_snoc h1).1 h2
        refine ⟨snoc_up.2 ⟨h1.up, g2⟩, fun y hy => ?_, fun t => ?_⟩
        · rcases List.mem_append.1 hy with hy | hy
          · exact h1.tab y hy
          · rw [List.mem_singleton] at hy; subst hy; exact g1
        · rw [hfall]
          by_cases e : x.tab = t
          · rw [if_pos e, ← e]; exact g3
          · rw [if_neg e]; exact h1.each t
      · intro h
        have hup := snoc_up.1 h.up
        have h1 : BookC k := by
          refine ⟨hup.1, fun y hy => h.tab y (by simp [hy]), fun t => ?_⟩
          have := h.each t
          rw [hfall] at this
          by_cases e : x.tab = t
          · rw [if_pos e] at this; exact (rightT_snoc.1 this).1
          · rw [if_neg e] at this; exact this
        refine ⟨h1, (book_char_snoc h1).2 ⟨h.tab x (by simp), hup.2, ?_⟩⟩
        have := h.each x.tab
        rw [ofT_last] at this; exact this
end Go.Proofs.YtkhoengjdfmfaaaGreat
namespace Go.Proofs.YtkhoengjdfmfaaaGreat
def atS (l : List Sl) (t : Int) : Nat := l.countP fun x => decide (x.tab ≤ t)
def manyS (l : List Sl) (t : Int) : Nat := l.countP fun x => decide (x.tab = t)
def putS (l : List Sl) (s : Sl) : List Sl := l.take (atS l s.tab) ++ s :: l.drop (atS l s.tab)
def writeS (l : List Sl) (s : Sl) : List Sl × Int :=
  if checkS l ≠ 0 then ([], checkS l) else if l.length = 512 then ([], 2)
  else if bookB (putS l { s with seq := (manyS l s.tab : Nat) }) then (putS l { s with seq := (manyS l s.tab : Nat) }, 0) else ([], 540)
theorem many_len (l : List Sl) (t : Int) : manyS l t = (ofT l t).length := by unfold manyS ofT; rw [List.countP_eq_length_filter]
theorem at_split : ∀ {l : List Sl} {t : Int}, l.Pairwise (fun x y => x.tab ≤ y.tab) → ∃ A B, l = A ++ B ∧ atS l t = A.length ∧ (∀ y ∈ A, y.tab ≤ t) ∧ ∀ y ∈ B, t < y.tab
  | [], t, _ => ⟨[], [], rfl, rfl, by simp, by simp⟩
  | x :: l, t, h => by
    rw [List.pairwise_cons] at h
    by_cases hx : x.tab ≤ t
    · obtain ⟨A, B, h1, h2, h3, h4⟩ := at_split (t := t) h.2
      refine ⟨x :: A, B, by rw [h1]; rfl, ?_, fun y hy => ?_, h4⟩
      · unfold atS at h2 ⊢
        rw [List.countP_cons_of_pos (by simpa using hx), h2, List.length_cons]
      · rcases List.mem_cons.1 hy with rfl | hy
        · exact hx
        · exact h3 y hy
    · have hall : ∀ y ∈ x :: l, t < y.tab := fun y hy => by
        rcases List.mem_cons.1 hy with rfl | hy
        · omega
        · have := h.1 y hy; omega
      refine ⟨[], x :: l, rfl, ?_, by simp, hall⟩
      unfold atS
      rw [List.length_nil, List.countP_eq_zero]
      intro y hy
      have := hall y hy
      simp; omega
theorem put_split {l : List Sl} {s : Sl} (h : l.Pairwise (fun x y => x.tab ≤ y.tab)) : ∃ A B, l = A ++ B ∧ atS l s.tab = A.length ∧ putS l s = A ++ s :: B ∧ (∀ y ∈ A, y.tab ≤ s.tab) ∧ ∀ y ∈ B, s.tab < y.tab := by
  obtain ⟨A, B, h1, h2, h3, h4⟩ := at_split (t := s.tab) h
  refine ⟨A, B, h1, h2, ?_, h3, h4⟩
  unfold putS
  rw [h2, h1, List.take_left, List.drop_left]
theorem put_len (l : List Sl) (s : Sl) : (putS l s).length = l.length + 1 := by
  unfold putS; rw [List.length_append, List.length_cons, List.length_take, List.length_drop]; omega
theorem ofT_app (l m : List Sl) (t : Int) : ofT (l ++ m) t = ofT l t ++ ofT m t := by unfold ofT; rw [List.filter_append]
theorem ofT_hi {l : List Sl} {t : Int} (h : ∀ y ∈ l, t < y.tab) : ofT l t = [] := by
  unfold ofT; rw [List.filter_eq_nil_iff]; intro y hy; have := h y hy; simp; omega
theorem ofT_put {l : List Sl} {s : Sl} (h : l.Pairwise (fun x y => x.tab ≤ y.tab)) (t : Int) : ofT (putS l s) t = if s.tab = t then ofT l t ++ [s] else ofT l t := by
  obtain ⟨A, B, h1, _, h3, h4, h5⟩ := put_split (s := s) h
  rw [h3, ofT_app, show s :: B = [s] ++ B from rfl, ofT_app, h1, ofT_app]
  have e : ofT [s] t = if s.tab = t then [s] else [] := by
    have := ofT_snoc [] s t
    simpa [ofT] using this
  rw [e]
  split
  · rename_i hs
    subst hs
    rw [ofT_hi h5]; simp
  · simp
theorem put_mem {l : List Sl} {s y : Sl} : y ∈ putS l s ↔ y = s ∨ y ∈ l := by
  unfold putS
  have h2 : y ∈ l ↔ y ∈ l.take (atS l s.tab) ∨ y ∈ l.drop (atS l s.tab) := by rw [← List.mem_append, List.take_append_drop]
  rw [h2, List.mem_append, List.mem_cons]
  constructor
  · rintro (h | h | h)
    · exact .inr (.inl h)
    · exact .inl h
    · exact .inr (.inr h)
  · rintro (h | h | h)
    · exact .inr (.inl h)
    · exact .inl h
    · exact .inr (.inr h)
def mergeR : List Sl → List Sl → Option (List Sl)
  | [], m => some m
  | x :: l, [] => some (x :: l)
  | x :: l, y :: m => if ltS x y then (mergeR l (y :: m)).map (x :: ·) else if ltS y x then (mergeR (x :: l) m).map (y :: ·) else if x = y then (mergeR l m).map (x :: ·) else none
termination_by l m => l.length + m.length
theorem mergeR_nil (l : List Sl) : mergeR l [] = some l := by cases l <;> simp [mergeR]
def mergeS (l m : List Sl) : List Sl × Int :=
  if checkS l ≠ 0 then ([], checkS l) else if checkS m ≠ 0 then ([], checkS m)
  else match mergeR l m with | none => ([], 540) | some o => if (512 : Int) < o.length then ([], 2) else (o, 0)
def Agree (l m : List Sl) : Prop := ∀ x ∈ l, ∀ y ∈ m, x.tab = y.tab → x.seq = y.seq → x = y
theorem lt_trans {x y z : Sl} (h : ltS x y) (k : ltS y z) : ltS x z := by unfold ltS at *; omega
theorem not_lt {x y : Sl} (h : ¬ ltS x y) (k : ¬ ltS y x) : x.tab = y.tab ∧ x.seq = y.seq := by unfold ltS at *; omega
theorem merge_some : ∀ {l m o : List Sl}, l.Pairwise ltS → m.Pairwise ltS → mergeR l m = some o → o.Pairwise ltS ∧ (∀ y, y ∈ o ↔ y ∈ l ∨ y ∈ m) ∧ Agree l m
  | [], m, o, _, hm, h => by
    simp only [mergeR, Option.some.injEq] at h; subst h
    exact ⟨hm, by simp, by simp [Agree]⟩
  | x :: l, [], o, hl, _, h => by
    simp only [mergeR, Option.some.injEq] at h; subst h
    exact ⟨hl, by simp, by simp [Agree]⟩
  | x :: l, y :: m, o, hl, hm, h => by
    have hl' := List.pairwise_cons.1 hl
    have hm' := List.pairwise_cons.1 hm
    rw [mergeR] at h
    split at h
    · rename_i hxy
      rw [Option.map_eq_some_iff] at h
      obtain ⟨q, hq, rfl⟩ := h
      obtain ⟨g1, g2, g3⟩ := merge_some hl'.2 hm hq
      refine ⟨List.pairwise_cons.2 ⟨fun z hz => ?_, g1⟩, fun z => ?_, fun a ha b hb e1 e2 => ?_⟩
      · rcases (g2 z).1 hz with hz | hz
        · exact hl'.1 z hz
        · rcases List.mem_cons.1 hz with rfl | hz
          · exact hxy
          · exact lt_trans hxy (hm'.1 z hz)
      · rw [List.mem_cons, g2, List.mem_cons (a := z) (b := x)]
        exact or_assoc.symm
      · rcases List.mem_cons.1 ha with rfl | ha
        · rcases List.mem_cons.1 hb with rfl | hb
          · unfold ltS at hxy; omega
          · have := lt_trans hxy (hm'.1 b hb); unfold ltS at this; omega
        · exact g3 a ha b hb e1 e2
    · rename_i hxy
      split at h
      · rename_i hyx
        rw [Option.map_eq_some_iff] at h
        obtain ⟨q, hq, rfl⟩ := h
        obtain ⟨g1, g2, g3⟩ := merge_some hl hm'.2 hq
        refine ⟨List.pairwise_cons.2 ⟨fun z hz => ?_, g1⟩, fun z => ?_, fun a ha b hb e1 e2 => ?_⟩
        · rcases (g2 z).1 hz with hz | hz
          · rcases List.mem_cons.1 hz with rfl | hz
            · exact hyx
            · exact lt_trans hyx (hl'.1 z hz)
          · exact hm'.1 z hz
        · rw [List.mem_cons, g2, List.mem_cons (a := z) (b := y)]
          exact or_left_comm
        · rcases List.mem_cons.1 hb with rfl | hb
          · rcases List.mem_cons.1 ha with rfl | ha
            · unfold ltS at hyx; omega
            · have := lt_trans hyx (hl'.1 a ha); unfold ltS at this; omega
          · exact g3 a ha b hb e1 e2
      · rename_i hyx
        split at h
        · rename_i e
          subst e
          rw [Option.map_eq_some_iff] at h
          obtain ⟨q, hq, rfl⟩ := h
          obtain ⟨g1, g2, g3⟩ := merge_some hl'.2 hm'.2 hq
          refine ⟨List.pairwise_cons.2 ⟨fun z hz => ?_, g1⟩, fun z => ?_, fun a ha b hb e1 e2 => ?_⟩
          · rcases (g2 z).1 hz with hz | hz
            · exact hl'.1 z hz
            · exact hm'.1 z hz
          · rw [List.mem_cons, g2, List.mem_cons, List.mem_cons]
            constructor
            · rintro (h | h | h)
              · exact .inl (.inl h)
              · exact .inl (.inr h)
              · exact .inr (.inr h)
            · rintro ((h | h) | (h | h))
              · exact .inl h
              · exact .inr (.inl h)
              · exact .inl h
              · exact .inr (.inr h)
          · rcases List.mem_cons.1 ha with ha2 | ha2
            · rcases List.mem_cons.1 hb with hb2 | hb2
              · rw [ha2, hb2]
              · have := hm'.1 b hb2; rw [← ha2] at this; unfold ltS at this; omega
            · rcases List.mem_cons.1 hb with hb2 | hb2
              · have := hl'.1 a ha2; rw [← hb2] at this; unfold ltS at this; omega
              · exact g3 a ha2 b hb2 e1 e2
        · cases h
termination_by l m => l.length + m.length
theorem merge_none : ∀ {l m : List Sl}, mergeR l m = none → ¬ Agree l m
  | [], m, h => by simp [mergeR] at h
  | x :: l, [], h => by simp [mergeR] at h
  | x :: l, y :: m, h => by
    rw [mergeR] at h
    split at h
    · rw [Option.map_eq_none_iff] at h
      exact fun g => merge_none h fun a ha b hb => g a (by simp [ha]) b hb
    · rename_i hxy
      split at h
      · rw [Option.map_eq_none_iff] at h
        exact fun g => merge_none h fun a ha b hb => g a ha b (by simp [hb])
      · rename_i hyx
        split at h
        · rw [Option.map_eq_none_iff] at h
          exact fun g => merge_none h fun a ha b hb => g a (by simp [ha]) b (by simp [hb])
        · rename_i hne
          obtain ⟨e1, e2⟩ := not_lt hxy hyx
          exact fun g => hne (g x (by simp) y (by simp) e1 e2)
termination_by l m => l.length + m.length
theorem merge_is {l m o : List Sl} (hl : l.Pairwise ltS) (hm : m.Pairwise ltS) (ho : o.Pairwise ltS) (hag : Agree l m) (hmem : ∀ y, y ∈ o ↔ y ∈ l ∨ y ∈ m) : mergeR l m = some o := by
  cases h : mergeR l m with
  | none => exact absurd hag (merge_none h)
  | some q =>
    obtain ⟨g1, g2, _⟩ := merge_some hl hm h
    rw [up_same g1 ho fun y => by rw [g2, hmem]]
end Go.Proofs.YtkhoengjdfmfaaaGreat
namespace Go.Proofs.YtkhoengjdfmfaaaGreat
theorem book_lt {l : List Sl} (h : BookC l) : l.Pairwise ltS := book_pair (book_char.2 h)
theorem ofT_mem {l : List Sl} {t : Int} {x : Sl} : x ∈ ofT l t ↔ x ∈ l ∧ x.tab = t := by unfold ofT; rw [List.mem_filter]; simp
theorem mergeS_of {l m o : List Sl} (h1 : checkS l = 0) (h2 : checkS m = 0) (h : mergeR l m = some o) (hl : o.length ≤ 512) : mergeS l m = (o, 0) := by
  unfold mergeS
  rw [if_neg (by rw [h1]; simp), if_neg (by rw [h2]; simp), h]
  dsimp only
  rw [if_neg (by omega)]
theorem check_book {l : List Sl} (h : checkS l = 0) : BookC l := book_char.1 (check_zero.1 h).2
theorem mergeS_self {l : List Sl} (h : checkS l = 0) : mergeS l l = (l, 0) := by
  have hu := book_lt (check_book h)
  have hag : Agree l l := fun x hx y hy e1 e2 => by
    obtain ⟨i, hi⟩ := List.getElem?_of_mem hx
    obtain ⟨j, hj⟩ := List.getElem?_of_mem hy
    have hb := (check_zero.1 h).2
    rcases Nat.lt_trichotomy i j with g | g | g
    · have := book_up hb i j x y g hi hj; unfold ltS at this; omega
    · subst g; rw [hi] at hj; exact Option.some.inj hj
    · have := book_up hb j i y x g hj hi; unfold ltS at this; omega
  exact mergeS_of h h (merge_is hu hu hu hag fun y => by simp) (check_zero.1 h).1
end Go.Proofs.YtkhoengjdfmfaaaGreat
namespace Go.Proofs.YtkhoengjdfmfaaaGreat
end Go.Proofs.YtkhoengjdfmfaaaGreat
namespace Go.Proofs.YtkhoengjdfmfaaaGreat
abbrev Ey := Nat × Sl
def voidIn (l : List Sl) (x : Sl) : Bool := l.any fun y => decide (y.kind = 3) && decide (y.tab = x.tab) && decide (y.off = x.seq + 1)
def cntB (l : List Sl) (x : Sl) : Bool := !decide (x.kind = 3) && !voidIn l x
def entF (l : List Sl) : Nat → List Sl → List Ey
  | _, [] => []
  | i, x :: m => if cntB l x then (i, x) :: entF l (i + 1) m else entF l (i + 1) m
def entL (l : List Sl) : List Ey := entF l 0 l
def entT (l : List Sl) (n : Int) : List Ey := (entL l).filter fun e => decide (e.2.turn = n)
theorem entF_app (l : List Sl) : ∀ (m k : List Sl) (i : Nat), entF l i (m ++ k) = entF l i m ++ entF l (i + m.length) k
  | [], k, i => by simp [entF]
  | x :: m, k, i => by
    rw [List.cons_append, entF, entF, entF_app l m k (i + 1), List.length_cons, show i + 1 + m.length = i + (m.length + 1) by omega]
    split <;> rfl
theorem entF_mem {l : List Sl} : ∀ {m : List Sl} {i : Nat} {e : Ey}, e ∈ entF l i m ↔ ∃ k, m[k]? = some e.2 ∧ e.1 = i + k ∧ cntB l e.2 = true
  | [], i, e => by simp [entF]
  | x :: m, i, e => by
    have ih := @entF_mem l m (i + 1) e
    rw [entF]
    constructor
    · intro h
      split at h
      · rename_i hc
        rcases List.mem_cons.1 h with rfl | h
        · exact ⟨0, rfl, rfl, hc⟩
        · obtain ⟨k, h1, h2, h3⟩ := ih.1 h
          exact ⟨k + 1, h1, by omega, h3⟩
      · obtain ⟨k, h1, h2, h3⟩ := ih.1 h
        exact ⟨k + 1, h1, by omega, h3⟩
    · rintro ⟨k, h1, h2, h3⟩
      cases k with
      | zero =>
        have hx : x = e.2 := by simpa using h1
        rw [hx, if_pos h3]
        exact List.mem_cons.2 (.inl (Prod.ext (by rw [h2]; rfl) rfl))
      | succ k =>
        have := ih.2 ⟨k, by simpa using h1, by omega, h3⟩
        split
        · exact List.mem_cons_of_mem _ this
        · exact this
theorem entF_up (l : List Sl) : ∀ (m : List Sl) (i : Nat), (entF l i m).Pairwise fun a b => a.1 < b.1
  | [], i => .nil
  | x :: m, i => by
    rw [entF]
    split
    · refine List.pairwise_cons.2 ⟨fun e he => ?_, entF_up l m (i + 1)⟩
      obtain ⟨k, _, h2, _⟩ := entF_mem.1 he
      dsimp only; omega
    · exact entF_up l m (i + 1)
def ltE (a b : Ey) : Prop := a.2.hour < b.2.hour ∨ (a.2.hour = b.2.hour ∧ a.1 < b.1)
instance (a b : Ey) : Decidable (ltE a b) := by unfold ltE; infer_instance
def insE (e : Ey) : List Ey → List Ey
  | [] => [e]
  | x :: l => if ltE e x then e :: x :: l else x :: insE e l
def sortE (l : List Ey) : List Ey := l.foldr insE []
theorem insE_mem {e y : Ey} : ∀ {l : List Ey}, y ∈ insE e l ↔ y = e ∨ y ∈ l
  | [] => by simp [insE]
  | x :: l => by
    rw [insE]
    split
    · simp
    · rw [List.mem_cons, insE_mem (l := l), List.mem_cons]; exact or_left_comm
theorem sortE_mem {y : Ey} : ∀ {l : List Ey}, y ∈ sortE l ↔ y ∈ l
  | [] => by simp [sortE]
  | x :: l => by
    show y ∈ insE x (sortE l) ↔ _
    rw [insE_mem, sortE_mem (l := l), List.mem_cons]
theorem ltE_trans {a b c : Ey} (h : ltE a b) (k : ltE b c) : ltE a c := by unfold ltE at *; omega
theorem insE_up {e : Ey} : ∀ {l : List Ey}, l.Pairwise ltE → (∀ x ∈ l, x.1 ≠ e.1) → (insE e l).Pairwise ltE
  | [], _, _ => by simp [insE]
  | x :: l, h, hn => by
    rw [insE]
    have h' := List.pairwise_cons.1 h
    split
    · rename_i hlt
      refine List.pairwise_cons.2 ⟨fun y hy => ?_, h⟩
      rcases List.mem_cons.1 hy with rfl | hy
      · exact hlt
      · exact ltE_trans hlt (h'.1 y hy)
    · rename_i hlt
      refine List.pairwise_cons.2 ⟨fun y hy => ?_, insE_up h'.2 fun y hy => hn y (by simp [hy])⟩
      rcases insE_mem.1 hy with rfl | hy
      · have := hn x (by simp); unfold ltE at *; omega
      · exact h'.1 y hy
theorem sortE_up : ∀ {l : List Ey}, l.Pairwise (fun a b => a.1 < b.1) → (sortE l).Pairwise ltE
  | [], _ => .nil
  | x :: l, h => by
    have h' := List.pairwise_cons.1 h
    refine insE_up (sortE_up h'.2) fun y hy => ?_
    have := h'.1 y (sortE_mem.1 hy); omega
structure Tn where
  turn : Int
  farm : Int
  given : Int
  twice : List Int
  deriving Inhabited, DecidableEq
def stepT (t : Tn) (e : Ey) : Tn :=
  if e.2.kind = 2 then (if t.given = 0 then { t with farm := e.2.farm } else t)
  else if e.2.kind = 1 then (if t.given = 0 then { t with given := (e.1 : Int) + 1, farm := e.2.farm } else { t with twice := t.twice ++ [(e.1 : Int)] })
  else t
def foldT (n : Int) (S : List Ey) : Tn := S.foldl stepT ⟨n, 0, 0, []⟩
end Go.Proofs.YtkhoengjdfmfaaaGreat
namespace Go.Proofs.YtkhoengjdfmfaaaGreat
def insN (n : Int) : List Int → List Int
  | [] => [n]
  | x :: l => if n < x then n :: x :: l else if n = x then x :: l else x :: insN n l
def numsE (E : List Ey) : List Int := E.foldr (fun e l => insN e.2.turn l) []
theorem insN_mem {n y : Int} : ∀ {l : List Int}, y ∈ insN n l ↔ y = n ∨ y ∈ l
  | [] => by simp [insN]
  | x :: l => by
    rw [insN]
    split
    · simp
    · split
      · rename_i h; subst h; simp
      · rw [List.mem_cons, insN_mem (l := l), List.mem_cons]; exact or_left_comm
theorem insN_up {n : Int} : ∀ {l : List Int}, l.Pairwise (· < ·) → (insN n l).Pairwise (· < ·)
  | [], _ => by simp [insN]
  | x :: l, h => by
    have h' := List.pairwise_cons.1 h
    rw [insN]
    split
    · rename_i hlt
      refine List.pairwise_cons.2 ⟨fun y hy => ?_, h⟩
      rcases List.mem_cons.1 hy with rfl | hy
      · exact hlt
      · have := h'.1 y hy; omega
    · split
      · exact h
      · rename_i h1 h2
        refine List.pairwise_cons.2 ⟨fun y hy => ?_, insN_up h'.2⟩
        rcases insN_mem.1 hy with rfl | hy
        · omega
        · exact h'.1 y hy
theorem nums_mem {n : Int} : ∀ {E : List Ey}, n ∈ numsE E ↔ ∃ e ∈ E, e.2.turn = n
  | [] => by simp [numsE]
  | e :: E => by
    show n ∈ insN e.2.turn (numsE E) ↔ _
    rw [insN_mem, nums_mem (E := E)]
    constructor
    · rintro (h | ⟨x, hx, h⟩)
      · exact ⟨e, by simp, h.symm⟩
      · exact ⟨x, by simp [hx], h⟩
    · rintro ⟨x, hx, h⟩
      rcases List.mem_cons.1 hx with rfl | hx
      · exact .inl h.symm
      · exact .inr ⟨x, hx, h⟩
theorem nums_up : ∀ (E : List Ey), (numsE E).Pairwise (· < ·)
  | [] => .nil
  | e :: E => insN_up (nums_up E)
def insJ (n : Int) : List Int → List Int
  | [] => [n]
  | x :: l => if n ≤ x then n :: x :: l else x :: insJ n l
def sortJ (l : List Int) : List Int := l.foldr insJ []
def turnS (l : List Sl) (n : Int) : Tn := { foldT n (sortE (entT l n)) with twice := sortJ (foldT n (sortE (entT l n))).twice }
def turnsS (l : List Sl) : List Tn × Int := if checkS l ≠ 0 then ([], checkS l) else ((numsE (entL l)).map (turnS l), 0)
end Go.Proofs.YtkhoengjdfmfaaaGreat
namespace Go.Proofs.YtkhoengjdfmfaaaGreat
def befS (a b : Sl) : Bool := if a.hour ≠ b.hour then decide (a.hour < b.hour) else if a.tab ≠ b.tab then decide (a.tab < b.tab) else decide (a.seq < b.seq)
def lentF (o : Option Ey) (e : Ey) : Option Ey := match o with
  | none => some e
  | some p => if befS p.2 e.2 then some e else some p
def givF (o : Option Ey) (e : Ey) : Option Ey := match o with
  | none => some e
  | some p => if befS e.2 p.2 then some e else some p
def lents (E : List Ey) : List Ey := E.filter fun e => decide (e.2.kind = 2)
def givs (E : List Ey) : List Ey := E.filter fun e => !decide (e.2.kind = 2)
def giv1 (E : List Ey) : List Ey := E.filter fun e => decide (e.2.kind = 1)
theorem same_up {α : Type} {r : α → α → Prop} (ha : ∀ a b, r a b → r b a → False) : ∀ {l m : List α}, l.Pairwise r → m.Pairwise r → (∀ y, y ∈ l ↔ y ∈ m) → l = m
  | [], [], _, _, _ => rfl
  | [], y :: m, _, _, h => absurd ((h y).2 (by simp)) (by simp)
  | x :: l, [], _, _, h => absurd ((h x).1 (by simp)) (by simp)
  | x :: l, y :: m, hl, hm, h => by
    rw [List.pairwise_cons] at hl hm
    have hxy : x = y := by
      rcases List.mem_cons.1 ((h x).1 (by simp)) with e | h1
      · exact e
      · rcases List.mem_cons.1 ((h y).2 (by simp)) with e | h2
        · exact e.symm
        · exact (ha _ _ (hm.1 x h1) (hl.1 y h2)).elim
    subst hxy
    rw [same_up ha hl.2 hm.2 fun z => ?_]
    constructor
    · intro hz
      rcases List.mem_cons.1 ((h z).1 (by simp [hz])) with rfl | h1
      · exact (ha _ _ (hl.1 z hz) (hl.1 z hz)).elim
      · exact h1
    · intro hz
      rcases List.mem_cons.1 ((h z).2 (by simp [hz])) with rfl | h1
      · exact (ha _ _ (hm.1 z hz) (hm.1 z hz)).elim
      · exact h1
theorem last_snoc {α : Type} (q : List α) (z : α) : (q ++ [z]).getLast? = some z := by simp
theorem mem_flt {α : Type} {p : α → Bool} {x : α} {l : List α} (h : x ∈ l.filter p) : x ∈ l := (List.mem_filter.1 h).1
theorem ltE_asymm (a b : Ey) (h : ltE a b) (k : ltE b a) : False := by unfold ltE at *; omega
theorem sortE_filter {E : List Ey} (p : Ey → Bool) (h : E.Pairwise fun a b => a.1 < b.1) : (sortE E).filter p = sortE (E.filter p) := by
  refine same_up ltE_asymm ((sortE_up h).filter p) (sortE_up (h.filter p)) fun y => ?_
  rw [List.mem_filter, sortE_mem, sortE_mem, List.mem_filter]
def MinO (P : List Ey) : Option Ey → Prop
  | none => P = []
  | some g => g ∈ P ∧ ∀ x ∈ P, x = g ∨ ltE g x
def MaxO (P : List Ey) : Option Ey → Prop
  | none => P = []
  | some g => g ∈ P ∧ ∀ x ∈ P, x = g ∨ ltE x g
def Bef (E : List Ey) : Prop := ∀ a ∈ E, ∀ b ∈ E, a.1 ≠ b.1 → befS a.2 b.2 = decide (ltE a b)
theorem giv_fold : ∀ (P Q : List Ey) (o : Option Ey), Bef (P ++ Q) → (P ++ Q).Pairwise (fun a b => a.1 < b.1) → MinO P o → MinO (P ++ Q) (Q.foldl givF o)
  | P, [], o, _, _, h => by simpa using h
  | P, e :: Q, o, hb, hp, h => by
    have hpe : ∀ x ∈ P, x.1 < e.1 := fun x hx => (List.pairwise_append.1 hp).2.2 x hx e (by simp)
    have h2 : MinO (P ++ [e]) (givF o e) := by
      cases o with
      | none => obtain rfl : P = [] := h; exact ⟨by simp, fun x hx => .inl (by simpa using hx)⟩
      | some g =>
        have hg := hpe g h.1
        have e1 := hb e (by simp) g (List.mem_append_left _ h.1) (by omega)
        show MinO _ (if befS e.2 g.2 then some e else some g)
        rw [e1]
        by_cases hlt : ltE e g
        · rw [decide_eq_true hlt, if_pos rfl]
          refine ⟨by simp, fun x hx => ?_⟩
          rcases List.mem_append.1 hx with hx | hx
          · rcases h.2 x hx with rfl | hx
            · exact .inr hlt
            · exact .inr (ltE_trans hlt hx)
          · exact .inl (by simpa using hx)
        · rw [decide_eq_false hlt, if_neg (by simp)]
          refine ⟨List.mem_append_left _ h.1, fun x hx => ?_⟩
          rcases List.mem_append.1 hx with hx | hx
          · exact h.2 x hx
          · obtain rfl : x = e := by simpa using hx
            right; unfold ltE at *; omega
    have := giv_fold (P ++ [e]) Q (givF o e) (by simpa using hb) (by simpa using hp) h2
    simpa using this
theorem lent_fold : ∀ (P Q : List Ey) (o : Option Ey), Bef (P ++ Q) → (P ++ Q).Pairwise (fun a b => a.1 < b.1) → MaxO P o → MaxO (P ++ Q) (Q.foldl lentF o)
  | P, [], o, _, _, h => by simpa using h
  | P, e :: Q, o, hb, hp, h => by
    have hpe : ∀ x ∈ P, x.1 < e.1 := fun x hx => (List.pairwise_append.1 hp).2.2 x hx e (by simp)
    have h2 : MaxO (P ++ [e]) (lentF o e) := by
      cases o with
      | none => obtain rfl : P = [] := h; exact ⟨by simp, fun x hx => .inl (by simpa using hx)⟩
      | some g =>
        have hg := hpe g h.1
        have e1 := hb g (List.mem_append_left _ h.1) e (by simp) (by omega)
        show MaxO _ (if befS g.2 e.2 then some e else some g)
        rw [e1]
        by_cases hlt : ltE g e
        · rw [decide_eq_true hlt, if_pos rfl]
          refine ⟨by simp, fun x hx => ?_⟩
          rcases List.mem_append.1 hx with hx | hx
          · rcases h.2 x hx with rfl | hx
            · exact .inr hlt
            · exact .inr (ltE_trans hx hlt)
          · exact .inl (by simpa using hx)
        · rw [decide_eq_false hlt, if_neg (by simp)]
          refine ⟨List.mem_append_left _ h.1, fun x hx => ?_⟩
          rcases List.mem_append.1 hx with hx | hx
          · exact h.2 x hx
          · obtain rfl : x = e := by simpa using hx
            right; unfold ltE at *; omega
    have := lent_fold (P ++ [e]) Q (lentF o e) (by simpa using hb) (by simpa using hp) h2
    simpa using this
theorem minO_one {P : List Ey} {o o' : Option Ey} (h : MinO P o) (h' : MinO P o') : o = o' := by
  cases o with
  | none =>
    obtain rfl : P = [] := h
    cases o' with
    | none => rfl
    | some g => exact absurd h'.1 (by simp)
  | some g => cases o' with
    | none => obtain rfl : P = [] := h'; exact absurd h.1 (by simp)
    | some g' =>
      rcases h.2 g' h'.1 with e | h1
      · rw [e]
      · rcases h'.2 g h.1 with e | h2
        · rw [e]
        · exact (ltE_asymm _ _ h1 h2).elim
theorem maxO_one {P : List Ey} {o o' : Option Ey} (h : MaxO P o) (h' : MaxO P o') : o = o' := by
  cases o with
  | none =>
    obtain rfl : P = [] := h
    cases o' with
    | none => rfl
    | some g => exact absurd h'.1 (by simp)
  | some g => cases o' with
    | none => obtain rfl : P = [] := h'; exact absurd h.1 (by simp)
    | some g' =>
      rcases h.2 g' h'.1 with e | h1
      · rw [e]
      · rcases h'.2 g h.1 with e | h2
        · rw [e]
        · exact (ltE_asymm _ _ h1 h2).elim
theorem sortE_head {P : List Ey} (h : P.Pairwise fun a b => a.1 < b.1) : MinO P (sortE P).head? := by
  have hs := sortE_up h
  have hm : ∀ y, y ∈ sortE P ↔ y ∈ P := fun y => sortE_mem
  cases hl : sortE P with
  | nil =>
    rw [hl] at hm
    exact List.eq_nil_iff_forall_not_mem.2 fun y hy => absurd ((hm y).2 hy) (by simp)
  | cons g r =>
    rw [hl] at hs hm
    refine ⟨(hm g).1 (by simp), fun x hx => ?_⟩
    rcases List.mem_cons.1 ((hm x).2 hx) with e | h1
    · exact .inl e
    · exact .inr ((List.pairwise_cons.1 hs).1 x h1)
theorem sortE_last {P : List Ey} (h : P.Pairwise fun a b => a.1 < b.1) : MaxO P (sortE P).getLast? := by
  have hs := sortE_up h
  have hm : ∀ y, y ∈ sortE P ↔ y ∈ P := fun y => sortE_mem
  rcases snoc_or (sortE P) with hl | ⟨r, g, hl⟩
  · rw [hl] at hm ⊢
    exact List.eq_nil_iff_forall_not_mem.2 fun y hy => absurd ((hm y).2 hy) (by simp)
  · rw [hl] at hs hm ⊢
    rw [last_snoc]
    refine ⟨(hm g).1 (by simp), fun x hx => ?_⟩
    rcases List.mem_append.1 ((hm x).2 hx) with h1 | h1
    · exact .inr ((List.pairwise_append.1 hs).2.2 x h1 g (by simp))
    · exact .inl (by simpa using h1)
def turnR (E : List Ey) (n : Int) : Tn := match (givs E).foldl givF none with
  | some g => ⟨n, g.2.farm, (g.1 : Int) + 1, ((giv1 E).filter fun e => !decide (e.1 = g.1)).map fun e => (e.1 : Int)⟩
  | none => match (lents E).foldl lentF none with
    | some p => ⟨n, p.2.farm, 0, []⟩
    | none => ⟨n, 0, 0, []⟩
theorem fold_given : ∀ (S : List Ey) (t : Tn), t.given ≠ 0 → S.foldl stepT t = { t with twice := t.twice ++ (giv1 S).map fun e => (e.1 : Int) }
  | [], t, _ => by simp [giv1]
  | e :: S, t, h => by
    rw [List.foldl_cons]
    by_cases h2 : e.2.kind = 2
    · have e0 : stepT t e = t := by unfold stepT; rw [if_pos h2, if_neg h]
      rw [e0, fold_given S t h]
      unfold giv1; rw [List.filter_cons_of_neg (by simp; omega)]
    · by_cases h1 : e.2.kind = 1
      · have e0 : stepT t e = { t with twice := t.twice ++ [(e.1 : Int)] } := by unfold stepT; rw [if_neg h2, if_pos h1, if_neg h]
        rw [e0, fold_given S { t with twice := t.twice ++ [(e.1 : Int)] } (by exact h)]
        unfold giv1; rw [List.filter_cons_of_pos (by simpa using h1)]
        simp
      · have e0 : stepT t e = t := by unfold stepT; rw [if_neg h2, if_neg h1]
        rw [e0, fold_given S t h]
        unfold giv1; rw [List.filter_cons_of_neg (by simpa using h1)]
theorem fold_none : ∀ (S : List Ey) (t : Tn), t.given = 0 → t.twice = [] → S.foldl stepT t = match giv1 S with
    | [] => { t with farm := ((lents S).getLast?.map (·.2.farm)).getD t.farm }
    | g :: r => { t with farm := g.2.farm, given := (g.1 : Int) + 1, twice := r.map fun e => (e.1 : Int) }
  | [], t, _, _ => by simp [giv1, lents]
  | e :: S, t, h, ht => by
    rw [List.foldl_cons]
    by_cases h2 : e.2.kind = 2
    · have e0 : stepT t e = { t with farm := e.2.farm } := by unfold stepT; rw [if_pos h2, if_pos h]
      rw [e0, fold_none S _ (by exact h) (by exact ht)]
      have e1 : giv1 (e :: S) = giv1 S := by unfold giv1; rw [List.filter_cons_of_neg (by simp; omega)]
      have e2 : lents (e :: S) = e :: lents S := by unfold lents; rw [List.filter_cons_of_pos (by simpa using h2)]
      rw [e1, e2]
      cases giv1 S with
      | cons => rfl
      | nil =>
        dsimp only
        rcases snoc_or (lents S) with hl | ⟨q, z, hl⟩
        · rw [hl]; rfl
        · rw [hl, ← List.cons_append, last_snoc, last_snoc]
          rfl
    · have e2 : lents (e :: S) = lents S := by unfold lents; rw [List.filter_cons_of_neg (by simpa using h2)]
      by_cases h1 : e.2.kind = 1
      · have e1 : giv1 (e :: S) = e :: giv1 S := by unfold giv1; rw [List.filter_cons_of_pos (by simpa using h1)]
        have e0 : stepT t e = { t with given := (e.1 : Int) + 1, farm := e.2.farm } := by unfold stepT; rw [if_neg h2, if_pos h1, if_pos h]
        rw [e0, fold_given S _ (by dsimp only; omega), e1]
        dsimp only
        rw [ht, List.nil_append]
      · have e1 : giv1 (e :: S) = giv1 S := by unfold giv1; rw [List.filter_cons_of_neg (by simpa using h1)]
        have e0 : stepT t e = t := by unfold stepT; rw [if_neg h2, if_neg h1]
        rw [e0, fold_none S t h ht, e1, e2]
theorem insJ_mem {n y : Int} : ∀ {l : List Int}, y ∈ insJ n l ↔ y = n ∨ y ∈ l
  | [] => by simp [insJ]
  | x :: l => by
    rw [insJ]
    split
    · simp
    · rw [List.mem_cons, insJ_mem (l := l), List.mem_cons]; exact or_left_comm
theorem sortJ_mem {y : Int} : ∀ {l : List Int}, y ∈ sortJ l ↔ y ∈ l
  | [] => by simp [sortJ]
  | x :: l => by
    show y ∈ insJ x (sortJ l) ↔ _
    rw [insJ_mem, sortJ_mem (l := l), List.mem_cons]
theorem insJ_up {n : Int} : ∀ {l : List Int}, l.Pairwise (· < ·) → n ∉ l → (insJ n l).Pairwise (· < ·)
  | [], _, _ => by simp [insJ]
  | x :: l, h, hn => by
    have h' := List.pairwise_cons.1 h
    have hnx : n ≠ x := fun e => hn (by simp [e])
    rw [insJ]
    split
    · rename_i hle
      refine List.pairwise_cons.2 ⟨fun y hy => ?_, h⟩
      rcases List.mem_cons.1 hy with rfl | hy
      · omega
      · have := h'.1 y hy; omega
    · refine List.pairwise_cons.2 ⟨fun y hy => ?_, insJ_up h'.2 fun hm => hn (by simp [hm])⟩
      rcases insJ_mem.1 hy with rfl | hy
      · omega
      · exact h'.1 y hy
theorem sortJ_up : ∀ {l : List Int}, l.Nodup → (sortJ l).Pairwise (· < ·)
  | [], _ => .nil
  | x :: l, h => by
    rw [List.nodup_cons] at h
    exact insJ_up (sortJ_up h.2) fun hm => h.1 (sortJ_mem.1 hm)
theorem int_asymm (a b : Int) (h : a < b) (k : b < a) : False := by omega
theorem turnR_eq {E : List Ey} (hp : E.Pairwise fun a b => a.1 < b.1) (hb : Bef E) (hk : ∀ e ∈ E, e.2.kind = 1 ∨ e.2.kind = 2) (n : Int) :
    turnR E n = { foldT n (sortE E) with twice := sortJ (foldT n (sortE E)).twice } := by
  have hg1 : givs E = giv1 E := by
    unfold givs giv1
    refine List.filter_congr fun e he => ?_
    rcases hk e he with h | h <;> rw [h] <;> rfl
  have hpg : (giv1 E).Pairwise fun a b => a.1 < b.1 := hp.filter _
  have hpl : (lents E).Pairwise fun a b => a.1 < b.1 := hp.filter _
  have hbg : Bef (giv1 E) := fun a ha b hb' => hb a (mem_flt ha) b (mem_flt hb')
  have hbl : Bef (lents E) := fun a ha b hb' => hb a (mem_flt ha) b (mem_flt hb')
  have m1 : (giv1 E).foldl givF none = (sortE (giv1 E)).head? := minO_one (giv_fold [] (giv1 E) none hbg hpg rfl) (sortE_head hpg)
  have m2 : (lents E).foldl lentF none = (sortE (lents E)).getLast? := maxO_one (lent_fold [] (lents E) none hbl hpl rfl) (sortE_last hpl)
  have s1 : giv1 (sortE E) = sortE (giv1 E) := sortE_filter _ hp
  have s2 : lents (sortE E) = sortE (lents E) := sortE_filter _ hp
  unfold turnR
  rw [hg1, m1, m2]
  unfold foldT
  rw [fold_none (sortE E) ⟨n, 0, 0, []⟩ rfl rfl, s1, s2]
  have hup := sortE_up hpg
  have hmem : ∀ y, y ∈ sortE (giv1 E) ↔ y ∈ giv1 E := fun y => sortE_mem
  cases hs : sortE (giv1 E) with
  | nil =>
    dsimp only [List.head?_nil]
    cases (sortE (lents E)).getLast? with
    | none => rfl
    | some p => rfl
  | cons g r =>
    rw [hs] at hup hmem
    rw [List.pairwise_cons] at hup
    dsimp only [List.head?_cons]
    congr 1
    have hidx : ∀ a ∈ giv1 E, ∀ b ∈ giv1 E, a.1 = b.1 → a = b := by
      intro a ha b hb' e
      obtain ⟨i, hi⟩ := List.getElem?_of_mem ha
      obtain ⟨j, hj⟩ := List.getElem?_of_mem hb'
      have hq := List.pairwise_iff_getElem.1 hpg
      obtain ⟨hil, hi'⟩ := List.getElem?_eq_some_iff.1 hi
      obtain ⟨hjl, hj'⟩ := List.getElem?_eq_some_iff.1 hj
      rcases Nat.lt_trichotomy i j with h | h | h
      · have := hq i j hil hjl h; rw [hi', hj'] at this; omega
      · subst h; rw [hi'] at hj'; exact hj'
      · have := hq j i hjl hil h; rw [hi', hj'] at this; omega
    have hgm := (hmem g).1 (by simp)
    have hrm : ∀ x ∈ r, x ∈ giv1 E := fun x hx => (hmem x).1 (by simp [hx])
    have hnd : (r.map fun e => (e.1 : Int)).Nodup := by
      rw [List.Nodup, List.pairwise_map]
      refine hup.2.imp_of_mem fun {a b} ha hb' hlt e => ?_
      have hab := hidx a (hrm a ha) b (hrm b hb') (by omega)
      subst hab
      exact ltE_asymm _ _ hlt hlt
    refine same_up int_asymm ?_ (sortJ_up hnd) fun y => ?_
    · rw [List.pairwise_map]
      exact (hpg.filter _).imp fun h => by omega
    · rw [sortJ_mem, List.mem_map, List.mem_map]
      constructor
      · rintro ⟨e, he, rfl⟩
        rw [List.mem_filter] at he
        have hne : e.1 ≠ g.1 := by simpa using he.2
        rcases List.mem_cons.1 ((hmem e).2 he.1) with rfl | h
        · exact absurd rfl hne
        · exact ⟨e, h, rfl⟩
      · rintro ⟨e, he, rfl⟩
        refine ⟨e, List.mem_filter.2 ⟨hrm e he, ?_⟩, rfl⟩
        have hlt := hup.1 e he
        have : e.1 ≠ g.1 := fun h => by
          have := hidx e (hrm e he) g hgm h
          subst this
          exact ltE_asymm _ _ hlt hlt
        simpa using this
end Go.Proofs.YtkhoengjdfmfaaaGreat
namespace Go.Proofs.YtkhoengjdfmfaaaGreat
theorem dropW_len {α : Type} (p : α → Bool) (l : List α) : (l.dropWhile p).length ≤ l.length := (List.dropWhile_sublist p).length_le
abbrev sameT (x y : Sl) : Bool := decide (y.tab = x.tab)
def runsL : List Sl → List (List Sl)
  | [] => []
  | x :: l => (x :: l.takeWhile (sameT x)) :: runsL (l.dropWhile (sameT x))
termination_by l => l.length
decreasing_by
  have := dropW_len (sameT x) l
  simp only [List.length_cons]; omega
theorem runsL_cons (x : Sl) (l : List Sl) : runsL (x :: l) = (x :: l.takeWhile (sameT x)) :: runsL (l.dropWhile (sameT x)) := by rw [runsL]
def elB (r : List Sl) (i : Nat) (x : Sl) : Bool := decide (x.seq = i) && slipB x && !(decide (x.kind = 3) && (match r[(x.off - 1).toNat]? with | some y => decide (y.kind = 3) | none => false))
def allE (r : List Sl) : Bool := (List.range r.length).all fun i => match r[i]? with | some x => elB r i x | none => true
def runB (last : Int) (r : List Sl) : Bool := match r with
  | [] => true
  | x :: _ => inB x.tab (last + 1) 7 && allE r
def tabR (r : List Sl) : Int := match r with
  | [] => 0
  | x :: _ => x.tab
def runsB : Int → List (List Sl) → Bool
  | _, [] => true
  | last, r :: R => runB last r && runsB (tabR r) R
theorem allE_iff {r : List Sl} : allE r = true ↔ ∀ (i : Nat) x, r[i]? = some x → elB r i x = true := by
  unfold allE
  rw [List.all_eq_true]
  constructor
  · intro h i x hx
    have := h i (List.mem_range.2 (get_lt hx))
    rw [hx] at this; exact this
  · intro h i hi
    cases hx : r[i]? with
    | none => rfl
    | some x => exact h i x hx
theorem el_iff {r : List Sl} {i : Nat} {x : Sl} : elB r i x = true ↔ x.seq = i ∧ slipB x = true ∧ (x.kind = 3 → ∀ y, r[(x.off - 1).toNat]? = some y → y.kind ≠ 3) := by
  unfold elB
  simp only [Bool.and_eq_true, decide_eq_true_eq, Bool.not_eq_true', Bool.and_eq_false_iff, decide_eq_false_iff_not]
  constructor
  · rintro ⟨⟨h1, h2⟩, h3⟩
    refine ⟨h1, h2, fun hk y hy => ?_⟩
    rcases h3 with h3 | h3
    · exact absurd hk h3
    · rw [hy] at h3; simpa using h3
  · rintro ⟨h1, h2, h3⟩
    refine ⟨⟨h1, h2⟩, ?_⟩
    by_cases hk : x.kind = 3
    · right
      cases hy : r[(x.off - 1).toNat]? with
      | none => rfl
      | some y => simpa using h3 hk y hy
    · exact .inl hk
theorem rightT_all {t : Int} {r : List Sl} (ht : ∀ x ∈ r, x.tab = t) : RightT t r ↔ allE r = true := by
  rw [allE_iff]
  constructor
  · intro h i x hx
    have hm := List.mem_of_getElem? hx
    exact el_iff.2 ⟨h.seq i x hx, h.slip x hm, fun hk y hy => h.void x hm hk y hy⟩
  · intro h
    refine ⟨ht, fun i x hx => (el_iff.1 (h i x hx)).1, fun x hx => ?_, fun x hx => ?_⟩
    · obtain ⟨i, hi⟩ := List.getElem?_of_mem hx
      exact (el_iff.1 (h i x hi)).2.1
    · obtain ⟨i, hi⟩ := List.getElem?_of_mem hx
      exact (el_iff.1 (h i x hi)).2.2
theorem ofT_all {l : List Sl} {t : Int} (h : ∀ x ∈ l, x.tab = t) : ofT l t = l := by
  unfold ofT; rw [List.filter_eq_self]; intro x hx; simpa using h x hx
theorem ofT_no {l : List Sl} {t : Int} (h : ∀ x ∈ l, x.tab ≠ t) : ofT l t = [] := by
  unfold ofT; rw [List.filter_eq_nil_iff]; intro x hx; simpa using h x hx
theorem book_app {A B : List Sl} {t last : Int} (hA : A ≠ []) (ht : ∀ x ∈ A, x.tab = t) (hl : -1 ≤ last) :
    (BookC (A ++ B) ∧ ∀ y ∈ A ++ B, last < y.tab) ∧ (∀ y ∈ B, y.tab ≠ t) ↔ (last + 1 ≤ t ∧ t ≤ 7) ∧ RightT t A ∧ BookC B ∧ ∀ y ∈ B, t < y.tab := by
  obtain ⟨a, ha⟩ := List.exists_mem_of_ne_nil A hA
  have hta := ht a ha
  constructor
  · rintro ⟨⟨h, hgt⟩, hne⟩
    have hup := List.pairwise_append.1 h.up
    have hB : ∀ y ∈ B, t < y.tab := fun y hy => by
      have h1 := hup.2.2 a ha y hy
      have h2 := hne y hy
      omega
    have h1 := hgt a (List.mem_append_left _ ha)
    have h2 := h.tab a (List.mem_append_left _ ha)
    have hAt : ofT (A ++ B) t = A := by rw [ofT_app, ofT_all ht, ofT_no hne, List.append_nil]
    refine ⟨by omega, ?_, ⟨hup.2.1, fun y hy => h.tab y (List.mem_append_right _ hy), fun u => ?_⟩, hB⟩
    · have := h.each t; rwa [hAt] at this
    · by_cases hu : u = t
      · subst hu; rw [ofT_no hne]; exact rightT_nil _
      · have := h.each u
        rwa [ofT_app, ofT_no (l := A) (fun x hx => by rw [ht x hx]; exact fun e => hu e.symm), List.nil_append] at this
  · rintro ⟨h1, hr, hB, hgt⟩
    have hne : ∀ y ∈ B, y.tab ≠ t := fun y hy => by have := hgt y hy; omega
    refine ⟨⟨⟨?_, fun y hy => ?_, fun u => ?_⟩, fun y hy => ?_⟩, hne⟩
    · refine List.pairwise_append.2 ⟨?_, hB.up, fun x hx y hy => by have := ht x hx; have := hgt y hy; omega⟩
      exact List.pairwise_of_forall_mem_list fun x hx y hy => by rw [ht x hx, ht y hy]; omega
    · rcases List.mem_append.1 hy with hy | hy
      · rw [ht y hy]; omega
      · exact hB.tab y hy
    · by_cases hu : u = t
      · subst hu; rw [ofT_app, ofT_all ht, ofT_no hne, List.append_nil]; exact hr
      · rw [ofT_app, ofT_no (l := A) (fun x hx => by rw [ht x hx]; exact fun e => hu e.symm), List.nil_append]; exact hB.each u
    · rcases List.mem_append.1 hy with hy | hy
      · rw [ht y hy]; omega
      · have := hgt y hy; omega
theorem takeW_mem {α : Type} {p : α → Bool} : ∀ {l : List α} {y : α}, y ∈ l.takeWhile p → p y = true ∧ y ∈ l
  | [], y, h => by simp at h
  | x :: l, y, h => by
    by_cases hp : p x = true
    · rw [List.takeWhile_cons_of_pos hp] at h
      rcases List.mem_cons.1 h with rfl | h
      · exact ⟨hp, by simp⟩
      · exact ⟨(takeW_mem h).1, by simp [(takeW_mem h).2]⟩
    · rw [List.takeWhile_cons_of_neg hp] at h; simp at h
theorem drop_head {α : Type} {p : α → Bool} : ∀ {l : List α} {x : α} {r : List α}, l.dropWhile p = x :: r → p x = false
  | [], x, r, h => by simp at h
  | z :: l, x, r, h => by
    by_cases hp : p z = true
    · rw [List.dropWhile_cons_of_pos hp] at h; exact drop_head h
    · rw [List.dropWhile_cons_of_neg hp] at h; cases h; simpa using hp
theorem run_split (x : Sl) (l : List Sl) : x :: l = (x :: l.takeWhile (sameT x)) ++ l.dropWhile (sameT x) := by
  rw [List.cons_append, List.takeWhile_append_dropWhile]
theorem run_tab (x : Sl) (l : List Sl) : ∀ y ∈ x :: l.takeWhile (sameT x), y.tab = x.tab := by
  intro y hy
  rcases List.mem_cons.1 hy with rfl | hy
  · rfl
  · simpa using (takeW_mem hy).1
theorem rest_ne {x : Sl} {l : List Sl} (h : (l.dropWhile (sameT x)).Pairwise fun x y => x.tab ≤ y.tab) (h2 : ∀ y ∈ l.dropWhile (sameT x), x.tab ≤ y.tab) : ∀ y ∈ l.dropWhile (sameT x), y.tab ≠ x.tab := by
  cases hd : l.dropWhile (sameT x) with
  | nil => simp
  | cons z r =>
    rw [hd] at h h2
    have hz : ¬ z.tab = x.tab := by simpa using drop_head hd
    have hz2 := h2 z (by simp)
    intro y hy
    rcases List.mem_cons.1 hy with rfl | hy
    · exact hz
    · have := (List.pairwise_cons.1 h).1 y hy; omega
theorem runsB_iff : ∀ {n : Nat} {l : List Sl} {last : Int}, l.length ≤ n → -1 ≤ last → (runsB last (runsL l) = true ↔ BookC l ∧ ∀ y ∈ l, last < y.tab)
  | _, [], last, _, _ => by
    rw [runsL]
    exact ⟨fun _ => ⟨⟨.nil, by simp, fun t => rightT_nil t⟩, by simp⟩, fun _ => rfl⟩
  | 0, x :: l, _, h, _ => by simp at h
  | n + 1, x :: l, last, h, hl => by
    have hlen := dropW_len (sameT x) l
    have ht := run_tab x l
    have hb := book_app (A := x :: l.takeWhile (sameT x)) (B := l.dropWhile (sameT x)) (t := x.tab) (by simp) ht hl
    rw [← run_split] at hb
    rw [runsL_cons, runsB]
    show (runB last (x :: l.takeWhile (sameT x)) && runsB x.tab (runsL (l.dropWhile (sameT x)))) = true ↔ _
    rw [Bool.and_eq_true]
    have hin : runB last (x :: l.takeWhile (sameT x)) = true ↔ (last + 1 ≤ x.tab ∧ x.tab ≤ 7) ∧ RightT x.tab (x :: l.takeWhile (sameT x)) := by
      show (inB x.tab (last + 1) 7 && allE _) = true ↔ _
      rw [Bool.and_eq_true, inB_iff, rightT_all ht]
    rw [hin]
    constructor
    · rintro ⟨⟨h1, h2⟩, h3⟩
      obtain ⟨h4, h5⟩ := (runsB_iff (n := n) (by simp only [List.length_cons] at h; omega) (by omega)).1 h3
      exact (hb.2 ⟨h1, h2, h4, h5⟩).1
    · intro h1
      have hup := h1.1.up
      rw [run_split, List.pairwise_append] at hup
      have hne := rest_ne hup.2.1 (fun y hy => hup.2.2 x (by simp) y hy)
      obtain ⟨h2, h3, h4, h5⟩ := hb.1 ⟨h1, hne⟩
      exact ⟨⟨h2, h3⟩, (runsB_iff (n := n) (by simp only [List.length_cons] at h; omega) (by omega)).2 ⟨h4, h5⟩⟩
theorem runs_book (l : List Sl) : runsB (-1) (runsL l) = bookB l := by
  rw [Bool.eq_iff_iff, runsB_iff (Nat.le_refl _) (Int.le_refl _), book_char]
  exact ⟨fun h => h.1, fun h => ⟨h, fun y hy => by have := h.tab y hy; omega⟩⟩
theorem runs_flat : ∀ {n : Nat} {l : List Sl}, l.length ≤ n → (runsL l).flatten = l
  | _, [], _ => by rw [runsL]; rfl
  | 0, x :: l, h => by simp at h
  | n + 1, x :: l, h => by
    have hlen := dropW_len (sameT x) l
    rw [runsL_cons, List.flatten_cons, runs_flat (n := n) (by simp only [List.length_cons] at h; omega), ← run_split]
theorem runs_ofT : ∀ {n : Nat} {l : List Sl}, l.length ≤ n → l.Pairwise (fun x y => x.tab ≤ y.tab) → ∀ r ∈ runsL l, ∃ t, r = ofT l t ∧ r ≠ []
  | _, [], _, _, r, hr => by rw [runsL] at hr; simp at hr
  | 0, x :: l, h, _, _, _ => by simp at h
  | n + 1, x :: l, h, hp, r, hr => by
    have hlen := dropW_len (sameT x) l
    have hp2 := hp
    rw [run_split, List.pairwise_append] at hp2
    have hne := rest_ne hp2.2.1 (fun y hy => hp2.2.2 x (by simp) y hy)
    rw [runsL_cons] at hr
    rcases List.mem_cons.1 hr with rfl | hr
    · refine ⟨x.tab, ?_, by simp⟩
      have e : ofT (x :: l) x.tab = ofT ((x :: l.takeWhile (sameT x)) ++ l.dropWhile (sameT x)) x.tab := by rw [← run_split]
      rw [e, ofT_app, ofT_all (run_tab x l), ofT_no hne, List.append_nil]
    · obtain ⟨t, h1, h2⟩ := runs_ofT (n := n) (by simp only [List.length_cons] at h; omega) hp2.2.1 r hr
      refine ⟨t, ?_, h2⟩
      have htx : t ≠ x.tab := fun e => by
        subst e
        rw [ofT_no hne] at h1; exact h2 h1
      have e : ofT (x :: l) t = ofT ((x :: l.takeWhile (sameT x)) ++ l.dropWhile (sameT x)) t := by rw [← run_split]
      rw [e, ofT_app, ofT_no (fun y hy => by rw [run_tab x l y hy]; exact fun e => htx e.symm), List.nil_append]
      exact h1
theorem cnt_run {l r : List Sl} {t : Int} {x : Sl} (hr : r = ofT l t) (hx : x ∈ r) : cntB l x = (!decide (x.kind = 3) && !r.any fun y => decide (y.kind = 3) && decide (y.off - 1 = x.seq)) := by
  subst hr
  unfold cntB voidIn
  have htx := (ofT_mem.1 hx).2
  have : (l.any fun y => decide (y.kind = 3) && decide (y.tab = x.tab) && decide (y.off = x.seq + 1)) = (ofT l t).any fun y => decide (y.kind = 3) && decide (y.off - 1 = x.seq) := by
    rw [Bool.eq_iff_iff, List.any_eq_true, List.any_eq_true]
    constructor
    · rintro ⟨y, hy, h⟩
      simp only [Bool.and_eq_true, decide_eq_true_eq] at h
      exact ⟨y, ofT_mem.2 ⟨hy, by omega⟩, by simp only [Bool.and_eq_true, decide_eq_true_eq]; omega⟩
    · rintro ⟨y, hy, h⟩
      obtain ⟨h1, h2⟩ := ofT_mem.1 hy
      simp only [Bool.and_eq_true, decide_eq_true_eq] at h
      exact ⟨y, h1, by simp only [Bool.and_eq_true, decide_eq_true_eq]; omega⟩
  rw [this]
end Go.Proofs.YtkhoengjdfmfaaaGreat
namespace Go.Proofs.YtkhoengjdfmfaaaGreat
theorem entL_get {l : List Sl} {e : Ey} : e ∈ entL l ↔ l[e.1]? = some e.2 ∧ cntB l e.2 = true := by
  unfold entL
  rw [entF_mem]
  constructor
  · rintro ⟨k, h1, h2, h3⟩
    rw [show e.1 = k by omega]; exact ⟨h1, h3⟩
  · rintro ⟨h1, h2⟩; exact ⟨e.1, h1, by omega, h2⟩
theorem entL_up (l : List Sl) : (entL l).Pairwise fun a b => a.1 < b.1 := entF_up l l 0
theorem entT_mem {l : List Sl} {n : Int} {e : Ey} : e ∈ entT l n ↔ e ∈ entL l ∧ e.2.turn = n := by unfold entT; rw [List.mem_filter]; simp
theorem entT_up (l : List Sl) (n : Int) : (entT l n).Pairwise fun a b => a.1 < b.1 := (entL_up l).filter _
theorem book_slip {l : List Sl} (h : BookC l) {x : Sl} (hx : x ∈ l) : slipB x = true := (h.each x.tab).slip x (ofT_mem.2 ⟨hx, rfl⟩)
theorem book_seq {l : List Sl} (h : BookC l) {x : Sl} (hx : x ∈ l) : 0 ≤ x.seq ∧ x.seq < l.length := by
  obtain ⟨i, hi⟩ := List.getElem?_of_mem (ofT_mem.2 ⟨hx, rfl⟩ : x ∈ ofT l x.tab)
  have h1 := (h.each x.tab).seq i x hi
  have h2 := get_lt hi
  have h3 : (ofT l x.tab).length ≤ l.length := List.length_filter_le _ _
  omega
theorem ent_kind {l : List Sl} (h : BookC l) {e : Ey} (he : e ∈ entL l) : e.2.kind = 1 ∨ e.2.kind = 2 := by
  obtain ⟨h1, h2⟩ := entL_get.1 he
  have hs := book_slip h (List.mem_of_getElem? h1)
  unfold cntB at h2
  simp only [Bool.and_eq_true, Bool.not_eq_true', decide_eq_false_iff_not] at h2
  exact ((slip_not h2.1).1 hs).1
theorem ent_bef {l : List Sl} (h : BookC l) : Bef (entL l) := by
  intro a ha b hb hne
  have h1 := (entL_get.1 ha).1
  have h2 := (entL_get.1 hb).1
  have hup := book_up (book_char.2 h)
  rw [Bool.eq_iff_iff, decide_eq_true_eq]
  unfold befS
  by_cases hh : a.2.hour = b.2.hour
  · rw [if_neg (by simpa using hh)]
    rcases Nat.lt_or_gt_of_ne hne with hlt | hlt
    · have hk := hup a.1 b.1 a.2 b.2 hlt h1 h2
      unfold ltS at hk
      unfold ltE
      by_cases ht : a.2.tab = b.2.tab
      · rw [if_neg (by simpa using ht), decide_eq_true_eq]; omega
      · rw [if_pos ht, decide_eq_true_eq]; omega
    · have hk := hup b.1 a.1 b.2 a.2 hlt h2 h1
      unfold ltS at hk
      unfold ltE
      by_cases ht : a.2.tab = b.2.tab
      · rw [if_neg (by simpa using ht), decide_eq_true_eq]; omega
      · rw [if_pos ht, decide_eq_true_eq]; omega
  · rw [if_pos hh, decide_eq_true_eq]
    unfold ltE
    omega
theorem turnR_is {l : List Sl} (h : BookC l) (n : Int) : turnR (entT l n) n = turnS l n :=
  turnR_eq (entT_up l n) (fun a ha b hb => ent_bef h a (entT_mem.1 ha).1 b (entT_mem.1 hb).1) (fun e he => ent_kind h (entT_mem.1 he).1) n
theorem entL_len (l : List Sl) : (entL l).length ≤ l.length := by
  have : ∀ (m : List Sl) i, (entF l i m).length ≤ m.length := by
    intro m
    induction m with
    | nil => intro i; simp [entF]
    | cons x m ih => intro i; rw [entF]; have := ih (i + 1); split <;> simp <;> omega
  exact this l 0
theorem insN_len (n : Int) : ∀ l : List Int, (insN n l).length ≤ l.length + 1
  | [] => by simp [insN]
  | x :: l => by
    rw [insN]
    have := insN_len n l
    split
    · simp
    · split
      · simp
      · simp; omega
theorem nums_len : ∀ E : List Ey, (numsE E).length ≤ E.length
  | [] => Nat.le_refl _
  | e :: E => by
    have h1 := insN_len e.2.turn (numsE E)
    have h2 := nums_len E
    show (insN e.2.turn (numsE E)).length ≤ _
    rw [List.length_cons]; omega
end Go.Proofs.YtkhoengjdfmfaaaGreat
namespace Go.Proofs.YtkhoengjdfmfaaaGreat
def numL (u : Nat) : List Nat := if u < 128 then [u] else (u % 128 + 128) :: numL (u / 128)
termination_by u
decreasing_by omega
theorem numL_lo {u : Nat} (h : u < 128) : numL u = [u] := by rw [numL, if_pos h]
theorem numL_hi {u : Nat} (h : ¬ u < 128) : numL u = (u % 128 + 128) :: numL (u / 128) := by rw [numL, if_neg h]
theorem numL_len : ∀ {k u : Nat}, u < 128 ^ (k + 1) → (numL u).length ≤ k + 1
  | 0, u, h => by rw [numL_lo (by omega)]; simp
  | k + 1, u, h => by
    by_cases hu : u < 128
    · rw [numL_lo hu]; simp
    · rw [numL_hi hu, List.length_cons]
      have := numL_len (k := k) (u := u / 128) (by rw [Nat.div_lt_iff_lt_mul (by decide)]; rw [Nat.pow_succ] at h; exact h)
      omega
theorem numL_ne (u : Nat) : numL u ≠ [] := by
  by_cases hu : u < 128
  · rw [numL_lo hu]; simp
  · rw [numL_hi hu]; simp
def fieldsL (s : Sl) : List Int := [s.tab, s.seq, s.kind, s.turn, s.farm, s.hour, s.lit, s.off]
def itemL (n : Int) : List Nat := 1 :: numL (2 * n.toNat)
def msgS (s : Sl) : List Nat := 3 :: 8 :: (fieldsL s).flatMap itemL
structure Sendable (s : Sl) : Prop where
  slip : slipB s = true
  tab : 0 ≤ s.tab ∧ s.tab ≤ 7
  seq : 0 ≤ s.seq ∧ s.seq < 512
theorem Sendable.nats {s : Sl} (h : Sendable s) : ∀ n ∈ fieldsL s, 0 ≤ n ∧ n ≤ 1073741824 := by
  have h1 := h.tab
  have h2 := h.seq
  have h0 := h.slip
  intro n hn
  unfold fieldsL at hn
  simp only [List.mem_cons, List.not_mem_nil, or_false] at hn
  by_cases hk : s.kind = 3
  · have := (slip_void hk).1 h0
    omega
  · have := (slip_not hk).1 h0
    omega
theorem sendable_book {l : List Sl} (hc : checkS l = 0) {s : Sl} (h : s ∈ l) : Sendable s := by
  have hb := check_book hc
  have h1 := book_seq hb h
  have h2 := (check_zero.1 hc).1
  exact ⟨book_slip hb h, hb.tab s h, by omega⟩
theorem item_len {n : Int} (h : 0 ≤ n ∧ n ≤ 1073741824) : (itemL n).length ≤ 6 := by
  unfold itemL
  have := numL_len (k := 4) (u := 2 * n.toNat) (by omega)
  rw [List.length_cons]; omega
theorem msg_len {s : Sl} (h : Sendable s) : (msgS s).length ≤ 50 := by
  have hn := h.nats
  unfold msgS fieldsL at *
  simp only [List.mem_cons, List.not_mem_nil, or_false, forall_eq_or_imp, forall_eq] at hn
  obtain ⟨h1, h2, h3, h4, h5, h6, h7, h8⟩ := hn
  have := item_len h1; have := item_len h2; have := item_len h3; have := item_len h4
  have := item_len h5; have := item_len h6; have := item_len h7; have := item_len h8
  simp only [List.flatMap_cons, List.flatMap_nil, List.length_cons, List.length_append, List.length_nil]
  omega
theorem or_add {a c i : Nat} (h : a < 2 ^ i) : a ||| (c <<< i) = a + c * 2 ^ i := by
  rw [Nat.or_comm, Nat.shiftLeft_eq, ← Nat.shiftLeft_eq, ← Nat.shiftLeft_add_eq_or_of_lt h, Nat.shiftLeft_eq, Nat.add_comm]
theorem mod_step (u i : Nat) : u % 2 ^ (7 * i) + (u / 2 ^ (7 * i) % 128) * 2 ^ (7 * i) = u % 2 ^ (7 * (i + 1)) := by
  have e : 2 ^ (7 * (i + 1)) = 2 ^ (7 * i) * 128 := by rw [show 7 * (i + 1) = 7 * i + 7 by omega, Nat.pow_add]
  rw [e, Nat.mod_mul, Nat.mul_comm (2 ^ (7 * i))]
end Go.Proofs.YtkhoengjdfmfaaaGreat
