/- Facts with two clocks in plain Lean: how histories and changes look; where parts begin. -/
import Derived.Test.YtobcnochlkdpaaaKa
namespace Go.Proofs.Ytobcnochlkdpaaa
set_option linter.unusedSimpArgs false
set_option linter.unusedVariables false
theorem get_snoc {α : Type} {q : List α} {x y : α} {i : Nat} (h : (q ++ [x])[i]? = some y) : (i < q.length ∧ q[i]? = some y) ∨ (i = q.length ∧ y = x) := by
  by_cases hi : i < q.length
  · rw [List.getElem?_append_left hi] at h; exact .inl ⟨hi, h⟩
  · rw [List.getElem?_append_right (by omega)] at h
    by_cases h0 : i - q.length = 0
    · rw [h0] at h; exact .inr ⟨by omega, by simpa using h.symm⟩
    · obtain ⟨k, hk⟩ : ∃ k, i - q.length = k + 1 := ⟨i - q.length - 1, by omega⟩
      rw [hk] at h; simp at h
theorem get_snoc_self {α : Type} (q : List α) (x : α) : (q ++ [x])[q.length]? = some x := by rw [List.getElem?_append_right (Nat.le_refl _), Nat.sub_self]; rfl
theorem get_lt {α : Type} {q : List α} {y : α} {i : Nat} (h : q[i]? = some y) : i < q.length := (List.getElem?_eq_some_iff.1 h).1

def sumE (s : List Er) : Int := (s.map fun x => x.v * (x.r.hi - x.r.lo + 1)).sum
def totH (g : Int → Int) (L : List Int) : Int := (L.map g).sum
theorem sumE_snoc (q : List Er) (x : Er) : sumE (q ++ [x]) = sumE q + x.v * (x.r.hi - x.r.lo + 1) := by unfold sumE; simp
theorem tot_snoc (g : Int → Int) (q : List Int) (x : Int) : totH g (q ++ [x]) = totH g q + g x := by unfold totH; simp
theorem tot_append (g : Int → Int) (q r : List Int) : totH g (q ++ r) = totH g q + totH g r := by unfold totH; simp

/-- A history of the hours lo .. u - 1. -/
structure EW (f : Int → An) (lo : Int) (n : Nat) (q : List Er) (x : Er) : Prop where
  fst : ∀ y, (q ++ [x])[0]? = some y → y.r.lo = lo
  lst : x.r.hi = lo + n
  each : ∀ (i : Nat) y, (q ++ [x])[i]? = some y → y.r.lo ≤ y.r.hi ∧ lo ≤ y.r.lo ∧ y.r.hi ≤ lo + n ∧ ∀ h, y.r.lo ≤ h → h ≤ y.r.hi → f h = ⟨y.v, y.k⟩
  two : ∀ (i : Nat) y z, (q ++ [x])[i]? = some y → (q ++ [x])[i + 1]? = some z → z.r.lo = y.r.hi + 1 ∧ ¬ (z.v = y.v ∧ z.k = y.k)
  sum : sumE (q ++ [x]) = totH (fun h => (f h).v) (hours lo (n + 1))
theorem ew_one (f : Int → An) (lo : Int) : EW f lo 0 [] ⟨⟨lo, lo⟩, (f lo).v, (f lo).k⟩ := by
  refine ⟨?_, by simp, ?_, ?_, ?_⟩
  · intro y hy; simp at hy; rw [← hy]
  · intro i y hy
    rcases get_snoc hy with ⟨h, _⟩ | ⟨_, rfl⟩
    · simp at h
    · exact ⟨by simp, by simp, by simp, fun h h1 h2 => by dsimp only at h1 h2; rw [show h = lo by omega]⟩
  · intro i y z _ hz
    have := get_lt hz
    simp at this
  · simp [sumE, totH, hours]
theorem ew_step {f : Int → An} {lo : Int} {n : Nat} {q : List Er} {x : Er} (h : EW f lo n q x) : ∃ q' x', erPut (q ++ [x]) ⟨lo + ((n + 1 : Nat) : Int), lo + ((n + 1 : Nat) : Int)⟩ (f (lo + ((n + 1 : Nat) : Int))) = q' ++ [x'] ∧ EW f lo (n + 1) q' x' := by
  rw [erPut_snoc]
  have hx := h.each _ _ (get_snoc_self q x)
  have hs := h.sum
  split
  · rename_i hv
    have hf : f (lo + ((n + 1 : Nat) : Int)) = ⟨x.v, x.k⟩ := by rw [hv.1, hv.2]
    refine ⟨_, _, rfl, ?_, rfl, ?_, ?_, ?_⟩
    · intro y hy
      rcases get_snoc hy with ⟨h1, h2⟩ | ⟨h1, rfl⟩
      · exact h.fst y (by rw [List.getElem?_append_left h1]; exact h2)
      · exact h.fst x (by rw [h1]; exact get_snoc_self q x)
    · intro i y hy
      rcases get_snoc hy with ⟨h1, h2⟩ | ⟨h1, rfl⟩
      · have := h.each i y (by rw [List.getElem?_append_left h1]; exact h2)
        exact ⟨this.1, this.2.1, by omega, this.2.2.2⟩
      · refine ⟨by dsimp only; omega, hx.2.1, by dsimp only; omega, fun k h3 h4 => ?_⟩
        dsimp only at h3 h4 ⊢
        by_cases hk : k ≤ x.r.hi
        · exact hx.2.2.2 k h3 hk
        · have := h.lst
          rw [show k = lo + ((n + 1 : Nat) : Int) by omega]; exact hf
    · intro i y z hy hz
      rcases get_snoc hz with ⟨h1, h2⟩ | ⟨h1, rfl⟩
      · refine h.two i y z ?_ (by rw [List.getElem?_append_left h1]; exact h2)
        rw [List.getElem?_append_left (by omega)] at hy ⊢; exact hy
      · have := h.two i y x (by rw [List.getElem?_append_left (by omega)] at hy ⊢; exact hy) (by rw [h1]; exact get_snoc_self q x)
        exact this
    · rw [sumE_snoc] at hs ⊢
      rw [hours_snoc, tot_snoc, ← hs, hf]
      dsimp only
      have := h.lst
      rw [show lo + ((n + 1 : Nat) : Int) - x.r.lo + 1 = (x.r.hi - x.r.lo + 1) + 1 by omega, Int.mul_add, Int.mul_one]
      omega
  · rename_i hv
    refine ⟨_, _, rfl, ?_, rfl, ?_, ?_, ?_⟩
    · intro y hy
      rw [List.getElem?_append_left (by simp)] at hy
      exact h.fst y hy
    · intro i y hy
      rcases get_snoc hy with ⟨h1, h2⟩ | ⟨h1, rfl⟩
      · have := h.each i y h2
        exact ⟨this.1, this.2.1, by omega, this.2.2.2⟩
      · exact ⟨by simp, by dsimp only; omega, by simp, fun k h3 h4 => by dsimp only at h3 h4; rw [show k = lo + ((n + 1 : Nat) : Int) by omega]⟩
    · intro i y z hy hz
      rcases get_snoc hz with ⟨h1, h2⟩ | ⟨h1, rfl⟩
      · refine h.two i y z ?_ h2
        rw [List.getElem?_append_left (by omega)] at hy; exact hy
      · have hy2 : y = x := by
          rw [List.getElem?_append_left (by omega)] at hy
          have e : i = q.length := by simp at h1; omega
          rw [e, get_snoc_self] at hy
          exact (Option.some.inj hy).symm
        subst hy2
        have := h.lst
        exact ⟨by dsimp only; omega, fun hc => hv ⟨hc.1.symm, hc.2.symm⟩⟩
    · rw [sumE_snoc, hs, hours_snoc lo (n + 1), tot_snoc]
      dsimp only
      rw [Int.sub_self, Int.zero_add, Int.mul_one]
theorem eras_says (f : Int → An) (lo : Int) : ∀ n : Nat, ∃ q x, erasH f [] (hours lo (n + 1)) = q ++ [x] ∧ EW f lo n q x
  | 0 => ⟨[], _, rfl, ew_one f lo⟩
  | n + 1 => by
    obtain ⟨q, x, h1, h2⟩ := eras_says f lo n
    obtain ⟨q', x', h3, h4⟩ := ew_step h2
    refine ⟨q', x', ?_, h4⟩
    rw [hours_snoc]
    unfold erasH at h1 ⊢
    rw [List.foldl_append, h1]
    exact h3
/-- Changed hours, from lo to u. -/
structure CW (d : Int → Bool) (g : Int → Int) (lo : Int) (n : Nat) (s : List Rg) : Prop where
  each : ∀ (i : Nat) y, s[i]? = some y → y.lo ≤ y.hi ∧ lo ≤ y.lo ∧ y.hi < lo + n ∧ ∀ h, y.lo ≤ h → h ≤ y.hi → d h = true
  two : ∀ (i : Nat) y z, s[i]? = some y → s[i + 1]? = some z → y.hi + 1 < z.lo
  all : ∀ h, lo ≤ h → h < lo + n → d h = true → ∃ y ∈ s, y.lo ≤ h ∧ h ≤ y.hi
  sum : (s.map fun y => totH g (hours y.lo (y.hi + 1 - y.lo).toNat)).sum = totH (fun h => if d h then g h else 0) (hours lo n)
theorem cw_zero (d : Int → Bool) (g : Int → Int) (lo : Int) : CW d g lo 0 [] := ⟨by simp, by simp, fun h h1 h2 => by omega, by simp [totH, hours]⟩
theorem hours_one (h : Int) : hours h (h + 1 - h).toNat = [h] := by rw [show (h + 1 - h).toNat = 1 by omega]; rfl
theorem cw_step {d : Int → Bool} {g : Int → Int} {lo : Int} {n : Nat} {s : List Rg} (h : CW d g lo n s) : CW d g lo (n + 1) (chPut s ⟨lo + n, lo + n⟩ (d (lo + n))) := by
  cases hd : d (lo + n) with
  | false =>
    rw [show chPut s ⟨lo + n, lo + n⟩ false = s from rfl]
    refine ⟨fun i y hy => ?_, h.two, fun k h1 h2 h3 => ?_, ?_⟩
    · have := h.each i y hy; exact ⟨this.1, this.2.1, by omega, this.2.2.2⟩
    · by_cases hk : k = lo + n
      · rw [hk, hd] at h3; cases h3
      · exact h.all k h1 (by omega) h3
    · rw [h.sum, hours_snoc, tot_snoc, hd]; simp
  | true =>
    rcases snoc_or s with rfl | ⟨q, x, rfl⟩
    · rw [show chPut [] ⟨lo + n, lo + n⟩ true = [⟨lo + n, lo + n⟩] from rfl]
      refine ⟨fun i y hy => ?_, fun i y z hy hz => ?_, fun k h1 h2 h3 => ?_, ?_⟩
      · rcases get_snoc (q := []) hy with ⟨h1, _⟩ | ⟨_, rfl⟩
        · simp at h1
        · exact ⟨by simp, by dsimp only; omega, by dsimp only; omega, fun k h3 h4 => by dsimp only at h3 h4; rw [show k = lo + n by omega]; exact hd⟩
      · have := get_lt hz; simp at this
      · by_cases hk : k = lo + n
        · exact ⟨⟨lo + n, lo + n⟩, List.mem_singleton.2 rfl, by dsimp only; omega, by dsimp only; omega⟩
        · obtain ⟨y, hy, _⟩ := h.all k h1 (by omega) h3; cases hy
      · have := h.sum
        rw [hours_snoc, tot_snoc, ← this, hd]
        simp only [List.map_cons, List.map_nil, List.sum_cons, List.sum_nil, hours_one]
        simp [totH]
    · rw [chPut_snoc, if_pos rfl]
      have hx := h.each _ _ (get_snoc_self q x)
      have hs := h.sum
      rw [List.map_append, List.sum_append] at hs
      simp only [List.map_cons, List.map_nil, List.sum_cons, List.sum_nil] at hs
      split
      · rename_i he
        dsimp only at he
        refine ⟨fun i y hy => ?_, fun i y z hy hz => ?_, fun k h1 h2 h3 => ?_, ?_⟩
        · rcases get_snoc hy with ⟨h1, h2⟩ | ⟨h1, rfl⟩
          · have := h.each i y (by rw [List.getElem?_append_left h1]; exact h2)
            exact ⟨this.1, this.2.1, by omega, this.2.2.2⟩
          · refine ⟨by dsimp only; omega, hx.2.1, by dsimp only; omega, fun k h3 h4 => ?_⟩
            dsimp only at h3 h4
            by_cases hk : k ≤ x.hi
            · exact hx.2.2.2 k h3 hk
            · rw [show k = lo + n by omega]; exact hd
        · rcases get_snoc hz with ⟨h1, h2⟩ | ⟨h1, rfl⟩
          · refine h.two i y z ?_ (by rw [List.getElem?_append_left h1]; exact h2)
            rw [List.getElem?_append_left (by omega)] at hy ⊢; exact hy
          · exact h.two i y x (by rw [List.getElem?_append_left (by omega)] at hy ⊢; exact hy) (by rw [h1]; exact get_snoc_self q x)
        · by_cases hk : k = lo + n
          · exact ⟨_, List.mem_append_right _ (List.mem_singleton.2 rfl), by dsimp only; omega, by dsimp only; omega⟩
          · obtain ⟨y, hy, h4, h5⟩ := h.all k h1 (by omega) h3
            rcases List.mem_append.1 hy with hy | hy
            · exact ⟨y, List.mem_append_left _ hy, h4, h5⟩
            · rw [List.mem_singleton] at hy; subst hy
              exact ⟨_, List.mem_append_right _ (List.mem_singleton.2 rfl), h4, by dsimp only; omega⟩
        · rw [List.map_append, List.sum_append, hours_snoc lo n, tot_snoc, ← hs, hd]
          simp only [List.map_cons, List.map_nil, List.sum_cons, List.sum_nil]
          rw [show (lo + (n : Int) + 1 - x.lo).toNat = (x.hi + 1 - x.lo).toNat + 1 by omega, hours_snoc, tot_snoc, show x.lo + ((x.hi + 1 - x.lo).toNat : Int) = lo + n by omega]
          simp only [if_true]
          omega
      · rename_i he
        dsimp only at he
        refine ⟨fun i y hy => ?_, fun i y z hy hz => ?_, fun k h1 h2 h3 => ?_, ?_⟩
        · rcases get_snoc hy with ⟨h1, h2⟩ | ⟨h1, rfl⟩
          · have := h.each i y h2
            exact ⟨this.1, this.2.1, by omega, this.2.2.2⟩
          · exact ⟨by simp, by dsimp only; omega, by dsimp only; omega, fun k h3 h4 => by dsimp only at h3 h4; rw [show k = lo + n by omega]; exact hd⟩
        · rcases get_snoc hz with ⟨h1, h2⟩ | ⟨h1, rfl⟩
          · refine h.two i y z ?_ h2
            rw [List.getElem?_append_left (by omega)] at hy; exact hy
          · have hy2 : y = x := by
              rw [List.getElem?_append_left (by omega)] at hy
              have e : i = q.length := by simp at h1; omega
              rw [e, get_snoc_self] at hy
              exact (Option.some.inj hy).symm
            subst hy2
            dsimp only; omega
        · by_cases hk : k = lo + n
          · exact ⟨_, List.mem_append_right _ (List.mem_singleton.2 rfl), by dsimp only; omega, by dsimp only; omega⟩
          · obtain ⟨y, hy, h4, h5⟩ := h.all k h1 (by omega) h3
            exact ⟨y, List.mem_append_left _ hy, h4, h5⟩
        · rw [List.map_append, List.sum_append, List.map_append, List.sum_append, hours_snoc lo n, tot_snoc, ← hs, hd]
          simp only [List.map_cons, List.map_nil, List.sum_cons, List.sum_nil, hours_one]
          simp [totH]
theorem chg_says (d : Int → Bool) (g : Int → Int) (lo : Int) : ∀ n : Nat, CW d g lo n (chgH d [] (hours lo n))
  | 0 => cw_zero d g lo
  | n + 1 => by
    have h := cw_step (chg_says d g lo n)
    rw [hours_snoc]
    unfold chgH at h ⊢
    rw [List.foldl_append]
    exact h
theorem tot_zero {g : Int → Int} {L : List Int} (h : ∀ x ∈ L, g x = 0) : totH g L = 0 := by
  unfold totH
  induction L with
  | nil => rfl
  | cons x r ih => rw [List.map_cons, List.sum_cons, h x (by simp), ih fun y hy => h y (by simp [hy])]; rfl
theorem tot_congr {g g' : Int → Int} {L : List Int} (h : ∀ x ∈ L, g x = g' x) : totH g L = totH g' L := by
  unfold totH; rw [List.map_congr_left h]
theorem tot_sub (g g' : Int → Int) (L : List Int) : totH (fun h => g h - g' h) L = totH g L - totH g' L := by
  unfold totH
  induction L with
  | nil => rfl
  | cons x r ih => simp only [List.map_cons, List.sum_cons, ih]; omega
theorem tot_bound {g : Int → Int} {L : List Int} {c : Int} (hc : ∀ x ∈ L, -c ≤ g x ∧ g x ≤ c) : -(c * L.length) ≤ totH g L ∧ totH g L ≤ c * L.length := by
  unfold totH
  induction L with
  | nil => simp
  | cons x r ih =>
    have h1 := ih fun y hy => hc y (by simp [hy])
    have h2 := hc x (by simp)
    rw [List.map_cons, List.sum_cons, List.length_cons]
    have e : c * ((r.length + 1 : Nat) : Int) = c * r.length + c := by rw [Int.natCast_add, Int.mul_add]; simp
    omega
theorem hours_length (lo : Int) (n : Nat) : (hours lo n).length = n := by
  induction n generalizing lo with
  | zero => rfl
  | succ n ih => rw [hours, List.length_cons, ih]

/-! Where parts begin. -/
structure Starts (l : List Fc) (key lo hi : Int) (L : List Int) : Prop where
  up : L.Pairwise (· < ·)
  mem : ∀ h, h ∈ L ↔ h = lo ∨ ((lo < h ∧ h ≤ hi) ∧ ∃ x ∈ l, x.key = key ∧ (h = x.frm ∨ h = x.to + 1))
theorem flat_of {α : Type} {f : Int → α} {hi : Int} : ∀ {L : List Int}, L.Pairwise (· < ·) → (∀ u ∈ L, u ≤ hi) → (∀ u ∈ L, ∀ n, u ≤ n → n ≤ hi → (∀ w ∈ L, w ≤ u ∨ n < w) → f n = f u) → Flat f L hi
  | [], _, _, _ => trivial
  | [u], _, h1, h2 => ⟨h1 u (by simp), fun n h3 h4 => h2 u (by simp) n h3 h4 fun w hw => by rw [List.mem_singleton] at hw; left; omega⟩
  | u :: v :: r, h0, h1, h2 => by
    rw [List.pairwise_cons] at h0
    have huv := h0.1 v (by simp)
    refine ⟨huv, fun n h3 h4 => ?_, flat_of h0.2 (fun w hw => h1 w (by simp [hw])) fun w hw n h3 h4 h5 => ?_⟩
    · have := h1 v (by simp)
      refine h2 u (by simp) n h3 (by omega) fun w hw => ?_
      rcases List.mem_cons.1 hw with rfl | hw
      · left; omega
      · rcases List.mem_cons.1 hw with rfl | hw
        · right; omega
        · have := (List.pairwise_cons.1 h0.2).1 w hw; right; omega
    · have hw' : w ∈ u :: v :: r := List.mem_cons_of_mem _ hw
      refine h2 w hw' n h3 h4 fun z hz => ?_
      rcases List.mem_cons.1 hz with rfl | hz
      · have := h0.1 w hw; left; omega
      · exact h5 z hz
theorem Starts.head {l : List Fc} {key lo hi : Int} {L : List Int} (h : Starts l key lo hi L) : ∃ r, L = lo :: r := by
  cases L with
  | nil => have := (h.mem lo).2 (.inl rfl); cases this
  | cons u r =>
    have h1 := (h.mem lo).2 (.inl rfl)
    have h2 := (h.mem u).1 (by simp)
    rcases List.mem_cons.1 h1 with rfl | h1
    · exact ⟨r, rfl⟩
    · have := (List.pairwise_cons.1 h.up).1 lo h1
      rcases h2 with rfl | ⟨h2, _⟩ <;> omega
theorem Starts.flat {l : List Fc} {key lo hi : Int} {L : List Int} (h : Starts l key lo hi L) (hlh : lo ≤ hi) {α : Type} {f : Int → α} (hf : ∀ u n, (∀ x ∈ l, x.key = key → inR u x.frm x.to = inR n x.frm x.to) → f u = f n) : Flat f L hi := by
  refine flat_of h.up (fun u hu => ?_) fun u hu n h1 h2 h3 => ?_
  · rcases (h.mem u).1 hu with rfl | ⟨h1, _⟩ <;> omega
  · refine (hf u n fun x hx hk => ?_).symm
    have hlo : lo ≤ u := by rcases (h.mem u).1 hu with rfl | ⟨h4, _⟩ <;> omega
    have a1 : ∀ e, (e = x.frm ∨ e = x.to + 1) → e ≤ u ∨ n < e := fun e he => by
      by_cases h4 : lo < e ∧ e ≤ hi
      · exact h3 e ((h.mem e).2 (.inr ⟨h4, x, hx, hk, he⟩))
      · by_cases h5 : lo < e
        · right; omega
        · left; omega
    have b1 := a1 _ (.inl rfl)
    have b2 := a1 _ (.inr rfl)
    unfold inR
    rw [Bool.eq_iff_iff]
    simp only [Bool.and_eq_true, decide_eq_true_eq]
    omega
theorem parts_len : ∀ (L : List Int) (hi : Int), (partsL L hi).length = L.length
  | [], _ => rfl
  | [_], _ => rfl
  | u :: v :: r, hi => by rw [partsL, List.length_cons, parts_len (v :: r) hi]; rfl
theorem erPut_len (s : List Er) (r : Rg) (a : An) : (erPut s r a).length ≤ s.length + 1 := by
  rcases snoc_or s with rfl | ⟨q, x, rfl⟩
  · simp [erPut_nil]
  · rw [erPut_snoc]; split <;> simp
theorem chPut_len (s : List Rg) (r : Rg) (d : Bool) : (chPut s r d).length ≤ s.length + 1 := by
  rcases snoc_or s with rfl | ⟨q, x, rfl⟩
  · rw [chPut_nil]; split <;> simp
  · rw [chPut_snoc]; repeat' split
    all_goals simp
theorem erasP_len (f : Int → An) : ∀ (P : List Rg) (s : List Er), (erasP f s P).length ≤ s.length + P.length
  | [], s => Nat.le_refl _
  | p :: P, s => by
    have h1 := erasP_len f P (erPut s p (f p.lo))
    have h2 := erPut_len s p (f p.lo)
    show (erasP f (erPut s p (f p.lo)) P).length ≤ _
    rw [List.length_cons]; omega
end Go.Proofs.Ytobcnochlkdpaaa
