/- Facts with two clocks in plain Lean: the answers, and what a further fact does. -/
import Derived.Test.YtobcnochlkdpaaaKb
namespace Go.Proofs.Ytobcnochlkdpaaa
set_option linter.unusedSimpArgs false
set_option linter.unusedVariables false
def rightK (key : Int) (hs : List Int) : Bool := inR key 0 1048576 && hs.all fun h => inR h 0 4096
def atF (l : List Fc) (key h known : Int) : Int × Bool × Int := if checkF l ≠ 0 then (0, false, checkF l) else if rightK key [h, known] then ((sayL l key h known).v, (sayL l key h known).k, 0) else (0, false, 1)
def askF (l : List Fc) (key : Int) (hs : List Int) (r : Rg) : Int := if checkF l ≠ 0 then checkF l else if rightK key hs && inR r.lo 0 4096 && inR r.hi 0 4096 && decide (r.lo ≤ r.hi) then 0 else 1
def hoursR (r : Rg) : List Int := hours r.lo (r.hi + 1 - r.lo).toNat
def histF (l : List Fc) (key known : Int) (r : Rg) : List Er × Int := if askF l key [known] r ≠ 0 then ([], askF l key [known] r) else (erasH (fun h => sayL l key h known) [] (hoursR r), 0)
def difB (l : List Fc) (key a b h : Int) : Bool := !(decide (sayL l key h a = sayL l key h b))
def chgF (l : List Fc) (key a b : Int) (r : Rg) : List Rg × Int := if askF l key [a, b] r ≠ 0 then ([], askF l key [a, b] r) else (chgH (difB l key a b) [] (hoursR r), 0)
def totF (l : List Fc) (key known : Int) (r : Rg) : Int × Int := if askF l key [known] r ≠ 0 then (0, askF l key [known] r) else (totH (fun h => (sayL l key h known).v) (hoursR r), 0)
theorem ask_zero {l : List Fc} {key : Int} {hs : List Int} {r : Rg} : askF l key hs r = 0 ↔ checkF l = 0 ∧ rightK key hs = true ∧ (0 ≤ r.lo ∧ r.lo ≤ 4096) ∧ (0 ≤ r.hi ∧ r.hi ≤ 4096) ∧ r.lo ≤ r.hi := by
  unfold askF
  split
  · rename_i h; exact ⟨fun e => absurd e h, fun e => absurd e.1 h⟩
  · rename_i h
    have h0 : checkF l = 0 := by omega
    cases hr : rightK key hs with
    | false => simp
    | true =>
      simp only [inR, Bool.true_and, Bool.and_eq_true, decide_eq_true_eq]
      split
      · rename_i h1; exact ⟨fun _ => ⟨h0, trivial, h1.1.1, h1.1.2, h1.2⟩, fun _ => rfl⟩
      · rename_i h1; exact ⟨fun e => absurd e (by decide), fun e => absurd ⟨⟨e.2.2.1, e.2.2.2.1⟩, e.2.2.2.2⟩ h1⟩
theorem rightK_iff {key : Int} {hs : List Int} : rightK key hs = true ↔ (0 ≤ key ∧ key ≤ 1048576) ∧ ∀ h ∈ hs, 0 ≤ h ∧ h ≤ 4096 := by
  simp [rightK, inR]

/-! A further fact. -/
def lowF (n : Int) (x : Fc) : Bool := decide (x.no < n)
def insF (l : List Fc) (x : Fc) : List Fc := l.takeWhile (lowF x.no) ++ x :: l.dropWhile (lowF x.no)
def metF (l : List Fc) (x : Fc) : Bool := match l.dropWhile (lowF x.no) with | [] => false | y :: _ => decide (y.no = x.no)
def addF (l : List Fc) (x : Fc) : List Fc × Int := if checkF l ≠ 0 then ([], checkF l) else if metF l x then ([], 171) else if checkF (insF l x) ≠ 0 then ([], checkF (insF l x)) else (insF l x, 0)
theorem drop_low : ∀ {l : List Fc} {n : Int}, l.Pairwise (fun x y => x.no < y.no) → ∀ y ∈ l.dropWhile (lowF n), n ≤ y.no
  | [], _, _, y, hy => by cases hy
  | x :: r, n, h, y, hy => by
    rw [List.pairwise_cons] at h
    by_cases hx : x.no < n
    · rw [List.dropWhile_cons_of_pos (by simpa [lowF] using hx)] at hy; exact drop_low h.2 y hy
    · rw [List.dropWhile_cons_of_neg (by simpa [lowF] using hx)] at hy
      rcases List.mem_cons.1 hy with rfl | hy
      · omega
      · have := h.1 y hy; omega
theorem take_low {l : List Fc} {n : Int} : ∀ y ∈ l.takeWhile (lowF n), y.no < n := fun y hy => by
  have := List.all_takeWhile (l := l) (p := lowF n)
  have := List.all_eq_true.1 this y hy
  simpa [lowF] using this
theorem ins_mem {l : List Fc} {x y : Fc} : y ∈ insF l x ↔ y = x ∨ y ∈ l := by
  have h := List.takeWhile_append_dropWhile (p := lowF x.no) (l := l)
  have h2 : y ∈ l ↔ y ∈ l.takeWhile (lowF x.no) ∨ y ∈ l.dropWhile (lowF x.no) := by rw [← List.mem_append, h]
  rw [h2]
  unfold insF
  rw [List.mem_append, List.mem_cons]
  constructor
  · rintro (h | h | h)
    · exact .inr (.inl h)
    · exact .inl h
    · exact .inr (.inr h)
  · rintro (h | h | h)
    · exact .inr (.inl h)
    · exact .inl h
    · exact .inr (.inr h)
theorem ins_length (l : List Fc) (x : Fc) : (insF l x).length = l.length + 1 := by
  have h := congrArg List.length (List.takeWhile_append_dropWhile (p := lowF x.no) (l := l))
  unfold insF
  rw [List.length_append] at h ⊢
  rw [List.length_cons]; omega
theorem met_iff {l : List Fc} {x : Fc} (h : l.Pairwise (fun x y => x.no < y.no)) : metF l x = true ↔ ∃ y ∈ l, y.no = x.no := by
  have hd := drop_low (n := x.no) h
  have ha := List.takeWhile_append_dropWhile (p := lowF x.no) (l := l)
  have ht := take_low (l := l) (n := x.no)
  have hs : (l.dropWhile (lowF x.no)).Pairwise (fun x y => x.no < y.no) := h.sublist (List.dropWhile_sublist _)
  unfold metF
  cases he : l.dropWhile (lowF x.no) with
  | nil =>
    rw [he, List.append_nil] at ha
    constructor
    · intro h; cases h
    · rintro ⟨y, hy, h2⟩; rw [← ha] at hy; have := ht y hy; omega
  | cons z r =>
    rw [he] at ha hd hs
    rw [List.pairwise_cons] at hs
    show decide (z.no = x.no) = true ↔ _
    rw [decide_eq_true_eq]
    constructor
    · intro e; exact ⟨z, by rw [← ha]; simp, e⟩
    · rintro ⟨y, hy, h2⟩
      rw [← ha] at hy
      rcases List.mem_append.1 hy with hy | hy
      · have := ht y hy; omega
      · rcases List.mem_cons.1 hy with rfl | hy
        · exact h2
        · have := hs.1 y hy; have := hd z (by simp); omega
theorem ins_up {l : List Fc} {x : Fc} (h : l.Pairwise (fun x y => x.no < y.no)) (hx : ∀ y ∈ l, y.no ≠ x.no) : (insF l x).Pairwise (fun x y => x.no < y.no) := by
  have hd := drop_low (n := x.no) h
  have ht := take_low (l := l) (n := x.no)
  have ha := List.takeWhile_append_dropWhile (p := lowF x.no) (l := l)
  have hdm : ∀ y ∈ l.dropWhile (lowF x.no), x.no < y.no := fun y hy => by
    have h1 := hd y hy
    have h2 := hx y (by rw [← ha]; exact List.mem_append_right _ hy)
    omega
  unfold insF
  rw [List.pairwise_append]
  refine ⟨h.sublist (List.takeWhile_sublist _), List.pairwise_cons.2 ⟨hdm, h.sublist (List.dropWhile_sublist _)⟩, fun y hy z hz => ?_⟩
  have h1 := ht y hy
  rcases List.mem_cons.1 hz with rfl | hz
  · exact h1
  · have := hdm z hz; omega
theorem add_zero {l : List Fc} {x : Fc} (h : (addF l x).2 = 0) : checkF l = 0 ∧ metF l x = false ∧ checkF (insF l x) = 0 ∧ addF l x = (insF l x, 0) := by
  unfold addF at h ⊢
  split at h
  · rename_i h1; exact absurd h h1
  · rename_i h1
    have h1' : checkF l = 0 := by omega
    cases hm : metF l x with
    | true => rw [hm, if_pos rfl] at h; exact absurd h (by decide)
    | false =>
      rw [hm] at h
      rw [if_neg (by simp)] at h
      split at h
      · rename_i h2; exact absurd h h2
      · rename_i h2
        rw [if_neg (by omega), if_neg (by simp), if_neg h2]
        exact ⟨h1', rfl, by omega, rfl⟩
theorem add_bad {l : List Fc} {x : Fc} (h : (addF l x).2 ≠ 0) : (addF l x).1 = [] := by
  unfold addF at h ⊢
  repeat' split at h
  all_goals repeat' split
  all_goals first | rfl | (exfalso; simp_all; done)
/-- A fact that does not fit changes nothing. -/
theorem say_skip {A B : List Fc} {x : Fc} {key h known : Int} (hx : fitsB key h known x = false) : sayL (A ++ x :: B) key h known = sayL (A ++ B) key h known := by
  unfold sayL
  rw [say_append, say_append, List.foldl_cons]
  have : sayStep key h known (sayS A key h known) x = sayS A key h known := by unfold sayStep; rw [hx]; rfl
  rw [this]
theorem say_first {A B : List Fc} {x : Fc} {key h known : Int} (hx : fitsB key h known x = true) (h0 : 0 ≤ x.kn) (ha : ∀ y ∈ A ++ B, y.kn < x.kn) : sayL (A ++ x :: B) key h known = ⟨x.val, true⟩ := by
  unfold sayL
  rw [say_append, List.foldl_cons]
  have h1 : (sayS A key h known).1 ≤ x.kn := by
    unfold sayS
    have key' : ∀ (A : List Fc) (s : Int × An), (∀ y ∈ A, y.kn < x.kn) → s.1 ≤ x.kn → (A.foldl (sayStep key h known) s).1 ≤ x.kn := by
      intro A
      induction A with
      | nil => intro s _ hs; exact hs
      | cons y r ih =>
        intro s hr hs
        rw [List.foldl_cons]
        refine ih _ (fun z hz => hr z (by simp [hz])) ?_
        have := hr y (by simp)
        unfold sayStep
        split
        · dsimp only; omega
        · exact hs
    exact key' A _ (fun y hy => ha y (List.mem_append_left _ hy)) (by dsimp only; omega)
  have h2 : sayStep key h known (sayS A key h known) x = (x.kn, ⟨x.val, true⟩) := by
    unfold sayStep
    rw [hx, decide_eq_true h1]; rfl
  rw [h2]
  have key' : ∀ (B : List Fc), (∀ y ∈ B, y.kn < x.kn) → B.foldl (sayStep key h known) (x.kn, ⟨x.val, true⟩) = (x.kn, ⟨x.val, true⟩) := by
    intro B
    induction B with
    | nil => intro _; rfl
    | cons y r ih =>
      intro hr
      rw [List.foldl_cons]
      have h3 := hr y (by simp)
      have : sayStep key h known (x.kn, ⟨x.val, true⟩) y = (x.kn, ⟨x.val, true⟩) := by
        unfold sayStep
        rw [if_neg]
        simp only [Bool.and_eq_true, decide_eq_true_eq]
        omega
      rw [this]; exact ih fun z hz => hr z (by simp [hz])
  rw [key' B fun y hy => ha y (List.mem_append_right _ hy)]
theorem ins_split (l : List Fc) (x : Fc) : ∃ A B, insF l x = A ++ x :: B ∧ l = A ++ B := ⟨_, _, rfl, (List.takeWhile_append_dropWhile (p := lowF x.no) (l := l)).symm⟩
/-- A fact that becomes known later is not said. -/
theorem say_later {l : List Fc} {x : Fc} {key h known : Int} (hk : known < x.kn) : sayL (insF l x) key h known = sayL l key h known := by
  obtain ⟨A, B, h1, h2⟩ := ins_split l x
  rw [h1, h2]
  refine say_skip ?_
  unfold fitsB; rw [decide_eq_false (p := x.kn ≤ known) (by omega), Bool.and_false]
theorem hist_later {l : List Fc} {x : Fc} {key known : Int} {r : Rg} (hk : known < x.kn) (h1 : checkF l = 0) (h2 : checkF (insF l x) = 0) : histF (insF l x) key known r = histF l key known r := by
  unfold histF askF
  rw [h1, h2]
  have : (fun h => sayL (insF l x) key h known) = fun h => sayL l key h known := funext fun h => say_later hk
  rw [this]
theorem at_later {l : List Fc} {x : Fc} {key h known : Int} (hk : known < x.kn) (h1 : checkF l = 0) (h2 : checkF (insF l x) = 0) : atF (insF l x) key h known = atF l key h known := by
  unfold atF
  rw [h1, h2, say_later hk]
/-- What a correction changes. -/
theorem at_more {l : List Fc} {x : Fc} {key h known : Int} (h1 : checkF l = 0) (h2 : checkF (insF l x) = 0) (ha : ∀ y ∈ l, y.kn < x.kn) : (atF (insF l x) key h known).2.2 = (atF l key h known).2.2 ∧ ((atF l key h known).2.2 = 0 → atF (insF l x) key h known = if decide (key = x.key) && (inR h x.frm x.to && decide (x.kn ≤ known)) then (x.val, true, 0) else atF l key h known) := by
  obtain ⟨A, B, e1, e2⟩ := ins_split l x
  have hx0 : 0 ≤ x.kn := by
    have := (okF_iff.1 (check_zero.1 h2).2).1 x (ins_mem.2 (.inl rfl))
    have := rightF_iff.1 this.2
    omega
  unfold atF
  have hz : ¬ (0 : Int) ≠ 0 := by simp
  rw [h1, h2]
  simp only [if_neg hz]
  cases hr : rightK key [h, known] with
  | false => exact ⟨rfl, fun e => absurd (show (1 : Int) = 0 from e) (by decide)⟩
  | true =>
    refine ⟨rfl, fun _ => ?_⟩
    rw [if_pos rfl, if_pos rfl, e1]
    cases hf : fitsB key h known x with
    | true =>
      rw [say_first hf hx0 (fun y hy => ha y (by rw [e2]; exact hy))]
      rw [if_pos]
      unfold fitsB at hf
      simp only [Bool.and_eq_true, decide_eq_true_eq] at hf ⊢
      exact ⟨hf.1.1.symm, hf.1.2, hf.2⟩
    | false =>
      rw [say_skip hf, ← e2, if_neg]
      intro hc
      unfold fitsB at hf
      simp only [Bool.and_eq_true, decide_eq_true_eq] at hc
      rw [decide_eq_true hc.1.symm, hc.2.1, decide_eq_true hc.2.2] at hf
      cases hf
/-- Lists in the order of their numbers, with the same members. -/
theorem up_same : ∀ {l m : List Fc}, l.Pairwise (fun x y => x.no < y.no) → m.Pairwise (fun x y => x.no < y.no) → (∀ y, y ∈ l ↔ y ∈ m) → l = m
  | [], [], _, _, _ => rfl
  | [], y :: m, _, _, h => absurd ((h y).2 (by simp)) (by simp)
  | x :: l, [], _, _, h => absurd ((h x).1 (by simp)) (by simp)
  | x :: l, y :: m, hl, hm, h => by
    rw [List.pairwise_cons] at hl hm
    have hxy : x = y := by
      rcases List.mem_cons.1 ((h x).1 (by simp)) with e | h1
      · exact e
      · rcases List.mem_cons.1 ((h y).2 (by simp)) with e | h2
        · exact e.symm
        · have := hm.1 x h1; have := hl.1 y h2; omega
    subst hxy
    rw [up_same hl.2 hm.2 fun z => ?_]
    constructor
    · intro hz
      rcases List.mem_cons.1 ((h z).1 (by simp [hz])) with rfl | h1
      · have := hl.1 z hz; omega
      · exact h1
    · intro hz
      rcases List.mem_cons.1 ((h z).2 (by simp [hz])) with rfl | h1
      · have := hm.1 z hz; omega
      · exact h1
/-- Adding facts one by one. -/
structure Added (l : List Fc) (t : Nat) (i : Nat) (a : List Fc) : Prop where
  len : a.length = i
  up : a.Pairwise (fun x y => x.no < y.no)
  mem : ∀ y, y ∈ a ↔ ∃ k, k < i ∧ l[(k + t) % l.length]? = some y
theorem added_zero (l : List Fc) (t : Nat) : Added l t 0 [] := ⟨rfl, .nil, fun y => by simp⟩
theorem turn_inj {n i k t : Nat} (hi : i < n) (hk : k < i) : (k + t) % n ≠ (i + t) % n := by
  intro h
  have h1 := Nat.div_add_mod (k + t) n
  have h2 := Nat.div_add_mod (i + t) n
  rw [h] at h1
  have h3 : n * ((i + t) / n) - n * ((k + t) / n) = i - k := by omega
  rw [← Nat.mul_sub] at h3
  cases hd : (i + t) / n - (k + t) / n with
  | zero => rw [hd] at h3; omega
  | succ m =>
    rw [hd, Nat.mul_succ] at h3
    omega
theorem added_step {l : List Fc} {t i : Nat} {a : List Fc} {x : Fc} (h : Added l t i a) (hl : checkF l = 0) (hi : i < l.length) (hx : l[(i + t) % l.length]? = some x) : addF a x = (insF a x, 0) ∧ Added l t (i + 1) (insF a x) := by
  obtain ⟨hl1, hl2⟩ := check_zero.1 hl
  obtain ⟨hr, hup⟩ := okF_iff.1 hl2
  have hne : ∀ y ∈ a, y.no ≠ x.no := fun y hy e => by
    obtain ⟨k, hk, hy2⟩ := (h.mem y).1 hy
    have hlt := get_lt hy2
    have hlt2 := get_lt hx
    have hne := turn_inj (t := t) hi hk
    have g1 := (List.getElem?_eq_some_iff.1 hy2).2
    have g2 := (List.getElem?_eq_some_iff.1 hx).2
    rcases Nat.lt_or_gt_of_ne hne with h3 | h3
    · have := List.pairwise_iff_getElem.1 hup _ _ hlt hlt2 h3; rw [g1, g2] at this; omega
    · have := List.pairwise_iff_getElem.1 hup _ _ hlt2 hlt h3; rw [g1, g2] at this; omega
  have hma : ∀ y ∈ a, y ∈ l := fun y hy => by
    obtain ⟨k, _, hy2⟩ := (h.mem y).1 hy
    exact List.mem_of_getElem? hy2
  have hxl := List.mem_of_getElem? hx
  have hup2 := ins_up h.up hne
  have hc1 : checkF a = 0 := check_zero.2 ⟨by rw [h.len]; omega, okF_iff.2 ⟨fun y hy => hr y (hma y hy), h.up⟩⟩
  have hc2 : checkF (insF a x) = 0 := check_zero.2 ⟨by rw [ins_length, h.len]; omega, okF_iff.2 ⟨fun y hy => by
    rcases ins_mem.1 hy with rfl | hy
    · exact hr y hxl
    · exact hr y (hma y hy), hup2⟩⟩
  have hm : metF a x = false := by
    cases hm : metF a x with
    | false => rfl
    | true => obtain ⟨y, hy, e⟩ := (met_iff h.up).1 hm; exact absurd e (hne y hy)
  refine ⟨?_, by rw [ins_length, h.len], hup2, fun y => ?_⟩
  · unfold addF; rw [if_neg (by omega), hm, if_neg (by decide), if_neg (by omega)]
  · rw [ins_mem, h.mem]
    constructor
    · rintro (rfl | ⟨k, hk, hy⟩)
      · exact ⟨i, by omega, hx⟩
      · exact ⟨k, by omega, hy⟩
    · rintro ⟨k, hk, hy⟩
      by_cases e : k = i
      · subst e; rw [hx] at hy; exact .inl (Option.some.inj hy).symm
      · exact .inr ⟨k, by omega, hy⟩
theorem added_all {l : List Fc} {t : Nat} {a : List Fc} (h : Added l t l.length a) (hl : checkF l = 0) : a = l := by
  obtain ⟨hr, hup⟩ := okF_iff.1 (check_zero.1 hl).2
  refine up_same h.up hup fun y => ?_
  have hsub : ∀ y ∈ a, y ∈ l := fun y hy => by
    obtain ⟨k, _, hy2⟩ := (h.mem y).1 hy
    exact List.mem_of_getElem? hy2
  refine ⟨hsub y, fun hy => ?_⟩
  obtain ⟨j, hj⟩ := List.mem_iff_getElem?.1 hy
  have hjl := get_lt hj
  refine (h.mem y).2 ⟨(j + (l.length - t % l.length)) % l.length, Nat.mod_lt _ (by omega), ?_⟩
  have ht := Nat.mod_lt t (show 0 < l.length by omega)
  rw [Nat.mod_add_mod, Nat.add_mod, Nat.add_mod j, Nat.mod_eq_of_lt hjl]
  have e : ((j + (l.length - t % l.length) % l.length) % l.length + t % l.length) % l.length = j := by
    rw [Nat.mod_add_mod]
    by_cases h0 : t % l.length = 0
    · rw [h0, Nat.sub_zero, Nat.mod_self]; simp only [Nat.add_zero]; exact Nat.mod_eq_of_lt hjl
    · rw [Nat.mod_eq_of_lt (show l.length - t % l.length < l.length by omega), show j + (l.length - t % l.length) + t % l.length = j + l.length by omega, Nat.add_mod_right, Nat.mod_eq_of_lt hjl]
  rw [e]; exact hj
/-- The difference of the totals comes from the hours that changed. -/
theorem dif_sum {l : List Fc} {key a b : Int} {r : Rg} : ((chgH (difB l key a b) [] (hoursR r)).map fun y => totH (fun h => (sayL l key h b).v - (sayL l key h a).v) (hoursR y)).sum = totH (fun h => (sayL l key h b).v) (hoursR r) - totH (fun h => (sayL l key h a).v) (hoursR r) := by
  have h := (chg_says (difB l key a b) (fun h => (sayL l key h b).v - (sayL l key h a).v) r.lo (r.hi + 1 - r.lo).toNat).sum
  unfold hoursR
  rw [h, ← tot_sub]
  refine tot_congr fun x _ => ?_
  cases hd : difB l key a b x with
  | true => rfl
  | false =>
    have : sayL l key x a = sayL l key x b := by simpa [difB] using hd
    rw [this]; simp
end Go.Proofs.Ytobcnochlkdpaaa
