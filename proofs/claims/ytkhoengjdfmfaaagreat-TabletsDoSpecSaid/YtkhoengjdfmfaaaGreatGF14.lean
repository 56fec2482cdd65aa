/- Parts of the proof that belong together: Uf Ug Uh Ui Tm. -/
import Derived.Test.YtkhoengjdfmfaaaGreatGF13
set_option maxRecDepth 10000
set_option maxHeartbeats 16000000
set_option linter.unusedSimpArgs false
set_option linter.unusedVariables false
namespace Go.Proofs.YtkhoengjdfmfaaaGreat
abbrev rowE (v : Value) (L : List Ey) : Ent := .row v 80 9 (L.map entC)
theorem rotate_c (A X Y C : List Ey) (a m b : Nat) (ha : A.length = a) (hm : a + X.length = m) (hb : m + Y.length = b) (hX : X ≠ []) (hY : Y ≠ []) (hl : (A ++ X ++ Y ++ C).length ≤ 100000) (v : Value) (σ : List Ent) :
  SCall Tryz.prog 137 [.slv v, .int .i64 a, .int .i64 m, .int .i64 b, entF'] (rowE v (A ++ X ++ Y ++ C) :: σ) (fun r τ => r = .tup [] ∧ τ = rowE v (A ++ Y ++ X ++ C) :: σ) := by
 refine zL Tryz.func137 rfl (by simp) ?_
 have hd1 : (m : Int) - (a : Int) = ((X.length : Nat) : Int) := by omega
 have hd2 : (b : Int) - (m : Int) = ((Y.length : Nat) : Int) := by omega
 have hlx : a + X.length + Y.length + C.length ≤ 100000 := by simp at hl; omega
 refine zY (zZ ?_); (iterate 2 refine zR ?_); refine xSu ?_; refine zP ?_; refine zX (zY (zZ ?_)); (iterate 2 refine zR ?_); refine xSu ?_; refine zP ?_; refine zX (zY (zT ?_)); rotate_left
 all_goals ((repeat (rename BV _ _ => k; first | cases k | clear k)); try exact zN)
 rw [hd1, hd2]
 clear hd1 hd2
 refine yD (fun (z : List Ey × List Ey × List Ey × List Ey) => (⟨[(0, .slv v), (2, .int .i64 m), (4, entF'), (10, .int .i64 ((z.2.1.length : Nat) : Int)), (11, .int .i64 ((z.2.2.1.length : Nat) : Int))], rowE v (z.1 ++ z.2.1 ++ z.2.2.1 ++ z.2.2.2) :: σ, [], Tryz.f137.ntmps⟩ : St)) (fun z => z.1 ++ z.2.2.1 ++ z.2.1 ++ z.2.2.2 = A ++ Y ++ X ++ C ∧ z.1.length + z.2.1.length = m ∧ z.2.1 ≠ [] ∧ z.2.2.1 ≠ [] ∧ z.1.length + z.2.1.length + z.2.2.1.length + z.2.2.2.length ≤ 100000) (fun z => z.2.1.length + z.2.2.1.length) (A, X, Y, C) (⟨rfl, by dsimp only; omega, hX, hY, by dsimp only; omega⟩) (St.le_of (by repeat (first | exact trivial | refine ⟨rfl, ?_⟩)) (by repeat (first | exact q_r | apply q_q | apply q_k))) ?_
 intro z hI
 obtain ⟨P, S, T, R⟩ := z
 obtain ⟨hI1, hI2, hI3, hI4, hI5⟩ := hI
 dsimp only at hI1 hI2 hI3 hI4 hI5 ⊢
 clear hX hY hl hlx ha hm hb
 have hS0 := List.length_pos_iff.2 hI3
 have hT0 := List.length_pos_iff.2 hI4
 by_cases hlt : T.length < S.length
 ·obtain ⟨S1, S2, hS, hS1⟩ : ∃ S1 S2, S = S1 ++ S2 ∧ S1.length = T.length := ⟨S.take T.length, S.drop T.length, (List.take_append_drop _ _).symm, by rw [List.length_take]; omega⟩
  have hS2 : S.length = T.length + S2.length := by rw [hS, List.length_append, hS1]
  have cc := swapRange_c P S1 S2 T R P.length m T.length rfl hS1 rfl (by omega) (by simp; omega) v σ
  have hz1 : (m : Int) - ((S.length : Nat) : Int) = ((P.length : Nat) : Int) := by omega
  have hz2 : ((S.length : Nat) : Int) - ((T.length : Nat) : Int) = ((S2.length : Nat) : Int) := by omega
  have hrow : P ++ S ++ T ++ R = P ++ S1 ++ S2 ++ T ++ R := by rw [hS]; simp
  rw [hrow]
  have hnew : (P ++ T) ++ S1 ++ S2 ++ R = A ++ Y ++ X ++ C := by rw [← hI1, hS]; simp
  have hrow2 : P ++ T ++ S2 ++ S1 ++ R = (P ++ T) ++ S2 ++ S1 ++ R := by simp
  have hn1 : S2 ≠ [] := fun e => by rw [e] at hS2; simp at hS2; omega
  have hn2 : S1 ≠ [] := fun e => by rw [e] at hS1; simp at hS1; omega
  clear hrow hI1
  have hne : ¬ (((S.length : Nat) : Int) = ((T.length : Nat) : Int)) := by omega
  refine zY (zY (zZ ?_)); (iterate 2 refine zR ?_); refine zD ?_ ?_ <;> (intro h hp; (try simp only [q_n] at hp); try first | omega | (cases hp; done));
  refine zW (zT ?_); refine zY (zZ ?_); (iterate 2 refine zR ?_); refine zD ?_ ?_ <;> (intro h hp; (try simp only [q_n] at hp); try first | omega | (cases hp; done));
  refine zY (zZ ?_); (iterate 3 refine zR ?_); refine xSu ?_; (iterate 3 refine zR ?_); refine xL rfl rfl rfl (xJ rfl rfl (zB (by kernel_rfl)) (by (rw [hz1]; exact cc))) ?_; rintro _ _ ⟨rfl, rfl⟩; refine zX (zZ (zR ?_)); refine zR ?_; refine xSu ?_; refine zP ?_; refine zQ ?_; simp only [zA, zF, zE, zH, yK, ↓reduceIte, Nat.reduceEqDiff]; rotate_left
  all_goals ((repeat (rename BV _ _ => k; first | cases k | clear k)); try exact zN)
  rw [hz2]
  refine ⟨(P ++ T, S2, S1, R), ⟨hnew, by simp; omega, hn1, hn2, by simp; omega⟩, by dsimp only; omega, ?_⟩
  dsimp only
  rw [hS1]
  exact wW
 ·by_cases heq : S.length = T.length
  ·have cc := swapRange_c P S [] T R P.length m S.length rfl rfl heq.symm (by simp; omega) (by simp; omega) v σ
   have hz1 : (m : Int) - ((S.length : Nat) : Int) = ((P.length : Nat) : Int) := by omega
   simp only [List.append_nil] at cc
   have hze : ((S.length : Nat) : Int) = ((T.length : Nat) : Int) := by omega
   rw [← hI1]
   clear hI1
   refine zY (zY (zZ ?_)); (iterate 2 refine zR ?_); refine zD ?_ ?_ <;> (intro h hp; (try simp only [q_n] at hp); try first | omega | (cases hp; done));
   refine yQ ?_; refine zZ (zR ?_); (iterate 2 refine zR ?_); refine xSu ?_; (iterate 3 refine zR ?_); refine xL rfl rfl rfl (xJ rfl rfl (zB (by kernel_rfl)) (by (rw [hz1]; exact cc))) ?_; rintro _ _ ⟨rfl, rfl⟩; refine zQ ?_; simp only [zA, zF, zE, zH, yK, ↓reduceIte, Nat.reduceEqDiff]; rotate_left
   all_goals ((repeat (rename BV _ _ => k; first | cases k | clear k)); try exact zN)
   refine xX (σ3 := rowE v (P ++ T ++ S ++ R) :: σ) ?_
   exact zJ ⟨rfl, rfl⟩
  ·obtain ⟨T1, T2, hT, hT1⟩ : ∃ T1 T2, T = T1 ++ T2 ∧ T2.length = S.length := ⟨T.take (T.length - S.length), T.drop (T.length - S.length), (List.take_append_drop _ _).symm, by rw [List.length_drop]; omega⟩
   have hT2 : T.length = T1.length + S.length := by rw [hT, List.length_append, hT1]
   have cc := swapRange_c P S T1 T2 R P.length (m + T1.length) S.length rfl rfl hT1 (by omega) (by simp; omega) v σ
   have hz1 : (m : Int) - ((S.length : Nat) : Int) = ((P.length : Nat) : Int) := by omega
   have hz2 : (m : Int) + ((T.length : Nat) : Int) - ((S.length : Nat) : Int) = ((m + T1.length : Nat) : Int) := by omega
   have hz3 : ((T.length : Nat) : Int) - ((S.length : Nat) : Int) = ((T1.length : Nat) : Int) := by omega
   have hrow : P ++ S ++ T ++ R = P ++ S ++ T1 ++ T2 ++ R := by rw [hT]; simp
   rw [hrow]
   have hnew : P ++ T1 ++ T2 ++ (S ++ R) = A ++ Y ++ X ++ C := by rw [← hI1, hT]; simp
   have hrow2 : P ++ T2 ++ T1 ++ S ++ R = P ++ T2 ++ T1 ++ (S ++ R) := by simp
   have hn1 : T1 ≠ [] := fun e => by rw [e] at hT2; simp at hT2; omega
   have hn2 : T2 ≠ [] := fun e => by rw [e] at hT1; simp at hT1; omega
   clear hrow hI1
   have hne : ¬ (((S.length : Nat) : Int) = ((T.length : Nat) : Int)) := by omega
   refine zY (zY (zZ ?_)); (iterate 2 refine zR ?_); refine zD ?_ ?_ <;> (intro h hp; (try simp only [q_n] at hp); try first | omega | (cases hp; done));
   refine zW (zT ?_); refine zY (zZ ?_); (iterate 2 refine zR ?_); refine zD ?_ ?_ <;> (intro h hp; (try simp only [q_n] at hp); try first | omega | (cases hp; done));
   refine zY (zZ ?_); (iterate 3 refine zR ?_); refine xSu ?_; (iterate 2 refine zR ?_); refine vX ?_; refine zR ?_; refine xSu ?_; (iterate 2 refine zR ?_); refine xL rfl rfl rfl (xJ rfl rfl (zB (by kernel_rfl)) (by rw [hz1, hz2]; exact cc)) ?_; rintro _ _ ⟨rfl, rfl⟩; refine zX (zZ (zR ?_)); refine zR ?_; refine xSu ?_; refine zP ?_; refine zQ ?_; simp only [zA, zF, zE, zH, yK, ↓reduceIte, Nat.reduceEqDiff]; rotate_left
   all_goals ((repeat (rename BV _ _ => k; first | cases k | clear k)); try exact zN)
   rw [hz3, hrow2]
   refine ⟨(P, T2, T1, S ++ R), ⟨hnew, by dsimp only; omega, hn2, hn1, by simp; omega⟩, by dsimp only; omega, ?_⟩
   dsimp only
   rw [hT1]
   exact wW
theorem insertion_c (P S0 Q : List Ey) (a b : Nat) (ha : P.length = a) (hb : a + S0.length = b) (hup : S0.Pairwise fun x y => x.1 < y.1) (hl : (P ++ S0 ++ Q).length ≤ 100000) (v : Value) (σ : List Ent) :
  SCall Tryz.prog 102 [.slv v, .int .i64 a, .int .i64 b, entF'] (rowE v (P ++ S0 ++ Q) :: σ) (fun r τ => r = .tup [] ∧ ∃ S, S.Perm S0 ∧ S.Pairwise qL ∧ τ = rowE v (P ++ S ++ Q) :: σ) := by
 refine zL Tryz.func102 rfl (by simp) ?_
 have hlx : a + S0.length + Q.length ≤ 100000 := by simp at hl; omega
 clear hl
 cases S0 with
 | nil =>
  have hz : ¬ ((a : Int) + 1 < (b : Int)) := by simp at hb; omega
  refine zY (zZ ?_); refine zR ?_; refine vX ?_; refine zP ?_; refine zX (zT ?_); rotate_left
  all_goals ((repeat (rename BV _ _ => k; first | cases k | clear k)); try exact zN)
  refine yD (fun (u : Unit) => (⟨[(0, .slv v), (1, .int .i64 a), (2, .int .i64 b), (3, entF'), (8, .int .i64 ((a : Int) + 1))], rowE v (P ++ [] ++ Q) :: σ, [], Tryz.f102.ntmps⟩ : St)) (fun u => True) (fun u => 0) () (trivial) (St.le_of (by repeat (first | exact trivial | refine ⟨rfl, ?_⟩)) (by repeat (first | exact q_r | apply q_q | apply q_k))) ?_
  intro u hI
  refine zY (zY (zZ ?_)); (iterate 2 refine zR ?_); refine zD ?_ ?_ <;> (intro h hp; (try simp only [q_n] at hp); try first | omega | (cases hp; done));
  refine yQ ?_; simp only [yX, ↓reduceIte, Nat.reduceEqDiff]; rotate_left
  all_goals ((repeat (rename BV _ _ => k; first | cases k | clear k)); try exact zN)
  refine xX (σ3 := rowE v (P ++ [] ++ Q) :: σ) ?_
  exact zJ ⟨rfl, [], List.Perm.refl _, .nil, rfl⟩
 | cons x0 S0 =>
  have hz0 : (a : Int) + 1 = ((a + [x0].length : Nat) : Int) := by simp
  refine zY (zZ ?_); refine zR ?_; refine vX ?_; refine zP ?_; refine zX (zT ?_); rotate_left
  all_goals ((repeat (rename BV _ _ => k; first | cases k | clear k)); try exact zN)
  rw [hz0]
  rw [show P ++ x0 :: S0 ++ Q = P ++ [x0] ++ S0 ++ Q by simp]
  refine yD (fun (z : List Ey × List Ey) => (⟨[(0, .slv v), (1, .int .i64 a), (2, .int .i64 b), (3, entF'), (8, .int .i64 ((a + z.1.length : Nat) : Int))], rowE v (P ++ z.1 ++ z.2 ++ Q) :: σ, [], Tryz.f102.ntmps⟩ : St)) (fun z => (z.1 ++ z.2).Perm (x0 :: S0) ∧ z.1.Pairwise qL ∧ z.2.Pairwise (fun x y => x.1 < y.1) ∧ (∀ x ∈ z.1, ∀ y ∈ z.2, x.1 < y.1) ∧ z.1 ≠ []) (fun z => z.2.length) ([x0], S0) (⟨List.Perm.refl _, by simp, (List.pairwise_cons.1 hup).2, fun x hx y hy => by rw [List.mem_singleton] at hx; subst hx; exact (List.pairwise_cons.1 hup).1 y hy, by simp⟩) (St.le_of (by repeat (first | exact trivial | refine ⟨rfl, ?_⟩)) (by repeat (first | exact q_r | apply q_q | apply q_k))) ?_
  intro z hI
  obtain ⟨S, R⟩ := z
  obtain ⟨hI1, hI2, hI3, hI4, hI5⟩ := hI
  dsimp only at hI1 hI2 hI3 hI4 hI5 ⊢
  clear hup hz0
  have hpl := hI1.length_eq
  rw [List.length_append] at hpl
  have hS0 := List.length_pos_iff.2 hI5
  cases R with
  | nil =>
   have hz : ¬ (((a + S.length : Nat) : Int) < (b : Int)) := by simp at hpl hb; omega
   refine zY (zY (zZ ?_)); (iterate 2 refine zR ?_); refine zD ?_ ?_ <;> (intro h hp; (try simp only [q_n] at hp); try first | omega | (cases hp; done));
   refine yQ ?_; simp only [yX, ↓reduceIte, Nat.reduceEqDiff]; rotate_left
   all_goals ((repeat (rename BV _ _ => k; first | cases k | clear k)); try exact zN)
   refine xX (σ3 := rowE v (P ++ S ++ [] ++ Q) :: σ) ?_
   exact zJ ⟨rfl, S, by simpa using hI1, hI2, by simp⟩
  | cons x R =>
   rw [List.pairwise_cons] at hI3
   have hlt : ((a + S.length : Nat) : Int) < (b : Int) := by simp at hpl hb; omega
   have hRl : a + S.length + 1 + R.length + Q.length ≤ 100000 := by simp at hpl hlx; omega
   have hxS : ∀ y ∈ S, y.1 < x.1 := fun y hy => hI4 y hy x (by simp)
   refine zY (zY (zZ ?_)); (iterate 2 refine zR ?_); refine zD ?_ ?_ <;> (intro h hp; (try simp only [q_n] at hp); try first | omega | (cases hp; done));
   refine zW (zY (zT ?_)); refine zY (zZ ?_); refine zR ?_; refine zP ?_; refine zX (zT ?_); rotate_left
   all_goals ((repeat (rename BV _ _ => k; first | cases k | clear k)); try exact zN)
   rw [show P ++ S ++ x :: R ++ Q = P ++ S ++ x :: [] ++ (R ++ Q) by simp]
   refine yD (fun (w : List Ey × List Ey) => (⟨[(0, .slv v), (1, .int .i64 a), (2, .int .i64 b), (3, entF'), (8, .int .i64 ((a + S.length : Nat) : Int)), (9, .int .i64 ((a + w.1.length : Nat) : Int))], rowE v (P ++ w.1 ++ x :: w.2 ++ (R ++ Q)) :: σ, [], Tryz.f102.ntmps⟩ : St)) (fun w => w.1 ++ w.2 = S ∧ ∀ y ∈ w.2, qL x y) (fun w => w.1.length) (S, []) (⟨by simp, by simp⟩) (St.le_of (by repeat (first | exact trivial | refine ⟨rfl, ?_⟩)) (by repeat (first | exact q_r | apply q_q | apply q_k))) ?_
   intro w hI
   obtain ⟨S1, S2⟩ := w
   obtain ⟨hJ1, hJ2⟩ := hI
   dsimp only at hJ1 hJ2 ⊢
   subst hJ1
   obtain ⟨J, hJ⟩ : ∃ J, a + S1.length = J := ⟨_, rfl⟩
   have hPJ : (P ++ S1).length = J := by rw [List.length_append]; omega
   have hSl : (S1 ++ S2).length = S1.length + S2.length := List.length_append
   obtain ⟨L, hL⟩ : ∃ L, P ++ S1 ++ x :: S2 ++ (R ++ Q) = L := ⟨_, rfl⟩
   have hLl : L.length = J + 1 + S2.length + R.length + Q.length := by rw [← hL]; simp; omega
   have hLx : L[J]? = some x := by rw [← hL, ← hPJ]; simp
   have hgx := tH hLx
   have hlm : (L.map entC).length = L.length := List.length_map _
   rcases snoc_or S1 with rfl | ⟨T, z, rfl⟩
   ·have hJa : J = a := by rw [← hJ]; simp
    rw [hL, hJ]
    rw [List.nil_append] at hI2 hI1
    have hnew : P ++ (x :: S2) ++ R ++ Q = L := by rw [← hL]; simp
    have hup2 : (x :: S2).Pairwise qL := List.pairwise_cons.2 ⟨hJ2, hI2⟩
    have hperm : ((x :: S2) ++ R).Perm (x0 :: S0) := by
     refine List.Perm.trans ?_ hI1
     rw [List.cons_append]; exact List.perm_middle.symm
    have hidx : ∀ y ∈ x :: S2, ∀ u ∈ R, y.1 < u.1 := fun y hy u hu => by
     rcases List.mem_cons.1 hy with rfl | hy
     ·exact hI3.1 u hu
     ·exact hI4 y (by simpa using hy) u (by simp [hu])
    have hzz : ((a + ([] ++ S2).length : Nat) : Int) + 1 = ((a + (x :: S2).length : Nat) : Int) := by simp; omega
    rw [← hnew]
    clear hL hnew hI1 hI4 hxS hgx hLx
    subst hJa
    refine zY ?_; refine zY (xV rfl rfl (by kernel_rfl) rfl ?_); refine yU rfl (by kernel_rfl) rfl ?_; (iterate 2 refine xU ?_); refine wBi ?_; intro _ _; refine xU ?_; refine uW ?_ ?_ <;> (intro h hp k; (try subst k); (try simp only [q_n] at hp); try first | omega | (cases hp; done));
    (iterate 12 refine vF ?_); refine qW ?_; refine zC ?_; show EX _ _ _ _ _; refine yH rfl (by rfl) ?_; refine yQ ?_; refine zZ (zR ?_); refine vX ?_; refine zP ?_; refine zQ ?_; simp only [zA, zF, zE, zH, yK, ↓reduceIte, Nat.reduceEqDiff]; rotate_left
    all_goals ((repeat (rename BV _ _ => k; first | cases k | clear k)); try exact zN)
    rw [hzz]
    refine ⟨(x :: S2, R), ⟨hperm, hup2, hI3.2, hidx, by simp⟩, by simp, ?_⟩
    exact wW
   ·obtain ⟨J', hJ'⟩ : ∃ J', a + T.length = J' := ⟨_, rfl⟩
    have hJJ : J = J' + 1 := by rw [← hJ, List.length_append, ← hJ']; simp; omega
    have hPT : (P ++ T).length = J' := by rw [List.length_append]; omega
    have hLz : L[J']? = some z := by
     rw [← hL, ← hPT, show P ++ (T ++ [z]) ++ x :: S2 ++ (R ++ Q) = (P ++ T) ++ z :: (x :: S2 ++ (R ++ Q)) by simp]
     simp
    have hgz := tH hLz
    have hzi : (J : Int) - 1 = (J' : Int) := by omega
    have hza : (a : Int) < (J : Int) := by omega
    have hsw : swp2 L J J' = P ++ T ++ x :: (z :: S2) ++ (R ++ Q) := by
     have := swp2_down (A := P ++ T) (C := S2 ++ (R ++ Q)) (x := z) (y := x)
     rw [hPT] at this
     rw [← hL, hJJ, show P ++ (T ++ [z]) ++ x :: S2 ++ (R ++ Q) = P ++ T ++ z :: x :: (S2 ++ (R ++ Q)) by simp, this]; simp
    have hw := swp2_map hLx hLz
    have lc := less_c x z
    obtain ⟨c, hc⟩ : ∃ c, qJ x.2.hour z.2.hour = c := ⟨_, rfl⟩
    have hcl := @cmpI_lt x.2.hour z.2.hour
    rw [hc] at lc hcl
    have hzx : z.1 < x.1 := hxS z (by simp)
    have hLne : L ≠ [] := fun e => by rw [e] at hLx; simp at hLx
    by_cases hless : c < 0
    ·have hxz : qL x z := .inl (hcl.1 hless)
     have hS2' : ∀ y ∈ z :: S2, qL x y := fun y hy => by
      rcases List.mem_cons.1 hy with rfl | hy
      ·exact hxz
      ·exact hJ2 y hy
     have hJT : T ++ z :: S2 = T ++ [z] ++ S2 := by simp
     rw [hsw] at hw
     have hwr : ∀ v, rowE v (P ++ T ++ x :: z :: S2 ++ (R ++ Q)) = Ent.row v 80 9 (((L.map entC).set J (entC z)).set J' (entC x)) := fun v => by
      show Ent.row _ _ _ _ = _
      rw [hw]
     rw [hL, hJ]
     clear hI1 hI2 hI4 hxS hL hcl hsw hJ2
     refine zY ?_; refine zY (xV rfl rfl (by kernel_rfl) rfl ?_); refine yU rfl (by kernel_rfl) rfl ?_; (iterate 2 refine xU ?_); refine wBi ?_; intro _ _; refine xU ?_; refine uW ?_ ?_ <;> (intro h hp k; (try subst k); (try simp only [q_n] at hp); try first | omega | (cases hp; done));
     (iterate 3 refine uV ?_); apply xS; rfl; (rfl); rfl; rfl; (intro σ' hl; (apply yF; rfl; rfl; exact hl _ (by (exact True.intro)) (by repeat first | exact q_h | apply q_t | assumption); rfl; (rfl); (omega))); refine vLa ?_; (iterate 2 refine uV ?_); refine vSu ?_; apply xS; rfl; (rfl); rfl; rfl; (intro σ' hl; (apply yF; rfl; rfl; exact hl _ (by (exact True.intro)) (by repeat first | exact q_h | apply q_t | assumption); rfl; (assumption); (omega))); refine vLa ?_; apply xS; rfl; (rfl); rfl; rfl; (intro σ' hl; (refine yJ ?_; exact lc _)); refine tE ?_; intro _ _; refine tZ ?_; refine zC ?_; show EX _ _ _ _ _; refine yN ?_ ?_ <;> (intro h hp k; (try subst k); (try simp only [q_n] at hp); try first | omega | (cases hp; done));
     refine zW (zY (zT ?_)); rotate_left
     all_goals ((repeat (rename BV _ _ => k; first | cases k | clear k)); try exact zN)
     refine ex_rowV (L := L.map entC) (.head _) (fun e => hLne (List.map_eq_nil_iff.1 e)) ?_
     rintro g cap rfl
     rw [hlm]
     refine wA (fun _ => False) [9, 13, 15] 16 rfl (by kernel_rfl) rfl ?_
     simp only [wU]
     refine yL ?_; refine tP ?_; refine yL ?_; refine tP ?_; refine yL ?_; refine tP ?_; refine yL ?_; refine tP ?_; refine yL ?_; apply yS; rfl; rfl; (intro σ' hl; (apply g_sub; rfl; rfl; rfl; exact ⟨by omega, by omega⟩)); refine yL ?_; refine tP ?_; refine yL ?_; refine tP ?_; refine yL ?_; apply yS; rfl; rfl; (intro σ' hl; (apply g_sub; rfl; rfl; rfl; exact ⟨by omega, by omega⟩)); refine yL ?_; apply yS; rfl; rfl; (intro σ' hl; (apply wB; rfl; rfl; rfl; (assumption); (omega))); refine yL ?_; refine tP ?_; refine yL ?_; refine tP ?_; refine yL ?_; apply yS; rfl; rfl; (intro σ' hl; (apply wB; rfl; rfl; rfl; (rfl); (omega))); refine drf_two rfl rfl rfl ?_ ?_; apply uL; rfl; rfl; (apply wY; rfl; decide; rfl; (exact .k0 (by repeat first | exact q_h | apply q_t | assumption) (by assumption) rfl rfl)); refine yP rfl rfl ?_; apply uL; rfl; rfl; (apply wY; rfl; decide; rfl; (exact .k0 (by repeat first | exact q_h | apply q_t | assumption) (by assumption) rfl rfl)); refine yL ?_; apply yS; rfl; rfl; (intro σ' hl; (apply wB; rfl; rfl; rfl; (rfl); (omega))); refine yP rfl rfl ?_; apply wF; rfl; rfl; (focus (apply vY; rfl; rfl; rfl; rfl; rfl; rfl; rotate_left; (exact Upd.here); (omega))); (rintro _ (rfl | rfl | rfl) _ <;> exact (by repeat first | exact q_h | apply q_t | assumption)); refine wQ rfl ?_; apply zU; rfl; rfl; rfl; (apply yF; rfl; rfl; exact (by repeat first | exact q_h | apply q_t | assumption); rfl; (assumption); (simp only [List.length_map, List.length_set]; omega)); apply vT; rfl; rfl; focus (apply vY; rfl; rfl; rfl; rfl; rfl; rfl; rotate_left; (exact Upd.here); (simp only [List.length_set, List.length_map]; omega));
     refine zQ (zZ (zR ?_)); refine xSu ?_; refine zP ?_; refine zQ ?_; simp only [zA, zF, zE, zH, yK, ↓reduceIte, Nat.reduceEqDiff]; rotate_left; apply uL; rfl; rfl; (apply wY; rfl; decide; rfl; (exact .k0 (by repeat first | exact q_h | apply q_t | assumption) (by assumption) rfl rfl)); refine yP rfl rfl ?_; apply uL; rfl; rfl; (apply wY; rfl; decide; rfl; (exact .k0 (by repeat first | exact q_h | apply q_t | assumption) (by assumption) rfl rfl)); refine yL ?_; apply yS; rfl; rfl; (intro σ' hl; (apply wB; rfl; rfl; rfl; (rfl); (omega))); refine yP rfl rfl ?_; apply wF; rfl; rfl; (focus (apply vY; rfl; rfl; rfl; rfl; rfl; rfl; rotate_left; (exact Upd.here); (omega))); (rintro _ (rfl | rfl | rfl) _ <;> exact (by repeat first | exact q_h | apply q_t | assumption)); refine wQ rfl ?_; apply zU; rfl; rfl; rfl; (apply yF; rfl; rfl; exact (by repeat first | exact q_h | apply q_t | assumption); rfl; (assumption); (simp only [List.length_map, List.length_set]; omega)); apply vT; rfl; rfl; focus (apply vY; rfl; rfl; rfl; rfl; rfl; rfl; rotate_left; (exact Upd.here); (simp only [List.length_set, List.length_map]; omega));
     refine zQ (zZ (zR ?_)); refine xSu ?_; refine zP ?_; refine zQ ?_; simp only [zA, zF, zE, zH, yK, ↓reduceIte, Nat.reduceEqDiff]; rotate_left
     all_goals ((repeat (rename BV _ _ => k; first | cases k | clear k)); try exact zN)
     all_goals
      rw [hzi]
      refine ⟨(T, z :: S2), ⟨hJT, hS2'⟩, by simp, ?_⟩
      dsimp only
      rw [hwr, hJ']
      exact wW
    ·have hzx' : qL z x := by have := mt hcl.2 hless; unfold qL; omega
     rw [hL, hJ]
     have hS1 : ∀ y ∈ T ++ [z], qL y x := fun y hy => by
      have hp := (List.pairwise_append.1 hI2).1
      rcases List.mem_append.1 hy with hy | hy
      ·exact ltE_trans ((List.pairwise_append.1 hp).2.2 y hy z (by simp)) hzx'
      ·rw [List.mem_singleton] at hy; subst hy; exact hzx'
     have hnew : P ++ ((T ++ [z]) ++ x :: S2) ++ R ++ Q = L := by rw [← hL]; simp
     have hup2 := ins_up hI2 hS1 hJ2
     have hperm : (((T ++ [z]) ++ x :: S2) ++ R).Perm (x0 :: S0) := by
      refine List.Perm.trans ?_ hI1
      rw [show (T ++ [z]) ++ x :: S2 ++ R = (T ++ [z]) ++ x :: (S2 ++ R) by simp, show (T ++ [z]) ++ S2 ++ x :: R = ((T ++ [z]) ++ S2) ++ x :: R by simp]
      refine List.perm_middle.trans (List.Perm.trans ?_ List.perm_middle.symm)
      simp
     have hidx : ∀ y ∈ (T ++ [z]) ++ x :: S2, ∀ u ∈ R, y.1 < u.1 := fun y hy u hu => by
      rcases List.mem_append.1 hy with hy | hy
      ·exact hI4 y (by simp at hy ⊢; rcases hy with h | h <;> simp [h]) u (by simp [hu])
      ·rcases List.mem_cons.1 hy with rfl | hy
       ·exact hI3.1 u hu
       ·exact hI4 y (by simp [hy]) u (by simp [hu])
     have hzz : ((a + ((T ++ [z]) ++ S2).length : Nat) : Int) + 1 = ((a + ((T ++ [z]) ++ x :: S2).length : Nat) : Int) := by simp; omega
     rw [← hnew]
     rw [← hnew] at hgx hgz hlm hLl
     clear hI1 hI2 hI4 hxS hL hcl hw hsw hJ2 hnew hLx hLz hS1
     refine zY ?_; refine zY (xV rfl rfl (by kernel_rfl) rfl ?_); refine yU rfl (by kernel_rfl) rfl ?_; (iterate 2 refine xU ?_); refine wBi ?_; intro _ _; refine xU ?_; refine uW ?_ ?_ <;> (intro h hp k; (try subst k); (try simp only [q_n] at hp); try first | omega | (cases hp; done));
     (iterate 3 refine uV ?_); apply xS; rfl; (rfl); rfl; rfl; (intro σ' hl; (apply yF; rfl; rfl; exact hl _ (by (exact True.intro)) (by repeat first | exact q_h | apply q_t | assumption); rfl; (rfl); (omega))); refine vLa ?_; (iterate 2 refine uV ?_); refine vSu ?_; apply xS; rfl; (rfl); rfl; rfl; (intro σ' hl; (apply yF; rfl; rfl; exact hl _ (by (exact True.intro)) (by repeat first | exact q_h | apply q_t | assumption); rfl; (assumption); (omega))); refine vLa ?_; apply xS; rfl; (rfl); rfl; rfl; (intro σ' hl; (refine yJ ?_; exact lc _)); refine tE ?_; intro _ _; refine tZ ?_; refine zC ?_; show EX _ _ _ _ _; refine yN ?_ ?_ <;> (intro h hp k; (try subst k); (try simp only [q_n] at hp); try first | omega | (cases hp; done));
     refine yQ ?_; refine zZ (zR ?_); refine vX ?_; refine zP ?_; refine zQ ?_; simp only [zA, zF, zE, zH, yK, ↓reduceIte, Nat.reduceEqDiff]; rotate_left
     all_goals ((repeat (rename BV _ _ => k; first | cases k | clear k)); try exact zN)
     rw [hzz]
     refine ⟨((T ++ [z]) ++ x :: S2, R), ⟨hperm, hup2, hI3.2, hidx, by simp⟩, by simp, ?_⟩
     exact wW
theorem St.le_mk {env env' : Env} {σ : List Ent} {m : List Nat} {n : Nat} (h : ∀ t v, lk env' t = some v → lk env t = some v) : St.le ⟨env, σ, m, n⟩ ⟨env', σ, m, n⟩ := ⟨h, List.Sublist.refl _, rfl, rfl⟩
theorem ex_int {P : Program} {ro : Option Nat} {c : Code} {Q : Exit → St → Prop} {env : Env} {σ : List Ent} {mk : List Nat} {n t : Nat} {x y : Int} (h : lk env t = some (.int .i64 x)) (e : x = y) (k : EX P ro c Q ⟨(t, .int .i64 y) :: env, σ, mk, n⟩) : EX P ro c Q ⟨env, σ, mk, n⟩ := by
 refine qD (s' := ⟨(t, .int .i64 y) :: env, σ, mk, n⟩) (St.le_mk fun u w hw => ?_) k
 by_cases hu : t = u
 ·subst hu
  rw [vS, ← e] at hw
  exact h.trans hw
 ·rwa [tL hu] at hw
theorem lk_app {A B : List Ey} {k : Nat} {c : Ey} {n : Nat} (hn : A.length = n) (h : B[k]? = some c) : (A ++ B)[n + k]? = some c := by
 rw [List.getElem?_append_right (by omega), hn, Nat.add_sub_cancel_left]; exact h
theorem lk_left {A B : List Ey} {k : Nat} {c : Ey} (h : A[k]? = some c) : (A ++ B)[k]? = some c := by
 rw [List.getElem?_append_left (List.getElem?_eq_some_iff.1 h).1]; exact h
theorem merged_triv {A C : List Ey} (hA : A.Pairwise qL) (hC : C.Pairwise qL) (h : A = [] ∨ C = []) : MergedE A C (A ++ C) := by
 rcases h with rfl | rfl
 ·exact ⟨List.Perm.refl _, by simpa using hC⟩
 ·exact ⟨List.Perm.refl _, by simpa using hA⟩
abbrev symF : FuncId := 103
theorem sym_left (P Y Q : List Ey) (x : Ey) (a m b : Nat) (ha : P.length = a) (hm : a + 1 = m) (hb : m + Y.length = b) (hY : Y.Pairwise qL) (hL : Left [x] Y) (hl : (P ++ [x] ++ Y ++ Q).length ≤ 100000) (v : Value) (σ : List Ent) :
  SCall Tryz.prog symF [.slv v, .int .i64 a, .int .i64 m, .int .i64 b, entF'] (rowE v (P ++ [x] ++ Y ++ Q) :: σ) (fun r τ => r = .tup [] ∧ ∃ S, MergedE [x] Y S ∧ τ = rowE v (P ++ S ++ Q) :: σ) := by
 refine zL Tryz.func103 rfl (by simp) ?_
 have hlx : a + 1 + Y.length + Q.length ≤ 100000 := by simp at hl; omega
 obtain ⟨L, hLd⟩ : ∃ L, P ++ [x] ++ Y ++ Q = L := ⟨_, rfl⟩
 have hLl : L.length = a + 1 + Y.length + Q.length := by rw [← hLd]; simp; omega
 have hLx : L[a]? = some x := by rw [← hLd, show P ++ [x] ++ Y ++ Q = P ++ ([x] ++ (Y ++ Q)) by simp]; exact lk_app ha (k := 0) rfl
 have hLy : ∀ k c, Y[k]? = some c → L[m + k]? = some c := fun k c h => by
  rw [← hLd, show P ++ [x] ++ Y ++ Q = (P ++ [x]) ++ (Y ++ Q) by simp]
  exact lk_app (by simp; omega) (lk_left h)
 have hgx := tH hLx
 have hlm : (L.map entC).length = L.length := List.length_map _
 rw [hLd]
 clear hl
 refine zY (zY (zZ ?_)); (iterate 2 refine zR ?_); refine xSu ?_; refine zD ?_ ?_ <;> (intro h hp; (try simp only [q_n] at hp); try first | omega | (cases hp; done));
 refine zY (zZ ?_); refine zR ?_; refine zP ?_; refine zX (zY (zZ ?_)); refine zR ?_; refine zP ?_; refine zX (zY (zT ?_)); rotate_left
 all_goals ((repeat (rename BV _ _ => k; first | cases k | clear k)); try exact zN)
 refine yD (fun (z : Nat × Nat) => (⟨[(0, .slv v), (1, .int .i64 a), (2, .int .i64 m), (3, .int .i64 b), (4, entF'), (10, .int .i64 z.1), (11, .int .i64 z.2)], rowE v L :: σ, [], Tryz.f103.ntmps⟩ : St)) (fun z => m ≤ z.1 ∧ z.1 ≤ z.2 ∧ z.2 ≤ b ∧ (∀ y, m < z.1 → Y[z.1 - m - 1]? = some y → y.2.hour < x.2.hour) ∧ (∀ y, Y[z.2 - m]? = some y → ¬ y.2.hour < x.2.hour)) (fun z => z.2 - z.1) (m, b) (⟨Nat.le_refl _, by dsimp only; omega, Nat.le_refl _, fun y h => by dsimp only at h; omega, fun y h => by dsimp only at h; rw [List.getElem?_eq_none (by omega)] at h; cases h⟩) (St.le_of (by repeat (first | exact trivial | refine ⟨rfl, ?_⟩)) (by repeat (first | exact q_r | apply q_q | apply q_k))) ?_
 intro z hI
 obtain ⟨i, j⟩ := z
 obtain ⟨hI1, hI2, hI3, hI4, hI5⟩ := hI
 dsimp only at hI1 hI2 hI3 hI4 hI5 ⊢
 by_cases hij : i < j
 ·obtain ⟨q, hh⟩ : ∃ q, (i + j) / 2 = q := ⟨_, rfl⟩
  have hij2 : (i : Int) + (j : Int) = ((i + j : Nat) : Int) := by omega
  have hhz : (((i + j) / 2 : Nat) : Int) = (q : Int) := by rw [hh]
  obtain ⟨y, hy⟩ : ∃ y, Y[q - m]? = some y := yW (by omega)
  have hLh := hLy _ _ hy
  rw [show m + (q - m) = q by omega] at hLh
  have hgy := tH hLh
  have lc := less_c y x
  obtain ⟨c, hc⟩ : ∃ c, qJ y.2.hour x.2.hour = c := ⟨_, rfl⟩
  have hcl := @cmpI_lt y.2.hour x.2.hour
  rw [hc] at lc hcl
  by_cases hless : c < 0
  ·have h4 : ∀ u, m < q + 1 → Y[q + 1 - m - 1]? = some u → u.2.hour < x.2.hour := fun u _ hu => by
    rw [show q + 1 - m - 1 = q - m by omega, hy] at hu
    cases hu; exact hcl.1 hless
   clear hI4 hcl hLy hY hL hc hLx hy hLh
   refine zY (zY (zZ ?_)); (iterate 2 refine zR ?_); refine zD ?_ ?_ <;> (intro h hp; (try simp only [q_n] at hp); try first | omega | (cases hp; done));
   refine zW (zT ?_); refine zY (zZ ?_); (iterate 2 refine zR ?_); refine vX ?_; apply zU; rfl; rfl; rfl; (apply g_convU; rfl; rfl; rfl; exact ⟨by omega, by omega⟩); apply zU; rfl; rfl; rfl; (apply g_halfU; rfl; rfl; rfl; exact hij2); apply zU; rfl; rfl; rfl; (apply wC; rfl; rfl; rfl; exact ⟨by omega, by omega⟩); refine zP ?_; refine zX (zY (xV rfl rfl (by kernel_rfl) rfl ?_)); refine yU rfl (by kernel_rfl) rfl ?_; (iterate 3 refine xU ?_); apply yY; rfl; rfl; rfl; (intro σ' hl; (apply yF; rfl; rfl; exact hl _ (by (exact True.intro)) (by repeat first | exact q_h | apply q_t | assumption); rfl; (assumption); (omega))); refine qB ?_; (iterate 2 refine xU ?_); apply yY; rfl; rfl; rfl; (intro σ' hl; (apply yF; rfl; rfl; exact hl _ (by (exact True.intro)) (by repeat first | exact q_h | apply q_t | assumption); rfl; (rfl); (omega))); refine qB ?_; apply yY; rfl; rfl; rfl; (intro σ' hl; (refine yJ ?_; exact lc _)); refine wBi ?_; intro _ _; refine zC ?_; show EX _ _ _ _ _; refine yN ?_ ?_ <;> (intro h hp k; (try subst k); (try simp only [q_n] at hp); try first | omega | (cases hp; done));
   refine zZ (zR ?_); refine vX ?_; refine zP ?_; refine zQ ?_; simp only [zA, zF, zE, zH, yK, ↓reduceIte, Nat.reduceEqDiff]; rotate_left
   all_goals ((repeat (rename BV _ _ => k; first | cases k | clear k)); try exact zN)
   rw [hhz]
   refine ⟨(q + 1, j), ⟨by dsimp only; omega, by dsimp only; omega, hI3, h4, hI5⟩, by dsimp only; omega, ?_⟩
   dsimp only
   exact wW
  ·have h5 : ∀ u, Y[q - m]? = some u → ¬ u.2.hour < x.2.hour := fun u hu => by
    rw [hy] at hu
    cases hu; exact mt hcl.2 hless
   clear hI5 hcl hLy hY hL hc hLx hy hLh
   refine zY (zY (zZ ?_)); (iterate 2 refine zR ?_); refine zD ?_ ?_ <;> (intro h hp; (try simp only [q_n] at hp); try first | omega | (cases hp; done));
   refine zW (zT ?_); refine zY (zZ ?_); (iterate 2 refine zR ?_); refine vX ?_; apply zU; rfl; rfl; rfl; (apply g_convU; rfl; rfl; rfl; exact ⟨by omega, by omega⟩); apply zU; rfl; rfl; rfl; (apply g_halfU; rfl; rfl; rfl; exact hij2); apply zU; rfl; rfl; rfl; (apply wC; rfl; rfl; rfl; exact ⟨by omega, by omega⟩); refine zP ?_; refine zX (zY (xV rfl rfl (by kernel_rfl) rfl ?_)); refine yU rfl (by kernel_rfl) rfl ?_; (iterate 3 refine xU ?_); apply yY; rfl; rfl; rfl; (intro σ' hl; (apply yF; rfl; rfl; exact hl _ (by (exact True.intro)) (by repeat first | exact q_h | apply q_t | assumption); rfl; (assumption); (omega))); refine qB ?_; (iterate 2 refine xU ?_); apply yY; rfl; rfl; rfl; (intro σ' hl; (apply yF; rfl; rfl; exact hl _ (by (exact True.intro)) (by repeat first | exact q_h | apply q_t | assumption); rfl; (rfl); (omega))); refine qB ?_; apply yY; rfl; rfl; rfl; (intro σ' hl; (refine yJ ?_; exact lc _)); refine wBi ?_; intro _ _; refine zC ?_; show EX _ _ _ _ _; refine yN ?_ ?_ <;> (intro h hp k; (try subst k); (try simp only [q_n] at hp); try first | omega | (cases hp; done));
   refine zZ (zR ?_); refine zP ?_; refine zQ ?_; simp only [zA, zF, zE, zH, yK, ↓reduceIte, Nat.reduceEqDiff]; rotate_left
   all_goals ((repeat (rename BV _ _ => k; first | cases k | clear k)); try exact zN)
   rw [hhz]
   refine ⟨(i, q), ⟨hI1, by dsimp only; omega, by dsimp only; omega, hI4, h5⟩, by dsimp only; omega, ?_⟩
   dsimp only
   exact wW
 ·obtain rfl : i = j := by omega
  obtain ⟨k, hk⟩ : ∃ k, i - m = k := ⟨_, rfl⟩
  rw [hk] at hI4 hI5
  have hmer := merged_left_at (x := x) hY hL (k := k) (by omega) (fun y h0 hy => hI4 y (by omega) hy) hI5
  clear hI4 hI5 hLx hgx hL hY hLy
  have hik : (i : Int) - 1 = ((a + k : Nat) : Int) := by omega
  refine zY (zY (zZ ?_)); (iterate 2 refine zR ?_); refine zD ?_ ?_ <;> (intro h hp; (try simp only [q_n] at hp); try first | omega | (cases hp; done));
  refine yQ ?_; refine zY (zY (zZ ?_)); refine zR ?_; refine zP ?_; refine zX (zT ?_); rotate_left
  all_goals ((repeat (rename BV _ _ => k; first | cases k | clear k)); try exact zN)
  rw [← hLd, show P ++ [x] ++ Y ++ Q = P ++ Y.take 0 ++ x :: Y.drop 0 ++ Q by simp]
  refine yD (fun (t : Nat) => (⟨[(0, .slv v), (10, .int .i64 i), (13, .int .i64 ((a + t : Nat) : Int))], rowE v (P ++ Y.take t ++ x :: Y.drop t ++ Q) :: σ, [], Tryz.f103.ntmps⟩ : St)) (fun t => t ≤ k) (fun t => k - t) 0 (Nat.zero_le _) (St.le_of (by repeat (first | exact trivial | refine ⟨rfl, ?_⟩)) (by repeat (first | exact q_r | apply q_q | apply q_k))) ?_
  intro t hI
  clear hLd hLl hlm
  by_cases htk : t < k
  ·obtain ⟨y, hy⟩ : ∃ y, Y[t]? = some y := yW (by omega)
   have hPt : (P ++ Y.take t).length = a + t := by rw [List.length_append, List.length_take]; omega
   have hsw := swp2_up (A := P ++ Y.take t) (C := Y.drop (t + 1) ++ Q) (x := x) (y := y)
   have e1 : P ++ Y.take t ++ x :: Y.drop t ++ Q = P ++ Y.take t ++ x :: y :: (Y.drop (t + 1) ++ Q) := by rw [drop_get hy]; simp
   have e2 : P ++ Y.take (t + 1) ++ x :: Y.drop (t + 1) ++ Q = P ++ Y.take t ++ y :: x :: (Y.drop (t + 1) ++ Q) := by rw [take_get hy]; simp
   rw [hPt, ← e1, ← e2] at hsw
   obtain ⟨M, hM⟩ : ∃ M, P ++ Y.take t ++ x :: Y.drop t ++ Q = M := ⟨_, rfl⟩
   have hMx : M[a + t]? = some x := by rw [← hM, e1, ← hPt]; simp
   have hMy : M[a + t + 1]? = some y := by rw [← hM, e1, ← hPt, List.getElem?_append_right (by omega)]; simp
   have hMl : M.length = a + 1 + Y.length + Q.length := by rw [← hM]; simp [List.length_take]; omega
   rw [hM] at hsw ⊢
   clear hM e1 e2
   have hgx := tH hMx
   have hgy := tH hMy
   have hw := swp2_map hMx hMy
   rw [hsw] at hw
   have hwr : ∀ v, rowE v (P ++ Y.take (t + 1) ++ x :: Y.drop (t + 1) ++ Q) = Ent.row v 80 9 (((M.map entC).set (a + t) (entC y)).set (a + t + 1) (entC x)) := fun v => by
    show Ent.row _ _ _ _ = _
    rw [hw]
   have hlm : (M.map entC).length = M.length := List.length_map _
   have hz1 : ((a + t : Nat) : Int) + 1 = ((a + t + 1 : Nat) : Int) := by omega
   have hMne : M ≠ [] := fun e => by rw [e] at hMx; simp at hMx
   have hlt : ((a + t : Nat) : Int) < ((a + k : Nat) : Int) := by omega
   rw [← hik] at hlt
   clear hsw hw hy hMx hMy
   refine ex_rowV (L := M.map entC) (.head _) (fun e => hMne (List.map_eq_nil_iff.1 e)) ?_
   rintro g cap rfl
   rw [hlm]
   refine zY (zY (zZ ?_)); (iterate 2 refine zR ?_); refine xSu ?_; refine zD ?_ ?_ <;> (intro h hp; (try simp only [q_n] at hp); try first | omega | (cases hp; done));
   refine zW (zY (zT ?_)); rotate_left
   all_goals ((repeat (rename BV _ _ => k; first | cases k | clear k)); try exact zN)
   refine wA (fun _ => False) [9, 13, 15] 16 rfl (by kernel_rfl) rfl ?_
   simp only [wU]
   refine yL ?_; refine tP ?_; refine yL ?_; refine tP ?_; refine yL ?_; refine tP ?_; refine yL ?_; refine tP ?_; refine yL ?_; apply yS; rfl; rfl; (intro σ' hl; (apply g_add; rfl; rfl; rfl; exact ⟨by omega, by omega⟩)); refine yL ?_; refine tP ?_; refine yL ?_; refine tP ?_; refine yL ?_; apply yS; rfl; rfl; (intro σ' hl; (apply g_add; rfl; rfl; rfl; exact ⟨by omega, by omega⟩)); refine yL ?_; apply yS; rfl; rfl; (intro σ' hl; (apply wB; rfl; rfl; rfl; (assumption); (omega))); refine yL ?_; refine tP ?_; refine yL ?_; refine tP ?_; refine yL ?_; apply yS; rfl; rfl; (intro σ' hl; (apply wB; rfl; rfl; rfl; (rfl); (omega))); refine drf_two rfl rfl rfl ?_ ?_; apply uL; rfl; rfl; (apply wY; rfl; decide; rfl; (exact .k0 (by repeat first | exact q_h | apply q_t | assumption) (by assumption) rfl rfl)); refine yP rfl rfl ?_; apply uL; rfl; rfl; (apply wY; rfl; decide; rfl; (exact .k0 (by repeat first | exact q_h | apply q_t | assumption) (by assumption) rfl rfl)); refine yL ?_; apply yS; rfl; rfl; (intro σ' hl; (apply wB; rfl; rfl; rfl; (rfl); (omega))); refine yP rfl rfl ?_; apply wF; rfl; rfl; (focus (apply vY; rfl; rfl; rfl; rfl; rfl; rfl; rotate_left; (exact Upd.here); (omega))); (rintro _ (rfl | rfl | rfl) _ <;> exact (by repeat first | exact q_h | apply q_t | assumption)); refine wQ rfl ?_; apply zU; rfl; rfl; rfl; (apply yF; rfl; rfl; exact (by repeat first | exact q_h | apply q_t | assumption); rfl; (assumption); (simp only [List.length_map, List.length_set]; omega)); apply vT; rfl; rfl; focus (apply vY; rfl; rfl; rfl; rfl; rfl; rfl; rotate_left; (exact Upd.here); (simp only [List.length_set, List.length_map]; omega));
   refine zQ (zZ (zR ?_)); refine vX ?_; refine zP ?_; refine zQ ?_; simp only [zA, zF, zE, zH, yK, ↓reduceIte, Nat.reduceEqDiff]; rotate_left; apply uL; rfl; rfl; (apply wY; rfl; decide; rfl; (exact .k0 (by repeat first | exact q_h | apply q_t | assumption) (by assumption) rfl rfl)); refine yP rfl rfl ?_; apply uL; rfl; rfl; (apply wY; rfl; decide; rfl; (exact .k0 (by repeat first | exact q_h | apply q_t | assumption) (by assumption) rfl rfl)); refine yL ?_; apply yS; rfl; rfl; (intro σ' hl; (apply wB; rfl; rfl; rfl; (rfl); (omega))); refine yP rfl rfl ?_; apply wF; rfl; rfl; (focus (apply vY; rfl; rfl; rfl; rfl; rfl; rfl; rotate_left; (exact Upd.here); (omega))); (rintro _ (rfl | rfl | rfl) _ <;> exact (by repeat first | exact q_h | apply q_t | assumption)); refine wQ rfl ?_; apply zU; rfl; rfl; rfl; (apply yF; rfl; rfl; exact (by repeat first | exact q_h | apply q_t | assumption); rfl; (assumption); (simp only [List.length_map, List.length_set]; omega)); apply vT; rfl; rfl; focus (apply vY; rfl; rfl; rfl; rfl; rfl; rfl; rotate_left; (exact Upd.here); (simp only [List.length_set, List.length_map]; omega));
   refine zQ (zZ (zR ?_)); refine vX ?_; refine zP ?_; refine zQ ?_; simp only [zA, zF, zE, zH, yK, ↓reduceIte, Nat.reduceEqDiff]; rotate_left
   all_goals ((repeat (rename BV _ _ => k; first | cases k | clear k)); try exact zN)
   all_goals
    refine ⟨t + 1, htk, by omega, ?_⟩
    rw [hwr]
    exact wW
  ·obtain rfl : t = k := by omega
   have hge : ¬ (((a + t : Nat) : Int) < (i : Int) - 1) := by omega
   rw [show P ++ Y.take t ++ x :: Y.drop t ++ Q = P ++ (Y.take t ++ x :: Y.drop t) ++ Q by simp]
   refine zY (zY (zZ ?_)); (iterate 2 refine zR ?_); refine xSu ?_; refine zD ?_ ?_ <;> (intro h hp; (try simp only [q_n] at hp); try first | omega | (cases hp; done));
   refine yQ ?_; refine zV ?_; simp only [yX]; rotate_left
   all_goals ((repeat (rename BV _ _ => k; first | cases k | clear k)); try exact zN)
   refine xX (σ3 := rowE v (P ++ (Y.take t ++ x :: Y.drop t) ++ Q) :: σ) ?_
   exact zJ ⟨rfl, _, hmer, rfl⟩
theorem sym_right (P X Q : List Ey) (y : Ey) (a m b : Nat) (ha : P.length = a) (hm : a + X.length = m) (hb : m + 1 = b) (hX2 : 2 ≤ X.length) (hX : X.Pairwise qL) (hL : Left X [y]) (hl : (P ++ X ++ [y] ++ Q).length ≤ 100000) (v : Value) (σ : List Ent) :
  SCall Tryz.prog symF [.slv v, .int .i64 a, .int .i64 m, .int .i64 b, entF'] (rowE v (P ++ X ++ [y] ++ Q) :: σ) (fun r τ => r = .tup [] ∧ ∃ S, MergedE X [y] S ∧ τ = rowE v (P ++ S ++ Q) :: σ) := by
 refine zL Tryz.func103 rfl (by simp) ?_
 have hlx : a + X.length + 1 + Q.length ≤ 100000 := by simp at hl; omega
 obtain ⟨L, hLd⟩ : ∃ L, P ++ X ++ [y] ++ Q = L := ⟨_, rfl⟩
 have hLl : L.length = a + X.length + 1 + Q.length := by rw [← hLd]; simp; omega
 have hLy : L[m]? = some y := by
  rw [← hLd, show P ++ X ++ [y] ++ Q = (P ++ X) ++ ([y] ++ Q) by simp]; exact lk_app (by simp; omega) (k := 0) rfl
 have hLx : ∀ k c, X[k]? = some c → L[a + k]? = some c := fun k c h => by
  rw [← hLd, show P ++ X ++ [y] ++ Q = P ++ (X ++ ([y] ++ Q)) by simp]
  exact lk_app ha (lk_left h)
 have hgy := tH hLy
 have hlm : (L.map entC).length = L.length := List.length_map _
 have hn1 : ¬ ((m : Int) - (a : Int) = 1) := by omega
 have hb1 : (b : Int) - (m : Int) = 1 := by omega
 rw [hLd]
 clear hl
 refine zY (zY (zZ ?_)); (iterate 2 refine zR ?_); refine xSu ?_; refine zD ?_ ?_ <;> (intro h hp; (try simp only [q_n] at hp); try first | omega | (cases hp; done));
 refine zW (zY (zY (zZ ?_))); (iterate 2 refine zR ?_); refine xSu ?_; refine zD ?_ ?_ <;> (intro h hp; (try simp only [q_n] at hp); try first | omega | (cases hp; done));
 refine zY (zZ ?_); refine zR ?_; refine zP ?_; refine zX (zY (zZ ?_)); refine zR ?_; refine zP ?_; refine zX (zY (zT ?_)); rotate_left
 all_goals ((repeat (rename BV _ _ => k; first | cases k | clear k)); try exact zN)
 refine yD (fun (z : Nat × Nat) => (⟨[(0, .slv v), (1, .int .i64 a), (2, .int .i64 m), (3, .int .i64 b), (4, entF'), (14, .int .i64 z.1), (15, .int .i64 z.2)], rowE v L :: σ, [], Tryz.f103.ntmps⟩ : St)) (fun z => a ≤ z.1 ∧ z.1 ≤ z.2 ∧ z.2 ≤ m ∧ (∀ x, a < z.1 → X[z.1 - a - 1]? = some x → ¬ y.2.hour < x.2.hour) ∧ (∀ x, X[z.2 - a]? = some x → y.2.hour < x.2.hour)) (fun z => z.2 - z.1) (a, m) (⟨Nat.le_refl _, by dsimp only; omega, Nat.le_refl _, fun y h => by dsimp only at h; omega, fun y h => by dsimp only at h; rw [List.getElem?_eq_none (by omega)] at h; cases h⟩) (St.le_of (by repeat (first | exact trivial | refine ⟨rfl, ?_⟩)) (by repeat (first | exact q_r | apply q_q | apply q_k))) ?_
 intro z hI
 obtain ⟨i, j⟩ := z
 obtain ⟨hI1, hI2, hI3, hI4, hI5⟩ := hI
 dsimp only at hI1 hI2 hI3 hI4 hI5 ⊢
 by_cases hij : i < j
 ·obtain ⟨q, hh⟩ : ∃ q, (i + j) / 2 = q := ⟨_, rfl⟩
  have hij2 : (i : Int) + (j : Int) = ((i + j : Nat) : Int) := by omega
  have hhz : (((i + j) / 2 : Nat) : Int) = (q : Int) := by rw [hh]
  obtain ⟨x, hx⟩ : ∃ x, X[q - a]? = some x := yW (by omega)
  have hLh := hLx _ _ hx
  rw [show a + (q - a) = q by omega] at hLh
  have hgx := tH hLh
  have lc := less_c y x
  obtain ⟨c, hc⟩ : ∃ c, qJ y.2.hour x.2.hour = c := ⟨_, rfl⟩
  have hcl := @cmpI_lt y.2.hour x.2.hour
  rw [hc] at lc hcl
  by_cases hless : c < 0
  ·have h5 : ∀ u, X[q - a]? = some u → y.2.hour < u.2.hour := fun u hu => by
    rw [hx] at hu
    cases hu; exact hcl.1 hless
   clear hI5 hcl hLy hX hL hc hLx hx hLh
   refine zY (zY (zZ ?_)); (iterate 2 refine zR ?_); refine zD ?_ ?_ <;> (intro h hp; (try simp only [q_n] at hp); try first | omega | (cases hp; done));
   refine zW (zT ?_); refine zY (zZ ?_); (iterate 2 refine zR ?_); refine vX ?_; apply zU; rfl; rfl; rfl; (apply g_convU; rfl; rfl; rfl; exact ⟨by omega, by omega⟩); apply zU; rfl; rfl; rfl; (apply g_halfU; rfl; rfl; rfl; exact hij2); apply zU; rfl; rfl; rfl; (apply wC; rfl; rfl; rfl; exact ⟨by omega, by omega⟩); refine zP ?_; refine zX (zY (xV rfl rfl (by kernel_rfl) rfl ?_)); refine yU rfl (by kernel_rfl) rfl ?_; (iterate 3 refine xU ?_); apply yY; rfl; rfl; rfl; (intro σ' hl; (apply yF; rfl; rfl; exact hl _ (by (exact True.intro)) (by repeat first | exact q_h | apply q_t | assumption); rfl; (rfl); (omega))); refine qB ?_; (iterate 2 refine xU ?_); apply yY; rfl; rfl; rfl; (intro σ' hl; (apply yF; rfl; rfl; exact hl _ (by (exact True.intro)) (by repeat first | exact q_h | apply q_t | assumption); rfl; (assumption); (omega))); refine qB ?_; apply yY; rfl; rfl; rfl; (intro σ' hl; (refine yJ ?_; exact lc _)); refine wBi ?_; intro _ _; apply vP; rfl; rfl; rfl; (intro σ' hl; (apply tD <;> rfl)); intro _ _; refine zC ?_; show EX _ _ _ _ _; refine yN ?_ ?_ <;> (intro h hp k; (try subst k); (try simp only [q_n] at hp); try first | omega | (cases hp; done));
   refine zZ (zR ?_); refine vX ?_; refine zP ?_; refine zQ ?_; simp only [zA, zF, zE, zH, yK, ↓reduceIte, Nat.reduceEqDiff]; rotate_left; refine zZ (zR ?_); refine zP ?_; refine zQ ?_; simp only [zA, zF, zE, zH, yK, ↓reduceIte, Nat.reduceEqDiff]; rotate_left
   all_goals ((repeat (rename BV _ _ => k; first | cases k | clear k)); try exact zN)
   ·exfalso
    have hq : (!decide (c < 0)) = true := by assumption
    simp [hless] at hq
   ·rw [hhz]
    refine ⟨(i, q), ⟨hI1, by dsimp only; omega, by dsimp only; omega, hI4, h5⟩, by dsimp only; omega, ?_⟩
    dsimp only
    exact wW
  ·have h4 : ∀ u, a < q + 1 → X[q + 1 - a - 1]? = some u → ¬ y.2.hour < u.2.hour := fun u _ hu => by
    rw [show q + 1 - a - 1 = q - a by omega, hx] at hu
    cases hu; exact mt hcl.2 hless
   clear hI4 hcl hLy hX hL hc hLx hx hLh
   refine zY (zY (zZ ?_)); (iterate 2 refine zR ?_); refine zD ?_ ?_ <;> (intro h hp; (try simp only [q_n] at hp); try first | omega | (cases hp; done));
   refine zW (zT ?_); refine zY (zZ ?_); (iterate 2 refine zR ?_); refine vX ?_; apply zU; rfl; rfl; rfl; (apply g_convU; rfl; rfl; rfl; exact ⟨by omega, by omega⟩); apply zU; rfl; rfl; rfl; (apply g_halfU; rfl; rfl; rfl; exact hij2); apply zU; rfl; rfl; rfl; (apply wC; rfl; rfl; rfl; exact ⟨by omega, by omega⟩); refine zP ?_; refine zX (zY (xV rfl rfl (by kernel_rfl) rfl ?_)); refine yU rfl (by kernel_rfl) rfl ?_; (iterate 3 refine xU ?_); apply yY; rfl; rfl; rfl; (intro σ' hl; (apply yF; rfl; rfl; exact hl _ (by (exact True.intro)) (by repeat first | exact q_h | apply q_t | assumption); rfl; (rfl); (omega))); refine qB ?_; (iterate 2 refine xU ?_); apply yY; rfl; rfl; rfl; (intro σ' hl; (apply yF; rfl; rfl; exact hl _ (by (exact True.intro)) (by repeat first | exact q_h | apply q_t | assumption); rfl; (assumption); (omega))); refine qB ?_; apply yY; rfl; rfl; rfl; (intro σ' hl; (refine yJ ?_; exact lc _)); refine wBi ?_; intro _ _; apply vP; rfl; rfl; rfl; (intro σ' hl; (apply tD <;> rfl)); intro _ _; refine zC ?_; show EX _ _ _ _ _; refine yN ?_ ?_ <;> (intro h hp k; (try subst k); (try simp only [q_n] at hp); try first | omega | (cases hp; done));
   refine zZ (zR ?_); refine vX ?_; refine zP ?_; refine zQ ?_; simp only [zA, zF, zE, zH, yK, ↓reduceIte, Nat.reduceEqDiff]; rotate_left; refine zZ (zR ?_); refine zP ?_; refine zQ ?_; simp only [zA, zF, zE, zH, yK, ↓reduceIte, Nat.reduceEqDiff]; rotate_left
   all_goals ((repeat (rename BV _ _ => k; first | cases k | clear k)); try exact zN)
   ·rw [hhz]
    refine ⟨(q + 1, j), ⟨by dsimp only; omega, by dsimp only; omega, hI3, h4, hI5⟩, by dsimp only; omega, ?_⟩
    dsimp only
    exact wW
   ·exfalso
    have hq : (!decide (c < 0)) = false := by assumption
    simp at hq
    exact hless hq
 ·obtain rfl : i = j := by omega
  obtain ⟨k, hk⟩ : ∃ k, i - a = k := ⟨_, rfl⟩
  rw [hk] at hI4 hI5
  have hmer := merged_right_at (y := y) hX hL (k := k) (by omega) (fun x h0 hx => hI4 x (by omega) hx) hI5
  clear hI4 hI5 hLy hgy hL hX hLx
  have hik : i = a + k := by omega
  have hmX : m = a + X.length := by omega
  have hkX : k ≤ X.length := by omega
  subst hik hmX
  refine zY (zY (zZ ?_)); (iterate 2 refine zR ?_); refine zD ?_ ?_ <;> (intro h hp; (try simp only [q_n] at hp); try first | omega | (cases hp; done));
  refine yQ ?_; refine zY (zY (zZ ?_)); refine zR ?_; refine zP ?_; refine zX (zT ?_); rotate_left
  all_goals ((repeat (rename BV _ _ => k; first | cases k | clear k)); try exact zN)
  rw [← hLd, show P ++ X ++ [y] ++ Q = P ++ X.take X.length ++ y :: X.drop X.length ++ Q by simp]
  refine yD (fun (t : Nat) => (⟨[(0, .slv v), (14, .int .i64 ((a + k : Nat) : Int)), (17, .int .i64 ((a + t : Nat) : Int))], rowE v (P ++ X.take t ++ y :: X.drop t ++ Q) :: σ, [], Tryz.f103.ntmps⟩ : St)) (fun t => k ≤ t ∧ t ≤ X.length) (fun t => t - k) X.length (⟨hkX, Nat.le_refl _⟩) (St.le_of (by repeat (first | exact trivial | refine ⟨rfl, ?_⟩)) (by repeat (first | exact q_r | apply q_q | apply q_k))) ?_
  intro t hI
  obtain ⟨hJ1, hJ2⟩ := hI
  clear hLd hLl hlm
  by_cases htk : k < t
  ·obtain ⟨s, rfl⟩ : ∃ s, t = s + 1 := ⟨t - 1, by omega⟩
   obtain ⟨x, hx⟩ : ∃ x, X[s]? = some x := yW (by omega)
   have hPt : (P ++ X.take s).length = a + s := by rw [List.length_append, List.length_take]; omega
   have hsw := swp2_down (A := P ++ X.take s) (C := X.drop (s + 1) ++ Q) (x := x) (y := y)
   have e1 : P ++ X.take (s + 1) ++ y :: X.drop (s + 1) ++ Q = P ++ X.take s ++ x :: y :: (X.drop (s + 1) ++ Q) := by rw [take_get hx]; simp
   have e2 : P ++ X.take s ++ y :: X.drop s ++ Q = P ++ X.take s ++ y :: x :: (X.drop (s + 1) ++ Q) := by rw [drop_get hx]; simp
   rw [hPt, ← e1, ← e2] at hsw
   obtain ⟨M, hM⟩ : ∃ M, P ++ X.take (s + 1) ++ y :: X.drop (s + 1) ++ Q = M := ⟨_, rfl⟩
   have hMx : M[a + s]? = some x := by rw [← hM, e1, ← hPt]; simp
   have hMy : M[a + s + 1]? = some y := by rw [← hM, e1, ← hPt, List.getElem?_append_right (by omega)]; simp
   have hMl : M.length = a + X.length + 1 + Q.length := by rw [← hM]; simp [List.length_take]; omega
   rw [hM] at hsw ⊢
   clear hM e1 e2
   have hgx := tH hMx
   have hgy := tH hMy
   have hw := swp2_map hMy hMx
   rw [hsw] at hw
   have hwr : ∀ v, rowE v (P ++ X.take s ++ y :: X.drop s ++ Q) = Ent.row v 80 9 (((M.map entC).set (a + s + 1) (entC x)).set (a + s) (entC y)) := fun v => by
    show Ent.row _ _ _ _ = _
    rw [hw]
   have hlm : (M.map entC).length = M.length := List.length_map _
   have hz1 : ((a + (s + 1) : Nat) : Int) - 1 = ((a + s : Nat) : Int) := by omega
   have hz2 : ((a + (s + 1) : Nat) : Int) = ((a + s + 1 : Nat) : Int) := by omega
   have hMne : M ≠ [] := fun e => by rw [e] at hMx; simp at hMx
   have hgt : ((a + k : Nat) : Int) < ((a + (s + 1) : Nat) : Int) := by omega
   clear hsw hw hx hMx hMy
   refine ex_rowV (L := M.map entC) (.head _) (fun e => hMne (List.map_eq_nil_iff.1 e)) ?_
   rintro g cap rfl
   rw [hlm]
   refine zY (zY (zZ ?_)); (iterate 2 refine zR ?_); refine zD ?_ ?_ <;> (intro h hp; (try simp only [q_n] at hp); try first | omega | (cases hp; done));
   refine zW (zY (zT ?_)); rotate_left
   all_goals ((repeat (rename BV _ _ => k; first | cases k | clear k)); try exact zN)
   refine wA (fun _ => False) [9, 13, 15] 16 rfl (by kernel_rfl) rfl ?_
   simp only [wU]
   refine yL ?_; refine tP ?_; refine yL ?_; refine tP ?_; refine yL ?_; refine tP ?_; refine yL ?_; refine tP ?_; refine yL ?_; apply yS; rfl; rfl; (intro σ' hl; (apply g_sub; rfl; rfl; rfl; exact ⟨by omega, by omega⟩)); refine yL ?_; refine tP ?_; refine yL ?_; refine tP ?_; refine yL ?_; apply yS; rfl; rfl; (intro σ' hl; (apply g_sub; rfl; rfl; rfl; exact ⟨by omega, by omega⟩)); refine yL ?_; apply yS; rfl; rfl; (intro σ' hl; (apply wB; rfl; rfl; rfl; (assumption); (omega))); refine yL ?_; refine tP ?_; refine yL ?_; refine tP ?_; refine yL ?_; apply yS; rfl; rfl; (intro σ' hl; (apply wB; rfl; rfl; rfl; (assumption); (omega))); refine drf_two rfl rfl rfl ?_ ?_; apply uL; rfl; rfl; (apply wY; rfl; decide; rfl; (exact .k0 (by repeat first | exact q_h | apply q_t | assumption) (by assumption) rfl rfl)); refine yP rfl rfl ?_; apply uL; rfl; rfl; (apply wY; rfl; decide; rfl; (exact .k0 (by repeat first | exact q_h | apply q_t | assumption) (by assumption) rfl rfl)); refine yL ?_; apply yS; rfl; rfl; (intro σ' hl; (apply wB; rfl; rfl; rfl; (assumption); (omega))); refine yP rfl rfl ?_; apply wF; rfl; rfl; (focus (apply vY; rfl; rfl; rfl; rfl; rfl; rfl; rotate_left; (exact Upd.here); (omega))); (rintro _ (rfl | rfl | rfl) _ <;> exact (by repeat first | exact q_h | apply q_t | assumption)); refine wQ rfl ?_; apply zU; rfl; rfl; rfl; (apply yF; rfl; rfl; exact (by repeat first | exact q_h | apply q_t | assumption); rfl; (assumption); (simp only [List.length_map, List.length_set]; omega)); apply vT; rfl; rfl; focus (apply vY; rfl; rfl; rfl; rfl; rfl; rfl; rotate_left; (exact Upd.here); (simp only [List.length_set, List.length_map]; omega));
   refine zQ (zZ (zR ?_)); refine xSu ?_; refine zP ?_; refine zQ ?_; simp only [zA, zF, zE, zH, yK, ↓reduceIte, Nat.reduceEqDiff]; rotate_left; apply uL; rfl; rfl; (apply wY; rfl; decide; rfl; (exact .k0 (by repeat first | exact q_h | apply q_t | assumption) (by assumption) rfl rfl)); refine yP rfl rfl ?_; apply uL; rfl; rfl; (apply wY; rfl; decide; rfl; (exact .k0 (by repeat first | exact q_h | apply q_t | assumption) (by assumption) rfl rfl)); refine yL ?_; apply yS; rfl; rfl; (intro σ' hl; (apply wB; rfl; rfl; rfl; (assumption); (omega))); refine yP rfl rfl ?_; apply wF; rfl; rfl; (focus (apply vY; rfl; rfl; rfl; rfl; rfl; rfl; rotate_left; (exact Upd.here); (omega))); (rintro _ (rfl | rfl | rfl) _ <;> exact (by repeat first | exact q_h | apply q_t | assumption)); refine wQ rfl ?_; apply zU; rfl; rfl; rfl; (apply yF; rfl; rfl; exact (by repeat first | exact q_h | apply q_t | assumption); rfl; (assumption); (simp only [List.length_map, List.length_set]; omega)); apply vT; rfl; rfl; focus (apply vY; rfl; rfl; rfl; rfl; rfl; rfl; rotate_left; (exact Upd.here); (simp only [List.length_set, List.length_map]; omega));
   refine zQ (zZ (zR ?_)); refine xSu ?_; refine zP ?_; refine zQ ?_; simp only [zA, zF, zE, zH, yK, ↓reduceIte, Nat.reduceEqDiff]; rotate_left
   all_goals ((repeat (rename BV _ _ => k; first | cases k | clear k)); try exact zN)
   all_goals
    rw [hz1]
    refine ⟨s, ⟨by omega, by omega⟩, by omega, ?_⟩
    rw [hwr]
    exact wW
  ·obtain rfl : t = k := by omega
   rw [show P ++ X.take t ++ y :: X.drop t ++ Q = P ++ (X.take t ++ y :: X.drop t) ++ Q by simp]
   refine zY (zY (zZ ?_)); (iterate 2 refine zR ?_); refine zD ?_ ?_ <;> (intro h hp; (try simp only [q_n] at hp); try first | omega | (cases hp; done));
   refine yQ ?_; refine zV ?_; simp only [yX]; rotate_left
   all_goals ((repeat (rename BV _ _ => k; first | cases k | clear k)); try exact zN)
   refine xX (σ3 := rowE v (P ++ (X.take t ++ y :: X.drop t) ++ Q) :: σ) ?_
   exact zJ ⟨rfl, _, hmer, rfl⟩
theorem nil_len {α : Type} {l : List α} (h : l.length = 0) : l = [] := List.eq_nil_of_length_eq_zero h
theorem len_pos {α : Type} {l : List α} (h : 0 < l.length) : l ≠ [] := List.length_pos_iff.1 h
theorem sym_c : ∀ (N : Nat) (P X Y Q : List Ey) (a m b : Nat), P.length = a → a + X.length = m → m + Y.length = b → X ≠ [] → Y ≠ [] → X.Pairwise qL → Y.Pairwise qL → Left X Y → a + X.length + Y.length + Q.length ≤ 100000 → X.length + Y.length ≤ N → ∀ (v : Value) (σ : List Ent),
  SCall Tryz.prog symF [.slv v, .int .i64 a, .int .i64 m, .int .i64 b, entF'] (rowE v (P ++ X ++ Y ++ Q) :: σ) (fun r τ => r = .tup [] ∧ ∃ S, MergedE X Y S ∧ τ = rowE v (P ++ S ++ Q) :: σ) := by
 intro N
 induction N with
 | zero =>
  intro P X Y Q a m b ha hm hb hX0 hY0 hX hY hL hl hN
  have := List.length_pos_iff.2 hX0
  omega
 | succ N ih =>
  intro P X Y Q a m b ha hm hb hX0 hY0 hX hY hL hl hN v σ
  have hxp := List.length_pos_iff.2 hX0
  have hyp := List.length_pos_iff.2 hY0
  by_cases hx1 : X.length = 1
  ·obtain ⟨x, rfl⟩ := List.length_eq_one_iff.1 hx1
   exact sym_left P Y Q x a m b ha (by simpa using hm) hb hY hL (by simp at *; omega) v σ
  by_cases hy1 : Y.length = 1
  ·obtain ⟨y, rfl⟩ := List.length_eq_one_iff.1 hy1
   exact sym_right P X Q y a m b ha hm (by simpa using hb) (by omega) hX hL (by simp at *; omega) v σ
  refine zL Tryz.func103 rfl (by simp) ?_
  obtain ⟨mid, hmid⟩ : ∃ mid, (a + b) / 2 = mid := ⟨_, rfl⟩
  obtain ⟨n, hn⟩ : ∃ n, mid + m = n := ⟨_, rfl⟩
  obtain ⟨pp, hpp⟩ : ∃ pp, n - 1 = pp := ⟨_, rfl⟩
  have hab2 : (a : Int) + (b : Int) = ((a + b : Nat) : Int) := by omega
  have hmz : (((a + b) / 2 : Nat) : Int) = (mid : Int) := by rw [hmid]
  have hnm1 : ¬ ((m : Int) - (a : Int) = 1) := by omega
  have hnm2 : ¬ ((b : Int) - (m : Int) = 1) := by omega
  obtain ⟨lo, hi, hlh⟩ : ∃ lo hi : Nat, (mid < m ∧ lo + b = n ∧ hi = mid) ∨ (m ≤ mid ∧ lo = a ∧ hi = m) := by
   by_cases h : mid < m
   ·exact ⟨n - b, mid, .inl ⟨h, by omega, rfl⟩⟩
   ·exact ⟨a, m, .inr ⟨by omega, rfl, rfl⟩⟩
  have hb1 : a ≤ lo ∧ lo ≤ hi ∧ hi ≤ m ∧ m + hi ≤ n ∧ n ≤ lo + b ∧ a < mid ∧ mid < b := by omega
  obtain ⟨L, hLd⟩ : ∃ L, P ++ X ++ Y ++ Q = L := ⟨_, rfl⟩
  have hLl : L.length = a + X.length + Y.length + Q.length := by rw [← hLd]; simp; omega
  have hLx : ∀ k c, X[k]? = some c → L[a + k]? = some c := fun k c h => by
   rw [← hLd, show P ++ X ++ Y ++ Q = P ++ (X ++ (Y ++ Q)) by simp]
   exact lk_app ha (lk_left h)
  have hLy : ∀ k c, Y[k]? = some c → L[m + k]? = some c := fun k c h => by
   rw [← hLd, show P ++ X ++ Y ++ Q = (P ++ X) ++ (Y ++ Q) by simp]
   exact lk_app (by simp; omega) (lk_left h)
  have hlm : (L.map entC).length = L.length := List.length_map _
  rw [hLd]
  clear hx1 hy1
  refine zY (zY (zZ ?_)); (iterate 2 refine zR ?_); refine xSu ?_; refine zD ?_ ?_ <;> (intro h hp; (try simp only [q_n] at hp); try first | omega | (cases hp; done));
  refine zW (zY (zY (zZ ?_))); (iterate 2 refine zR ?_); refine xSu ?_; refine zD ?_ ?_ <;> (intro h hp; (try simp only [q_n] at hp); try first | omega | (cases hp; done));
  refine zW (zY (zZ ?_)); (iterate 2 refine zR ?_); refine vX ?_; apply zU; rfl; rfl; rfl; (apply g_convU; rfl; rfl; rfl; exact ⟨by omega, by omega⟩); apply zU; rfl; rfl; rfl; (apply g_halfU; rfl; rfl; rfl; exact hab2); apply zU; rfl; rfl; rfl; (apply wC; rfl; rfl; rfl; exact ⟨by omega, by omega⟩); refine zP ?_; refine zX (zY (zZ ?_)); (iterate 2 refine zR ?_); refine vX ?_; refine zP ?_; refine zX (zY (zZ ?_)); (iterate 2 refine zP ?_); refine zX (zY (zY (zZ ?_))); (iterate 2 refine zR ?_); refine zD ?_ ?_ <;> (intro h hp; (try simp only [q_n] at hp); try first | omega | (cases hp; done));
  refine zY (zZ ?_); (iterate 2 refine zR ?_); refine xSu ?_; refine zP ?_; refine zX (zZ (zR ?_)); refine zP ?_; refine zX (zY (zZ ?_)); refine zR ?_; refine xSu ?_; refine zP ?_; refine zX (zY (zT ?_)); rotate_left; refine zY (zZ ?_); refine zR ?_; refine zP ?_; refine zX (zZ (zR ?_)); refine zP ?_; refine zX (zY (zZ ?_)); refine zR ?_; refine xSu ?_; refine zP ?_; refine zX (zY (zT ?_)); rotate_left
  all_goals ((repeat (rename BV _ _ => k; first | cases k | clear k)); try exact zN)
  all_goals
   rw [hmz]
   refine ex_int (t := 19) (y := (n : Int)) rfl (by omega) ?_
   refine ex_int (t := 20) (y := (lo : Int)) rfl (by omega) ?_
   refine ex_int (t := 21) (y := (hi : Int)) rfl (by omega) ?_
   refine ex_int (t := 22) (y := (pp : Int)) rfl (by omega) ?_
   refine yD (fun (z : Nat × Nat) => (⟨[(0, .slv v), (1, .int .i64 a), (2, .int .i64 m), (3, .int .i64 b), (4, entF'), (18, .int .i64 mid), (19, .int .i64 n), (22, .int .i64 pp), (20, .int .i64 z.1), (21, .int .i64 z.2)], rowE v L :: σ, [], Tryz.f103.ntmps⟩ : St)) (fun z => lo ≤ z.1 ∧ z.1 ≤ z.2 ∧ z.2 ≤ hi ∧ (∀ x y, lo < z.1 → L[z.1 - 1]? = some x → L[pp - (z.1 - 1)]? = some y → ¬ y.2.hour < x.2.hour) ∧ (∀ x y, z.2 < hi → L[z.2]? = some x → L[pp - z.2]? = some y → y.2.hour < x.2.hour)) (fun z => z.2 - z.1) (lo, hi) (⟨Nat.le_refl _, by dsimp only; omega, Nat.le_refl _, fun x y h => by dsimp only at h; omega, fun x y h => by dsimp only at h; omega⟩) (St.le_of (by repeat (first | exact trivial | refine ⟨rfl, ?_⟩)) (by repeat (first | exact q_r | apply q_q | apply q_k))) ?_
   intro z hI
   obtain ⟨i, j⟩ := z
   obtain ⟨hI1, hI2, hI3, hI4, hI5⟩ := hI
   dsimp only at hI1 hI2 hI3 hI4 hI5 ⊢
   by_cases hij : i < j
   ·obtain ⟨q, hh⟩ : ∃ q, (i + j) / 2 = q := ⟨_, rfl⟩
    have hij2 : (i : Int) + (j : Int) = ((i + j : Nat) : Int) := by omega
    have hhz : (((i + j) / 2 : Nat) : Int) = (q : Int) := by rw [hh]
    have hqb : lo ≤ q ∧ q < hi := by omega
    obtain ⟨w, hw⟩ : ∃ w, pp - q = w := ⟨_, rfl⟩
    have hwz : (pp : Int) - (((i + j) / 2 : Nat) : Int) = (w : Int) := by omega
    obtain ⟨x, hx⟩ : ∃ x, X[q - a]? = some x := yW (by omega)
    obtain ⟨y, hy⟩ : ∃ y, Y[w - m]? = some y := yW (by omega)
    have hLq := hLx _ _ hx
    rw [show a + (q - a) = q by omega] at hLq
    have hLw := hLy _ _ hy
    rw [show m + (w - m) = w by omega] at hLw
    have hgx := tH hLq
    have hgy := tH hLw
    have lc := less_c y x
    obtain ⟨c, hc⟩ : ∃ c, qJ y.2.hour x.2.hour = c := ⟨_, rfl⟩
    have hcl := @cmpI_lt y.2.hour x.2.hour
    rw [hc] at lc hcl
    by_cases hless : c < 0
    ·have h5 : ∀ u z, q < hi → L[q]? = some u → L[pp - q]? = some z → z.2.hour < u.2.hour := fun u z _ hu hz => by
      rw [hLq] at hu
      rw [hw, hLw] at hz
      cases hu; cases hz; exact hcl.1 hless
     clear hI5 hcl hLy hLx hX hY hL hc hx hy hLq hLw ih hlh hLd
     refine zY (zY (zZ ?_)); (iterate 2 refine zR ?_); refine zD ?_ ?_ <;> (intro h hp; (try simp only [q_n] at hp); try first | omega | (cases hp; done));
     refine zW (zT ?_); refine zY (zZ ?_); (iterate 2 refine zR ?_); refine vX ?_; apply zU; rfl; rfl; rfl; (apply g_convU; rfl; rfl; rfl; exact ⟨by omega, by omega⟩); apply zU; rfl; rfl; rfl; (apply g_halfU; rfl; rfl; rfl; exact hij2); apply zU; rfl; rfl; rfl; (apply wC; rfl; rfl; rfl; exact ⟨by omega, by omega⟩); refine zP ?_; refine zX (zY (xV rfl rfl (by kernel_rfl) rfl ?_)); refine yU rfl (by kernel_rfl) rfl ?_; (iterate 4 refine xU ?_); refine wSu ?_; apply yY; rfl; rfl; rfl; (intro σ' hl; (apply yF; rfl; rfl; exact hl _ (by (exact True.intro)) (by repeat first | exact q_h | apply q_t | assumption); rfl; (assumption); (omega))); refine qB ?_; (iterate 2 refine xU ?_); apply yY; rfl; rfl; rfl; (intro σ' hl; (apply yF; rfl; rfl; exact hl _ (by (exact True.intro)) (by repeat first | exact q_h | apply q_t | assumption); rfl; (assumption); (omega))); refine qB ?_; apply yY; rfl; rfl; rfl; (intro σ' hl; (refine yJ ?_; exact lc _)); refine wBi ?_; intro _ _; apply vP; rfl; rfl; rfl; (intro σ' hl; (apply tD <;> rfl)); intro _ _; refine zC ?_; show EX _ _ _ _ _; refine yN ?_ ?_ <;> (intro h hp k; (try subst k); (try simp only [q_n] at hp); try first | omega | (cases hp; done));
     refine zZ (zR ?_); refine vX ?_; refine zP ?_; refine zQ ?_; simp only [zA, zF, zE, zH, yK, ↓reduceIte, Nat.reduceEqDiff]; rotate_left; refine zZ (zR ?_); refine zP ?_; refine zQ ?_; simp only [zA, zF, zE, zH, yK, ↓reduceIte, Nat.reduceEqDiff]; rotate_left
     all_goals ((repeat (rename BV _ _ => k; first | cases k | clear k)); try exact zN)
     ·exfalso
      have hq : (!decide (c < 0)) = true := by assumption
      simp [hless] at hq
     ·rw [hhz]
      refine ⟨(i, q), ⟨hI1, by dsimp only; omega, by dsimp only; omega, hI4, h5⟩, by dsimp only; omega, ?_⟩
      dsimp only
      exact wW
    ·have h4 : ∀ u z, lo < q + 1 → L[q + 1 - 1]? = some u → L[pp - (q + 1 - 1)]? = some z → ¬ z.2.hour < u.2.hour := fun u z _ hu hz => by
      rw [Nat.add_sub_cancel, hLq] at hu
      rw [Nat.add_sub_cancel, hw, hLw] at hz
      cases hu; cases hz; exact mt hcl.2 hless
     clear hI4 hcl hLy hLx hX hY hL hc hx hy hLq hLw ih hlh hLd
     refine zY (zY (zZ ?_)); (iterate 2 refine zR ?_); refine zD ?_ ?_ <;> (intro h hp; (try simp only [q_n] at hp); try first | omega | (cases hp; done));
     refine zW (zT ?_); refine zY (zZ ?_); (iterate 2 refine zR ?_); refine vX ?_; apply zU; rfl; rfl; rfl; (apply g_convU; rfl; rfl; rfl; exact ⟨by omega, by omega⟩); apply zU; rfl; rfl; rfl; (apply g_halfU; rfl; rfl; rfl; exact hij2); apply zU; rfl; rfl; rfl; (apply wC; rfl; rfl; rfl; exact ⟨by omega, by omega⟩); refine zP ?_; refine zX (zY (xV rfl rfl (by kernel_rfl) rfl ?_)); refine yU rfl (by kernel_rfl) rfl ?_; (iterate 4 refine xU ?_); refine wSu ?_; apply yY; rfl; rfl; rfl; (intro σ' hl; (apply yF; rfl; rfl; exact hl _ (by (exact True.intro)) (by repeat first | exact q_h | apply q_t | assumption); rfl; (assumption); (omega))); refine qB ?_; (iterate 2 refine xU ?_); apply yY; rfl; rfl; rfl; (intro σ' hl; (apply yF; rfl; rfl; exact hl _ (by (exact True.intro)) (by repeat first | exact q_h | apply q_t | assumption); rfl; (assumption); (omega))); refine qB ?_; apply yY; rfl; rfl; rfl; (intro σ' hl; (refine yJ ?_; exact lc _)); refine wBi ?_; intro _ _; apply vP; rfl; rfl; rfl; (intro σ' hl; (apply tD <;> rfl)); intro _ _; refine zC ?_; show EX _ _ _ _ _; refine yN ?_ ?_ <;> (intro h hp k; (try subst k); (try simp only [q_n] at hp); try first | omega | (cases hp; done));
     refine zZ (zR ?_); refine vX ?_; refine zP ?_; refine zQ ?_; simp only [zA, zF, zE, zH, yK, ↓reduceIte, Nat.reduceEqDiff]; rotate_left; refine zZ (zR ?_); refine zP ?_; refine zQ ?_; simp only [zA, zF, zE, zH, yK, ↓reduceIte, Nat.reduceEqDiff]; rotate_left
     all_goals ((repeat (rename BV _ _ => k; first | cases k | clear k)); try exact zN)
     ·rw [hhz]
      refine ⟨(q + 1, j), ⟨by dsimp only; omega, by dsimp only; omega, hI3, h4, hI5⟩, by dsimp only; omega, ?_⟩
      dsimp only
      exact wW
     ·exfalso
      have hq : (!decide (c < 0)) = false := by assumption
      simp at hq
      exact hless hq
   ·obtain rfl : i = j := by omega
    clear hij
    obtain ⟨en, hen⟩ : ∃ en, n - i = en := ⟨_, rfl⟩
    have henz : (n : Int) - (i : Int) = (en : Int) := by omega
    have hbn : a ≤ i ∧ i ≤ m ∧ m ≤ en ∧ en ≤ b ∧ i + en = mid + m := by omega
    obtain ⟨s, hs⟩ : ∃ s, i - a = s := ⟨_, rfl⟩
    obtain ⟨e, he⟩ : ∃ e, en - m = e := ⟨_, rfl⟩
    have hsX : s ≤ X.length := by omega
    have heY : e ≤ Y.length := by omega
    have hpar := sym_parts hX hY hL hsX heY (fun x y h0 hx hy => by
      have h1 := hLx _ _ hx
      have h2 := hLy _ _ hy
      have hyl := (List.getElem?_eq_some_iff.1 hy).1
      rw [show a + (s - 1) = i - 1 by omega] at h1
      rw [show m + e = pp - (i - 1) by omega] at h2
      exact hI4 x y (by omega) h1 h2) (fun x y h0 hx hy => by
      have h1 := hLx _ _ hx
      have h2 := hLy _ _ hy
      have hxl := (List.getElem?_eq_some_iff.1 hx).1
      rw [show a + s = i by omega] at h1
      rw [show m + (e - 1) = pp - i by omega] at h2
      exact hI5 x y (by omega) h1 h2)
    have hXe : X.take s ++ X.drop s = X := List.take_append_drop s X
    have hYe : Y.take e ++ Y.drop e = Y := List.take_append_drop e Y
    have hA := hX.take (i := s)
    have hB := hX.drop (i := s)
    have hC := hY.take (i := e)
    have hD := hY.drop (i := e)
    have hAl : (X.take s).length = i - a := by rw [List.length_take]; omega
    have hBl : (X.drop s).length = m - i := by rw [List.length_drop]; omega
    have hCl : (Y.take e).length = en - m := by rw [List.length_take]; omega
    have hDl : (Y.drop e).length = b - en := by rw [List.length_drop]; omega
    have hLA : Left (X.take s) (Y.take e) := left_sub hL (fun x hx => List.mem_of_mem_take hx) (fun y hy => List.mem_of_mem_take hy)
    have hLB : Left (X.drop s) (Y.drop e) := left_sub hL (fun x hx => List.mem_of_mem_drop hx) (fun y hy => List.mem_of_mem_drop hy)
    have hfin : ∀ S T, MergedE (X.take s) (Y.take e) S → MergedE (X.drop s) (Y.drop e) T → MergedE X Y (S ++ T) := fun S T h1 h2 => by
     have := merged_two h1 h2 hpar
     rwa [hXe, hYe] at this
    have hL0 : L = P ++ X.take s ++ X.drop s ++ Y.take e ++ (Y.drop e ++ Q) := by
     rw [← hLd]
     have h1 : P ++ X ++ Y ++ Q = P ++ (X.take s ++ X.drop s) ++ (Y.take e ++ Y.drop e) ++ Q := by rw [hXe, hYe]
     rw [h1]; simp only [List.append_assoc]
    clear hI4 hI5 hLx hLy hLd hpar hXe hYe hX hY hL hlh hX0 hY0
    generalize X.take s = A at *
    generalize X.drop s = B at *
    generalize Y.take e = C at *
    generalize Y.drop e = D at *
    have crot : i < m ∧ m < en → ∀ v σ, SCall Tryz.prog 137 [.slv v, .int .i64 i, .int .i64 m, .int .i64 en, entF'] (rowE v L :: σ) (fun r τ => r = .tup [] ∧ τ = rowE v (P ++ A ++ C ++ B ++ (D ++ Q)) :: σ) := fun h v σ => by
     have := rotate_c (P ++ A) B C (D ++ Q) i m en (by simp; omega) (by omega) (by omega) (len_pos (by omega)) (len_pos (by omega)) (by simp; omega) v σ
     rw [hL0]; exact this
    have c1 : a < i ∧ i < mid → ∀ v σ, SCall Tryz.prog symF [.slv v, .int .i64 a, .int .i64 i, .int .i64 mid, entF'] (rowE v (P ++ A ++ C ++ B ++ (D ++ Q)) :: σ) (fun r τ => r = .tup [] ∧ ∃ S, MergedE A C S ∧ τ = rowE v (P ++ S ++ (B ++ (D ++ Q))) :: σ) := fun h v σ => by
     have := ih P A C (B ++ (D ++ Q)) a i mid ha (by omega) (by omega) (len_pos (by omega)) (len_pos (by omega)) hA hC hLA (by simp; omega) (by omega) v σ
     rw [show P ++ A ++ C ++ B ++ (D ++ Q) = P ++ A ++ C ++ (B ++ (D ++ Q)) by simp]; exact this
    have c2 : ∀ S, MergedE A C S → mid < en ∧ en < b → ∀ v σ, SCall Tryz.prog symF [.slv v, .int .i64 mid, .int .i64 en, .int .i64 b, entF'] (rowE v (P ++ S ++ (B ++ (D ++ Q))) :: σ) (fun r τ => r = .tup [] ∧ ∃ T, MergedE B D T ∧ τ = rowE v (P ++ (S ++ T) ++ Q) :: σ) := fun S hS h v σ => by
     have hSl := hS.perm.length_eq
     rw [List.length_append] at hSl
     have := ih (P ++ S) B D Q mid en b (by simp; omega) (by omega) (by omega) (len_pos (by omega)) (len_pos (by omega)) hB hD hLB (by omega) (by omega) v σ
     rw [show P ++ S ++ (B ++ (D ++ Q)) = P ++ S ++ B ++ D ++ Q by simp]
     refine this.mono ?_
     rintro r τ ⟨h1, T, h2, h3⟩
     exact ⟨h1, T, h2, by rw [h3]; simp⟩
    have h01 : ¬ (i < m ∧ m < en) → L = P ++ A ++ C ++ B ++ (D ++ Q) := fun h => by
     rw [hL0]
     by_cases h' : i < m
     ·have : C = [] := nil_len (by omega)
      subst this; simp
     ·have : B = [] := nil_len (by omega)
      subst this; simp
    have hS0 : ¬ (a < i ∧ i < mid) → MergedE A C (A ++ C) := fun h => merged_triv hA hC (by
     by_cases h' : a < i
     ·exact .inr (nil_len (by omega))
     ·exact .inl (nil_len (by omega)))
    have hT0 : ¬ (mid < en ∧ en < b) → MergedE B D (B ++ D) := fun h => merged_triv hB hD (by
     by_cases h' : mid < en
     ·exact .inr (nil_len (by omega))
     ·exact .inl (nil_len (by omega)))
    have hF1 : P ++ A ++ C ++ B ++ (D ++ Q) = P ++ (A ++ C) ++ (B ++ (D ++ Q)) := by simp
    have hF2 : ∀ S, P ++ S ++ (B ++ (D ++ Q)) = P ++ (S ++ (B ++ D)) ++ Q := fun S => by simp
    clear ih hA hB hC hD hLA hLB hL0 hlm hAl hBl hCl hDl hLl
    generalize P ++ A ++ C ++ B ++ (D ++ Q) = L1 at *
    by_cases hr : i < m ∧ m < en
    all_goals first | (have hq := h01 hr; subst hq; clear h01) | clear h01
    all_goals by_cases h1 : a < i ∧ i < mid
    all_goals first | (have hS := hS0 h1; obtain ⟨S, hSd⟩ : ∃ S, S = A ++ C := ⟨_, rfl⟩; rw [← hSd] at hS hF1; clear hS0 hSd; subst hF1) | clear hF1 hS0
    all_goals by_cases h2 : mid < en ∧ en < b
    all_goals
     first
      | (refine zY (zY (zZ ?_)); (iterate 2 refine zR ?_); refine zD ?_ ?_ <;> (intro h hp; (try simp only [q_n] at hp); try first | omega | (cases hp; done)); refine yQ ?_; refine zY (zZ ?_); (iterate 2 refine zR ?_); refine xSu ?_; refine zP ?_; refine zX (zY (zY (zZ ?_))); (iterate 2 refine zR ?_); refine xY ?_; intro _ _; refine zR ?_; refine xT ?_ ?_ <;> (intro h hp k; (try subst k); (try simp only [q_n] at hp); try first | omega | (cases hp; done)); (iterate 2 refine vN ?_); refine wT ?_; intro _ _; refine xF ?_; refine zX (yN ?_ ?_) <;> (intro h hp k; (try subst k); (try simp only [q_n] at hp); try first | omega | (cases hp; done)); refine zZ (zR ?_); (iterate 4 refine zR ?_); refine xL rfl rfl rfl (xJ rfl rfl (zB (by kernel_rfl)) (by rw [henz]; exact crot hr _ _)) ?_; rintro _ _ ⟨rfl, rfl⟩; refine zX (zY (zY (zZ ?_))); (iterate 2 refine zR ?_); refine xY ?_; intro _ _; refine zR ?_; refine xT ?_ ?_ <;> (intro h hp k; (try subst k); (try simp only [q_n] at hp); try first | omega | (cases hp; done)); (iterate 2 refine vN ?_); refine wT ?_; intro _ _; refine xF ?_; refine zX (yN ?_ ?_) <;> (intro h hp k; (try subst k); (try simp only [q_n] at hp); try first | omega | (cases hp; done)); refine zZ (zR ?_); (iterate 4 refine zR ?_); refine xL rfl rfl rfl (xJ rfl rfl (zB (by kernel_rfl)) (c1 h1 _ _)) ?_; rintro _ _ ⟨rfl, S, hS, rfl⟩; refine zX (zY (zZ ?_)); (iterate 2 refine zR ?_); refine xY ?_; intro _ _; refine zR ?_; refine xT ?_ ?_ <;> (intro h hp k; (try subst k); (try simp only [q_n] at hp); try first | omega | (cases hp; done)); (iterate 2 refine vN ?_); refine wT ?_; intro _ _; refine xF ?_; refine zX (yN ?_ ?_) <;> (intro h hp k; (try subst k); (try simp only [q_n] at hp); try first | omega | (cases hp; done)); refine zZ (zR ?_); (iterate 4 refine zR ?_); refine xL rfl rfl rfl (xJ rfl rfl (zB (by kernel_rfl)) (by rw [henz]; exact c2 _ hS h2 _ _)) ?_; rintro _ _ ⟨rfl, T, hT, rfl⟩; refine zQ ?_; simp only [zA, zF, zE, zH, yK, ↓reduceIte, Nat.reduceEqDiff]; rotate_left; (all_goals (repeat (rename BV _ _ => hbv; cases hbv))); (all_goals (try (first | cases ‹true = false› | cases ‹false = true›))))
      | (refine zY (zY (zZ ?_)); (iterate 2 refine zR ?_); refine zD ?_ ?_ <;> (intro h hp; (try simp only [q_n] at hp); try first | omega | (cases hp; done)); refine yQ ?_; refine zY (zZ ?_); (iterate 2 refine zR ?_); refine xSu ?_; refine zP ?_; refine zX (zY (zY (zZ ?_))); (iterate 2 refine zR ?_); refine xY ?_; intro _ _; refine zR ?_; refine xT ?_ ?_ <;> (intro h hp k; (try subst k); (try simp only [q_n] at hp); try first | omega | (cases hp; done)); (iterate 2 refine vN ?_); refine wT ?_; intro _ _; refine xF ?_; refine zX (yN ?_ ?_) <;> (intro h hp k; (try subst k); (try simp only [q_n] at hp); try first | omega | (cases hp; done)); refine zZ (zR ?_); (iterate 4 refine zR ?_); refine xL rfl rfl rfl (xJ rfl rfl (zB (by kernel_rfl)) (by rw [henz]; exact crot hr _ _)) ?_; rintro _ _ ⟨rfl, rfl⟩; refine zX (zY (zY (zZ ?_))); (iterate 2 refine zR ?_); refine xY ?_; intro _ _; refine zR ?_; refine xT ?_ ?_ <;> (intro h hp k; (try subst k); (try simp only [q_n] at hp); try first | omega | (cases hp; done)); (iterate 2 refine vN ?_); refine wT ?_; intro _ _; refine xF ?_; refine zX (yN ?_ ?_) <;> (intro h hp k; (try subst k); (try simp only [q_n] at hp); try first | omega | (cases hp; done)); refine zZ (zR ?_); (iterate 4 refine zR ?_); refine xL rfl rfl rfl (xJ rfl rfl (zB (by kernel_rfl)) (c1 h1 _ _)) ?_; rintro _ _ ⟨rfl, S, hS, rfl⟩; refine zX (zY (zZ ?_)); (iterate 2 refine zR ?_); refine xY ?_; intro _ _; refine zR ?_; refine xT ?_ ?_ <;> (intro h hp k; (try subst k); (try simp only [q_n] at hp); try first | omega | (cases hp; done)); (iterate 2 refine vN ?_); refine wT ?_; intro _ _; refine xF ?_; refine zX (yN ?_ ?_) <;> (intro h hp k; (try subst k); (try simp only [q_n] at hp); try first | omega | (cases hp; done)); refine zW ?_; simp only [zA, zF, zE, zH, yK, ↓reduceIte, Nat.reduceEqDiff]; rotate_left; (all_goals (repeat (rename BV _ _ => hbv; cases hbv))); (all_goals (try (first | cases ‹true = false› | cases ‹false = true›))))
      | (refine zY (zY (zZ ?_)); (iterate 2 refine zR ?_); refine zD ?_ ?_ <;> (intro h hp; (try simp only [q_n] at hp); try first | omega | (cases hp; done)); refine yQ ?_; refine zY (zZ ?_); (iterate 2 refine zR ?_); refine xSu ?_; refine zP ?_; refine zX (zY (zY (zZ ?_))); (iterate 2 refine zR ?_); refine xY ?_; intro _ _; refine zR ?_; refine xT ?_ ?_ <;> (intro h hp k; (try subst k); (try simp only [q_n] at hp); try first | omega | (cases hp; done)); (iterate 2 refine vN ?_); refine wT ?_; intro _ _; refine xF ?_; refine zX (yN ?_ ?_) <;> (intro h hp k; (try subst k); (try simp only [q_n] at hp); try first | omega | (cases hp; done)); refine zZ (zR ?_); (iterate 4 refine zR ?_); refine xL rfl rfl rfl (xJ rfl rfl (zB (by kernel_rfl)) (by rw [henz]; exact crot hr _ _)) ?_; rintro _ _ ⟨rfl, rfl⟩; refine zX (zY (zY (zZ ?_))); (iterate 2 refine zR ?_); refine xY ?_; intro _ _; refine zR ?_; refine xT ?_ ?_ <;> (intro h hp k; (try subst k); (try simp only [q_n] at hp); try first | omega | (cases hp; done)); (iterate 3 refine yC ?_); refine yB ?_; refine zX (yH rfl (by rfl) ?_); refine zW (zY (zZ ?_)); (iterate 2 refine zR ?_); refine xY ?_; intro _ _; refine zR ?_; refine xT ?_ ?_ <;> (intro h hp k; (try subst k); (try simp only [q_n] at hp); try first | omega | (cases hp; done)); (iterate 2 refine vN ?_); refine wT ?_; intro _ _; refine xF ?_; refine zX (yN ?_ ?_) <;> (intro h hp k; (try subst k); (try simp only [q_n] at hp); try first | omega | (cases hp; done)); refine zZ (zR ?_); (iterate 4 refine zR ?_); refine xL rfl rfl rfl (xJ rfl rfl (zB (by kernel_rfl)) (by rw [henz]; exact c2 _ hS h2 _ _)) ?_; rintro _ _ ⟨rfl, T, hT, rfl⟩; refine zQ ?_; simp only [zA, zF, zE, zH, yK, ↓reduceIte, Nat.reduceEqDiff]; rotate_left; (all_goals (repeat (rename BV _ _ => hbv; cases hbv))); (all_goals (try (first | cases ‹true = false› | cases ‹false = true›))))
      | (refine zY (zY (zZ ?_)); (iterate 2 refine zR ?_); refine zD ?_ ?_ <;> (intro h hp; (try simp only [q_n] at hp); try first | omega | (cases hp; done)); refine yQ ?_; refine zY (zZ ?_); (iterate 2 refine zR ?_); refine xSu ?_; refine zP ?_; refine zX (zY (zY (zZ ?_))); (iterate 2 refine zR ?_); refine xY ?_; intro _ _; refine zR ?_; refine xT ?_ ?_ <;> (intro h hp k; (try subst k); (try simp only [q_n] at hp); try first | omega | (cases hp; done)); (iterate 2 refine vN ?_); refine wT ?_; intro _ _; refine xF ?_; refine zX (yN ?_ ?_) <;> (intro h hp k; (try subst k); (try simp only [q_n] at hp); try first | omega | (cases hp; done)); refine zZ (zR ?_); (iterate 4 refine zR ?_); refine xL rfl rfl rfl (xJ rfl rfl (zB (by kernel_rfl)) (by rw [henz]; exact crot hr _ _)) ?_; rintro _ _ ⟨rfl, rfl⟩; refine zX (zY (zY (zZ ?_))); (iterate 2 refine zR ?_); refine xY ?_; intro _ _; refine zR ?_; refine xT ?_ ?_ <;> (intro h hp k; (try subst k); (try simp only [q_n] at hp); try first | omega | (cases hp; done)); (iterate 3 refine yC ?_); refine yB ?_; refine zX (yH rfl (by rfl) ?_); refine zW (zY (zZ ?_)); (iterate 2 refine zR ?_); refine xY ?_; intro _ _; refine zR ?_; refine xT ?_ ?_ <;> (intro h hp k; (try subst k); (try simp only [q_n] at hp); try first | omega | (cases hp; done)); (iterate 2 refine vN ?_); refine wT ?_; intro _ _; refine xF ?_; refine zX (yN ?_ ?_) <;> (intro h hp k; (try subst k); (try simp only [q_n] at hp); try first | omega | (cases hp; done)); refine zW ?_; simp only [zA, zF, zE, zH, yK, ↓reduceIte, Nat.reduceEqDiff]; rotate_left; (all_goals (repeat (rename BV _ _ => hbv; cases hbv))); (all_goals (try (first | cases ‹true = false› | cases ‹false = true›))))
      | (refine zY (zY (zZ ?_)); (iterate 2 refine zR ?_); refine zD ?_ ?_ <;> (intro h hp; (try simp only [q_n] at hp); try first | omega | (cases hp; done)); refine yQ ?_; refine zY (zZ ?_); (iterate 2 refine zR ?_); refine xSu ?_; refine zP ?_; refine zX (zY (zY (zZ ?_))); (iterate 2 refine zR ?_); refine xY ?_; intro _ _; refine zR ?_; refine xT ?_ ?_ <;> (intro h hp k; (try subst k); (try simp only [q_n] at hp); try first | omega | (cases hp; done)); (iterate 2 refine vN ?_); refine wT ?_; intro _ _; refine xF ?_; refine zX (yN ?_ ?_) <;> (intro h hp k; (try subst k); (try simp only [q_n] at hp); try first | omega | (cases hp; done)); refine zW (zY (zY (zZ ?_))); (iterate 2 refine zR ?_); refine xY ?_; intro _ _; refine zR ?_; refine xT ?_ ?_ <;> (intro h hp k; (try subst k); (try simp only [q_n] at hp); try first | omega | (cases hp; done)); (iterate 2 refine vN ?_); refine wT ?_; intro _ _; refine xF ?_; refine zX (yN ?_ ?_) <;> (intro h hp k; (try subst k); (try simp only [q_n] at hp); try first | omega | (cases hp; done)); refine zW (zY (zZ ?_)); (iterate 2 refine zR ?_); refine xY ?_; intro _ _; refine zR ?_; refine xT ?_ ?_ <;> (intro h hp k; (try subst k); (try simp only [q_n] at hp); try first | omega | (cases hp; done)); (iterate 2 refine vN ?_); refine wT ?_; intro _ _; refine xF ?_; refine zX (yN ?_ ?_) <;> (intro h hp k; (try subst k); (try simp only [q_n] at hp); try first | omega | (cases hp; done)); refine zZ (zR ?_); (iterate 4 refine zR ?_); refine xL rfl rfl rfl (xJ rfl rfl (zB (by kernel_rfl)) (by rw [henz]; exact c2 _ hS h2 _ _)) ?_; rintro _ _ ⟨rfl, T, hT, rfl⟩; refine zQ ?_; simp only [zA, zF, zE, zH, yK, ↓reduceIte, Nat.reduceEqDiff]; rotate_left; (all_goals (repeat (rename BV _ _ => hbv; cases hbv))); (all_goals (try (first | cases ‹true = false› | cases ‹false = true›))))
      | (refine zY (zY (zZ ?_)); (iterate 2 refine zR ?_); refine zD ?_ ?_ <;> (intro h hp; (try simp only [q_n] at hp); try first | omega | (cases hp; done)); refine yQ ?_; refine zY (zZ ?_); (iterate 2 refine zR ?_); refine xSu ?_; refine zP ?_; refine zX (zY (zY (zZ ?_))); (iterate 2 refine zR ?_); refine xY ?_; intro _ _; refine zR ?_; refine xT ?_ ?_ <;> (intro h hp k; (try subst k); (try simp only [q_n] at hp); try first | omega | (cases hp; done)); (iterate 3 refine yC ?_); refine yB ?_; refine zX (yH rfl (by rfl) ?_); refine zW (zY (zY (zZ ?_))); (iterate 2 refine zR ?_); refine xY ?_; intro _ _; refine zR ?_; refine xT ?_ ?_ <;> (intro h hp k; (try subst k); (try simp only [q_n] at hp); try first | omega | (cases hp; done)); (iterate 2 refine vN ?_); refine wT ?_; intro _ _; refine xF ?_; refine zX (yN ?_ ?_) <;> (intro h hp k; (try subst k); (try simp only [q_n] at hp); try first | omega | (cases hp; done)); refine zZ (zR ?_); (iterate 4 refine zR ?_); refine xL rfl rfl rfl (xJ rfl rfl (zB (by kernel_rfl)) (c1 h1 _ _)) ?_; rintro _ _ ⟨rfl, S, hS, rfl⟩; refine zX (zY (zZ ?_)); (iterate 2 refine zR ?_); refine xY ?_; intro _ _; refine zR ?_; refine xT ?_ ?_ <;> (intro h hp k; (try subst k); (try simp only [q_n] at hp); try first | omega | (cases hp; done)); (iterate 3 refine yC ?_); refine yB ?_; refine zX (yH rfl (by rfl) ?_); refine zW ?_; simp only [zA, zF, zE, zH, yK, ↓reduceIte, Nat.reduceEqDiff]; rotate_left; (all_goals (repeat (rename BV _ _ => hbv; cases hbv))); (all_goals (try (first | cases ‹true = false› | cases ‹false = true›))))
      | (refine zY (zY (zZ ?_)); (iterate 2 refine zR ?_); refine zD ?_ ?_ <;> (intro h hp; (try simp only [q_n] at hp); try first | omega | (cases hp; done)); refine yQ ?_; refine zY (zZ ?_); (iterate 2 refine zR ?_); refine xSu ?_; refine zP ?_; refine zX (zY (zY (zZ ?_))); (iterate 2 refine zR ?_); refine xY ?_; intro _ _; refine zR ?_; refine xT ?_ ?_ <;> (intro h hp k; (try subst k); (try simp only [q_n] at hp); try first | omega | (cases hp; done)); (iterate 3 refine yC ?_); refine yB ?_; refine zX (yH rfl (by rfl) ?_); refine zW (zY (zY (zZ ?_))); (iterate 2 refine zR ?_); refine xY ?_; intro _ _; refine zR ?_; refine xT ?_ ?_ <;> (intro h hp k; (try subst k); (try simp only [q_n] at hp); try first | omega | (cases hp; done)); (iterate 2 refine vN ?_); refine wT ?_; intro _ _; refine xF ?_; refine zX (yN ?_ ?_) <;> (intro h hp k; (try subst k); (try simp only [q_n] at hp); try first | omega | (cases hp; done)); refine zW (zY (zZ ?_)); (iterate 2 refine zR ?_); refine xY ?_; intro _ _; refine zR ?_; refine xT ?_ ?_ <;> (intro h hp k; (try subst k); (try simp only [q_n] at hp); try first | omega | (cases hp; done)); (iterate 3 refine yC ?_); refine yB ?_; refine zX (yH rfl (by rfl) ?_); refine zW ?_; simp only [zA, zF, zE, zH, yK, ↓reduceIte, Nat.reduceEqDiff]; rotate_left; (all_goals (repeat (rename BV _ _ => hbv; cases hbv))); (all_goals (try (first | cases ‹true = false› | cases ‹false = true›))))
      | (refine zY (zY (zZ ?_)); (iterate 2 refine zR ?_); refine zD ?_ ?_ <;> (intro h hp; (try simp only [q_n] at hp); try first | omega | (cases hp; done)); (all_goals (repeat (rename BV _ _ => hbv; cases hbv))); (all_goals (try (first | cases ‹true = false› | cases ‹false = true›))))
     all_goals
      refine xX (σ3 := _ :: σ) ?_
      first
       | exact zJ ⟨rfl, _, hfin _ _ hS hT, rfl⟩
       | exact zJ ⟨rfl, _, hfin _ _ hS (hT0 h2), by rw [hF2]⟩
abbrev Bk := List Ey × List Ey
def GoodB (p : Bk) : Prop := p.2.Perm p.1 ∧ p.2.Pairwise qL
def qK (B : List Bk) : List Ey := (B.map (·.1)).flatten
def uE (B : List Bk) : List Ey := (B.map (·.2)).flatten
structure BlocksE (n : Nat) (B : List Bk) : Prop where
 good : ∀ p ∈ B, GoodB p
 size : ∀ p ∈ B, p.1.length = n
theorem fsts_app (A B : List Bk) : qK (A ++ B) = qK A ++ qK B := by unfold qK; simp
theorem snds_app (A B : List Bk) : uE (A ++ B) = uE A ++ uE B := by unfold uE; simp
theorem fsts_cons (p : Bk) (B : List Bk) : qK (p :: B) = p.1 ++ qK B := rfl
theorem snds_cons (p : Bk) (B : List Bk) : uE (p :: B) = p.2 ++ uE B := rfl
theorem BlocksE.app {n : Nat} {A B : List Bk} (h : BlocksE n A) (k : BlocksE n B) : BlocksE n (A ++ B) :=
 ⟨fun p hp => (List.mem_append.1 hp).elim (h.good p) (k.good p), fun p hp => (List.mem_append.1 hp).elim (h.size p) (k.size p)⟩
theorem BlocksE.one {n : Nat} {p : Bk} (h : GoodB p) (k : p.1.length = n) : BlocksE n [p] :=
 ⟨fun q hq => by rw [List.mem_singleton] at hq; subst hq; exact h, fun q hq => by rw [List.mem_singleton] at hq; subst hq; exact k⟩
theorem BlocksE.nil {n : Nat} : BlocksE n [] := ⟨by simp, by simp⟩
theorem fsts_len {n : Nat} : ∀ {B : List Bk}, BlocksE n B → (qK B).length = B.length * n
 | [], _ => by simp [qK]
 | p :: B, h => by
  rw [fsts_cons, List.length_append, h.size p (by simp), fsts_len (B := B) ⟨fun q hq => h.good q (by simp [hq]), fun q hq => h.size q (by simp [hq])⟩, List.length_cons, Nat.add_mul]; omega
theorem snds_perm : ∀ {B : List Bk}, (∀ p ∈ B, GoodB p) → (uE B).Perm (qK B)
 | [], _ => List.Perm.refl _
 | p :: B, h => by
  rw [fsts_cons, snds_cons]
  exact ((h p (by simp)).1).append (snds_perm fun q hq => h q (by simp [hq]))
theorem snds_len {n : Nat} {B : List Bk} (h : BlocksE n B) : (uE B).length = B.length * n := by
 rw [(snds_perm h.good).length_eq, fsts_len h]
theorem left_of {X Y : List Ey} {A B C : List Ey} {X0 Y0 E : List Ey} (hE : E.Pairwise fun x y => x.1 < y.1) (he : E = A ++ X0 ++ B ++ Y0 ++ C) (hX : X.Perm X0) (hY : Y.Perm Y0) : Left X Y := by
 intro x hx y hy _
 rw [he] at hE
 have h1 := (List.pairwise_append.1 hE).1
 have h2 := (List.pairwise_append.1 h1).2.2
 exact h2 x (by simp [hX.mem_iff.1 hx]) y (hY.mem_iff.1 hy)
theorem merged_good {X Y : Bk} {S : List Ey} (hX : GoodB X) (hY : GoodB Y) (h : MergedE X.2 Y.2 S) : GoodB (X.1 ++ Y.1, S) :=
 ⟨h.perm.trans (hX.1.append hY.1), h.up⟩
theorem sorted_is {E S : List Ey} (hE : E.Pairwise fun x y => x.1 < y.1) (hp : S.Perm E) (hu : S.Pairwise qL) : S = sortE E :=
 same_up ltE_asymm hu (sortE_up hE) fun y => by rw [hp.mem_iff, sortE_mem]
end Go.Proofs.YtkhoengjdfmfaaaGreat
