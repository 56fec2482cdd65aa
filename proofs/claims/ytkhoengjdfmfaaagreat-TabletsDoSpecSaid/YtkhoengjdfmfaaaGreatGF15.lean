/- Parts of the proof that belong together: Uj Syr Ul Uk Sn Syb. -/
import Derived.Test.YtkhoengjdfmfaaaGreatGF03
import Derived.Test.YtkhoengjdfmfaaaGreatGF04
import Derived.Test.YtkhoengjdfmfaaaGreatGF06
import Derived.Test.YtkhoengjdfmfaaaGreatGF14
import Derived.Shelf.SlSortCmp.WholeK
import Derived.Shelf.SlSortCmp.NoneTotal
import Derived.Shelf.SlicesG.Cmp
import Derived.Ground.SlsfProg
import Derived.Ground.SlgcProg
import Derived.Ground.NamesProg
import Derived.Test.YtkhoengjdfmfaaaGreatProg
import Derived.Shelf.Sort.Plain
import Derived.Sort.OwnSortedInts
import Derived.Shelf.Slices.In.SortNone
set_option maxRecDepth 10000
set_option maxHeartbeats 16000000
set_option linter.unusedSimpArgs false
set_option linter.unusedVariables false
namespace Go.Proofs.YtkhoengjdfmfaaaGreat
theorem stable_c (E : List Ey) (hE : E.Pairwise fun x y => x.1 < y.1) (hl : E.length ≤ 2000) (v : Value) (σ : List Ent) :
  SCall Tryz.prog 72 [.slv v, .int .i64 (E.length : Nat), entF'] (rowE v E :: σ) (fun r τ => r = .tup [] ∧ τ = rowE v (sortE E) :: σ) := by
 refine zL Tryz.func72 rfl (by simp) ?_
 obtain ⟨n, hn⟩ : ∃ n, E.length = n := ⟨_, rfl⟩
 rw [hn]
 refine zY (zZ ?_); refine zP ?_; refine zX (zY (zZ ?_)); refine zR ?_; (iterate 2 refine zP ?_); refine zX (zY (zT ?_)); rotate_left
 all_goals ((repeat (rename BV _ _ => k; first | cases k | clear k)); try exact zN)
 refine yD (fun (z : List Bk × List Ey) => (⟨[(0, .slv v), (1, .int .i64 n), (2, entF'), (6, .int .i64 20), (7, .int .i64 ((z.1.length * 20 : Nat) : Int)), (8, .int .i64 ((z.1.length * 20 + 20 : Nat) : Int))], rowE v (uE z.1 ++ z.2) :: σ, [], Tryz.f72.ntmps⟩ : St)) (fun z => E = qK z.1 ++ z.2 ∧ BlocksE 20 z.1) (fun z => z.2.length) ([], E) (⟨rfl, BlocksE.nil⟩) (St.le_of (by repeat (first | exact trivial | refine ⟨rfl, ?_⟩)) (by repeat (first | exact q_r | apply q_q | apply q_k))) ?_
 intro z hI
 obtain ⟨B, R⟩ := z
 obtain ⟨hI1, hI2⟩ := hI
 dsimp only at hI1 hI2 ⊢
 have hfl := fsts_len hI2
 have hsl := snds_len hI2
 have hEl : n = B.length * 20 + R.length := by rw [← hn, hI1, List.length_append, hfl]
 have hRup : R.Pairwise fun x y => x.1 < y.1 := by rw [hI1] at hE; exact (List.pairwise_append.1 hE).2.1
 by_cases hb : B.length * 20 + 20 ≤ n
 ·obtain ⟨X, R', hX, hX20⟩ : ∃ X R', R = X ++ R' ∧ X.length = 20 := ⟨R.take 20, R.drop 20, (List.take_append_drop _ _).symm, by rw [List.length_take]; omega⟩
  have hXup : X.Pairwise fun x y => x.1 < y.1 := by rw [hX] at hRup; exact (List.pairwise_append.1 hRup).1
  have hRl : R.length = 20 + R'.length := by rw [hX, List.length_append, hX20]
  have cc := insertion_c (uE B) X R' (B.length * 20) (B.length * 20 + 20) hsl (by omega) hXup (by simp; omega) v σ
  have hrow : uE B ++ R = uE B ++ X ++ R' := by rw [hX]; simp
  rw [hrow]
  have hnew : ∀ S, S.Perm X → S.Pairwise qL → E = qK (B ++ [(X, S)]) ++ R' ∧ BlocksE 20 (B ++ [(X, S)]) := fun S h1 h2 => ⟨by rw [hI1, hX, fsts_app]; simp [qK], hI2.app (.one ⟨h1, h2⟩ hX20)⟩
  have hsn : ∀ S, uE B ++ S ++ R' = uE (B ++ [(X, S)]) ++ R' := fun S => by rw [snds_app]; simp [uE]
  have hz1 : ∀ S : List Ey, ((B ++ [(X, S)]).length * 20 : Nat) = B.length * 20 + 20 := fun S => by rw [List.length_append, List.length_singleton]; omega
  have hz2 : ((B.length * 20 + 20 : Nat) : Int) + 20 = ((B.length * 20 + 20 + 20 : Nat) : Int) := by omega
  clear hI1 hI2 hE hRup hXup hrow hX
  refine zY (zY (zZ ?_)); (iterate 2 refine zR ?_); refine zD ?_ ?_ <;> (intro h hp; (try simp only [q_n] at hp); try first | omega | (cases hp; done));
  refine zW (zT ?_); refine zY (zZ ?_); (iterate 4 refine zR ?_); refine xL rfl rfl rfl (xJ rfl rfl (zB (by kernel_rfl)) cc) ?_; rintro _ _ ⟨rfl, S, hS1, hS2, rfl⟩; refine zX (zY (zZ ?_)); refine zR ?_; refine zP ?_; refine zX (zZ (zR ?_)); refine zR ?_; refine vX ?_; refine zP ?_; refine zQ ?_; simp only [zA, zF, zE, zH, yK, ↓reduceIte, Nat.reduceEqDiff]; rotate_left
  all_goals ((repeat (rename BV _ _ => k; first | cases k | clear k)); try exact zN)
  rw [hsn, hz2]
  refine ⟨(B ++ [(X, S)], R'), hnew S hS1 hS2, by dsimp only; omega, ?_⟩
  dsimp only
  rw [hz1]
  exact wW
 ·have cc := insertion_c (uE B) R [] (B.length * 20) n hsl (by omega) hRup (by simp; omega) v σ
  simp only [List.append_nil] at cc
  have hRl : R.length < 20 := by omega
  have hlast : ∀ S, S.Perm R → S.Pairwise qL → E = qK B ++ (R, S).1 ∧ GoodB (R, S) := fun S h1 h2 => ⟨hI1, h1, h2⟩
  clear hRup
  refine zY (zY (zZ ?_)); (iterate 2 refine zR ?_); refine zD ?_ ?_ <;> (intro h hp; (try simp only [q_n] at hp); try first | omega | (cases hp; done));
  refine yQ ?_; refine zY (zZ ?_); (iterate 4 refine zR ?_); refine xL rfl rfl rfl (xJ rfl rfl (zB (by kernel_rfl)) cc) ?_; rintro _ _ ⟨rfl, S, hS1, hS2, rfl⟩; refine zX (zT ?_); rotate_left
  all_goals ((repeat (rename BV _ _ => k; first | cases k | clear k)); try exact zN)
  obtain ⟨hl1, hl2⟩ := hlast S hS1 hS2
  refine yD (fun (z : List Bk × Bk × Nat) => (⟨[(0, .slv v), (1, .int .i64 n), (2, entF'), (6, .int .i64 z.2.2)], rowE v (uE z.1 ++ z.2.1.2) :: σ, [], Tryz.f72.ntmps⟩ : St)) (fun z => E = qK z.1 ++ z.2.1.1 ∧ BlocksE z.2.2 z.1 ∧ GoodB z.2.1 ∧ z.2.1.1.length < z.2.2 ∧ z.2.2 ≤ 4000) (fun z => n - z.2.2) (B, (R, S), 20) (⟨hl1, hI2, hl2, hRl, by dsimp only; omega⟩) (St.le_of (by repeat (first | exact trivial | refine ⟨rfl, ?_⟩)) (by repeat (first | exact q_r | apply q_q | apply q_k))) ?_
  intro z hI
  clear cc hlast hl1 hl2 hS1 hS2 hRl hI1 hI2 hfl hsl hEl
  obtain ⟨B, o, bs⟩ := z
  obtain ⟨hI1, hI2, hI3, hI4, hI5⟩ := hI
  dsimp only at hI1 hI2 hI3 hI4 hI5 ⊢
  have hfl := fsts_len hI2
  have hEl : n = B.length * bs + o.1.length := by rw [← hn, hI1, List.length_append, hfl]
  by_cases hbn : bs < n
  ·obtain ⟨d, hd⟩ : ∃ d, 2 * bs = d := ⟨_, rfl⟩
   have hdz : (2 : Int) * (bs : Int) = (d : Int) := by omega
   have hdz2 : (bs : Int) * 2 = (d : Int) := by omega
   refine zY (zY (zZ ?_)); (iterate 2 refine zR ?_); refine zD ?_ ?_ <;> (intro h hp; (try simp only [q_n] at hp); try first | omega | (cases hp; done));
   refine zW (zT ?_); refine zY (zZ ?_); refine zR ?_; apply zU; rfl; rfl; rfl; (apply g_mul; rfl; rfl; rfl; exact ⟨by omega, by omega⟩); (iterate 2 refine zP ?_); refine zX (zY (zT ?_)); rotate_left
   all_goals ((repeat (rename BV _ _ => k; first | cases k | clear k)); try exact zN)
   rw [hdz]
   refine ex_int (t := 7) (y := ((([] : List Bk).length * d : Nat) : Int)) rfl (by simp) ?_
   refine ex_int (t := 8) (y := ((([] : List Bk).length * d + d : Nat) : Int)) rfl (by simp) ?_
   refine yD (fun (w : List Bk × List Bk) => (⟨[(0, .slv v), (1, .int .i64 n), (2, entF'), (6, .int .i64 bs), (7, .int .i64 ((w.1.length * d : Nat) : Int)), (8, .int .i64 ((w.1.length * d + d : Nat) : Int))], rowE v (uE w.1 ++ uE w.2 ++ o.2) :: σ, [], Tryz.f72.ntmps⟩ : St)) (fun w => E = qK w.1 ++ qK w.2 ++ o.1 ∧ BlocksE d w.1 ∧ BlocksE bs w.2) (fun w => w.2.length) ([], B) (⟨hI1, BlocksE.nil, hI2⟩) (St.le_of (by repeat (first | exact trivial | refine ⟨rfl, ?_⟩)) (by repeat (first | exact q_r | apply q_q | apply q_k))) ?_
   intro w hI
   clear hI1 hI2 hfl hEl
   obtain ⟨D, C⟩ := w
   obtain ⟨hJ1, hJ2, hJ3⟩ := hI
   dsimp only at hJ1 hJ2 hJ3 ⊢
   have hDl := snds_len hJ2
   have hDf := fsts_len hJ2
   have hol : o.2.length = o.1.length := hI3.1.length_eq
   have hEl : n = D.length * d + (qK C).length + o.1.length := by rw [← hn, hJ1, List.length_append, List.length_append, hDf]
   obtain ⟨a, ha⟩ : ∃ a, D.length * d = a := ⟨_, rfl⟩
   have hnx : ∀ p : Bk, (D ++ [p]).length * d = a + d := fun p => by rw [List.length_append, List.length_singleton, Nat.add_mul, ha]; omega
   rw [ha] at hDl hEl ⊢
   match C, hJ1, hJ3, hEl with
   | [], hJ1, hJ3, hEl =>
    have hEl2 : n = a + o.1.length := by simpa [qK] using hEl
    have e1 : E = qK D ++ o.1 := by simpa [qK] using hJ1
    have e2 : uE D ++ uE [] ++ o.2 = uE D ++ o.2 := by simp [uE]
    rw [e2]
    clear hJ1 hJ3 hEl hDf
    refine zY (zY (zZ ?_)); (iterate 2 refine zR ?_); refine zD ?_ ?_ <;> (intro h hp; (try simp only [q_n] at hp); try first | omega | (cases hp; done));
    refine yQ ?_; refine zY (zY (zZ ?_)); (iterate 2 refine zR ?_); refine vX ?_; refine zP ?_; refine zX (zY (zZ ?_)); (iterate 2 refine zR ?_); refine zD ?_ ?_ <;> (intro h hp; (try simp only [q_n] at hp); try first | omega | (cases hp; done));
    refine zW (zZ (zR ?_)); apply zU; rfl; rfl; rfl; (apply g_mul; rfl; rfl; rfl; exact ⟨by omega, by omega⟩); refine zP ?_; refine zQ ?_; simp only [zA, zF, zE, zH, yK, ↓reduceIte, Nat.reduceEqDiff]; rotate_left
    all_goals ((repeat (rename BV _ _ => k; first | cases k | clear k)); try exact zN)
    rw [hdz2]
    refine ⟨(D, o, d), ⟨e1, hJ2, hI3, by dsimp only; omega, by dsimp only; omega⟩, by dsimp only; omega, ?_⟩
    dsimp only
    exact wW
   | [p], hJ1, hJ3, hEl =>
    have hpl := hJ3.size p (by simp)
    have hpg := hJ3.good p (by simp)
    have hpl2 : p.2.length = bs := by rw [hpg.1.length_eq, hpl]
    have hEl2 : n = a + bs + o.1.length := by rw [hEl]; simp [qK]; omega
    have e0 : E = qK D ++ p.1 ++ o.1 := by rw [hJ1]; simp [qK]
    have e2 : uE D ++ uE [p] ++ o.2 = uE D ++ p.2 ++ o.2 := by simp [uE]
    rw [e2]
    by_cases ho : o.1.length = 0
    ·have ho1 : o.1 = [] := nil_len ho
     have ho2 : o.2 = [] := nil_len (by omega)
     have e1 : E = qK D ++ p.1 := by rw [e0, ho1]; simp
     have e3 : uE D ++ p.2 ++ o.2 = uE D ++ p.2 := by rw [ho2]; simp
     rw [e3]
     clear hJ1 hJ3 hEl hDf e0 e2
     refine zY (zY (zZ ?_)); (iterate 2 refine zR ?_); refine zD ?_ ?_ <;> (intro h hp; (try simp only [q_n] at hp); try first | omega | (cases hp; done));
     refine yQ ?_; refine zY (zY (zZ ?_)); (iterate 2 refine zR ?_); refine vX ?_; refine zP ?_; refine zX (zY (zZ ?_)); (iterate 2 refine zR ?_); refine zD ?_ ?_ <;> (intro h hp; (try simp only [q_n] at hp); try first | omega | (cases hp; done));
     refine zW (zZ (zR ?_)); apply zU; rfl; rfl; rfl; (apply g_mul; rfl; rfl; rfl; exact ⟨by omega, by omega⟩); refine zP ?_; refine zQ ?_; simp only [zA, zF, zE, zH, yK, ↓reduceIte, Nat.reduceEqDiff]; rotate_left
     all_goals ((repeat (rename BV _ _ => k; first | cases k | clear k)); try exact zN)
     rw [hdz2]
     refine ⟨(D, p, d), ⟨e1, hJ2, hpg, by dsimp only; omega, by dsimp only; omega⟩, by dsimp only; omega, ?_⟩
     dsimp only
     exact wW
    ·have hL : Left p.2 o.2 := left_of (A := qK D) (X0 := p.1) (B := []) (Y0 := o.1) (C := []) hE (by rw [e0]; simp) hpg.1 hI3.1
     have cc := sym_c (p.2.length + o.2.length) (uE D) p.2 o.2 [] a (a + bs) n hDl (by omega) (by omega) (len_pos (by omega)) (len_pos (by omega)) hpg.2 hI3.2 hL (by simp; omega) (Nat.le_refl _) v σ
     simp only [List.append_nil] at cc
     have hm : ∀ S, MergedE p.2 o.2 S → E = qK D ++ (p.1 ++ o.1) ∧ GoodB (p.1 ++ o.1, S) := fun S h => ⟨by rw [e0]; simp, merged_good hpg hI3 h⟩
     have hml : (p.1 ++ o.1).length < d := by rw [List.length_append]; omega
     have hz1 : (a : Int) + (bs : Int) = ((a + bs : Nat) : Int) := by omega
     clear hJ1 hJ3 hEl hDf e0 e2
     refine zY (zY (zZ ?_)); (iterate 2 refine zR ?_); refine zD ?_ ?_ <;> (intro h hp; (try simp only [q_n] at hp); try first | omega | (cases hp; done));
     refine yQ ?_; refine zY (zY (zZ ?_)); (iterate 2 refine zR ?_); refine vX ?_; refine zP ?_; refine zX (zY (zZ ?_)); (iterate 2 refine zR ?_); refine zD ?_ ?_ <;> (intro h hp; (try simp only [q_n] at hp); try first | omega | (cases hp; done));
     refine zZ (zR ?_); (iterate 4 refine zR ?_); refine xL rfl rfl rfl (xJ rfl rfl (zB (by kernel_rfl)) (by rw [hz1]; exact cc)) ?_; rintro _ _ ⟨rfl, S, hS, rfl⟩; refine zX (zZ (zR ?_)); apply zU; rfl; rfl; rfl; (apply g_mul; rfl; rfl; rfl; exact ⟨by omega, by omega⟩); refine zP ?_; refine zQ ?_; simp only [zA, zF, zE, zH, yK, ↓reduceIte, Nat.reduceEqDiff]; rotate_left
     all_goals ((repeat (rename BV _ _ => k; first | cases k | clear k)); try exact zN)
     rw [hdz2]
     refine ⟨(D, (p.1 ++ o.1, S), d), ⟨(hm S hS).1, hJ2, (hm S hS).2, hml, by dsimp only; omega⟩, by dsimp only; omega, ?_⟩
     dsimp only
     exact wW
   | p :: q :: C, hJ1, hJ3, hEl =>
    have hpl := hJ3.size p (by simp)
    have hpg := hJ3.good p (by simp)
    have hpl2 : p.2.length = bs := by rw [hpg.1.length_eq, hpl]
    have hql := hJ3.size q (by simp)
    have hqg := hJ3.good q (by simp)
    have hql2 : q.2.length = bs := by rw [hqg.1.length_eq, hql]
    have hC : BlocksE bs C := ⟨fun u hu => hJ3.good u (by simp [hu]), fun u hu => hJ3.size u (by simp [hu])⟩
    have hCl := fsts_len hC
    have hCl2 := snds_len hC
    have hEl2 : n = a + bs + bs + (qK C).length + o.1.length := by rw [hEl, fsts_cons, fsts_cons, List.length_append, List.length_append]; omega
    have e0 : E = qK D ++ p.1 ++ [] ++ q.1 ++ (qK C ++ o.1) := by rw [hJ1, fsts_cons, fsts_cons]; simp
    have e2 : uE D ++ uE (p :: q :: C) ++ o.2 = uE D ++ p.2 ++ q.2 ++ (uE C ++ o.2) := by rw [snds_cons, snds_cons]; simp
    rw [e2]
    have hL : Left p.2 q.2 := left_of hE e0 hpg.1 hqg.1
    have cc := sym_c (p.2.length + q.2.length) (uE D) p.2 q.2 (uE C ++ o.2) a (a + bs) (a + d) hDl (by omega) (by omega) (len_pos (by omega)) (len_pos (by omega)) hpg.2 hqg.2 hL (by rw [List.length_append]; omega) (Nat.le_refl _) v σ
    have hm : ∀ S, MergedE p.2 q.2 S → E = qK (D ++ [(p.1 ++ q.1, S)]) ++ qK C ++ o.1 ∧ BlocksE d (D ++ [(p.1 ++ q.1, S)]) ∧ BlocksE bs C := fun S h => ⟨by rw [e0, fsts_app]; simp [qK], hJ2.app (.one (merged_good hpg hqg h) (by rw [List.length_append]; omega)), hC⟩
    have hsn : ∀ S, uE D ++ S ++ (uE C ++ o.2) = uE (D ++ [(p.1 ++ q.1, S)]) ++ uE C ++ o.2 := fun S => by rw [snds_app]; simp [uE]
    have hz1 : (a : Int) + (bs : Int) = ((a + bs : Nat) : Int) := by omega
    have hz2 : ((a + d : Nat) : Int) + 2 * (bs : Int) = ((a + d + d : Nat) : Int) := by omega
    have hle : a + d ≤ n := by omega
    clear hJ1 hJ3 hEl hDf e0 e2
    refine zY (zY (zZ ?_)); (iterate 2 refine zR ?_); refine zD ?_ ?_ <;> (intro h hp; (try simp only [q_n] at hp); try first | omega | (cases hp; done));
    refine zW (zT ?_); refine zY (zZ ?_); (iterate 4 refine zR ?_); refine vX ?_; (iterate 2 refine zR ?_); refine xL rfl rfl rfl (xJ rfl rfl (zB (by kernel_rfl)) (by rw [hz1]; exact cc)) ?_; rintro _ _ ⟨rfl, S, hS, rfl⟩; refine zX (zY (zZ ?_)); refine zR ?_; refine zP ?_; refine zX (zZ (zR ?_)); refine zR ?_; apply zU; rfl; rfl; rfl; (apply g_mul; rfl; rfl; rfl; exact ⟨by omega, by omega⟩); refine vX ?_; refine zP ?_; refine zQ ?_; simp only [zA, zF, zE, zH, yK, ↓reduceIte, Nat.reduceEqDiff]; rotate_left
    all_goals ((repeat (rename BV _ _ => k; first | cases k | clear k)); try exact zN)
    rw [hsn, hz2]
    refine ⟨(D ++ [(p.1 ++ q.1, S)], C), hm S hS, by dsimp only; simp only [List.length_cons]; omega, ?_⟩
    dsimp only
    rw [hnx]
    exact wW
  ·have hres : uE B ++ o.2 = sortE E := by
    refine sorted_is hE (by rw [hI1]; exact (snds_perm hI2.good).append hI3.1) ?_
    match B, hI2, hEl with
    | [], _, _ => simpa [uE] using hI3.2
    | [p], hI2, hEl =>
     have ho : o.2 = [] := nil_len (by rw [hI3.1.length_eq]; simp at hEl; omega)
     rw [ho]; simpa [uE] using (hI2.good p (by simp)).2
    | p :: q :: C, hI2, hEl =>
     exfalso
     simp only [List.length_cons, Nat.add_mul, Nat.one_mul] at hEl
     omega
   rw [hres]
   clear hI1 hI2 hI3 hfl hEl hres hE
   refine zY (zY (zZ ?_)); (iterate 2 refine zR ?_); refine zD ?_ ?_ <;> (intro h hp; (try simp only [q_n] at hp); try first | omega | (cases hp; done));
   refine yQ ?_; simp only [yX, ↓reduceIte, Nat.reduceEqDiff]; rotate_left
   all_goals ((repeat (rename BV _ _ => k; first | cases k | clear k)); try exact zN)
   refine xX (σ3 := rowE v (sortE E) :: σ) ?_
   exact zJ ⟨rfl, rfl⟩
theorem sortStable_c (E : List Ey) (hE : E.Pairwise fun x y => x.1 < y.1) (hl : E.length ≤ 2000) (v : Value) (σ : List Ent) :
  SCall Tryz.prog 34 [.slv v, entF'] (rowE v E :: σ) (fun r τ => r = .tup [] ∧ τ = rowE v (sortE E) :: σ) := by
 refine zL Tryz.func34 rfl (by simp) ?_
 have cc := stable_c E hE hl v σ
 have hlm : (E.map entC).length = E.length := List.length_map _
 refine zZ (zR ?_); refine zR ?_; apply zU; rfl; rfl; rfl; (apply xH; rfl; rfl; (exact .inl ⟨_, _, _, (by repeat first | exact q_h | apply q_t | assumption), (List.length_map _).symm⟩)); refine zR ?_; refine xL rfl rfl rfl (xJ rfl rfl (zB (by kernel_rfl)) (cc)) ?_; rintro _ _ ⟨rfl, rfl⟩; refine zQ ?_; simp only [zA, zF, zE, zH, yK, ↓reduceIte, Nat.reduceEqDiff]; rotate_left
 all_goals ((repeat (rename BV _ _ => k; first | cases k | clear k)); try exact zN)
 refine xX (σ3 := rowE v (sortE E) :: σ) ?_
 exact zJ ⟨rfl, rfl⟩
open Go.MapKept
def slM (K : Int → Option Value) : Int → Option AV := fun q => (K q).map AV.slv
structure MapV (es : Array MapEntry) (clock : Nat) (K : Int → Option Value) (n : Nat) : Prop where
 st : Stamped es clock
 ks : ∀ e ∈ es.toList, ∃ a v, e.key = .int .i64 a ∧ K a = some v ∧ e.val = v ∧ v.isSl = true
 al : ∀ a v, K a = some v → ∃ e ∈ es.toList, e.key = .int .i64 a
 sz : es.size = n
theorem MapV.same {es : Array MapEntry} {clock n : Nat} {K : Int → Option Value} (h : MapV es clock K n) {e f : MapEntry} (he : e ∈ es.toList) (hf : f ∈ es.toList) (hk : e.key = f.key ∨ e.born = f.born) : e = f := by
 obtain ⟨i, hi⟩ := List.mem_iff_getElem?.1 he
 obtain ⟨j, hj⟩ := List.mem_iff_getElem?.1 hf
 have hij : i = j := by
  rcases hk with hk | hk
  ·have a1 : (es.toList.map (·.key))[i]? = some e.key := by rw [List.getElem?_map, hi]; rfl
   have a2 : (es.toList.map (·.key))[j]? = some e.key := by rw [List.getElem?_map, hj, hk]; rfl
   exact (List.getElem?_inj (List.getElem?_eq_some_iff.1 a1).1 h.st.2.2).1 (a1.trans a2.symm)
  ·have a1 : (es.toList.map (·.born))[i]? = some e.born := by rw [List.getElem?_map, hi]; rfl
   have a2 : (es.toList.map (·.born))[j]? = some e.born := by rw [List.getElem?_map, hj, hk]; rfl
   exact (List.getElem?_inj (List.getElem?_eq_some_iff.1 a1).1 h.st.2.1).1 (a1.trans a2.symm)
 subst hij
 rw [hi] at hj
 exact Option.some.inj hj
theorem MapV.push {es : Array MapEntry} {clock n : Nat} {K : Int → Option Value} (h : MapV es clock K n) {e : MapEntry} (he : e ∈ es.toList) {k : Int} (hk : e.key = .int .i64 k) {seen : Array Nat} {q : Int} : Hit es (seen.push e.born) q ↔ Hit es seen q ∨ q = k := by
 constructor
 ·rintro ⟨f, hf, hfk, hs⟩
  rw [contains_push, Bool.or_eq_true, beq_iff_eq] at hs
  rcases hs with hs | hs
  ·exact .inl ⟨f, hf, hfk, hs⟩
  ·obtain rfl := h.same hf he (.inr hs)
   rw [hk] at hfk
   exact .inr (by simpa using hfk.symm)
 ·rintro (⟨f, hf, hfk, hs⟩ | rfl)
  ·exact ⟨f, hf, hfk, by rw [contains_push, hs]; rfl⟩
  ·exact ⟨e, he, hk, by rw [contains_push]; simp⟩
theorem MapV.fresh {es : Array MapEntry} {clock n : Nat} {K : Int → Option Value} (h : MapV es clock K n) {e : MapEntry} (he : e ∈ es.toList) {k : Int} (hk : e.key = .int .i64 k) {seen : Array Nat} (hs : seen.contains e.born = false) : ¬ Hit es seen k := by
 rintro ⟨f, hf, hfk, hs2⟩
 obtain rfl := h.same hf he (.inl (by rw [hfk, hk]))
 rw [hs] at hs2; cases hs2
section
variable {P : Program} {ro : Option Nat} {env : Env} {σ : List Ent} {dst : Option Tmp} {ty : TypeId} {pos : String} {after : Array Edge} {guard : Option (Nat × Bool)}
inductive RangedV (b : Nat) (K : Int → Option Value) (n : Nat) (σ1 : Ent → List Ent) : AV → List Ent → Prop
 | mk (r : Nat) (es : Array MapEntry) (clock : Nat) (h : MapV es clock K n) : RangedV b K n σ1 (.ptr r 0) (.obj r (.mapIter (some b) clock #[] clock) :: σ1 (.obj b (.map es clock)))
theorem g_rangeV {t et : TypeId} {x : Operand} {b n : Nat} {K : Int → Option Value} {σ1 : Ent → List Ent} (ht : mapOf P t = some et) (hx : xP env x = some (.mp b)) (hu : ∀ e, Upd σ (.imap b (slM K) n) e (σ1 e)) :
  GOp P ro ⟨dst, .range t x, ty, pos, after, guard⟩ env σ (RangedV b K n σ1) :=
 tW (by intro c h; cases h) fun X M a w hg ho => by
  have h1 := ho x (by simp [Op.operands]) _ hx
  simp only [VRel] at h1
  obtain ⟨kt, e1, e2⟩ := mapOf_spec ht
  obtain ⟨g, ⟨es, clock, hb, hs, hks, hk1, hk2, hsz⟩, hg2⟩ := hg.ent _ (hu (.obj b (.map #[] 0))).mem
  have hE : MapV es clock K n := by
   refine ⟨hs, fun e he => ?_, fun q v hq => ?_, hsz⟩
   ·obtain ⟨q, hq⟩ := hks e he
    have h3 := hk1 e he q hq
    have h4 := hg2 q
    rw [h3] at h4
    unfold slM at h4
    cases h0 : K q with
    | none => rw [h0] at h4; exact h4.elim
    | some v =>
     rw [h0] at h4
     simp only [Option.map_some, VRel] at h4
     exact ⟨q, v, hq, h0, h4.1, h4.1 ▸ h4.2⟩
   ·have h4 := hg2 q
    unfold slM at h4
    rw [hq] at h4
    cases hgq : g q with
    | none => rw [hgq] at h4; exact h4.elim
    | some v => exact hk2 q v hgq
  have hg3 : Good X M (σ1 (.obj b (.map es clock))) w := hg.upd (hu _) rfl rfl rfl (fun _ _ _ => rfl) hb (.inl rfl)
  refine ⟨M, .pointer (some ⟨w.heap.size, 0, none⟩), w.alloc (.mapIter (some b) clock #[] clock), .ptr w.heap.size 0, _, Mem.le_refl M, hg3.alloc _ (.obj w.heap.size (.mapIter (some b) clock #[] clock)) rfl (Go.heap_alloc_new w _), by simp [VRel], .mk _ es clock hE, .inl ?_⟩
  have := run_range_map (P := P) w t kt et b es clock e1 hb
  simp [execOp, h1, Sem.run_bind, this]
inductive NextedV (b r : Nat) (K : Int → Option Value) (es : Array MapEntry) (clock : Nat) (seen : Array Nat) (σ : List Ent) (σ1 : Array Nat → List Ent) : AV → List Ent → Prop
 | done (h : ∀ q v, K q = some v → Hit es seen q) : NextedV b r K es clock seen σ σ1 (.tup [.bool false]) σ
 | step (e : MapEntry) (k : Int) (v : Value) (he : e ∈ es.toList) (hk : e.key = .int .i64 k) (hv : e.val = v) (hsl : v.isSl = true) (h0 : K k = some v) (hn : ¬ Hit es seen k) (hp : ∀ q, Hit es (seen.push e.born) q ↔ Hit es seen q ∨ q = k) (hm : (leftOf es (seen.push e.born)).size < (leftOf es seen).size) :
   NextedV b r K es clock seen σ σ1 (.tup [.bool true, .int .i64 k, .slv v]) (σ1 (seen.push e.born))
theorem g_nextV {x : Operand} {b r n clock : Nat} {K : Int → Option Value} {es : Array MapEntry} {seen : Array Nat} {σ1 : Array Nat → List Ent} (hE : MapV es clock K n) (hx : xP env x = some (.ptr r 0)) (hm : Ent.obj b (.map es clock) ∈ σ) (hu : ∀ s, Upd σ (.obj r (.mapIter (some b) clock seen clock)) (.obj r (.mapIter (some b) clock s clock)) (σ1 s)) :
  GOp P ro ⟨dst, .next x false, ty, pos, after, guard⟩ env σ (NextedV b r K es clock seen σ σ1) :=
 tW (by intro c h; cases h) fun X M a w hg ho => by
  have h1 := ho x (by simp [Op.operands]) _ hx
  simp only [VRel] at h1
  have hb : w.heap[b]? = some (.map es clock) := hg.ent _ hm
  have hr : w.heap[r]? = some (.mapIter (some b) clock seen clock) := hg.ent _ (hu seen).mem
  rcases run_next_at (P := P) w ty r b clock clock seen es clock hr hb hE.st.1 (Nat.le_refl _) with ⟨h0, hrun⟩ | ⟨e, he, w1, hw1, hrun⟩
  ·refine ⟨M, .tuple #[.bool false], w, .tup [.bool false], σ, Mem.le_refl M, hg, ?_, .done fun q v hq => ?_, .inl ?_⟩
   ·simp only [VRel, VRels]; exact ⟨_, rfl, _, _, rfl, rfl, rfl⟩
   ·obtain ⟨e, he, hk⟩ := hE.al q v hq
    refine ⟨e, he, hk, ?_⟩
    cases hs : seen.contains e.born with
    | true => rfl
    | false =>
     have hmem : e ∈ leftOf es seen := Array.mem_filter.2 ⟨Array.mem_toList_iff.1 he, by rw [hs]; rfl⟩
     rw [Array.eq_empty_of_size_eq_zero h0] at hmem
     simp at hmem
   ·simp [execOp, h1, Sem.run_bind, hrun]
  ·obtain ⟨hel, hes⟩ := mem_left he
   obtain ⟨k, v, hk, h0, hv, hsl⟩ := hE.ks e hel
   have hg1 : Good X M σ w1 := by rcases hw1 with rfl | rfl; exact hg; exact hg.drew
   have hr1 : w1.heap[r]? = some (.mapIter (some b) clock seen clock) := hg1.ent _ (hu seen).mem
   have hset := Go.MapKept.heap_set (o' := Obj.mapIter (some b) clock (seen.push e.born) clock) hr1
   refine ⟨M, .tuple #[.bool true, e.key, e.val], Go.ChangeMaps.setBlock w1 r (.mapIter (some b) clock (seen.push e.born) clock), .tup [.bool true, .int .i64 k, .slv v], _, Mem.le_refl M, ?_, ?_, .step e k v hel hk hv hsl h0 (hE.fresh hel hk hes) (fun q => hE.push hel hk) (left_shrinks es seen e he), .inl ?_⟩
   ·refine hg1.upd (hu _) rfl rfl rfl (fun i hi hne => hset.2 i fun e => hne (by rw [e]; rfl)) hset.1 (.inl rfl)
   ·rw [hk, hv]
    simp only [VRel, VRels]
    exact ⟨_, rfl, _, _, rfl, rfl, _, _, rfl, rfl, _, _, rfl, ⟨rfl, hsl⟩, rfl⟩
   ·simp [execOp, h1, Sem.run_bind, hrun]
theorem g_entryV {x : Operand} {b r n clock : Nat} {K : Int → Option Value} {es : Array MapEntry} {seen : Array Nat} {e : MapEntry} {k : Int} {v : Value} (hE : MapV es clock K n) (he : e ∈ es.toList) (hk : e.key = .int .i64 k) (hv : e.val = v) (hsl : v.isSl = true) (hx : xP env x = some (.ptr r 0)) (hm : Ent.obj b (.map es clock) ∈ σ) (hr : Ent.obj r (.mapIter (some b) clock (seen.push e.born) clock) ∈ σ) :
  GOp P ro ⟨dst, .entry x, ty, pos, after, guard⟩ env σ (Is (.tup [.int .i64 k, .slv v]) σ) :=
 xZ _ (by intro c h; cases h) fun X M a w hg ho => by
  have h1 := ho x (by simp [Op.operands]) _ hx
  simp only [VRel] at h1
  have hrun := run_entry_at (P := P) w r b clock seen es clock e (hg.ent _ hr) (hg.ent _ hm) he hE.st.2.1
  refine ⟨.tuple #[e.key, e.val], ?_, by simp [execOp, h1, Sem.run_bind, hrun]⟩
  rw [hk, hv]
  simp only [VRel, VRels]
  exact ⟨_, rfl, _, _, rfl, rfl, _, _, rfl, ⟨rfl, hsl⟩, rfl⟩
end
abbrev Asc := List (Int × Value × List Ey)
def kA (A : Asc) : Int → Option Value := fun q => (A.find? fun a => decide (a.1 = q)).map (·.2.1)
def vE (A : Asc) : List Ent := A.map fun a => rowE a.2.1 a.2.2
structure AscOf (E : List Ey) (A : Asc) : Prop where
 nd : (A.map (·.1)).Nodup
 ent : ∀ a ∈ A, a.2.2 = E.filter (fun e => decide (e.2.turn = a.1)) ∧ a.2.2 ≠ []
 all : ∀ e ∈ E, ∃ a ∈ A, a.1 = e.2.turn
theorem ascOf_nil : AscOf [] [] := ⟨.nil, by simp, by simp⟩
theorem kA_mid {A1 A2 : Asc} {a : Int × Value × List Ey} (h : ((A1 ++ a :: A2).map (·.1)).Nodup) (q : Int) : kA (A1 ++ a :: A2) q = if q = a.1 then some a.2.1 else (kA (A1 ++ A2) q) := by
 unfold kA
 rw [List.map_append, List.map_cons] at h
 have hn := (List.nodup_append.1 h).2.2
 by_cases hq : q = a.1
 ·rw [if_pos hq, List.find?_append]
  have : A1.find? (fun x => decide (x.1 = q)) = none := by
   rw [List.find?_eq_none]
   intro x hx
   have := hn x.1 (List.mem_map.2 ⟨x, hx, rfl⟩) a.1 (by simp)
   simp; omega
  rw [this, Option.none_or, List.find?_cons_of_pos (by simp [hq])]; rfl
 ·rw [if_neg hq, List.find?_append, List.find?_append, List.find?_cons_of_neg (by simp; omega)]
theorem kA_some {A : Asc} {q : Int} {v : Value} (h : kA A q = some v) : ∃ A1 L A2, A = A1 ++ (q, v, L) :: A2 := by
 unfold kA at h
 cases hf : A.find? (fun a => decide (a.1 = q)) with
 | none => rw [hf] at h; cases h
 | some a =>
  rw [hf] at h
  have h1 := List.find?_some hf
  have hm := List.mem_of_find?_eq_some hf
  obtain ⟨A1, A2, hA⟩ := List.append_of_mem hm
  simp only [Option.map_some, Option.some.injEq] at h
  have h2 : a.1 = q := by simpa using h1
  exact ⟨A1, a.2.2, A2, by rw [hA, ← h, ← h2]⟩
theorem upd_slM (K : Int → Option Value) (k : Int) (v : Value) : updA (slM K) k (.slv v) = slM (fun q => if q = k then some v else K q) := by
 funext q
 by_cases hq : q = k
 ·simp [updA, slM, hq]
 ·simp [updA, slM, hq]
/-- One more entry, of a turn that has a row. -/
theorem asc_more {E : List Ey} {A1 A2 : Asc} {L : List Ey} {v v' : Value} {e : Ey} (h : AscOf E (A1 ++ (e.2.turn, v, L) :: A2)) : AscOf (E ++ [e]) (A1 ++ (e.2.turn, v', L ++ [e]) :: A2) := by
 have hk : (A1 ++ (e.2.turn, v', L ++ [e]) :: A2).map (·.1) = (A1 ++ (e.2.turn, v, L) :: A2).map (·.1) := by simp
 have hnd := h.nd
 rw [List.map_append, List.map_cons] at hnd
 have hn1 := (List.nodup_append.1 hnd).2.2
 have hn2 := (List.nodup_cons.1 (List.nodup_append.1 hnd).2.1).1
 refine ⟨by rw [hk]; exact h.nd, fun a ha => ?_, fun x hx => ?_⟩
 ·have oth : ∀ a ∈ A1 ++ A2, a.1 ≠ e.2.turn := fun a ha hq => by
   rcases List.mem_append.1 ha with ha | ha
   ·exact hn1 a.1 (List.mem_map.2 ⟨a, ha, rfl⟩) e.2.turn (by simp) hq
   ·exact hn2 (by rw [← hq]; exact List.mem_map.2 ⟨a, ha, rfl⟩)
  have same : ∀ a ∈ A1 ++ A2, a.2.2 = (E ++ [e]).filter (fun e => decide (e.2.turn = a.1)) ∧ a.2.2 ≠ [] := fun a ha => by
   have h1 := h.ent a (by rcases List.mem_append.1 ha with ha | ha <;> simp [ha])
   rw [List.filter_append, List.filter_cons_of_neg (by simpa using fun hq => oth a ha hq.symm)]
   simpa using h1
  rcases List.mem_append.1 ha with ha | ha
  ·exact same a (by simp [ha])
  ·rcases List.mem_cons.1 ha with rfl | ha
   ·have h1 := h.ent (e.2.turn, v, L) (by simp)
    refine ⟨?_, by simp⟩
    rw [List.filter_append, List.filter_cons_of_pos (by simp)]
    show L ++ [e] = _
    rw [show L = E.filter _ from h1.1]; rfl
   ·exact same a (by simp [ha])
 ·rcases List.mem_append.1 hx with hx | hx
  ·obtain ⟨a, ha, h1⟩ := h.all x hx
   rcases List.mem_append.1 ha with ha | ha
   ·exact ⟨a, by simp [ha], h1⟩
   ·rcases List.mem_cons.1 ha with rfl | ha
    ·exact ⟨_, List.mem_append_right _ (List.mem_cons_self ..), h1⟩
    ·exact ⟨a, by simp [ha], h1⟩
  ·rw [List.mem_singleton] at hx; subst hx
   exact ⟨_, List.mem_append_right _ (List.mem_cons_self ..), rfl⟩
/-- One more entry, the first of its turn. -/
theorem asc_new {E : List Ey} {A : Asc} {v' : Value} {e : Ey} (h : AscOf E A) (hn : ∀ a ∈ A, a.1 ≠ e.2.turn) : AscOf (E ++ [e]) ((e.2.turn, v', [e]) :: A) := by
 refine ⟨?_, fun a ha => ?_, fun x hx => ?_⟩
 ·rw [List.map_cons, List.nodup_cons]
  refine ⟨fun hm => ?_, h.nd⟩
  obtain ⟨a, ha, hq⟩ := List.mem_map.1 hm
  exact hn a ha hq
 ·rcases List.mem_cons.1 ha with rfl | ha
  ·refine ⟨?_, by simp⟩
   have : E.filter (fun x => decide (x.2.turn = e.2.turn)) = [] := by
    rw [List.filter_eq_nil_iff]
    intro x hx
    obtain ⟨a, ha, hq⟩ := h.all x hx
    have := hn a ha
    simp; omega
   rw [List.filter_append, this, List.filter_cons_of_pos (by simp)]; rfl
  ·have h1 := h.ent a ha
   rw [List.filter_append, List.filter_cons_of_neg (by simpa using fun hq => hn a ha hq.symm)]
   simpa using h1
 ·rcases List.mem_append.1 hx with hx | hx
  ·obtain ⟨a, ha, h1⟩ := h.all x hx
   exact ⟨a, by simp [ha], h1⟩
  ·rw [List.mem_singleton] at hx; subst hx
   exact ⟨_, List.mem_cons_self .., rfl⟩
theorem upd_mid {e e' : Ent} : ∀ (A B : List Ent), Upd (A ++ e :: B) e e' (A ++ e' :: B)
 | [], _ => .here
 | x :: A, B => .there (upd_mid A B)
abbrev memK : Ent → Prop := fun e => match e with | .cells .. => True | .imap .. => True | _ => False
theorem upd_keeps {σ σ' : List Ent} {v v' : Value} {e : TypeId} {sz : Nat} {l l' : List (List AV)} (h : Upd σ (.row v e sz l) (.row v' e sz l') σ') : AddsK memK σ σ' := by
 obtain ⟨a, c, rfl, rfl⟩ := h.split
 intro x hx hm
 rcases List.mem_append.1 hm with hm | hm
 ·simp [hm]
 ·rcases List.mem_cons.1 hm with rfl | hm
  ·exact hx.elim
  ·simp [hm]
theorem rowsA_app (A B : Asc) : vE (A ++ B) = vE A ++ vE B := by unfold vE; simp
theorem rowsA_cons (a : Int × Value × List Ey) (B : Asc) : vE (a :: B) = rowE a.2.1 a.2.2 :: vE B := rfl
def voidL (r : List Sl) : List Int := (r.filter fun y => decide (y.kind = 3)).map fun y => y.off - 1
theorem voidL_take {r : List Sl} {k : Nat} {c : Sl} (h : r[k]? = some c) : voidL (r.take (k + 1)) = if c.kind = 3 then voidL (r.take k) ++ [c.off - 1] else voidL (r.take k) := by
 unfold voidL
 rw [take_get h, List.filter_append, List.map_append]
 by_cases hk : c.kind = 3
 ·rw [if_pos hk, List.filter_cons_of_pos (by simpa using hk)]; rfl
 ·rw [if_neg hk, List.filter_cons_of_neg (by simpa using hk)]; simp
theorem voidL_any (r : List Sl) (q : Int) : (voidL r).contains q = r.any fun y => decide (y.kind = 3) && decide (y.off - 1 = q) := by
 unfold voidL
 rw [Bool.eq_iff_iff, List.contains_iff_mem, List.mem_map, List.any_eq_true]
 constructor
 ·rintro ⟨y, hy, rfl⟩
  rw [List.mem_filter] at hy
  exact ⟨y, hy.1, by simpa using hy.2⟩
 ·rintro ⟨y, hy, h⟩
  simp only [Bool.and_eq_true, decide_eq_true_eq] at h
  exact ⟨y, List.mem_filter.2 ⟨hy, by simpa using h.1⟩, h.2⟩
theorem entF_snoc (l m : List Sl) (x : Sl) : qQ l 0 (m ++ [x]) = if cntB l x then qQ l 0 m ++ [(m.length, x)] else qQ l 0 m := by
 rw [entF_app, Nat.zero_add]
 show qQ l 0 m ++ qQ l m.length [x] = _
 rw [qQ, qQ]
 split <;> simp
theorem flat_take {R : List (List Sl)} {k : Nat} {r : List Sl} (h : R[k]? = some r) : (R.take (k + 1)).flatten = (R.take k).flatten ++ r := by
 rw [List.take_add_one, h, List.flatten_append]; simp
def leftA (A : Asc) (K : List Int) : Asc := A.filter fun a => !K.contains a.1
theorem leftA_nil (A : Asc) : leftA A [] = A := by unfold leftA; rw [List.filter_eq_self]; simp
theorem leftA_step {A : Asc} {K : List Int} {k : Int} {v : Value} (hn : (A.map (·.1)).Nodup) (h : kA A k = some v) (hk : k ∉ K) : ∃ A1 L A2, leftA A K = A1 ++ (k, v, L) :: A2 ∧ leftA A (K ++ [k]) = A1 ++ A2 ∧ (k, v, L) ∈ A := by
 obtain ⟨B1, L, B2, rfl⟩ := kA_some h
 rw [List.map_append, List.map_cons] at hn
 have hn1 := (List.nodup_append.1 hn).2.2
 have hn2 := (List.nodup_cons.1 (List.nodup_append.1 hn).2.1).1
 have oth : ∀ B : Asc, (∀ a ∈ B, a.1 ≠ k) → leftA B (K ++ [k]) = leftA B K := fun B hB => by
  unfold leftA
  refine List.filter_congr fun a ha => ?_
  have := hB a ha
  simp [this]
 have o1 := oth B1 fun a ha hq => hn1 a.1 (List.mem_map.2 ⟨a, ha, rfl⟩) k (by simp) hq
 have o2 := oth B2 fun a ha hq => hn2 (by show k ∈ _; rw [← hq]; exact List.mem_map.2 ⟨a, ha, rfl⟩)
 refine ⟨leftA B1 K, L, leftA B2 K, ?_, ?_, by simp⟩
 ·unfold leftA
  rw [List.filter_append, List.filter_cons_of_pos (by simpa using hk)]
 ·rw [← o1, ← o2]
  unfold leftA
  rw [List.filter_append, List.filter_cons_of_neg (by simp)]
theorem rows_perm (A1 A2 : Asc) (k : Int) (v : Value) (L : List Ey) (σ X : List Ent) : (X ++ (vE (A1 ++ (k, v, L) :: A2) ++ σ)).Perm (rowE v L :: (X ++ (vE (A1 ++ A2) ++ σ))) := by
 rw [rowsA_app, rowsA_app, rowsA_cons]
 have : X ++ (vE A1 ++ rowE v L :: vE A2 ++ σ) = (X ++ vE A1) ++ rowE v L :: (vE A2 ++ σ) := by simp
 rw [this, show X ++ (vE A1 ++ vE A2 ++ σ) = (X ++ vE A1) ++ (vE A2 ++ σ) by simp]
 exact List.perm_middle
theorem kA_iff {E : List Ey} {A : Asc} (h : AscOf E A) {q : Int} : (∃ v, kA A q = some v) ↔ q ∈ numsE E := by
 rw [nums_mem]
 constructor
 ·rintro ⟨v, hv⟩
  obtain ⟨A1, L, A2, rfl⟩ := kA_some hv
  obtain ⟨h1, h2⟩ := h.ent (q, v, L) (by simp)
  cases hL : L with
  | nil => exact absurd hL h2
  | cons e L' =>
   have he : e ∈ L := by rw [hL]; simp
   rw [show L = E.filter _ from h1, List.mem_filter] at he
   exact ⟨e, he.1, by simpa using he.2⟩
 ·rintro ⟨e, he, rfl⟩
  obtain ⟨a, ha, h1⟩ := h.all e he
  cases hk : kA A e.2.turn with
  | some v => exact ⟨v, rfl⟩
  | none =>
   unfold kA at hk
   rw [Option.map_eq_none_iff, List.find?_eq_none] at hk
   exact absurd h1 (by simpa using hk a ha)
theorem fold_turn : ∀ (S : List Ey) (t : Tn), (S.foldl stepT t).turn = t.turn
 | [], _ => rfl
 | e :: S, t => by
  rw [List.foldl_cons, fold_turn S]
  unfold stepT
  split
  ·split <;> rfl
  ·split
   ·split <;> rfl
   ·rfl
theorem turnS_turn (l : List Sl) (n : Int) : (turnS l n).turn = n := fold_turn _ _
/-- The turns in their order. -/
theorem turns_sorted {l : List Sl} {K : List Int} {S : List Tn} (hK : K.Nodup) (hm : ∀ q, q ∈ K ↔ q ∈ numsE (entL l)) (hp : S.Perm (K.map (turnS l))) (hs : S.Pairwise fun a b => a.turn ≤ b.turn) : S = (numsE (entL l)).map (turnS l) := by
 have h1 : (S.map (·.turn)).Perm K := by
  have := hp.map (·.turn)
  rwa [List.map_map, show ((fun t : Tn => t.turn) ∘ turnS l) = id by funext n; exact turnS_turn l n, List.map_id] at this
 have h2 : S.map (·.turn) = numsE (entL l) := by
  refine same_up int_asymm ?_ (nums_up _) fun y => by rw [h1.mem_iff, hm]
  have hnd : (S.map (·.turn)).Nodup := h1.nodup_iff.2 hK
  have hle : (S.map (·.turn)).Pairwise (· ≤ ·) := by rw [List.pairwise_map]; exact hs
  exact (hle.and hnd).imp fun h => by omega
 rw [← h2, List.map_map]
 have h3 : ∀ s ∈ S, s = turnS l s.turn := fun s hs => by
  obtain ⟨n, _, rfl⟩ := List.mem_map.1 (hp.mem_iff.1 hs)
  rw [turnS_turn]
 conv => lhs; rw [← List.map_id S]
 exact List.map_congr_left fun s hs => h3 s hs
theorem foldT_take {S : List Ey} {j : Nat} {e : Ey} (h : S[j]? = some e) (t : Tn) : (S.take (j + 1)).foldl stepT t = stepT ((S.take j).foldl stepT t) e := by
 rw [take_get h, List.foldl_append]; rfl
theorem fold_twice : ∀ (S : List Ey) (t : Tn), (S.foldl stepT t).twice.length ≤ t.twice.length + S.length
 | [], _ => Nat.le_refl _
 | e :: S, t => by
  rw [List.foldl_cons]
  have := fold_twice S (stepT t e)
  have h2 : (stepT t e).twice.length ≤ t.twice.length + 1 := by
   unfold stepT
   split
   ·split <;> simp
   ·split
    ·split <;> simp
    ·simp
  rw [List.length_cons]; omega
theorem sortE_len : ∀ L : List Ey, (sortE L).length = L.length
 | [] => rfl
 | x :: L => by
  have : ∀ (e : Ey) (l : List Ey), (insE e l).length = l.length + 1 := by
   intro e l
   induction l with
   | nil => rfl
   | cons y l ih => rw [insE]; split <;> simp [ih]
  show (insE x (sortE L)).length = _
  rw [this, sortE_len L, List.length_cons]
theorem nodup_len : ∀ {l m : List Int}, l.Nodup → (∀ x ∈ l, x ∈ m) → l.length ≤ m.length
 | [], _, _, _ => Nat.zero_le _
 | x :: l, m, hn, h => by
  rw [List.nodup_cons] at hn
  obtain ⟨A, B, rfl⟩ := List.append_of_mem (h x (by simp))
  have := nodup_len (l := l) (m := A ++ B) hn.2 fun y hy => by
   have h1 := h y (by simp [hy])
   have h2 : y ≠ x := fun e => hn.1 (by rw [← e]; exact hy)
   simpa [h2] using h1
  simp only [List.length_cons, List.length_append] at this ⊢; omega
open Go.Shelf Go.Sort Go.RowKit
def Tryz.sortTurn_ren : Go.Shelf.Ren := ⟨fun | 6 => 38 | 15 => 75 | 14 => 76 | 28 => 113 | 29 => 114 | 20 => 115 | 21 => 116 | 22 => 117 | 23 => 118 | 24 => 119 | 25 => 120 | 26 => 121 | 27 => 122 | 46 => 143 | 47 => 139 | 48 => 140 | 49 => 144 | 50 => 145 | 57 => 157 | n => n, fun | 22 => 30 | 24 => 64 | 25 => 86 | 3 => 3 | 39 => 120 | 0 => 0 | 53 => 150 | 55 => 152 | 4 => 4 | 46 => 143 | 45 => 142 | 50 => 65 | 5 => 5 | 9 => 9 | 66 => 176 | 70 => 163 | 76 => 199 | 77 => 106 | n => n, fun | n => n⟩
theorem Tryz.sortTurn : Go.Proofs.SlLaysF0.n6 Tryz.prog Tryz.sortTurn_ren := {
 mixed := by kernel_rfl
 f6 := ⟨Tryz.f38.name, by decide, Tryz.func38.trans (congrArg some (by kernel_rfl))⟩
 f14 := ⟨Tryz.f76.name, by decide, Tryz.func76.trans (congrArg some (by kernel_rfl))⟩
 f15 := Tryz.func75.trans (congrArg some (by kernel_rfl))
 f20 := ⟨Tryz.f115.name, by decide, Tryz.func115.trans (congrArg some (by kernel_rfl))⟩
 f21 := ⟨Tryz.f116.name, by decide, Tryz.func116.trans (congrArg some (by kernel_rfl))⟩
 f22 := ⟨Tryz.f117.name, by decide, Tryz.func117.trans (congrArg some (by kernel_rfl))⟩
 f23 := ⟨Tryz.f118.name, by decide, Tryz.func118.trans (congrArg some (by kernel_rfl))⟩
 f24 := ⟨Tryz.f119.name, by decide, Tryz.func119.trans (congrArg some (by kernel_rfl))⟩
 f25 := ⟨Tryz.f120.name, by decide, Tryz.func120.trans (congrArg some (by kernel_rfl))⟩
 f26 := ⟨Tryz.f121.name, by decide, Tryz.func121.trans (congrArg some (by kernel_rfl))⟩
 f27 := ⟨Tryz.f122.name, by decide, Tryz.func122.trans (congrArg some (by kernel_rfl))⟩
 f28 := Tryz.func113.trans (congrArg some (by kernel_rfl))
 f29 := Tryz.func114.trans (congrArg some (by kernel_rfl))
 f46 := ⟨Tryz.f143.name, by decide, Tryz.func143.trans (congrArg some (by kernel_rfl))⟩
 f47 := Tryz.func139.trans (congrArg some (by kernel_rfl))
 f48 := Tryz.func140.trans (congrArg some (by kernel_rfl))
 f49 := ⟨Tryz.f144.name, by decide, Tryz.func144.trans (congrArg some (by kernel_rfl))⟩
 f50 := ⟨Tryz.f145.name, by decide, Tryz.func145.trans (congrArg some (by kernel_rfl))⟩
 f57 := ⟨Tryz.f157.name, by decide, Tryz.func157.trans (congrArg some (by kernel_rfl))⟩
 t0 := Tryz.underlying0
 a0 := Tryz.isAgg0
 z0 := Tryz.sizeOf0
 v0 := Tryz.zeroValue0
 t3 := Tryz.underlying3
 a3 := Tryz.isAgg3
 z3 := Tryz.sizeOf3
 v3 := Tryz.zeroValue3
 t4 := Tryz.underlying4
 a4 := Tryz.isAgg4
 z4 := Tryz.sizeOf4
 v4 := Tryz.zeroValue4
 t5 := Tryz.underlying5
 a5 := Tryz.isAgg5
 z5 := Tryz.sizeOf5
 v5 := Tryz.zeroValue5
 t9 := Tryz.underlying9
 a9 := Tryz.isAgg9
 z9 := Tryz.sizeOf9
 v9 := Tryz.zeroValue9
 t22 := Tryz.underlying30
 a22 := Tryz.isAgg30
 z22 := Tryz.sizeOf30
 v22 := Tryz.zeroValue30
 t25 := Tryz.underlying86
 a25 := Tryz.isAgg86
 z25 := Tryz.sizeOf86
 v25 := Tryz.zeroValue86
 t39 := Tryz.underlying120
 a39 := Tryz.isAgg120
 z39 := Tryz.sizeOf120
 v39 := Tryz.zeroValue120
 t45 := Tryz.underlying142
 a45 := Tryz.isAgg142
 z45 := Tryz.sizeOf142
 v45 := Tryz.zeroValue142
 t46 := Tryz.underlying143
 a46 := Tryz.isAgg143
 z46 := Tryz.sizeOf143
 v46 := Tryz.zeroValue143
 t50 := Tryz.underlying65
 a50 := Tryz.isAgg65
 z50 := Tryz.sizeOf65
 v50 := Tryz.zeroValue65
 t53 := Tryz.underlying150
 a53 := Tryz.isAgg150
 z53 := Tryz.sizeOf150
 v53 := Tryz.zeroValue150
 t55 := Tryz.underlying152
 a55 := Tryz.isAgg152
 z55 := Tryz.sizeOf152
 v55 := Tryz.zeroValue152
 t66 := Tryz.underlying176
 a66 := Tryz.isAgg176
 z66 := Tryz.sizeOf176
 v66 := Tryz.zeroValue176
 t70 := Tryz.underlying163
 a70 := Tryz.isAgg163
 z70 := Tryz.sizeOf163
 v70 := Tryz.zeroValue163
 t76 := Tryz.underlying199
 a76 := Tryz.isAgg199
 z76 := Tryz.sizeOf199
 v76 := Tryz.zeroValue199
 t77 := Tryz.underlying106
 a77 := Tryz.isAgg106
 z77 := Tryz.sizeOf106
 v77 := Tryz.zeroValue106 }
def Tryz.cmpInt_ren : Go.Shelf.Ren := ⟨fun | 5 => 36 | 7 => 73 | n => n, fun | 22 => 3 | 3 => 3 | 4 => 4 | n => n, fun | n => n⟩
theorem Tryz.cmpInt : Go.Proofs.SlLaysC2.n5 Tryz.prog Tryz.cmpInt_ren := {
 mixed := by kernel_rfl
 f5 := ⟨Tryz.f36.name, by decide, Tryz.func36.trans (congrArg some (by kernel_rfl))⟩
 f7 := ⟨Tryz.f73.name, by decide, Tryz.func73.trans (congrArg some (by kernel_rfl))⟩
 t3 := Tryz.underlying3
 a3 := Tryz.isAgg3
 z3 := Tryz.sizeOf3
 v3 := Tryz.zeroValue3
 t4 := Tryz.underlying4
 a4 := Tryz.isAgg4
 z4 := Tryz.sizeOf4
 v4 := Tryz.zeroValue4
 t22 := Tryz.underlying3
 a22 := Tryz.isAgg3
 z22 := Tryz.sizeOf3
 v22 := Tryz.zeroValue3 }
abbrev St1 := {v : Value // v.oneCell' = true}
instance : Inhabited St1 := ⟨⟨.int .i64 0, rfl⟩⟩
abbrev Tv := Int × Int × Int × St1
def qA (x : Tv) : List Value := [.int .i64 x.1, .int .i64 x.2.1, .int .i64 x.2.2.1, x.2.2.2.1]
abbrev tnC (t : Tn) : List AV := [.int .i64 t.turn, .int .i64 t.farm, .int .i64 t.given, ints t.twice]
def RelT (M : Mem) (p : Tn × Tv) : Prop := p.2.1 = p.1.turn ∧ p.2.2.1 = p.1.farm ∧ p.2.2.2.1 = p.1.given ∧ VRel M (ints p.1.twice) p.2.2.2.2.1
theorem rel_tns {M : Mem} : ∀ {L : List Tn} {xs : List Value}, VRels M (L.map tnC).flatten xs → ∃ ps : List (Tn × Tv), ps.map (·.1) = L ∧ (∀ p ∈ ps, RelT M p) ∧ xs = (ps.map (·.2)).flatMap qA
 | [], xs, h => ⟨[], rfl, by simp, by simpa [VRels] using h⟩
 | t :: L, xs, h => by
  simp only [List.map_cons, List.flatten_cons, List.cons_append, List.nil_append, VRels] at h
  obtain ⟨v1, r1, rfl, h1, v2, r2, rfl, h2, v3, r3, rfl, h3, v4, r4, rfl, h4, h5⟩ := h
  obtain ⟨ps, e1, e2, e3⟩ := rel_tns h5
  have ho : v4.oneCell' = true := h4.one rfl
  simp only [VRel] at h1 h2 h3
  subst h1 h2 h3
  refine ⟨(t, (t.turn, t.farm, t.given, ⟨v4, ho⟩)) :: ps, by rw [List.map_cons, e1], ?_, ?_⟩
  ·intro p hp
   rcases List.mem_cons.1 hp with rfl | hp
   ·exact ⟨rfl, rfl, rfl, h4⟩
   ·exact e2 p hp
  ·rw [e3]; rfl
theorem tns_rel {M : Mem} : ∀ {ps : List (Tn × Tv)}, (∀ p ∈ ps, RelT M p) → VRels M ((ps.map (·.1)).map tnC).flatten ((ps.map (·.2)).flatMap qA)
 | [], _ => by simp [VRels]
 | p :: ps, h => by
  obtain ⟨h1, h2, h3, h4⟩ := h p (by simp)
  have ih := tns_rel (ps := ps) fun q hq => h q (by simp [hq])
  simp only [List.map_cons, List.flatten_cons, List.cons_append, List.nil_append, List.flatMap_cons, VRels, qA, VRel]
  rw [h1, h2, h3]
  refine ⟨_, _, rfl, rfl, _, _, rfl, rfl, _, _, rfl, rfl, _, _, rfl, ?_, ih⟩
  simpa [VRel] using h4
theorem perm_lift {α β : Type} {g : α → β} : ∀ {l : List α} {m : List β}, m.Perm (l.map g) → ∃ l' : List α, l'.Perm l ∧ l'.map g = m
 | [], m, h => ⟨[], List.Perm.refl _, by simpa using h.symm⟩
 | a :: l, m, h => by
  have hm : g a ∈ m := h.mem_iff.2 (by simp)
  obtain ⟨m1, m2, rfl⟩ := List.append_of_mem hm
  have h2 : (m1 ++ m2).Perm (l.map g) := (List.Perm.cons_inv (a := g a) (List.perm_middle.symm.trans h))
  obtain ⟨l', e1, e2⟩ := perm_lift h2
  obtain ⟨l1, l2, rfl, e3, e4⟩ := List.map_eq_append_iff.1 e2
  exact ⟨l1 ++ a :: l2, List.perm_middle.trans (e1.cons a), by simp [e3, e4]⟩
theorem ltTurn (x y : Tv) : ltOf (fun x y : Tv => Lib.compareInt x.1 y.1) x y = decide (x.1 < y.1) := by
 unfold ltOf Lib.compareInt
 by_cases h1 : x.1 < y.1
 ·simp [h1]
 ·by_cases h2 : y.1 < x.1 <;> simp [h1, h2]
theorem swoTurn : SWO (ltOf fun x y : Tv => Lib.compareInt x.1 y.1) where
 irrefl x := by rw [ltTurn]; simp
 trans x y z h1 h2 := by rw [ltTurn] at *; simp at *; omega
 ntrans x y z h1 h2 := by rw [ltTurn] at *; simp at *; omega
theorem closureT (x y : Tv) (W : World) : Calls Tryz.prog 39 #[.agg #[.int .i64 x.1, .int .i64 x.2.1, .int .i64 x.2.2.1, x.2.2.2.1], .agg #[.int .i64 y.1, .int .i64 y.2.1, .int .i64 y.2.2.1, y.2.2.2.1]] W fun e w' => e = .returned (.int .i64 (Lib.compareInt x.1 y.1)) ∧ ∃ q os', w' = grow (W.drewN q) os' := by
 have hcon := fun W' => AnyG.cmp_Compare_int Tryz.cmpInt x.1 y.1 W'
 change ∀ W', Calls Tryz.prog 36 _ _ _ at hcon
 generalize Lib.compareInt x.1 y.1 = r at hcon ⊢
 go_enter Tryz.func39, Tryz.ntmps39
 go_wp2_with (go_at_call 36; refine (hcon _).mono ?_; rintro e w' ⟨rfl, rfl⟩)
 go_ret
 exact ⟨rfl, 0, _, by rw [alloc_eq_grow, alloc_eq_grow, grow_grow]; rfl⟩
theorem flat_len : ∀ d : List Tv, (d.flatMap qA).length = d.length * 4
 | [] => rfl
 | x :: d => by
  rw [List.flatMap_cons, List.length_append, flat_len d, List.length_cons]
  have : (qA x).length = 4 := rfl
  omega
theorem flat_list (d : List Tv) : (flatK qA 4 d.toArray).toList = d.flatMap qA := by
 have hlen := flat_len d
 apply List.ext_getElem
 ·simp [hlen]
 ·intro t h1 h2
  have ht : t < d.length * 4 := by rw [← hlen]; exact h2
  have hget : ∀ (d : List Tv) (q r : Nat) (hq : q < d.length), r < 4 → (d.flatMap qA)[q * 4 + r]? = (qA d[q])[r]? := by
   intro d
   induction d with
   | nil => intro q r hq; simp at hq
   | cons x d ih =>
    intro q r hq hr
    rw [List.flatMap_cons]
    cases q with
    | zero => rw [List.getElem?_append_left (by have : (qA x).length = 4 := rfl; omega)]; simp
    | succ q =>
     rw [List.getElem?_append_right (by have : (qA x).length = 4 := rfl; omega), show (q + 1) * 4 + r - (qA x).length = q * 4 + r by have : (qA x).length = 4 := rfl; omega, ih q r (by simpa using hq) hr]
     simp
  have hq : t / 4 < d.length := by omega
  have hr : t % 4 < 4 := Nat.mod_lt _ (by omega)
  have h3 := hget d (t / 4) (t % 4) hq hr
  rw [show t / 4 * 4 + t % 4 = t by omega, List.getElem?_eq_getElem h2] at h3
  have h4 : (flatK qA 4 d.toArray).toList[t] = (qA d[t / 4])[t % 4]! := by
   simp [flatK, hq]
  rw [h4]
  have h5 : (qA d[t / 4])[t % 4]? = some ((qA d[t / 4])[t % 4]!) := by
   rw [List.getElem!_eq_getElem?_getD]
   cases h6 : (qA d[t / 4])[t % 4]? with
   | none => rw [h6] at h3; cases h3
   | some z => rfl
  rw [h5] at h3
  exact (Option.some.inj h3).symm
theorem holds_block {w : World} {g : Nat} {cur : Array Value} {e : TypeId} {d : List Tv} (hb : w.heap[g]? = some (.cells cur e (0, 0))) (ht : cur.toList.take (d.length * 4) = d.flatMap qA) : HoldsK qA 4 w g 0 d.toArray := by
 intro j hj
 have hj' : j < d.length * 4 := by simpa using hj
 refine ⟨?_, by simp [World.frozen?, hb]⟩
 have h1 : (cur.toList.take (d.length * 4))[j]? = (d.flatMap qA)[j]? := by rw [ht]
 rw [List.getElem?_take_of_lt hj', ← flat_list] at h1
 have h2 : (flatK qA 4 d.toArray)[j]? = some ((flatK qA 4 d.toArray)[j]!) := by
  rw [getElem!_pos _ j hj]; exact Array.getElem?_eq_getElem hj
 simp only [World.cell?, hb, Nat.zero_add]
 rw [Array.getElem?_toList] at h1
 simpa [h2] using h1
theorem take_putN (cur : Array Value) (F : Array Value) (h : F.size ≤ cur.size) : (putCells id 0 F cur).toList.take F.size = F.toList := by
 apply List.ext_getElem?
 intro j
 by_cases hj : j < F.size
 ·rw [List.getElem?_take_of_lt hj]
  simp only [putCells, Array.getElem?_toList]
  have hc : j < cur.size := by omega
  simp [hj, hc]
 ·rw [List.getElem?_eq_none (by simp; omega), List.getElem?_eq_none (by simp; omega)]
theorem heap_T {w : World} {g n : Nat} {e : TypeId} {os : Array Obj} {cur : Array Value} (F : Array Value) (hb : w.heap[g]? = some (.cells cur e (0, 0))) : (grow (putRow id (Sort.ahead w n) g 0 F) os).heap[g]? = some (.cells (putCells id 0 F cur) e (0, 0)) := by
 have hlt := (Array.getElem?_eq_some_iff.1 hb).1
 rw [heap_grow_old _ _ (by simpa using hlt)]
 simp [putRow, mapBlock, Sort.ahead, Array.getElem?_modify, hb, onCells]
theorem grownBy_T {w : World} {g n : Nat} {os : Array Obj} (F : Array Value) : w.grownBy (grow (putRow id (Sort.ahead w n) g 0 F) os) (some g) := by
 refine ⟨rfl, rfl, rfl, by simp, fun k hk hne => ?_⟩
 rw [heap_grow_old _ _ (by simpa using hk)]
 have : g ≠ k := fun e => hne (by rw [e])
 simp [putRow, mapBlock, Sort.ahead, Array.getElem?_modify, this]
theorem sortTurn_c {L : List Tn} {v : Value} {σ : List Ent} (hb : L.length ≤ 100000) :
  SCall Tryz.prog 38 [.slv v, .fn (.func 39) [] []] (.row v 64 4 (L.map tnC) :: σ) (fun r τ => r = .tup [] ∧ ∃ S : List Tn, S.Perm L ∧ S.Pairwise (fun a b => a.turn ≤ b.turn) ∧ τ = .row v 64 4 (S.map tnC) :: σ) := by
 by_cases hL0 : L = []
 ·subst hL0
  refine ⟨fun X M w vs hg ha => ?_⟩
  simp only [VRels, VRel] at ha
  obtain ⟨u, r, hvs, ⟨rfl, hsl⟩, u2, r2, rfl, ⟨ws1, ws2, rfl, hw1, hw2⟩, rfl⟩ := ha
  obtain rfl : vs = #[u, .func (.func 39) ws1 ws2] := by cases vs; simp at hvs; rw [hvs]
  obtain ⟨xs, hown, hrel, hs⟩ := hg.ent _ (List.Mem.head _)
  have hu : ∃ p cap, u = .slice p 0 cap := by
   rcases hown.2 with ⟨rfl, h0⟩ | ⟨g, cap, cur, rfl, _⟩
   ·exact ⟨none, 0, rfl⟩
   ·exact ⟨_, cap, rfl⟩
  obtain ⟨p, cap, rfl⟩ := hu
  have hcon := AnyF.slices_SortFunc_none Tryz.sortTurn p cap (.func (.func 39) ws1 ws2) w
  change Calls Tryz.prog 38 _ _ _ at hcon
  refine Calls.mono hcon ?_
  rintro e' w' ⟨rfl, rfl⟩
  exact ⟨M, _, .tup [], _, Mem.le_refl M, hg, by simp only [VRel]; exact ⟨#[], rfl, by simp [VRels]⟩, rfl, rfl, [], List.Perm.refl _, .nil, rfl⟩
 refine ⟨fun X M w vs hg ha => ?_⟩
 simp only [VRels, VRel] at ha
 obtain ⟨u, r, hvs, ⟨rfl, hsl⟩, u2, r2, rfl, ⟨ws1, ws2, rfl, hw1, hw2⟩, rfl⟩ := ha
 obtain rfl : ws1 = #[] := by cases ws1; simp at hw1; rw [hw1]
 obtain rfl : ws2 = #[] := by cases ws2; simp at hw2; rw [hw2]
 obtain rfl : vs = #[u, .func (.func 39) #[] #[]] := by cases vs; simp at hvs; rw [hvs]
 obtain ⟨xs, hown, hrel, hs⟩ := hg.ent _ (List.Mem.head _)
 obtain ⟨ps, e1, e2, e3⟩ := rel_tns hrel
 subst e3
 simp only [List.length_map] at hown
 have hpl : ps.length = L.length := by rw [← e1, List.length_map]
 rcases hown.2 with ⟨rfl, h0⟩ | ⟨g, cap, cur, rfl, hb0, hgg, hnc, hcm, hcs, htk⟩
 ·exact absurd (List.eq_nil_of_length_eq_zero h0) hL0
 ·have hdl : (ps.map (·.2)).length = L.length := by rw [List.length_map, hpl]
  have hH := holds_block (d := ps.map (·.2)) hgg (by rw [hdl]; exact htk)
  have eg : ∀ args w, (callFunc 39 args).run Tryz.prog w = .ok (.enter 39 args) w := enters_of Tryz.func39 (by kernel_rfl) rfl
  have hcon := AnyQ.slices_SortFunc Tryz.sortTurn 4 (fun w => (tU (b := true) (sz := 4) rfl w).1) (fun w => (tU (b := true) (sz := 4) rfl w).2) qA (fun _ => rfl) (fun x v hv => by
   simp only [qA, List.mem_cons, List.not_mem_nil, or_false] at hv
   rcases hv with rfl | rfl | rfl | rfl
   ·rfl
   ·rfl
   ·rfl
   ·exact x.2.2.2.2) (fun x y => Lib.compareInt x.1 y.1) swoTurn 39 #[] g 0 cap (ps.map (·.2)).toArray w eg (fun _ _ _ _ x y => closureT x y _) hH (Array.getElem?_eq_some_iff.1 hgg).1 (by simp; omega)
  change Calls Tryz.prog 38 _ _ _ at hcon
  rw [show (ps.map (·.2)).toArray.size = L.length by simp [hpl]] at hcon
  refine Calls.mono hcon ?_
  rintro e' w' ⟨rfl, d', n, os, hp, hsd, rfl⟩
  have hsz : d'.size = L.length := by have := hp.1; simp [hpl] at this; exact this
  have hperm : d'.toList.Perm (ps.map (·.2)) := by
   have h3 := hp.2.2
   rw [← hsz] at h3
   have e4 : (d'.extract 0 d'.size).toList = d'.toList := by simp
   have e5 : (((ps.map (·.2)).toArray).extract 0 d'.size).toList = ps.map (·.2) := by
    rw [show d'.size = (ps.map (·.2)).toArray.size by rw [hsz]; simp [hpl]]
    simp [List.take_of_length_le]
   rwa [e4, e5] at h3
  obtain ⟨qs, hq1, hq2⟩ := perm_lift hperm
  have hql : qs.length = L.length := by rw [hq1.length_eq, hpl]
  have hqr : ∀ p ∈ qs, RelT M p := fun p hp' => e2 p (hq1.mem_iff.1 hp')
  have hd' : d' = (qs.map (·.2)).toArray := by rw [hq2]
  have hS : (qs.map (·.1)).Pairwise (fun a b : Tn => a.turn ≤ b.turn) := by
   rw [List.pairwise_map, List.pairwise_iff_getElem]
   intro i j hi hj hij
   have h3 := hsd i j (Nat.zero_le _) hij (by omega)
   rw [ltTurn, decide_eq_false_iff_not] at h3
   have gi : d'[i]! = qs[i].2 := by rw [hd']; simp [hi]
   have gj : d'[j]! = qs[j].2 := by rw [hd']; simp [hj]
   rw [gi, gj] at h3
   have r1 := (hqr qs[i] (List.getElem_mem hi)).1
   have r2 := (hqr qs[j] (List.getElem_mem hj)).1
   omega
  have hfl : (flatK qA 4 d').toList = (qs.map (·.2)).flatMap qA := by rw [hd']; exact flat_list _
  have hfs : (flatK qA 4 d').size = L.length * 4 := by simp [hsz]
  have hgr := grownBy_T (w := w) (g := g) (n := n) (os := os) (flatK qA 4 d')
  refine ⟨M, .row (.slice (some ⟨g, 0, none⟩) L.length cap) 64 4 ((qs.map (·.1)).map tnC) :: σ, .tup [], _, Mem.le_refl M, ?_, by simp only [VRel]; exact ⟨#[], rfl, by simp [VRels]⟩, rfl, rfl, qs.map (·.1), ?_, hS, rfl⟩
  ·refine hg.upd .here hgr.os hgr.tape hgr.output (fun k hk hne => hgr.block k hk (fun e => hne (by simp [Ent.block, Value.ownBlock]; exact (Option.some.inj e).symm))) ?_ (.inl rfl)
   refine ⟨(qs.map (·.2)).flatMap qA, ?_, tns_rel hqr, by intro x hx; obtain ⟨_, _, rfl⟩ := List.mem_map.1 hx; rfl⟩
   rw [List.length_map, List.length_map, hql]
   refine ⟨by rw [← hfl, Array.length_toList, hfs], .inr ⟨g, cap, _, rfl, hb0, heap_T _ hgg, hnc, hcm, by simp [putCells, hcs], ?_⟩⟩
   rw [← hfs, take_putN _ _ (by rw [hfs, hcs]; exact Nat.mul_le_mul_right _ hnc), hfl]
  ·have := hq1.map (·.1)
   rwa [e1] at this
open Go.Shelf Go.Sort
def Tryz.laysSort_ren : Go.Shelf.Ren := ⟨fun | 189 => 37 | 125 => 75 | 257 => 74 | 128 => 113 | 129 => 114 | 294 => 104 | 295 => 105 | 296 => 106 | 297 => 107 | 298 => 108 | 299 => 109 | 216 => 110 | 300 => 111 | 301 => 112 | 328 => 138 | 329 => 139 | 330 => 140 | 331 => 141 | 332 => 142 | 215 => 73 | 343 => 156 | n => n, fun | 28 => 62 | 3 => 3 | 46 => 120 | 0 => 0 | 51 => 150 | 53 => 152 | 4 => 4 | 183 => 143 | 182 => 142 | 131 => 65 | 5 => 5 | 9 => 9 | 218 => 176 | 222 => 163 | 228 => 199 | 229 => 106 | n => n, fun | n => n⟩
theorem Tryz.laysSort : Go.Proofs.Lays.n189 Tryz.prog Tryz.laysSort_ren := {
 mixed := by kernel_rfl
 f125 := Tryz.func75.trans (congrArg some (by kernel_rfl))
 f128 := Tryz.func113.trans (congrArg some (by kernel_rfl))
 f129 := Tryz.func114.trans (congrArg some (by kernel_rfl))
 f189 := Tryz.func37.trans (congrArg some (by kernel_rfl))
 f215 := Tryz.func73.trans (congrArg some (by kernel_rfl))
 f216 := Tryz.func110.trans (congrArg some (by kernel_rfl))
 f257 := Tryz.func74.trans (congrArg some (by kernel_rfl))
 f294 := Tryz.func104.trans (congrArg some (by kernel_rfl))
 f295 := Tryz.func105.trans (congrArg some (by kernel_rfl))
 f296 := Tryz.func106.trans (congrArg some (by kernel_rfl))
 f297 := Tryz.func107.trans (congrArg some (by kernel_rfl))
 f298 := Tryz.func108.trans (congrArg some (by kernel_rfl))
 f299 := Tryz.func109.trans (congrArg some (by kernel_rfl))
 f300 := Tryz.func111.trans (congrArg some (by kernel_rfl))
 f301 := Tryz.func112.trans (congrArg some (by kernel_rfl))
 f328 := Tryz.func138.trans (congrArg some (by kernel_rfl))
 f329 := Tryz.func139.trans (congrArg some (by kernel_rfl))
 f330 := Tryz.func140.trans (congrArg some (by kernel_rfl))
 f331 := Tryz.func141.trans (congrArg some (by kernel_rfl))
 f332 := Tryz.func142.trans (congrArg some (by kernel_rfl))
 f343 := Tryz.func156.trans (congrArg some (by kernel_rfl))
 t0 := Tryz.underlying0
 a0 := Tryz.isAgg0
 z0 := Tryz.sizeOf0
 v0 := Tryz.zeroValue0
 t3 := Tryz.underlying3
 a3 := Tryz.isAgg3
 z3 := Tryz.sizeOf3
 v3 := Tryz.zeroValue3
 t4 := Tryz.underlying4
 a4 := Tryz.isAgg4
 z4 := Tryz.sizeOf4
 v4 := Tryz.zeroValue4
 t5 := Tryz.underlying5
 a5 := Tryz.isAgg5
 z5 := Tryz.sizeOf5
 v5 := Tryz.zeroValue5
 t9 := Tryz.underlying9
 a9 := Tryz.isAgg9
 z9 := Tryz.sizeOf9
 v9 := Tryz.zeroValue9
 t28 := Tryz.underlying62
 a28 := Tryz.isAgg62
 z28 := Tryz.sizeOf62
 v28 := Tryz.zeroValue62
 t46 := Tryz.underlying120
 a46 := Tryz.isAgg120
 z46 := Tryz.sizeOf120
 v46 := Tryz.zeroValue120
 t51 := Tryz.underlying150
 a51 := Tryz.isAgg150
 z51 := Tryz.sizeOf150
 v51 := Tryz.zeroValue150
 t53 := Tryz.underlying152
 a53 := Tryz.isAgg152
 z53 := Tryz.sizeOf152
 v53 := Tryz.zeroValue152
 t131 := Tryz.underlying65
 a131 := Tryz.isAgg65
 z131 := Tryz.sizeOf65
 v131 := Tryz.zeroValue65
 t182 := Tryz.underlying142
 a182 := Tryz.isAgg142
 z182 := Tryz.sizeOf142
 v182 := Tryz.zeroValue142
 t183 := Tryz.underlying143
 a183 := Tryz.isAgg143
 z183 := Tryz.sizeOf143
 v183 := Tryz.zeroValue143
 t218 := Tryz.underlying176
 a218 := Tryz.isAgg176
 z218 := Tryz.sizeOf176
 v218 := Tryz.zeroValue176
 t222 := Tryz.underlying163
 a222 := Tryz.isAgg163
 z222 := Tryz.sizeOf163
 v222 := Tryz.zeroValue163
 t228 := Tryz.underlying199
 a228 := Tryz.isAgg199
 z228 := Tryz.sizeOf199
 v228 := Tryz.zeroValue199
 t229 := Tryz.underlying106
 a229 := Tryz.isAgg106
 z229 := Tryz.sizeOf106
 v229 := Tryz.zeroValue106 }
def sortI (l : List Int) : List Int := l.mergeSort fun x y => decide (x ≤ y)
theorem sortI_length (l : List Int) : (sortI l).length = l.length := by simp [sortI]
theorem rel_ints {M : Mem} : ∀ {l : List Int} {vs : List Value}, VRels M (l.map fun n => [AV.int .i64 n]).flatten vs → vs = l.map (Value.int .i64)
 | [], vs, h => by simpa [VRels] using h
 | n :: l, vs, h => by
  simp only [List.map_cons, List.flatten_cons, List.cons_append, List.nil_append, VRels, VRel] at h
  obtain ⟨v, r, rfl, rfl, h⟩ := h
  rw [rel_ints h]; rfl
theorem ints_rel {M : Mem} : ∀ (l : List Int), VRels M (l.map fun n => [AV.int .i64 n]).flatten (l.map (Value.int .i64))
 | [] => by simp [VRels]
 | n :: l => by
  simp only [List.map_cons, List.flatten_cons, List.cons_append, List.nil_append, VRels, VRel]
  exact ⟨_, _, rfl, rfl, ints_rel l⟩
theorem sort_c {e : TypeId} {l : List Int} {v : Value} {σ σ' : List Ent} (hu : Upd σ (.row v e 1 (l.map fun n => [AV.int .i64 n])) (.row v e 1 ((sortI l).map fun n => [AV.int .i64 n])) σ') (hb : l.length < 4611686018427387904) :
  SCall Tryz.prog 37 [.slv v] σ (fun r τ => r = .tup [] ∧ τ = σ') := by
 refine ⟨fun X M w vs hg ha => ?_⟩
 simp only [VRels, VRel] at ha
 obtain ⟨u, r, hvs, ⟨rfl, hsl⟩, rfl⟩ := ha
 obtain rfl : vs = #[u] := by cases vs; simp at hvs; rw [hvs]
 obtain ⟨xs, hown, hrel, hs⟩ := hg.ent _ hu.mem
 have hxs := rel_ints hrel
 subst hxs
 simp only [List.length_map] at hown
 rcases hown.2 with ⟨rfl, h0⟩ | ⟨g, cap, cur, rfl, hb0, hgg, hnc, hcm, hcs, htk⟩
 ·have h1 : l = [] := List.eq_nil_of_length_eq_zero h0
  subst h1
  have hs0 : sortI [] = [] := by simp [sortI]
  rw [hs0] at hu
  refine Calls.mono (calls_of_every_depth fun D => AnyS.slices_Sort_int_none_alone Tryz.laysSort D none 0 w) ?_
  rintro e' w' ⟨rfl, rfl⟩
  refine ⟨M, σ', .tup [], _, Mem.le_refl M, ?_, by simp only [VRel]; exact ⟨#[], rfl, by simp [VRels]⟩, rfl, rfl, rfl⟩
  exact hg.upd hu rfl rfl rfl (fun _ _ _ => rfl) (hg.ent _ hu.mem) (.inl rfl)
 ·have hH := holds_of_blockI (ss := l) hgg (by simpa using htk)
  refine Calls.mono (Any.slices_Sort_int Tryz.laysSort g 0 cap l w hH (Array.getElem?_eq_some_iff.1 hgg).1 hb) ?_
  rintro e' w' ⟨rfl, n, os, rfl⟩
  have hgr := grownBy_sortedI (w := w) (g := g) (n := n) (os := os) (sortI l).toArray
  have hrow := ownsRow_sortedI (base := 0) (n := n) (os := os) (ts := sortI l) (sortI_length l) (Nat.zero_le g) hgg hnc hcm hcs
  refine ⟨M, σ', .tup [], _, Mem.le_refl M, ?_, by simp only [VRel]; exact ⟨#[], rfl, by simp [VRels]⟩, rfl, rfl, rfl⟩
  refine hg.upd hu hgr.os hgr.tape hgr.output (fun k hk hne => hgr.block k hk (fun e => hne (by simp [Ent.block, Value.ownBlock]; exact (Option.some.inj e).symm))) ?_ (.inl rfl)
  refine ⟨_, ?_, ints_rel (sortI l), by intro x hx; obtain ⟨_, _, rfl⟩ := List.mem_map.1 hx; rfl⟩
  simp only [List.length_map, sortI_length]
  exact hrow
open Go.MapKept
structure MapB (es : Array MapEntry) (clock : Nat) (K : Int → Bool) (n : Nat) : Prop where
 st : Stamped es clock
 ks : ∀ e ∈ es.toList, ∃ a, e.key = .int .i64 a ∧ K a = true ∧ e.val = .bool true
 al : ∀ a, K a = true → ∃ e ∈ es.toList, e.key = .int .i64 a
 sz : es.size = n
section
variable {P : Program} {ro : Option Nat} {env : Env} {σ : List Ent} {dst : Option Tmp} {ty : TypeId} {pos : String} {after : Array Edge} {guard : Option (Nat × Bool)}
end
end Go.Proofs.YtkhoengjdfmfaaaGreat
