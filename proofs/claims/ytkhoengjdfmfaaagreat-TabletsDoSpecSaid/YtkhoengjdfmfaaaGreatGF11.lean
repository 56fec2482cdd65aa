/- Parts of the proof that belong together: Waa Wb Wc Wd We. -/
import Derived.Test.YtkhoengjdfmfaaaGreatGF04
import Derived.Test.YtkhoengjdfmfaaaGreatGF10
set_option maxRecDepth 10000
set_option maxHeartbeats 8000000
set_option linter.unusedSimpArgs false
set_option linter.unusedVariables false
namespace Go.Proofs.YtkhoengjdfmfaaaGreat
theorem ap_get {A : List Ap} {k : Nat} {p : Ap} (h : A[k]? = some p) : (A.map apC)[k]? = some (apC p) := by rw [List.getElem?_map, h]; rfl
def NetQ (L : List Pk) (A : List Ap) (σ : List Ent) : AV → List Ent → Prop := fun r τ => τ = σ ∧ ((NetOk L A ∧ r = .int .i64 0) ∨ (¬ NetOk L A ∧ r = .int .i64 60))
theorem netcheck_g (L : List Pk) (A : List Ap) (σ : List Ent) : SCall Tryz.prog 27 [netV L A] σ (NetQ L A σ) := by
 refine zL Tryz.func27 rfl (by simp) ?_
 have hc := fun σ => fPk_any L 63 [] [] (fun p => !okPB p) σ (zB (by kernel_rfl)) (fun k c hk => check1_g c σ)
 by_cases hq : (L.any fun p => !okPB p) = true
 ·have hbad : ¬ NetOk L A := fun h => by
   obtain ⟨p, hp, h1⟩ := List.any_eq_true.1 hq
   rw [okPB_iff.2 (h.pk p hp)] at h1
   cases h1
  rw [hq] at hc
  refine zY (zZ ?_); refine xB ?_; intro _; refine zP ?_; refine zX (zY (zY (zZ ?_))); refine yG ?_; refine wH ?_; refine xY ?_; intro _ _; refine zR ?_; refine xT ?_ ?_ <;> (intro h hp k; (try subst k); (try simp only [q_n] at hp); try first | omega | (cases hp; done));
  (iterate 3 refine yC ?_); refine xF ?_; refine zX (zG rfl (by rfl) ?_); refine zY (zZ ?_); refine zP ?_; refine zX (zV ?_); simp only [yX]; rotate_left; refine wL ?_; apply xR; rfl; (rfl); rfl; rfl; (refine yJ ?_; exact hc _); intro _ _; refine yB ?_; refine zX (yN ?_ ?_) <;> (intro h hp k; (try subst k); (try simp only [q_n] at hp); try first | omega | (cases hp; done));
  refine zY (zZ ?_); refine zP ?_; refine zX (zV ?_); simp only [yX]; rotate_left
  all_goals ((repeat (rename BV _ _ => k; first | cases k | clear k)); try exact zN)
  all_goals
   refine xX (σ3 := σ) ?_
   exact zJ ⟨rfl, .inr ⟨hbad, rfl⟩⟩
 have hq0 : (L.any fun p => !okPB p) = false := by simpa using hq
 have hpk : ∀ p ∈ L, OkP p := fun p hp => by
  have := (List.any_eq_false.1 hq0) p hp
  exact okPB_iff.1 (by simpa using this)
 rw [hq0] at hc
 clear hq hq0
 by_cases hlen : 4096 < L.length
 ·have hbad : ¬ NetOk L A := fun h => by have := h.few; omega
  have hgt : decide ((L.length : Int) > 4096) = true := decide_eq_true (by omega)
  refine zY (zZ ?_); refine xB ?_; intro _; refine zP ?_; refine zX (zY (zY (zZ ?_))); refine yG ?_; refine wH ?_; refine xY ?_; intro _ _; refine zR ?_; refine xT ?_ ?_ <;> (intro h hp k; (try subst k); (try simp only [q_n] at hp); try first | omega | (cases hp; done));
  (iterate 3 refine yC ?_); refine xF ?_; refine zX (zG rfl (by rfl) ?_); refine zY (zZ ?_); refine zP ?_; refine zX (zV ?_); simp only [yX]; rotate_left
  all_goals ((repeat (rename BV _ _ => k; first | cases k | clear k)); try exact zN)
  refine xX (σ3 := σ) ?_
  exact zJ ⟨rfl, .inr ⟨hbad, rfl⟩⟩
 refine zY (zZ ?_); refine xB ?_; intro _; refine zP ?_; refine zX (zY (zY (zZ ?_))); refine yG ?_; refine wH ?_; refine xY ?_; intro _ _; refine zR ?_; refine xT ?_ ?_ <;> (intro h hp k; (try subst k); (try simp only [q_n] at hp); try first | omega | (cases hp; done));
 refine wL ?_; apply xR; rfl; (rfl); rfl; rfl; (refine yJ ?_; exact hc _); intro _ _; refine yB ?_; refine zX (yN ?_ ?_) <;> (intro h hp k; (try subst k); (try simp only [q_n] at hp); try first | omega | (cases hp; done));
 refine zW (zY (zY (zZ ?_))); refine yG ?_; refine wH ?_; refine zR ?_; refine zX (zT ?_); rotate_left
 all_goals ((repeat (rename BV _ _ => k; first | cases k | clear k)); try exact zN)
 rename Nat => b1; revert b1
 intro b1
 clear hc
 refine pS (t := 15) rfl ((List.length_map _).symm) (fun hAl => ?_)
 refine yD (fun (k : Nat) => (⟨[(1, .ptr b1 0), (2, .int .i64 0), (15, aps A), (16, .int .i64 A.length), (17, .int .i64 k)], .cells b1 (netC L A) 39 :: σ, [], Tryz.f27.ntmps⟩ : St)) (fun k => k ≤ A.length ∧ (∀ i p, i < k → A[i]? = some p → linkB p = true) ∧ ∀ i p q, i + 1 < k → A[i]? = some p → A[i + 1]? = some q → ltA p q = true) (fun k => A.length - k) 0 (⟨Nat.zero_le _, fun i p h => absurd h (Nat.not_lt_zero _), fun i p q h => absurd h (Nat.not_lt_zero _)⟩) (St.le_of (by repeat (first | exact trivial | refine ⟨rfl, ?_⟩)) (by repeat (first | exact q_r | apply q_q | apply q_k))) ?_
 intro k hI
 obtain ⟨hI1, hI2, hI3⟩ := hI
 by_cases hk : k < A.length
 ·obtain ⟨p, hpa⟩ : ∃ p, A[k]? = some p := yW hk
  have hg := ap_get hpa
  have hlk := fun σ => link_g p.1 p.2 σ
  refine zY (zZ ?_); refine xY ?_; intro _ _; refine zX (zY (yN ?_ ?_)) <;> (intro h hp k; (try subst k); (try simp only [q_n] at hp); try first | omega | (cases hp; done));
  refine zW (zY (zT ?_)); refine zY (zZ ?_); refine zR ?_; refine vG ?_; refine yA ?_; refine xK ?_; intro _; refine zP ?_; refine yR ?_; refine zX (zY ?_); rotate_left
  all_goals ((repeat (rename BV _ _ => k; first | cases k | clear k)); try exact zN)
  refine ex_sealCells (d := 4) (L := apC p) .here rfl ?_
  cases hb : linkB (p.1, p.2) with
  | false =>
   have hbad : ¬ NetOk L A := fun h => by
    have := h.ap.link p (List.mem_of_getElem? hpa)
    rw [hb] at this; cases this
   rw [hb] at hlk
   clear hI2 hI3 hpk hpa
   refine xV rfl rfl (by kernel_rfl) rfl ?_; refine yU rfl (by kernel_rfl) rfl ?_; refine qB ?_; apply vP; rfl; rfl; rfl; (intro σ' hl; (refine yJ ?_; exact hlk _)); intro _ _; apply vP; rfl; rfl; rfl; (intro σ' hl; (apply tD <;> rfl)); intro _ _; refine xU ?_; refine uW ?_ ?_ <;> (intro h hp k; (try subst k); (try simp only [q_n] at hp); try first | omega | (cases hp; done));
   (iterate 3 refine vF ?_); (iterate 9 refine wS rfl rfl rfl ?_); refine vF ?_; refine tZ ?_; refine zC ?_; show EX _ _ _ _ _; refine zG rfl (by rfl) ?_; refine zY (zZ ?_); refine zP ?_; refine zX (zV ?_); simp only [yX]; rotate_left; refine uV ?_; refine tE ?_; intro _ _; refine uV ?_; refine uW ?_ ?_ <;> (intro h hp k; (try subst k); (try simp only [q_n] at hp); try first | omega | (cases hp; done));
   refine tX ?_; refine uU ?_; refine uV ?_; refine vSu ?_; simp only [zA, zF, zE, zH, yK, ↓reduceIte, Nat.reduceEqDiff]; rotate_left; (iterate 9 refine vF ?_); refine vPf ?_; refine qW ?_; refine zC ?_; show EX _ _ _ _ _; refine yH rfl (by rfl) ?_; refine zW (zZ (vX ?_)); refine zR ?_; refine zQ ?_; simp only [zA, zF, zE, zH, yK, ↓reduceIte, Nat.reduceEqDiff]; rotate_left
   all_goals ((repeat (rename BV _ _ => k; first | cases k | clear k)); try exact zN)
   refine xX (σ3 := σ) ?_
   exact zJ ⟨rfl, .inr ⟨hbad, rfl⟩⟩
  | true =>
   rw [hb] at hlk
   have hnext : ∀ i q, i < k + 1 → A[i]? = some q → linkB q = true := fun i q h1 h2 => by
    by_cases e : i = k
    ·subst e; rw [hpa] at h2; cases h2; exact hb
    ·exact hI2 i q (by omega) h2
   cases k with
   | zero =>
    refine xV rfl rfl (by kernel_rfl) rfl ?_; refine yU rfl (by kernel_rfl) rfl ?_; refine qB ?_; apply vP; rfl; rfl; rfl; (intro σ' hl; (refine yJ ?_; exact hlk _)); intro _ _; apply vP; rfl; rfl; rfl; (intro σ' hl; (apply tD <;> rfl)); intro _ _; refine xU ?_; refine uW ?_ ?_ <;> (intro h hp k; (try subst k); (try simp only [q_n] at hp); try first | omega | (cases hp; done));
    (iterate 3 refine vF ?_); (iterate 9 refine wS rfl rfl rfl ?_); refine vF ?_; refine tZ ?_; refine zC ?_; show EX _ _ _ _ _; refine zG rfl (by rfl) ?_; refine zY (zZ ?_); refine zP ?_; refine zX (zV ?_); simp only [yX]; rotate_left; refine uV ?_; refine tE ?_; intro _ _; refine uV ?_; refine uW ?_ ?_ <;> (intro h hp k; (try subst k); (try simp only [q_n] at hp); try first | omega | (cases hp; done));
    (iterate 9 refine vF ?_); refine vPf ?_; refine qW ?_; refine zC ?_; show EX _ _ _ _ _; refine yH rfl (by rfl) ?_; refine zW (zZ (vX ?_)); refine zR ?_; refine zQ ?_; simp only [zA, zF, zE, zH, yK, ↓reduceIte, Nat.reduceEqDiff]; rotate_left
    all_goals ((repeat (rename BV _ _ => k; first | cases k | clear k)); try exact zN)
    refine ⟨1, ⟨hk, hnext, fun i p q h => by omega⟩, by omega, ?_⟩
    exact wW
   | succ j =>
    obtain ⟨p', hpa'⟩ : ∃ p', A[j]? = some p' := yW (by omega)
    have hg' := ap_get hpa'
    have hcm := fun σ => compare2_c p' p σ
    have hkj : (((j + 1 : Nat) : Int) - 1) = ((j : Nat) : Int) := by omega
    have hlt := cmpA_lt (p := p') (q := p)
    by_cases hup : ltA p' p = true
    ·have hneg : ¬ (0 ≤ cmpA p' p) := hlt.2 hup
     have hups : ∀ i p q, i + 1 < j + 1 + 1 → A[i]? = some p → A[i + 1]? = some q → ltA p q = true := fun i r q h1 h2 h3 => by
      by_cases e : i = j
      ·subst e; rw [hpa'] at h2; rw [hpa] at h3; cases h2; cases h3; exact hup
      ·exact hI3 i r q (by omega) h2 h3
     generalize cmpA p' p = c at hcm hneg
     clear hI2 hI3 hpk hlt hup
     refine xV rfl rfl (by kernel_rfl) rfl ?_; refine yU rfl (by kernel_rfl) rfl ?_; refine qB ?_; apply vP; rfl; rfl; rfl; (intro σ' hl; (refine yJ ?_; exact hlk _)); intro _ _; apply vP; rfl; rfl; rfl; (intro σ' hl; (apply tD <;> rfl)); intro _ _; refine xU ?_; refine uW ?_ ?_ <;> (intro h hp k; (try subst k); (try simp only [q_n] at hp); try first | omega | (cases hp; done));
     (iterate 3 refine vF ?_); (iterate 9 refine wS rfl rfl rfl ?_); refine vF ?_; refine tZ ?_; refine zC ?_; show EX _ _ _ _ _; refine zG rfl (by rfl) ?_; refine zY (zZ ?_); refine zP ?_; refine zX (zV ?_); simp only [yX]; rotate_left; refine uV ?_; refine tE ?_; intro _ _; refine uV ?_; refine uW ?_ ?_ <;> (intro h hp k; (try subst k); (try simp only [q_n] at hp); try first | omega | (cases hp; done));
     refine tX ?_; refine uU ?_; refine uV ?_; refine vSu ?_; refine vIx ?_; apply xS; rfl; (rfl); rfl; rfl; (intro σ' hl; (exact g_sliceArrE rfl rfl rfl rfl rfl)); apply xS; rfl; (rfl); rfl; rfl; (intro σ' hl; (exact g_sliceArrE rfl rfl rfl rfl rfl)); apply xS; rfl; (rfl); rfl; rfl; (intro σ' hl; (refine yJ ?_; exact hcm _)); refine tE ?_; intro _ _; refine vPt ?_; refine qW ?_; refine zC ?_; show EX _ _ _ _ _; refine yN ?_ ?_ <;> (intro h hp k; (try subst k); (try simp only [q_n] at hp); try first | omega | (cases hp; done));
     refine zW (zZ (vX ?_)); refine zR ?_; refine zQ ?_; simp only [zA, zF, zE, zH, yK, ↓reduceIte, Nat.reduceEqDiff]; rotate_left
     all_goals ((repeat (rename BV _ _ => k; first | cases k | clear k)); try exact zN)
     refine ⟨j + 2, ⟨hk, hnext, hups⟩, by omega, ?_⟩
     exact wW
    ·have hge : 0 ≤ cmpA p' p := Classical.not_not.1 (fun h => hup (hlt.1 h))
     have hbad : ¬ NetOk L A := fun h => hup (h.ap.up j p' p hpa' hpa)
     generalize cmpA p' p = c at hcm hge
     clear hI2 hI3 hpk hlt hup hnext
     refine xV rfl rfl (by kernel_rfl) rfl ?_; refine yU rfl (by kernel_rfl) rfl ?_; refine qB ?_; apply vP; rfl; rfl; rfl; (intro σ' hl; (refine yJ ?_; exact hlk _)); intro _ _; apply vP; rfl; rfl; rfl; (intro σ' hl; (apply tD <;> rfl)); intro _ _; refine xU ?_; refine uW ?_ ?_ <;> (intro h hp k; (try subst k); (try simp only [q_n] at hp); try first | omega | (cases hp; done));
     (iterate 3 refine vF ?_); (iterate 9 refine wS rfl rfl rfl ?_); refine vF ?_; refine tZ ?_; refine zC ?_; show EX _ _ _ _ _; refine zG rfl (by rfl) ?_; refine zY (zZ ?_); refine zP ?_; refine zX (zV ?_); simp only [yX]; rotate_left; refine uV ?_; refine tE ?_; intro _ _; refine uV ?_; refine uW ?_ ?_ <;> (intro h hp k; (try subst k); (try simp only [q_n] at hp); try first | omega | (cases hp; done));
     refine tX ?_; refine uU ?_; refine uV ?_; refine vSu ?_; refine vIx ?_; apply xS; rfl; (rfl); rfl; rfl; (intro σ' hl; (exact g_sliceArrE rfl rfl rfl rfl rfl)); apply xS; rfl; (rfl); rfl; rfl; (intro σ' hl; (exact g_sliceArrE rfl rfl rfl rfl rfl)); apply xS; rfl; (rfl); rfl; rfl; (intro σ' hl; (refine yJ ?_; exact hcm _)); refine tE ?_; intro _ _; refine vPt ?_; refine qW ?_; refine zC ?_; show EX _ _ _ _ _; refine yN ?_ ?_ <;> (intro h hp k; (try subst k); (try simp only [q_n] at hp); try first | omega | (cases hp; done));
     refine zY (zZ ?_); refine zP ?_; refine zX (zV ?_); simp only [yX]; rotate_left
     all_goals ((repeat (rename BV _ _ => k; first | cases k | clear k)); try exact zN)
     refine xX (σ3 := σ) ?_
     exact zJ ⟨rfl, .inr ⟨hbad, rfl⟩⟩
 ·have e : k = A.length := by omega
  have hok : NetOk L A := ⟨by omega, hpk, fun p hp => (by
   obtain ⟨i, hi⟩ := List.getElem?_of_mem hp
   exact hI2 i p (by have := wD hi; omega) hi), fun i p q h1 h2 => hI3 i p q (by have := wD h2; omega) h1 h2⟩
  clear hI2 hI3 hpk
  refine zY (zZ ?_); refine xY ?_; intro _ _; refine zX (zY (yN ?_ ?_)) <;> (intro h hp k; (try subst k); (try simp only [q_n] at hp); try first | omega | (cases hp; done));
  refine yQ ?_; refine zY (zZ ?_); refine zP ?_; refine zX (zV ?_); simp only [yX]; rotate_left
  all_goals ((repeat (rename BV _ _ => k; first | cases k | clear k)); try exact zN)
  refine xX (σ3 := σ) ?_
  exact zJ ⟨rfl, .inl ⟨hok, rfl⟩⟩
abbrev pk0 : List AV := [.int .i64 0, .int .i64 0, .slv nilS]
abbrev net0 : List AV := [.slv nilS, .slv nilS]
theorem uY {P : Program} {f : FuncId} {args : List AV} {σ : List Ent} {R R' : AV → List Ent → Prop} (h : SCall P f args σ R) (hr : ∀ v τ, R v τ → R' v τ) : SCall P f args σ R' :=
 ⟨fun X M w vs hg ha => (h.run X M w vs hg ha).mono fun e w' ⟨M', σ', r, v, h1, h2, h3, h4, h5⟩ => ⟨M', σ', r, v, h1, h2, h3, h4, hr _ _ h5⟩⟩
theorem netcheck_ok {L : List Pk} {A : List Ap} (h : NetOk L A) (σ : List Ent) : SCall Tryz.prog 27 [netV L A] σ (Is (.int .i64 0) σ) :=
 uY (netcheck_g L A σ) fun v τ ⟨h1, h2⟩ => by
  rcases h2 with ⟨_, rfl⟩ | ⟨h3, _⟩
  ·subst h1; exact .mk
  ·exact absurd h h3
theorem netnew_c (σ : List Ent) : SCall Tryz.prog 45 [] σ (Is (.agg [.slv nilS, .slv nilS]) σ) := by
 refine zL Tryz.func45 rfl (by simp) ?_
 refine zY (zZ ?_); refine xK ?_; intro _; refine zX (zY (zZ ?_)); refine yA ?_; refine yR ?_; refine zX (zV ?_); simp only [yX]; rotate_left
 all_goals ((repeat (rename BV _ _ => k; first | cases k | clear k)); try exact zN)
 refine xW ?_
 rfl
theorem packet_c (p : Pk) (h : OkP p) (σ : List Ent) : SCall Tryz.prog 64 [pkV p] σ (Is (.bool true) σ) := by
 have := packet_g p σ
 rwa [okPB_iff.2 h] at this
theorem send_c (L : List Pk) (A : List Ap) (h : NetOk L A) (p : Pk) (hp0 : OkP p) (σ : List Ent) :
  SCall Tryz.prog 83 [netV L A, pkV p] σ (Is (if L.length = 4096 then .tup [.agg [.slv nilS, .slv nilS], .int .i64 2] else .tup [netV (L ++ [p]) A, .int .i64 0]) σ) := by
 refine zL Tryz.func83 rfl (by simp) ?_
 have hl := h.few
 have hc := fun σ => netcheck_ok h σ
 have hk := fun σ => packet_c p hp0 σ
 clear h hp0
 by_cases he : L.length = 4096
 ·rw [if_pos he]
  have he1 : (L.length : Int) = 4096 := by omega
  refine zY (zZ ?_); refine xB ?_; intro _; refine xB ?_; intro _; refine xK ?_; intro _; refine zP ?_; refine zX (zY (zY (zZ ?_))); refine yA ?_; apply zU; rfl; rfl; rfl; (refine yJ ?_; exact hc _); refine xY ?_; intro _ _; refine zR ?_; refine xT ?_ ?_ <;> (intro h hp k; (try subst k); (try simp only [q_n] at hp); try first | omega | (cases hp; done));
  refine yLa ?_; apply xR; rfl; (rfl); rfl; rfl; (refine yJ ?_; exact hk _); intro _ _; refine yNo ?_; intro _ _; refine yB ?_; refine zX (yN ?_ ?_) <;> (intro h hp k; (try subst k); (try simp only [q_n] at hp); try first | omega | (cases hp; done));
  refine zY (zZ ?_); refine yA ?_; refine yR ?_; refine zP ?_; refine zX (zV ?_); simp only [yX]; rotate_left; refine zW (zY (zY (zZ ?_))); refine yG ?_; refine wH ?_; refine zD ?_ ?_ <;> (intro h hp; (try simp only [q_n] at hp); try first | omega | (cases hp; done));
  refine zY (zZ ?_); refine yA ?_; refine yR ?_; refine zP ?_; refine zX (zV ?_); simp only [yX]; rotate_left
  all_goals ((repeat (rename BV _ _ => k; first | cases k | clear k)); try exact zN)
  refine xW ?_
  rfl
 ·rw [if_neg he]
  have he1 : ¬ (L.length : Int) = 4096 := by omega
  have hat : L.length ≤ (L.map pkC).length := by rw [List.length_map]; exact Nat.le_refl _
  have htl : ((L.map pkC).take L.length).length = L.length := by rw [List.length_take]; omega
  have hput : (L ++ [p]).map pkC = (L.map pkC).take L.length ++ [pkC p] := by rw [List.map_append, List.take_of_length_le (by rw [List.length_map]; exact Nat.le_refl _)]; rfl
  have hres : netV (L ++ [p]) A = .agg [.dl 3 ((L.map pkC).take L.length ++ [pkC p]), aps A] := by show AV.agg [.dl 3 ((L ++ [p]).map pkC), aps A] = _; rw [hput]
  rw [hres]
  clear hput hres
  refine zY (zZ ?_); refine xB ?_; intro _; refine xB ?_; intro _; refine xK ?_; intro _; refine zP ?_; refine zX (zY (zY (zZ ?_))); refine yA ?_; apply zU; rfl; rfl; rfl; (refine yJ ?_; exact hc _); refine xY ?_; intro _ _; refine zR ?_; refine xT ?_ ?_ <;> (intro h hp k; (try subst k); (try simp only [q_n] at hp); try first | omega | (cases hp; done));
  refine yLa ?_; apply xR; rfl; (rfl); rfl; rfl; (refine yJ ?_; exact hk _); intro _ _; refine yNo ?_; intro _ _; refine yB ?_; refine zX (yN ?_ ?_) <;> (intro h hp k; (try subst k); (try simp only [q_n] at hp); try first | omega | (cases hp; done));
  refine zY (zZ ?_); refine yA ?_; refine yR ?_; refine zP ?_; refine zX (zV ?_); simp only [yX]; rotate_left; refine zW (zY (zY (zZ ?_))); refine yG ?_; refine wH ?_; refine zD ?_ ?_ <;> (intro h hp; (try simp only [q_n] at hp); try first | omega | (cases hp; done));
  refine zW (zY (ex_drawT rfl rfl (by kernel_rfl) rfl ?_)); simp only [List.length_cons, List.length_nil, Nat.reduceAdd, Nat.reduceSub, List.take_succ_cons, List.take_zero, List.drop_succ_cons, List.drop_zero]; refine vR ?_; refine vW ?_; refine vR ?_; refine vW ?_; apply yY; rfl; rfl; rfl; (intro σ' hl; (apply xH; rfl; rfl; (exact (List.length_map _).symm))); refine vR ?_; refine vW ?_; apply yY; rfl; rfl; rfl; (intro σ' hl; (apply xH; rfl; rfl; (exact (List.length_map _).symm))); apply yY; rfl; rfl; rfl; (intro σ' hl; (exact g_slice3 rfl rfl rfl rfl rfl rfl hat)); refine qB ?_; apply yY; rfl; rfl; rfl; (intro σ' hl; (exact xE (yV rfl rfl (by decide) rfl rfl (by (simp only [xC, wU]; rfl))))); apply yY; rfl; rfl; rfl; (intro σ' hl; (refine g_appendTS rfl rfl rfl (.s .d) ?_; refine wP ?_ (by kernel_rfl); rw [htl]; simp; omega)); refine vR ?_; refine zC (yR ?_); refine zX (zY (zZ ?_)); refine yA ?_; refine yR ?_; refine zP ?_; refine zX (zV ?_); simp only [yX]; rotate_left
  all_goals ((repeat (rename BV _ _ => k; first | cases k | clear k)); try exact zN)
  refine xW ?_
  rfl
theorem pk_get {L : List Pk} {k : Nat} {p : Pk} (h : L[k]? = some p) : (L.map pkC)[k]? = some (pkC p) := by rw [List.getElem?_map, h]; rfl
theorem at_out (L : List Pk) (A : List Ap) (h : NetOk L A) (i : Int) (hi : i < 0 ∨ (L.length : Int) ≤ i) (σ : List Ent) :
  SCall Tryz.prog 127 [netV L A, .int .i64 i] σ (Is (.tup [.agg pk0, .int .i64 1]) σ) := by
 refine zL Tryz.func127 rfl (by simp) ?_
 have hl := h.few
 have hc := fun σ => netcheck_ok h σ
 clear h
 refine zY (zZ ?_); refine xB ?_; intro _; refine xK ?_; intro _; refine zP ?_; refine zX (zY (zY (zZ ?_))); refine yA ?_; apply zU; rfl; rfl; rfl; (refine yJ ?_; exact hc _); refine zD ?_ ?_ <;> (intro h hp; (try simp only [q_n] at hp); try first | omega | (cases hp; done));
 refine zW (zY (zY (zZ ?_))); refine zR ?_; refine xY ?_; intro _ _; refine zR ?_; refine xT ?_ ?_ <;> (intro h hp k; (try subst k); (try simp only [q_n] at hp); try first | omega | (cases hp; done));
 (iterate 5 refine yC ?_); refine xF ?_; refine zX (zG rfl (by rfl) ?_); refine zY (zZ ?_); refine yA ?_; refine yR ?_; refine zP ?_; refine zX (zV ?_); simp only [yX]; rotate_left; refine vN ?_; refine wL ?_; apply yZ; rfl; (rfl); rfl; rfl; (apply xH; rfl; rfl; (exact (List.length_map _).symm)); refine wT ?_; intro _ _; refine yB ?_; refine zX (yN ?_ ?_) <;> (intro h hp k; (try subst k); (try simp only [q_n] at hp); try first | omega | (cases hp; done));
 refine zY (zZ ?_); refine yA ?_; refine yR ?_; refine zP ?_; refine zX (zV ?_); simp only [yX]; rotate_left
 all_goals ((repeat (rename BV _ _ => k; first | cases k | clear k)); try exact zN)
 all_goals
  refine xW ?_
  rfl
theorem at_in (L : List Pk) (A : List Ap) (h : NetOk L A) (k : Nat) (p : Pk) (hk : L[k]? = some p) (σ : List Ent) :
  SCall Tryz.prog 127 [netV L A, .int .i64 k] σ (Is (.tup [pkV p, .int .i64 0]) σ) := by
 refine zL Tryz.func127 rfl (by simp) ?_
 have hl := h.few
 have hc := fun σ => netcheck_ok h σ
 have hg := pk_get hk
 have hlt : k < L.length := (List.getElem?_eq_some_iff.1 hk).1
 clear h hk
 refine zY (zZ ?_); refine xB ?_; intro _; refine xK ?_; intro _; refine zP ?_; refine zX (zY (zY (zZ ?_))); refine yA ?_; apply zU; rfl; rfl; rfl; (refine yJ ?_; exact hc _); refine zD ?_ ?_ <;> (intro h hp; (try simp only [q_n] at hp); try first | omega | (cases hp; done));
 refine zW (zY (zY (zZ ?_))); refine zR ?_; refine xY ?_; intro _ _; refine zR ?_; refine xT ?_ ?_ <;> (intro h hp k; (try subst k); (try simp only [q_n] at hp); try first | omega | (cases hp; done));
 refine vN ?_; refine wL ?_; apply yZ; rfl; (rfl); rfl; rfl; (apply xH; rfl; rfl; (exact (List.length_map _).symm)); refine wT ?_; intro _ _; refine yB ?_; refine zX (yN ?_ ?_) <;> (intro h hp k; (try subst k); (try simp only [q_n] at hp); try first | omega | (cases hp; done));
 refine zW (zY (zZ ?_)); refine yG ?_; refine zR ?_; refine vG ?_; refine yA ?_; refine yR ?_; refine zP ?_; refine zX (zV ?_); simp only [yX]; rotate_left
 all_goals ((repeat (rename BV _ _ => k; first | cases k | clear k)); try exact zN)
 all_goals
  refine xW ?_
  rfl
theorem without_c (L : List Pk) (A : List Ap) (hl : L.length ≤ 4096) (k : Nat) (hk : k < L.length) (σ : List Ent) :
  SCall Tryz.prog 129 [netV L A, .int .i64 k] σ (Is (netV (L.eraseIdx k) A) σ) := by
 refine zL Tryz.func129 rfl (by simp) ?_
 have hat : k ≤ (L.map pkC).length := by rw [List.length_map]; omega
 have htl : ((L.map pkC).take k).length = k := by rw [List.length_take]; omega
 have hres : netV (L.eraseIdx k) A = .agg [.dl 3 ((L.map pkC).take k ++ (L.drop (k + 1)).map pkC), aps A] := by
  show AV.agg [.dl 3 ((L.eraseIdx k).map pkC), aps A] = _
  rw [List.eraseIdx_eq_take_drop_succ, List.map_append, List.map_take]
 rw [hres]
 clear hres
 have hdl : ((L.drop (k + 1)).map pkC).length ≤ 4096 := by rw [List.length_map, List.length_drop]; omega
 refine zY (zZ ?_); refine xB ?_; intro _; refine xK ?_; intro _; refine zX (zY (ex_drawT rfl rfl (by kernel_rfl) rfl ?_)); simp only [List.length_cons, List.length_nil, Nat.reduceAdd, Nat.reduceSub, List.take_succ_cons, List.take_zero, List.drop_succ_cons, List.drop_zero]; refine vR ?_; refine vW ?_; (iterate 2 refine xU ?_); apply yY; rfl; rfl; rfl; (intro σ' hl; (exact g_slice3 rfl rfl rfl rfl rfl rfl hat)); refine vR ?_; refine vW ?_; refine xU ?_; refine wAd ?_; apply yY; rfl; rfl; rfl; (intro σ' hl; (apply vD; rfl; rfl; rfl; (rfl); omega)); simp only [zA, zF, zE, zH, yK, ↓reduceIte, Nat.reduceEqDiff]; apply yY; rfl; rfl; rfl; (intro σ' hl; (refine g_appendTS rfl rfl rfl (.s .d) ?_; refine wP ?_ (by kernel_rfl); rw [htl]; omega)); refine vR ?_; refine zC (yR ?_); refine zX (zY (zZ ?_)); refine yA ?_; refine yR ?_; refine zX (zV ?_); simp only [yX]; rotate_left
 all_goals ((repeat (rename BV _ _ => k; first | cases k | clear k)); try exact zN)
 all_goals
  refine xW ?_
  rfl
theorem cuts_idx (A : List Ap) (p : Ap) (σ : List Ent) : SCall Tryz.prog 151 [aps A, .agg (apC p)] σ (fun r τ => τ = σ ∧ ((A.contains p = true ∧ ∃ k : Nat, r = .int .i64 k) ∨ (A.contains p = false ∧ r = .int .i64 (-1)))) := by
 refine zL Tryz.func151 rfl (by simp) ?_
 refine zY (zZ ?_); refine xB ?_; intro _; refine zP ?_; refine zX (zY (zY (zZ ?_))); refine zR ?_; refine wH ?_; refine zR ?_; refine zX (zT ?_); rotate_left
 all_goals ((repeat (rename BV _ _ => k; first | cases k | clear k)); try exact zN)
 rename Nat => b3; revert b3
 intro b3
 refine pS (t := 6) rfl ((List.length_map _).symm) (fun hAl => ?_)
 refine yD (fun (k : Nat) => (⟨[(3, .ptr b3 0), (0, aps A), (6, aps A), (7, .int .i64 A.length), (8, .int .i64 k)], .cells b3 (apC p) 59 :: σ, [], Tryz.f151.ntmps⟩ : St)) (fun k => k ≤ A.length ∧ ∀ i q, i < k → A[i]? = some q → q ≠ p) (fun k => A.length - k) 0 (⟨Nat.zero_le _, fun i q h => absurd h (Nat.not_lt_zero _)⟩) (St.le_of (by repeat (first | exact trivial | refine ⟨rfl, ?_⟩)) (by repeat (first | exact q_r | apply q_q | apply q_k))) ?_
 intro k hI
 obtain ⟨hI1, hI2⟩ := hI
 by_cases hk : k < A.length
 ·obtain ⟨q, hq⟩ : ∃ q, A[k]? = some q := yW hk
  have hg := ap_get hq
  refine zY (zZ ?_); refine xY ?_; intro _ _; refine zX (zY (yN ?_ ?_)) <;> (intro h hp k; (try subst k); (try simp only [q_n] at hp); try first | omega | (cases hp; done));
  refine zW (zY (zT ?_)); refine zY (zZ ?_); refine zR ?_; refine zP ?_; refine zX (zY (wN rfl rfl (by kernel_rfl) rfl ?_)); refine yU rfl (by kernel_rfl) rfl ?_; refine qB ?_; (iterate 2 refine xU ?_); refine wIx ?_; refine qB ?_; apply vP; rfl; rfl; rfl; (intro σ' hl; (apply g_eqlArr2; rfl; kernel_rfl; rfl; rfl)); intro _ _; refine zC ?_; show EX _ _ _ _ _; refine yN ?_ ?_ <;> (intro h hp k; (try subst k); (try simp only [q_n] at hp); try first | omega | (cases hp; done));
  refine zY (zZ ?_); refine zR ?_; refine zP ?_; refine zX (zV ?_); simp only [yX]; rotate_left; refine zW (zZ (vX ?_)); refine zR ?_; refine zQ ?_; simp only [zA, zF, zE, zH, yK, ↓reduceIte, Nat.reduceEqDiff]; rotate_left
  all_goals ((repeat (rename BV _ _ => k; first | cases k | clear k)); try exact zN)
  ·have hc : A.contains p = true := by
    rw [List.contains_eq_any_beq, List.any_eq_true]
    refine ⟨q, List.mem_of_getElem? hq, ?_⟩
    simp only [Bool.and_eq_true, beq_iff_eq] at h
    rw [beq_iff_eq]
    exact Prod.ext h.1 h.2
   clear hI2
   refine xX (σ3 := σ) ?_
   exact zJ ⟨rfl, .inl ⟨hc, k, rfl⟩⟩
  ·have hne : q ≠ p := fun e => by
    subst e
    simp at h
   refine ⟨k + 1, ⟨hk, fun i r h1 h2 => ?_⟩, by omega, ?_⟩
   ·by_cases e : i = k
    ·subst e; rw [hq] at h2; cases h2; exact hne
    ·exact hI2 i r (by omega) h2
   ·exact wW
 ·have hno : A.contains p = false := by
   rw [List.contains_eq_any_beq, List.any_eq_false]
   intro x hx
   obtain ⟨i, hi⟩ := List.getElem?_of_mem hx
   have := hI2 i x (by have := wD hi; omega) hi
   simpa using fun h => this h.symm
  clear hI2
  refine zY (zZ ?_); refine xY ?_; intro _ _; refine zX (zY (yN ?_ ?_)) <;> (intro h hp k; (try subst k); (try simp only [q_n] at hp); try first | omega | (cases hp; done));
  refine yQ ?_; refine zY (zZ ?_); refine zP ?_; refine zX (zV ?_); simp only [yX]; rotate_left
  all_goals ((repeat (rename BV _ _ => k; first | cases k | clear k)); try exact zN)
  refine xX (σ3 := σ) ?_
  exact zJ ⟨rfl, .inr ⟨hno, rfl⟩⟩
theorem cuts_has (A : List Ap) (p : Ap) (σ : List Ent) : SCall Tryz.prog 128 [aps A, .agg (apC p)] σ (Is (.bool (A.contains p)) σ) := by
 refine zL Tryz.func128 rfl (by simp) ?_
 refine zY (zZ ?_); refine xB ?_; intro _; refine zP ?_; refine zX (zY (zZ ?_)); refine zR ?_; refine yA ?_; rotate_left
 all_goals ((repeat (rename BV _ _ => k; first | cases k | clear k)); try exact zN)
 refine xL rfl rfl rfl (xJ rfl rfl (zB (by kernel_rfl)) (cuts_idx A p _)) ?_
 rintro _ _ ⟨rfl, (⟨h1, k, rfl⟩ | ⟨h1, rfl⟩)⟩
 ·rw [h1]
  have hk : decide (((k : Nat) : Int) ≥ 0) = true := decide_eq_true (by omega)
  refine xY ?_; intro _ _; refine zP ?_; refine zX (zV ?_); simp only [yX]; rotate_left
  all_goals ((repeat (rename BV _ _ => k; first | cases k | clear k)); try exact zN)
  refine xW ?_
  rfl
 ·rw [h1]
  refine xY ?_; intro _ _; refine zP ?_; refine zX (zV ?_); simp only [yX]; rotate_left
  all_goals ((repeat (rename BV _ _ => k; first | cases k | clear k)); try exact zN)
  refine xW ?_
  rfl
theorem deliver_out (L : List Pk) (A : List Ap) (h : NetOk L A) (i : Int) (hi : i < 0 ∨ (L.length : Int) ≤ i) (σ : List Ent) :
  SCall Tryz.prog 85 [netV L A, .int .i64 i] σ (Is (.tup [.agg pk0, .agg net0, .int .i64 1]) σ) := by
 refine zL Tryz.func85 rfl (by simp) ?_
 have hl := h.few
 have hc := fun σ => at_out L A h i hi σ
 clear h hi
 refine zY (zZ ?_); refine xB ?_; intro _; refine xK ?_; intro _; refine xK ?_; intro _; refine zP ?_; refine zX (zY (zY (zZ ?_))); refine yA ?_; refine zR ?_; apply zU; rfl; rfl; rfl; (refine yJ ?_; exact hc _); refine zR ?_; (iterate 2 refine tG ?_); refine yR ?_; refine zP ?_; refine zX (zY (zZ ?_)); refine zR ?_; refine zD ?_ ?_ <;> (intro h hp; (try simp only [q_n] at hp); try first | omega | (cases hp; done));
 refine zY (ex_all rfl ?_); refine exa_three rfl rfl rfl rfl ?_ ?_ ?_; refine yA ?_; refine zQ (exa_three rfl rfl rfl rfl ?_ ?_ ?_); refine yA ?_; refine zQ (exa_two rfl rfl rfl ?_ ?_); refine zR ?_; refine zQ (xA rfl rfl ?_); refine yR ?_; refine zQ (xA rfl rfl ?_); refine yR ?_; refine zQ (xA rfl rfl ?_); refine zP ?_; refine zQ (tJ rfl ?_); refine zV ?_; simp only [yX]; rotate_left; refine yR ?_; refine zQ (exa_two rfl rfl rfl ?_ ?_); refine zR ?_; refine zQ (xA rfl rfl ?_); refine yR ?_; refine zQ (xA rfl rfl ?_); refine zP ?_; refine zQ (tJ rfl ?_); refine zV ?_; simp only [yX]; rotate_left; refine yR ?_; refine zQ (xA rfl rfl ?_); refine zR ?_; refine zQ (xA rfl rfl ?_); refine zP ?_; refine zQ (tJ rfl ?_); refine zV ?_; simp only [yX]; rotate_left; refine zR ?_; refine zQ (exa_two rfl rfl rfl ?_ ?_); refine yA ?_; refine zQ (xA rfl rfl ?_); refine yR ?_; refine zQ (xA rfl rfl ?_); refine yR ?_; refine zQ (xA rfl rfl ?_); refine zP ?_; refine zQ (tJ rfl ?_); refine zV ?_; simp only [yX]; rotate_left; refine yR ?_; refine zQ (xA rfl rfl ?_); refine yA ?_; refine zQ (xA rfl rfl ?_); refine yR ?_; refine zQ (xA rfl rfl ?_); refine zP ?_; refine zQ (tJ rfl ?_); refine zV ?_; simp only [yX]; rotate_left; refine yR ?_; refine zQ (exa_two rfl rfl rfl ?_ ?_); refine yA ?_; refine zQ (exa_two rfl rfl rfl ?_ ?_); refine zR ?_; refine zQ (xA rfl rfl ?_); refine yR ?_; refine zQ (xA rfl rfl ?_); refine zP ?_; refine zQ (tJ rfl ?_); refine zV ?_; simp only [yX]; rotate_left; refine yR ?_; refine zQ (xA rfl rfl ?_); refine zR ?_; refine zQ (xA rfl rfl ?_); refine zP ?_; refine zQ (tJ rfl ?_); refine zV ?_; simp only [yX]; rotate_left; refine zR ?_; refine zQ (xA rfl rfl ?_); refine yA ?_; refine zQ (xA rfl rfl ?_); refine yR ?_; refine zQ (xA rfl rfl ?_); refine zP ?_; refine zQ (tJ rfl ?_); refine zV ?_; simp only [yX]; rotate_left; refine yA ?_; refine zQ (exa_two rfl rfl rfl ?_ ?_); refine yA ?_; refine zQ (exa_two rfl rfl rfl ?_ ?_); refine zR ?_; refine zQ (xA rfl rfl ?_); refine yR ?_; refine zQ (xA rfl rfl ?_); refine yR ?_; refine zQ (xA rfl rfl ?_); refine zP ?_; refine zQ (tJ rfl ?_); refine zV ?_; simp only [yX]; rotate_left; refine yR ?_; refine zQ (exa_two rfl rfl rfl ?_ ?_); refine zR ?_; refine zQ (xA rfl rfl ?_); refine yR ?_; refine zQ (xA rfl rfl ?_); refine zP ?_; refine zQ (tJ rfl ?_); refine zV ?_; simp only [yX]; rotate_left; refine yR ?_; refine zQ (xA rfl rfl ?_); refine zR ?_; refine zQ (xA rfl rfl ?_); refine zP ?_; refine zQ (tJ rfl ?_); refine zV ?_; simp only [yX]; rotate_left; refine zR ?_; refine zQ (xA rfl rfl ?_); refine yA ?_; refine zQ (xA rfl rfl ?_); refine yR ?_; refine zQ (xA rfl rfl ?_); refine yR ?_; refine zQ (xA rfl rfl ?_); refine zP ?_; refine zQ (tJ rfl ?_); refine zV ?_; simp only [yX]; rotate_left; refine zR ?_; refine zQ (exa_two rfl rfl rfl ?_ ?_); refine yA ?_; refine zQ (exa_two rfl rfl rfl ?_ ?_); refine yA ?_; refine zQ (xA rfl rfl ?_); refine yR ?_; refine zQ (xA rfl rfl ?_); refine yR ?_; refine zQ (xA rfl rfl ?_); refine zP ?_; refine zQ (tJ rfl ?_); refine zV ?_; simp only [yX]; rotate_left; refine yR ?_; refine zQ (xA rfl rfl ?_); refine yA ?_; refine zQ (xA rfl rfl ?_); refine yR ?_; refine zQ (xA rfl rfl ?_); refine zP ?_; refine zQ (tJ rfl ?_); refine zV ?_; simp only [yX]; rotate_left; refine yA ?_; refine zQ (xA rfl rfl ?_); refine yA ?_; refine zQ (xA rfl rfl ?_); refine yR ?_; refine zQ (xA rfl rfl ?_); refine yR ?_; refine zQ (xA rfl rfl ?_); refine zP ?_; refine zQ (tJ rfl ?_); refine zV ?_; simp only [yX]; rotate_left
 all_goals ((repeat (rename BV _ _ => k; first | cases k | clear k)); try exact zN)
 all_goals
  refine xW ?_
  rfl
theorem deliver_in (L : List Pk) (A : List Ap) (h : NetOk L A) (k : Nat) (p : Pk) (hk : L[k]? = some p) (hcut : cutB A p.f p.t = false) (σ : List Ent) :
  SCall Tryz.prog 85 [netV L A, .int .i64 k] σ (Is (.tup [pkV p, netV (L.eraseIdx k) A, .int .i64 0]) σ) := by
 refine zL Tryz.func85 rfl (by simp) ?_
 have hl := h.few
 have hc := fun σ => at_in L A h k p hk σ
 have hlt : k < L.length := (List.getElem?_eq_some_iff.1 hk).1
 have hct := fun σ => cuts_has A (min p.f p.t, max p.f p.t) σ
 unfold cutB at hcut
 rw [hcut] at hct
 have hw := fun σ => without_c L A hl k hlt σ
 clear h hk
 refine zY (zZ ?_); refine xB ?_; intro _; refine xK ?_; intro _; refine xK ?_; intro _; refine zP ?_; refine zX (zY (zY (zZ ?_))); refine yA ?_; refine zR ?_; apply zU; rfl; rfl; rfl; (refine yJ ?_; exact hc _); refine zR ?_; (iterate 2 refine tG ?_); refine yR ?_; refine zP ?_; refine zX (zY (zZ ?_)); refine zR ?_; refine zD ?_ ?_ <;> (intro h hp; (try simp only [q_n] at hp); try first | omega | (cases hp; done));
 refine zW (zY (zY ?_)); rotate_left
 all_goals ((repeat (rename BV _ _ => k; first | cases k | clear k)); try exact zN)
 refine xN anyK 8 [6, 7] rfl (by kernel_rfl) rfl ?_
 simp only [wU]
 refine vR ?_; refine vW ?_; refine vR ?_; refine vW ?_; refine vR ?_; refine vW ?_; refine wE rfl rfl rfl (xJ rfl rfl (zB (by kernel_rfl)) (between_c _ _ _)) ?_; rintro _ _ ⟨⟩; refine ⟨fun _ _ h => h, ?_⟩; refine wE rfl rfl rfl (xJ rfl rfl (zB (by kernel_rfl)) (hct _)) ?_; rintro _ _ ⟨⟩; refine ⟨fun _ _ h => h, ?_⟩; refine zC (zX (yH rfl (by rfl) ?_)); refine zW (zY ?_); rotate_left
 all_goals ((repeat (rename BV _ _ => k; first | cases k | clear k)); try exact zN)
 refine xN anyK 4 [3] rfl (by kernel_rfl) rfl ?_
 simp only [wU]
 (iterate 2 refine qB ?_); refine xU ?_; refine wE rfl rfl rfl (xJ rfl rfl (zB (by kernel_rfl)) (hw _)) ?_; rintro _ _ ⟨⟩; refine ⟨fun _ _ h => h, ?_⟩; refine zC (yR ?_); refine yR ?_; refine zP ?_; refine zX (zV ?_); simp only [yX]; rotate_left
 all_goals ((repeat (rename BV _ _ => k; first | cases k | clear k)); try exact zN)
 all_goals
  refine xW ?_
  rfl
theorem deliver_cut (L : List Pk) (A : List Ap) (h : NetOk L A) (k : Nat) (p : Pk) (hk : L[k]? = some p) (hcut : cutB A p.f p.t = true) (σ : List Ent) :
  SCall Tryz.prog 85 [netV L A, .int .i64 k] σ (Is (.tup [.agg pk0, netV (L.eraseIdx k) A, .int .i64 0]) σ) := by
 refine zL Tryz.func85 rfl (by simp) ?_
 have hl := h.few
 have hc := fun σ => at_in L A h k p hk σ
 have hlt : k < L.length := (List.getElem?_eq_some_iff.1 hk).1
 have hct := fun σ => cuts_has A (min p.f p.t, max p.f p.t) σ
 unfold cutB at hcut
 rw [hcut] at hct
 have hw := fun σ => without_c L A hl k hlt σ
 clear h hk
 refine zY (zZ ?_); refine xB ?_; intro _; refine xK ?_; intro _; refine xK ?_; intro _; refine zP ?_; refine zX (zY (zY (zZ ?_))); refine yA ?_; refine zR ?_; apply zU; rfl; rfl; rfl; (refine yJ ?_; exact hc _); refine zR ?_; (iterate 2 refine tG ?_); refine yR ?_; refine zP ?_; refine zX (zY (zZ ?_)); refine zR ?_; refine zD ?_ ?_ <;> (intro h hp; (try simp only [q_n] at hp); try first | omega | (cases hp; done));
 refine zW (zY (zY ?_)); rotate_left
 all_goals ((repeat (rename BV _ _ => k; first | cases k | clear k)); try exact zN)
 refine xN anyK 8 [6, 7] rfl (by kernel_rfl) rfl ?_
 simp only [wU]
 refine vR ?_; refine vW ?_; refine vR ?_; refine vW ?_; refine vR ?_; refine vW ?_; refine wE rfl rfl rfl (xJ rfl rfl (zB (by kernel_rfl)) (between_c _ _ _)) ?_; rintro _ _ ⟨⟩; refine ⟨fun _ _ h => h, ?_⟩; refine wE rfl rfl rfl (xJ rfl rfl (zB (by kernel_rfl)) (hct _)) ?_; rintro _ _ ⟨⟩; refine ⟨fun _ _ h => h, ?_⟩; refine zC (zX (zG rfl (by rfl) ?_)); refine zZ (uA ?_); refine yR ?_; refine zX (zY ?_); rotate_left
 all_goals ((repeat (rename BV _ _ => k; first | cases k | clear k)); try exact zN)
 refine xN anyK 4 [3] rfl (by kernel_rfl) rfl ?_
 simp only [wU]
 (iterate 2 refine qB ?_); refine xU ?_; refine wE rfl rfl rfl (xJ rfl rfl (zB (by kernel_rfl)) (hw _)) ?_; rintro _ _ ⟨⟩; refine ⟨fun _ _ h => h, ?_⟩; refine zC (yR ?_); refine yR ?_; refine zP ?_; refine zX (zV ?_); simp only [yX]; rotate_left
 all_goals ((repeat (rename BV _ _ => k; first | cases k | clear k)); try exact zN)
 all_goals
  refine xW ?_
  rfl
theorem lose_out (L : List Pk) (A : List Ap) (h : NetOk L A) (i : Int) (hi : i < 0 ∨ (L.length : Int) ≤ i) (σ : List Ent) :
  SCall Tryz.prog 86 [netV L A, .int .i64 i] σ (Is (.tup [.agg net0, .int .i64 1]) σ) := by
 refine zL Tryz.func86 rfl (by simp) ?_
 have hl := h.few
 have hc := fun σ => at_out L A h i hi σ
 clear h hi
 refine zY (zZ ?_); refine xB ?_; intro _; refine xK ?_; intro _; refine zP ?_; refine zX (zY (zY (zZ ?_))); refine yA ?_; refine zR ?_; apply zU; rfl; rfl; rfl; (refine yJ ?_; exact hc _); refine zR ?_; (iterate 2 refine tG ?_); refine zP ?_; refine zX (zY (zZ ?_)); refine zR ?_; refine zD ?_ ?_ <;> (intro h hp; (try simp only [q_n] at hp); try first | omega | (cases hp; done));
 refine zY (zZ ?_); refine yA ?_; refine zR ?_; refine yR ?_; refine zP ?_; refine zX (zV ?_); simp only [yX]; rotate_left
 all_goals ((repeat (rename BV _ _ => k; first | cases k | clear k)); try exact zN)
 all_goals
  refine xW ?_
  rfl
theorem lose_in (L : List Pk) (A : List Ap) (h : NetOk L A) (k : Nat) (p : Pk) (hk : L[k]? = some p) (σ : List Ent) :
  SCall Tryz.prog 86 [netV L A, .int .i64 k] σ (Is (.tup [netV (L.eraseIdx k) A, .int .i64 0]) σ) := by
 refine zL Tryz.func86 rfl (by simp) ?_
 have hl := h.few
 have hc := fun σ => at_in L A h k p hk σ
 have hlt : k < L.length := (List.getElem?_eq_some_iff.1 hk).1
 have hw := fun σ => without_c L A hl k hlt σ
 clear h hk
 refine zY (zZ ?_); refine xB ?_; intro _; refine xK ?_; intro _; refine zP ?_; refine zX (zY (zY (zZ ?_))); refine yA ?_; refine zR ?_; apply zU; rfl; rfl; rfl; (refine yJ ?_; exact hc _); refine zR ?_; (iterate 2 refine tG ?_); refine zP ?_; refine zX (zY (zZ ?_)); refine zR ?_; refine zD ?_ ?_ <;> (intro h hp; (try simp only [q_n] at hp); try first | omega | (cases hp; done));
 refine zW (zY (zZ ?_)); refine yA ?_; refine zR ?_; apply zU; rfl; rfl; rfl; (refine yJ ?_; exact hw _); refine yR ?_; refine zP ?_; refine zX (zV ?_); simp only [yX]; rotate_left
 all_goals ((repeat (rename BV _ _ => k; first | cases k | clear k)); try exact zN)
 all_goals
  refine xW ?_
  rfl
theorem repeat_out (L : List Pk) (A : List Ap) (h : NetOk L A) (i : Int) (hi : i < 0 ∨ (L.length : Int) ≤ i) (σ : List Ent) :
  SCall Tryz.prog 87 [netV L A, .int .i64 i] σ (Is (.tup [.agg net0, .int .i64 1]) σ) := by
 refine zL Tryz.func87 rfl (by simp) ?_
 have hl := h.few
 have hc := fun σ => at_out L A h i hi σ
 clear h hi
 refine zY (zZ ?_); refine xB ?_; intro _; refine xK ?_; intro _; refine zP ?_; refine zX (zY (zZ ?_)); refine yA ?_; refine zR ?_; apply zU; rfl; rfl; rfl; (refine yJ ?_; exact hc _); refine zR ?_; (iterate 2 refine tG ?_); refine xK ?_; intro _; refine yR ?_; refine zP ?_; refine zX (zY (zY (zZ ?_))); refine zR ?_; refine zD ?_ ?_ <;> (intro h hp; (try simp only [q_n] at hp); try first | omega | (cases hp; done));
 refine zY (zZ ?_); refine yA ?_; refine zR ?_; refine yR ?_; refine zP ?_; refine zX (zV ?_); simp only [yX]; rotate_left
 all_goals ((repeat (rename BV _ _ => k; first | cases k | clear k)); try exact zN)
 all_goals
  refine xW ?_
  rfl
abbrev sendR (L : List Pk) (A : List Ap) (p : Pk) : AV := if L.length = 4096 then .tup [.agg net0, .int .i64 2] else .tup [netV (L ++ [p]) A, .int .i64 0]
theorem repeat_in (L : List Pk) (A : List Ap) (h : NetOk L A) (k : Nat) (p : Pk) (hk : L[k]? = some p) (σ : List Ent) :
  SCall Tryz.prog 87 [netV L A, .int .i64 k] σ (Is (sendR L A p) σ) := by
 refine zL Tryz.func87 rfl (by simp) ?_
 have hl := h.few
 have hc := fun σ => at_in L A h k p hk σ
 have hs := fun σ => send_c L A h p (h.pk p (List.mem_of_getElem? hk)) σ
 clear h hk
 unfold sendR
 by_cases he : L.length = 4096
 ·rw [if_pos he] at hs ⊢
  refine zY (zZ ?_); refine xB ?_; intro _; refine xK ?_; intro _; refine zP ?_; refine zX (zY (zZ ?_)); refine yA ?_; refine zR ?_; apply zU; rfl; rfl; rfl; (refine yJ ?_; exact hc _); refine zR ?_; (iterate 2 refine tG ?_); refine xK ?_; intro _; refine yR ?_; refine zP ?_; refine zX (zY (zY (zZ ?_))); refine zR ?_; refine zD ?_ ?_ <;> (intro h hp; (try simp only [q_n] at hp); try first | omega | (cases hp; done));
  refine zW (zY (zZ ?_)); (iterate 2 refine yA ?_); apply zU; rfl; rfl; rfl; (refine yJ ?_; exact hs _); (iterate 2 refine tG ?_); refine yR ?_; refine zP ?_; refine zX (zV ?_); simp only [yX]; rotate_left
  all_goals ((repeat (rename BV _ _ => k; first | cases k | clear k)); try exact zN)
  all_goals
   refine xW ?_
   rfl
 ·rw [if_neg he] at hs ⊢
  refine zY (zZ ?_); refine xB ?_; intro _; refine xK ?_; intro _; refine zP ?_; refine zX (zY (zZ ?_)); refine yA ?_; refine zR ?_; apply zU; rfl; rfl; rfl; (refine yJ ?_; exact hc _); refine zR ?_; (iterate 2 refine tG ?_); refine xK ?_; intro _; refine yR ?_; refine zP ?_; refine zX (zY (zY (zZ ?_))); refine zR ?_; refine zD ?_ ?_ <;> (intro h hp; (try simp only [q_n] at hp); try first | omega | (cases hp; done));
  refine zW (zY (zZ ?_)); (iterate 2 refine yA ?_); apply zU; rfl; rfl; rfl; (refine yJ ?_; exact hs _); (iterate 2 refine tG ?_); refine yR ?_; refine zP ?_; refine zX (zV ?_); simp only [yX]; rotate_left
  all_goals ((repeat (rename BV _ _ => k; first | cases k | clear k)); try exact zN)
  all_goals
   refine xW ?_
   rfl
theorem msg_bytes {s : Sl} : ∀ x ∈ msgS s, x < 256 := by
 intro x hx
 unfold msgS at hx
 rcases List.mem_cons.1 hx with rfl | hx
 ·omega
 rcases List.mem_cons.1 hx with rfl | hx
 ·omega
 obtain ⟨n, _, hx⟩ := List.mem_flatMap.1 hx
 unfold vH at hx
 rcases List.mem_cons.1 hx with rfl | hx
 ·omega
 ·exact numL_byte _ _ (Nat.le_refl _) x hx
theorem read_c (s : Sl) (hs : Sendable s) (σ : List Ent) : SCall Tryz.prog 81 [bys (msgS s)] σ (Is (.tup [slV s, .bool true]) σ) := by
 have hl := msg_len hs
 refine uY (read_g (msgS s) msg_bytes (by omega) σ) ?_
 rintro v τ ⟨⟨s', h1, rfl⟩ | ⟨h1, _⟩, rfl⟩
 ·rw [slipD_msg hs] at h1
  cases h1
  rw [hs.slip]
  exact .mk
 ·rw [slipD_msg hs] at h1
  cases h1
theorem fin_shut {σ σ1 σ' : List Ent} {r : AV} {Q : AV → List Ent → Prop} {v : Value} {e : TypeId} {sz : Nat} {l : List (List AV)} (hr : Rem σ (.row v e sz l) σ1) (hs : ShutEnts v (.dl sz l) σ1 σ') (h : Fin σ' r Q) : Fin σ r Q := fun X M w u hg hv => by
 obtain ⟨M1, h1, h2, h3⟩ := hg.shut hr
 obtain ⟨M2, σ2, r2, h4, h5, h6, h7⟩ := h X M1 w u (h2.shutE h3 hs) (hv.mono h1)
 exact ⟨M2, σ2, r2, Mem.le_trans h1 h4, h5, h6, h7⟩
abbrev bkC (l : List Sl) : List AV := [sls l]
abbrev bks (B : List (List Sl)) : AV := .dl 1 (B.map bkC)
abbrev stC (B : List (List Sl)) (L : List Pk) (A : List Ap) : List AV := [bks B, pks L, aps A]
abbrev stE (b : Nat) (B : List (List Sl)) (L : List Pk) (A : List Ap) : Ent := .cells b (stC B L A) 102
theorem bk_get {B : List (List Sl)} {k : Nat} {l : List Sl} (h : B[k]? = some l) : (B.map bkC)[k]? = some (bkC l) := by rw [List.getElem?_map, h]; rfl
theorem bk_one (B : List (List Sl)) : ∀ y ∈ B.map bkC, y.all AV.one = true := by
 intro y hy
 obtain ⟨_, _, rfl⟩ := List.mem_map.1 hy
 rfl
theorem clone_c (B : List (List Sl)) (h0 : B ≠ []) (hB : B.length ≤ 100) (σ : List Ent) : SCall Tryz.prog 125 [bks B] σ (fun r τ => ∃ v, r = .slv v ∧ τ = .row v 24 1 (B.map bkC) :: σ) := by
 refine zL Tryz.func125 rfl (by simp) ?_
 have h1 := bk_one B
 have hlen : 0 < (B.map bkC).length := by rw [List.length_map]; exact List.length_pos_iff.2 h0
 refine zY (zZ ?_); refine zP ?_; refine zX (zY (zY (zZ ?_))); refine zR ?_; apply zU; rfl; rfl; rfl; (apply g_eqlNil; rfl; rfl; exact hlen); refine zX (yH rfl (by rfl) ?_); refine zW (zY (zZ ?_)); refine qS rfl rfl rfl (by exact yV rfl rfl (by decide) rfl rfl (by (simp only [xC, wU]; rfl))) ?_; intro _; refine zR ?_; apply tQ; rfl; rfl; rfl; (apply xG; rfl; rfl; rfl; (intro v'; (exact Upd.here)); (exact .d); (intro y hy; simp only [tC] at hy; (focus (obtain ⟨_, _, rfl⟩ := hy; rfl; done))); (refine wP ?_ (by kernel_rfl); (try simp only [List.length_append, List.length_map, List.length_cons, List.length_nil, List.length_take, List.length_drop]); omega)); intro _; refine zP ?_; refine zX (zV ?_); simp only [yX]; rotate_left
 all_goals ((repeat (rename BV _ _ => k; first | cases k | clear k)); try exact zN)
 rename_i v3
 refine xX (σ3 := .row v3 24 1 (B.map bkC) :: σ) ?_
 exact zJ ⟨v3, rfl, rfl⟩
theorem put0_c (b k : Nat) (B : List (List Sl)) (L : List Pk) (A : List Ap) (l : List Sl) (hk : k < B.length) (hB : B.length ≤ 8) (σ : List Ent) :
  SCall Tryz.prog 82 [.ptr b 0, .int .i64 k, .agg (bkC l)] (stE b B L A :: σ) (Is (.tup []) (stE b (B.set k l) L A :: σ)) := by
 refine zL Tryz.func82 rfl (by simp) ?_
 have hc := fun σ => clone_c B (fun e => by rw [e] at hk; simp at hk) (by omega) σ
 have hkm : k < (B.map bkC).length := by rw [List.length_map]; exact hk
 have hst : (B.set k l).map bkC = (B.map bkC).set k (bkC l) := List.map_set ..
 refine zY (zZ ?_); refine xB ?_; intro _; refine zX (zY (zZ ?_)); (iterate 2 refine zR ?_); apply zU; rfl; rfl; rfl; (apply zK <;> rfl); refine uZ ?_; refine yG ?_; refine xL rfl rfl rfl (xJ rfl rfl (zB (by kernel_rfl)) (hc _)) ?_; rintro _ _ ⟨v, rfl, rfl⟩; apply zU; rfl; rfl; rfl; (apply zK <;> rfl); (iterate 2 refine uZ ?_); refine yR ?_; refine zX ?_; rotate_left
 all_goals ((repeat (rename BV _ _ => k; first | cases k | clear k)); try exact zN)
 rename Nat => b5; revert b5
 intro b5
 refine ex_drawT rfl rfl (by kernel_rfl) rfl ?_; simp only [List.length_cons, List.length_nil, Nat.reduceAdd, Nat.reduceSub, List.take_succ_cons, List.take_zero, List.drop_succ_cons, List.drop_zero]; refine xU ?_; apply yY; rfl; rfl; rfl; (intro σ' hl; (apply zK <;> rfl)); (iterate 2 refine vR ?_); refine vW ?_; refine xU ?_; refine qB ?_; apply yY; rfl; rfl; rfl; (intro σ' hl; (apply yF; rfl; rfl; exact hl _ (by (exact True.intro)) (by repeat first | exact q_h | apply q_t | assumption); rfl; (rfl); (assumption))); refine zC ?_; apply vT; rfl; rfl; (apply vY; rfl; rfl; rfl; rfl; rfl; rfl; (assumption); (exact Upd.here)); refine zQ ?_; simp only [zA, zF, zE, zH, yK, ↓reduceIte, Nat.reduceEqDiff]; rotate_left
 all_goals ((repeat (rename BV _ _ => k; first | cases k | clear k)); try exact zN)
 refine xX (σ3 := .row v 24 1 ((B.map bkC).set k (bkC l)) :: .cells b [.slv v, pks L, aps A] 102 :: σ) ?_
 rw [← hst]
 exact fin_shut .here (.cells (.here (.same (.same .nil))) (ShutEnts.refl _)) (zJ .mk)
theorem put_c {b k : Nat} {B : List (List Sl)} {L : List Pk} {A : List Ap} {l : List Sl} (hk : k < B.length) (hB : B.length ≤ 8) {σ σ' : List Ent} (hu : Upd σ (stE b B L A) (stE b (B.set k l) L A) σ') :
  SCall Tryz.prog 82 [.ptr b 0, .int .i64 k, .agg (bkC l)] σ (Is (.tup []) σ') := scall_updI (put0_c b k B L A l hk hB) hu
structure RtP (n : Nat) (p : Pk) : Prop where
 f0 : 0 ≤ p.f
 t0 : 0 ≤ p.t
 ne : p.f ≠ p.t
 fn : p.f < n
 tn : p.t < n
 msg : ∃ s : Sl, p.d = msgS s ∧ Sendable s ∧ s.tab < n
structure Rt (B : List (List Sl)) (L : List Pk) (A : List Ap) : Prop where
 n1 : 1 ≤ B.length
 n8 : B.length ≤ 8
 ck : ∀ l ∈ B, xQ l = 0
 tab : ∀ l ∈ B, ∀ s ∈ l, s.tab < B.length
 net : ∀ p ∈ L, RtP B.length p
 few : L.length ≤ 4096
 ap : OkA A
theorem RtP.ok {n : Nat} {p : Pk} (hn : n ≤ 8) (h : RtP n p) : OkP p := by
 obtain ⟨s, h1, h2, _⟩ := h.msg
 have h3 := h.fn
 have h4 := h.tn
 have h5 := msg_len h2
 exact ⟨h.f0, h.t0, h.ne, by omega, by omega, by rw [h1]; omega⟩
theorem Rt.okP {B : List (List Sl)} {L : List Pk} {A : List Ap} (h : Rt B L A) : ∀ p ∈ L, OkP p := fun p hp => (h.net p hp).ok h.n8
theorem Rt.netOk {B : List (List Sl)} {L : List Pk} {A : List Ap} (h : Rt B L A) : NetOk L A := ⟨h.few, h.okP, h.ap⟩
structure PkR (n : Nat) (p : Pk) (s : Sl) : Prop where
 says : pX p.d = some s
 slip : uR s = true
 ft : max p.f p.t < n
 tab : 0 ≤ s.tab ∧ s.tab < n
 seq : 0 ≤ s.seq ∧ s.seq ≤ 511
structure RightA (B : List (List Sl)) (L : List Pk) (A : List Ap) : Prop where
 n1 : 1 ≤ B.length
 n8 : B.length ≤ 8
 net : NetOk L A
 ck : ∀ l ∈ B, xQ l = 0
 tab : ∀ l ∈ B, ∀ s ∈ l, s.tab < B.length
 pk : ∀ p ∈ L, ∃ s, PkR B.length p s
def Small (L : List Pk) : Prop := ∀ p ∈ L, (∀ x ∈ p.d, x < 256) ∧ p.d.length ≤ 1000
theorem PkR.send {n : Nat} {p : Pk} {s : Sl} (hn : n ≤ 8) (h : PkR n p s) : Sendable s := ⟨h.slip, by have := h.tab; omega, by have := h.seq; omega⟩
theorem Rt.right {B : List (List Sl)} {L : List Pk} {A : List Ap} (h : Rt B L A) : RightA B L A ∧ Small L := by
 refine ⟨⟨h.n1, h.n8, h.netOk, h.ck, h.tab, fun p hp => ?_⟩, fun p hp => ?_⟩
 ·obtain ⟨s, h1, h2, h3⟩ := (h.net p hp).msg
  have h4 := (h.net p hp).fn
  have h5 := (h.net p hp).tn
  have h6 := h2.tab
  have h7 := h2.seq
  exact ⟨s, by rw [h1]; exact slipD_msg h2, h2.slip, by omega, by omega, by omega⟩
 ·obtain ⟨s, h1, h2, h3⟩ := (h.net p hp).msg
  rw [h1]
  have := msg_len h2
  exact ⟨msg_bytes, by omega⟩
theorem RightA.rt {B : List (List Sl)} {L : List Pk} {A : List Ap} (h : RightA B L A) (hs : Small L) : Rt B L A := by
 refine ⟨h.n1, h.n8, h.ck, h.tab, fun p hp => ?_, h.net.few, h.net.ap⟩
 obtain ⟨s, hr⟩ := h.pk p hp
 have ok := h.net.pk p hp
 have hsd := hr.send h.n8
 have hft := hr.ft
 have h1 := slipD_enc hr.says (hs p hp).1 (hs p hp).2 (fun n hn => (hsd.nats n hn).1)
 exact ⟨ok.f0, ok.t0, ok.ne, by omega, by omega, s, h1, hsd, hr.tab.2⟩
theorem right1_g (s : Sl) (n : Int) {b : Nat} {σ : List Ent} (hm : Ent.cells b [.int .i64 n] 3 ∈ σ) : SCall Tryz.prog 80 [slV s, .ptr b 0] σ (Is (.bool (decide (s.tab ≥ n))) σ) := by
 refine zL Tryz.func80 rfl (by simp) ?_
 refine zY (zZ ?_); refine xB ?_; intro _; refine zP ?_; refine zX (zY (zZ ?_)); refine yG ?_; refine xLd ?_; refine xY ?_; intro _ _; refine zP ?_; refine zX (zV ?_); simp only [yX]; rotate_left
 all_goals ((repeat (rename BV _ _ => k; first | cases k | clear k)); try exact zN)
 all_goals
  refine xW ?_
  rfl
theorem netcheck_bad {L : List Pk} {A : List Ap} (h : ¬ NetOk L A) (σ : List Ent) : SCall Tryz.prog 27 [netV L A] σ (Is (.int .i64 60) σ) :=
 uY (netcheck_g L A σ) fun v τ ⟨h1, h2⟩ => by
  rcases h2 with ⟨h3, _⟩ | ⟨_, rfl⟩
  ·exact absurd h3 h
  ·subst h1; exact .mk
theorem read_is {D : List Nat} {s : Sl} (hs : pX D = some s) (hB : ∀ x ∈ D, x < 256) (hD : D.length ≤ 1000) (σ : List Ent) : SCall Tryz.prog 81 [bys D] σ (fun r τ => ∃ q, q = uR s ∧ r = .tup [slV s, .bool q] ∧ τ = σ) :=
 uY (read_g D hB hD σ) fun v τ h => by
  obtain ⟨⟨s', h1, rfl⟩ | ⟨h1, _⟩, rfl⟩ := h
  ·rw [hs] at h1; cases h1; exact ⟨_, rfl, rfl, rfl⟩
  ·rw [hs] at h1; cases h1
theorem read_no {D : List Nat} (hs : pX D = none) (hB : ∀ x ∈ D, x < 256) (hD : D.length ≤ 1000) (σ : List Ent) : SCall Tryz.prog 81 [bys D] σ (fun r τ => ∃ s, r = .tup [slV s, .bool false] ∧ τ = σ) :=
 uY (read_g D hB hD σ) fun v τ h => by
  obtain ⟨⟨s', h1, _⟩ | ⟨_, s, rfl⟩, rfl⟩ := h
  ·rw [hs] at h1; cases h1
  ·exact ⟨s, rfl, rfl⟩
def RightQ (B : List (List Sl)) (L : List Pk) (A : List Ap) (σ : List Ent) : AV → List Ent → Prop := fun r τ => τ = σ ∧ ((RightA B L A ∧ r = .bool true) ∨ (¬ RightA B L A ∧ r = .bool false))
theorem right_g (B : List (List Sl)) (L : List Pk) (A : List Ap) (hs : Small L) (σ : List Ent) : SCall Tryz.prog 47 [.agg (stC B L A)] σ (RightQ B L A σ) := by
 refine zL Tryz.func47 rfl (by simp) ?_
 have hin := fun σ => in_c B.length 1 8 σ
 by_cases hn : inB B.length 1 8 = false
 ·rw [hn] at hin
  have hbad : ¬ RightA B L A := fun h => by have h1 := h.n1; have h8 := h.n8; unfold inB at hn; simp at hn; omega
  refine zY (zZ ?_); refine xB ?_; intro _; refine zP ?_; refine zX (zY (zZ ?_)); refine yG ?_; refine wH ?_; refine xK ?_; intro _; refine yR ?_; refine zX (zY (zY (zZ ?_))); refine xLd ?_; apply yE; rfl; rfl; rfl; (refine yJ ?_; exact hin _); intro _ _; refine qY ?_; intro _ _; refine zR ?_; refine xT ?_ ?_ <;> (intro h hp k; (try subst k); (try simp only [q_n] at hp); try first | omega | (cases hp; done));
  (iterate 4 refine yC ?_); refine xF ?_; refine zX (zG rfl (by rfl) ?_); refine zY (zZ ?_); refine zP ?_; refine zX (zV ?_); simp only [yX]; rotate_left; refine yFa ?_; refine yLa ?_; rotate_left
  all_goals ((repeat (rename BV _ _ => k; first | cases k | clear k)); try exact zN)
  refine xX (σ3 := σ) ?_
  exact zJ ⟨rfl, .inr ⟨hbad, rfl⟩⟩
 have hn' : inB B.length 1 8 = true := by simpa using hn
 have hn18 : 1 ≤ B.length ∧ B.length ≤ 8 := by unfold inB at hn'; simp at hn'; omega
 rw [hn'] at hin
 clear hn hn'
 by_cases hnet : NetOk L A
 ·have hnc := fun σ => netcheck_ok hnet σ
  refine zY (zZ ?_); refine xB ?_; intro _; refine zP ?_; refine zX (zY (zZ ?_)); refine yG ?_; refine wH ?_; refine xK ?_; intro _; refine yR ?_; refine zX (zY (zY (zZ ?_))); refine xLd ?_; apply yE; rfl; rfl; rfl; (refine yJ ?_; exact hin _); intro _ _; refine qY ?_; intro _ _; refine zR ?_; refine xT ?_ ?_ <;> (intro h hp k; (try subst k); (try simp only [q_n] at hp); try first | omega | (cases hp; done));
  (iterate 4 refine yC ?_); refine xF ?_; refine zX (zG rfl (by rfl) ?_); refine zY (zZ ?_); refine zP ?_; refine zX (zV ?_); simp only [yX]; rotate_left; refine yFa ?_; refine yLa ?_; apply yZ; rfl; (rfl); rfl; rfl; (refine yJ ?_; exact hnc _); refine wT ?_; intro _ _; refine yB ?_; refine zX (yN ?_ ?_) <;> (intro h hp k; (try subst k); (try simp only [q_n] at hp); try first | omega | (cases hp; done));
  refine zW (zY (zY (zZ ?_))); refine yG ?_; refine wH ?_; refine zR ?_; refine zX (zT ?_); rotate_left
  all_goals ((repeat (rename BV _ _ => k; first | cases k | clear k)); try exact zN)
  rename Nat => b3; revert b3; rename Nat => b1; revert b1
  intro b1 b3
  clear hnc hin
  refine yD (fun (k : Nat) => (⟨[(1, .ptr b1 0), (3, .ptr b3 0), (23, bks B), (24, .int .i64 B.length), (25, .int .i64 k)], .cells b3 [.int .i64 B.length] 3 :: .cells b1 (stC B L A) 41 :: σ, [], Tryz.f47.ntmps⟩ : St)) (fun k => k ≤ B.length ∧ ∀ i l, i < k → B[i]? = some l → xQ l = 0 ∧ ∀ s ∈ l, s.tab < B.length) (fun k => B.length - k) 0 (⟨Nat.zero_le _, fun i l h => absurd h (Nat.not_lt_zero _)⟩) (St.le_of (by repeat (first | exact trivial | refine ⟨rfl, ?_⟩)) (by repeat (first | exact q_r | apply q_q | apply q_k))) ?_
  intro k hI
  obtain ⟨hI1, hI2⟩ := hI
  by_cases hk : k < B.length
  ·obtain ⟨l, hlk⟩ : ∃ l, B[k]? = some l := yW hk
   have hmem := List.mem_of_getElem? hlk
   have hck := fun σ => check_c l σ
   have hany := fun τ (hτ : Ent.cells b3 [.int .i64 B.length] 3 ∈ τ) => fSl_any l 80 [] [.ptr b3 0] (fun s => decide (s.tab ≥ (B.length : Int))) τ (zB (by kernel_rfl)) (fun k c hc => right1_g c B.length hτ)
   have hg := bk_get hlk
   by_cases hc0 : xQ l = 0
   ·rw [hc0] at hck
    by_cases hq : (l.any fun s => decide (s.tab ≥ (B.length : Int))) = true
    ·have hbad : ¬ RightA B L A := fun h => by
      obtain ⟨s, hs1, hs2⟩ := List.any_eq_true.1 hq
      have := h.tab l hmem s hs1
      have := of_decide_eq_true hs2
      omega
     rw [hq] at hany
     clear hI2 hnet
     refine zY (zZ ?_); refine xY ?_; intro _ _; refine zX (zY (yN ?_ ?_)) <;> (intro h hp k; (try subst k); (try simp only [q_n] at hp); try first | omega | (cases hp; done));
     refine zW (zY (zT ?_)); refine zY (zZ ?_); refine vG ?_; refine yA ?_; refine xK ?_; intro _; refine yR ?_; refine zX (zY (zZ ?_)); refine yA ?_; apply zU; rfl; rfl; rfl; (refine yJ ?_; exact hck _); refine xY ?_; intro _ _; refine zR ?_; refine xT ?_ ?_ <;> (intro h hp k; (try subst k); (try simp only [q_n] at hp); try first | omega | (cases hp; done));
     refine wL ?_; apply yZ; rfl; (rfl); rfl; rfl; (apply qG <;> rfl); apply xR; rfl; (rfl); rfl; rfl; (refine yJ ?_; exact hany _ (by repeat first | exact q_h | apply q_t | assumption)); intro _ _; refine yB ?_; refine zX (yN ?_ ?_) <;> (intro h hp k; (try subst k); (try simp only [q_n] at hp); try first | omega | (cases hp; done));
     refine zY (zZ ?_); refine zP ?_; refine zX (zV ?_); simp only [yX]; rotate_left
     all_goals ((repeat (rename BV _ _ => k; first | cases k | clear k)); try exact zN)
     refine xX (σ3 := σ) ?_
     exact zJ ⟨rfl, .inr ⟨hbad, rfl⟩⟩
    ·have hq0 : (l.any fun s => decide (s.tab ≥ (B.length : Int))) = false := by simpa using hq
     have hnext : ∀ i m, i < k + 1 → B[i]? = some m → xQ m = 0 ∧ ∀ s ∈ m, s.tab < B.length := fun i m h1 h2 => by
      by_cases e : i = k
      ·subst e
       rw [hlk] at h2; cases h2
       refine ⟨hc0, fun s hs1 => ?_⟩
       have := (List.any_eq_false.1 hq0) s hs1
       simp at this
       omega
      ·exact hI2 i m (by omega) h2
     rw [hq0] at hany
     clear hI2 hnet hq
     refine zY (zZ ?_); refine xY ?_; intro _ _; refine zX (zY (yN ?_ ?_)) <;> (intro h hp k; (try subst k); (try simp only [q_n] at hp); try first | omega | (cases hp; done));
     refine zW (zY (zT ?_)); refine zY (zZ ?_); refine vG ?_; refine yA ?_; refine xK ?_; intro _; refine yR ?_; refine zX (zY (zZ ?_)); refine yA ?_; apply zU; rfl; rfl; rfl; (refine yJ ?_; exact hck _); refine xY ?_; intro _ _; refine zR ?_; refine xT ?_ ?_ <;> (intro h hp k; (try subst k); (try simp only [q_n] at hp); try first | omega | (cases hp; done));
     refine wL ?_; apply yZ; rfl; (rfl); rfl; rfl; (apply qG <;> rfl); apply xR; rfl; (rfl); rfl; rfl; (refine yJ ?_; exact hany _ (by repeat first | exact q_h | apply q_t | assumption)); intro _ _; refine yB ?_; refine zX (yN ?_ ?_) <;> (intro h hp k; (try subst k); (try simp only [q_n] at hp); try first | omega | (cases hp; done));
     refine zW (zZ (vX ?_)); refine zR ?_; refine zQ ?_; simp only [zA, zF, zE, zH, yK, ↓reduceIte, Nat.reduceEqDiff]; rotate_left
     all_goals ((repeat (rename BV _ _ => k; first | cases k | clear k)); try exact zN)
     refine ⟨k + 1, ⟨hk, hnext⟩, by omega, ?_⟩
     exact wW
   ·have hbad : ¬ RightA B L A := fun h => hc0 (h.ck l hmem)
    generalize xQ l = e at hck hc0
    clear hI2 hnet
    refine zY (zZ ?_); refine xY ?_; intro _ _; refine zX (zY (yN ?_ ?_)) <;> (intro h hp k; (try subst k); (try simp only [q_n] at hp); try first | omega | (cases hp; done));
    refine zW (zY (zT ?_)); refine zY (zZ ?_); refine vG ?_; refine yA ?_; refine xK ?_; intro _; refine yR ?_; refine zX (zY (zZ ?_)); refine yA ?_; apply zU; rfl; rfl; rfl; (refine yJ ?_; exact hck _); refine xY ?_; intro _ _; refine zR ?_; refine xT ?_ ?_ <;> (intro h hp k; (try subst k); (try simp only [q_n] at hp); try first | omega | (cases hp; done));
    (iterate 4 refine yC ?_); refine xF ?_; refine zX (zG rfl (by rfl) ?_); refine zY (zZ ?_); refine zP ?_; refine zX (zV ?_); simp only [yX]; rotate_left
    all_goals ((repeat (rename BV _ _ => k; first | cases k | clear k)); try exact zN)
    refine xX (σ3 := σ) ?_
    exact zJ ⟨rfl, .inr ⟨hbad, rfl⟩⟩
  ·have hBok : ∀ l ∈ B, xQ l = 0 ∧ ∀ s ∈ l, s.tab < B.length := fun l hl => by
    obtain ⟨i, hi⟩ := List.getElem?_of_mem hl
    exact hI2 i l (by have := wD hi; omega) hi
   clear hI2
   refine zY (zZ ?_); refine xY ?_; intro _ _; refine zX (zY (yN ?_ ?_)) <;> (intro h hp k; (try subst k); (try simp only [q_n] at hp); try first | omega | (cases hp; done));
   refine yQ ?_; refine zY (zY (zZ ?_)); refine uZ ?_; refine yG ?_; refine wH ?_; refine zR ?_; refine zX (zT ?_); rotate_left
   all_goals ((repeat (rename BV _ _ => k; first | cases k | clear k)); try exact zN)
   refine yD (fun (j : Nat) => (⟨[(1, .ptr b1 0), (3, .ptr b3 0), (41, pks L), (42, .int .i64 L.length), (43, .int .i64 j)], .cells b3 [.int .i64 B.length] 3 :: .cells b1 (stC B L A) 41 :: σ, [], Tryz.f47.ntmps⟩ : St)) (fun j => j ≤ L.length ∧ ∀ i p, i < j → L[i]? = some p → ∃ s, PkR B.length p s) (fun j => L.length - j) 0 (⟨Nat.zero_le _, fun i p h => absurd h (Nat.not_lt_zero _)⟩) (St.le_of (by repeat (first | exact trivial | refine ⟨rfl, ?_⟩)) (by repeat (first | exact q_r | apply q_q | apply q_k))) ?_
   intro j hI
   obtain ⟨hI1, hI2⟩ := hI
   by_cases hj : j < L.length
   ·obtain ⟨p, hpj⟩ : ∃ p, L[j]? = some p := yW hj
    have hmem := List.mem_of_getElem? hpj
    have hg := pk_get hpj
    obtain ⟨hsm1, hsm2⟩ := hs p hmem
    have hlen := hnet.few
    cases hsd : pX p.d with
    | none =>
     have hbad : ¬ RightA B L A := fun h => by
      obtain ⟨s, h1⟩ := h.pk p hmem
      have := h1.says
      rw [hsd] at this; cases this
     have hrd := fun σ => read_no hsd hsm1 hsm2 σ
     clear hI2 hBok hs hnet
     refine zY (zZ ?_); refine xY ?_; intro _ _; refine zX (zY (yN ?_ ?_)) <;> (intro h hp k; (try subst k); (try simp only [q_n] at hp); try first | omega | (cases hp; done));
     refine zW (zY (zT ?_)); refine zY (zZ ?_); refine vG ?_; refine yA ?_; refine xK ?_; intro _; refine yR ?_; refine zX (zY (zZ ?_)); refine yG ?_; refine xL rfl rfl rfl (xJ rfl rfl (zB (by kernel_rfl)) (hrd _)) ?_; rintro _ _ ⟨s, rfl, rfl⟩; refine zR ?_; (iterate 2 refine tG ?_); refine xK ?_; intro _; refine yR ?_; refine zP ?_; refine zX (zY (zZ ?_)); refine zR ?_; refine qY ?_; intro _ _; refine zR ?_; refine xT ?_ ?_ <;> (intro h hp k; (try subst k); (try simp only [q_n] at hp); try first | omega | (cases hp; done));
     (iterate 7 refine yC ?_); refine xF ?_; refine zR ?_; (iterate 6 refine yC ?_); refine xF ?_; refine zR ?_; (iterate 4 refine yC ?_); refine xF ?_; refine zX (zG rfl (by rfl) ?_); refine zY (zZ ?_); refine zP ?_; refine zX (zV ?_); simp only [yX]; rotate_left
     all_goals ((repeat (rename BV _ _ => k; first | cases k | clear k)); try exact zN)
     refine xX (σ3 := σ) ?_
     exact zJ ⟨rfl, .inr ⟨hbad, rfl⟩⟩
    | some s =>
     have hrd := fun σ => read_is hsd hsm1 hsm2 σ
     have hi1 := fun σ => in_c s.tab 0 ((B.length : Int) - 1) σ
     have hi2 := fun σ => in_c s.seq 0 511 σ
     by_cases hall : uR s = true ∧ max p.f p.t < B.length ∧ inB s.tab 0 ((B.length : Int) - 1) = true ∧ inB s.seq 0 511 = true
     ·obtain ⟨a1, a2, a3, a4⟩ := hall
      have hpk : PkR B.length p s := ⟨hsd, a1, a2, by unfold inB at a3; simp at a3; omega, by unfold inB at a4; simp at a4; omega⟩
      have hnext : ∀ i q, i < j + 1 → L[i]? = some q → ∃ s, PkR B.length q s := fun i q h1 h2 => by
       by_cases e : i = j
       ·subst e; rw [hpj] at h2; cases h2; exact ⟨s, hpk⟩
       ·exact hI2 i q (by omega) h2
      rw [a1] at hrd
      rw [a3] at hi1
      rw [a4] at hi2
      clear hI2 hBok hs hnet hpk
      refine zY (zZ ?_); refine xY ?_; intro _ _; refine zX (zY (yN ?_ ?_)) <;> (intro h hp k; (try subst k); (try simp only [q_n] at hp); try first | omega | (cases hp; done));
      refine zW (zY (zT ?_)); refine zY (zZ ?_); refine vG ?_; refine yA ?_; refine xK ?_; intro _; refine yR ?_; refine zX (zY (zZ ?_)); refine yG ?_; refine xL rfl rfl rfl (xJ rfl rfl (zB (by kernel_rfl)) (hrd _)) ?_; rintro _ _ ⟨_, rfl, rfl, rfl⟩; refine zR ?_; (iterate 2 refine tG ?_); refine xK ?_; intro _; refine yR ?_; refine zP ?_; refine zX (zY (zZ ?_)); refine zR ?_; refine qY ?_; intro _ _; refine zR ?_; refine xT ?_ ?_ <;> (intro h hp k; (try subst k); (try simp only [q_n] at hp); try first | omega | (cases hp; done));
      (iterate 2 refine wL ?_); apply yZ; rfl; (rfl); rfl; rfl; (apply g_max <;> rfl); refine yLd ?_; refine wT ?_; intro _ _; refine yB ?_; refine zR ?_; refine xT ?_ ?_ <;> (intro h hp k; (try subst k); (try simp only [q_n] at hp); try first | omega | (cases hp; done));
      refine wL ?_; refine yLd ?_; refine ySu ?_; apply xR; rfl; (rfl); rfl; rfl; (refine yJ ?_; exact hi1 _); intro _ _; refine yNo ?_; intro _ _; refine yB ?_; refine zR ?_; refine xT ?_ ?_ <;> (intro h hp k; (try subst k); (try simp only [q_n] at hp); try first | omega | (cases hp; done));
      (iterate 4 refine yC ?_); refine xF ?_; refine zX (zG rfl (by rfl) ?_); refine zY (zZ ?_); refine zP ?_; refine zX (zV ?_); simp only [yX]; rotate_left; refine wL ?_; apply xR; rfl; (rfl); rfl; rfl; (refine yJ ?_; exact hi2 _); intro _ _; refine yNo ?_; intro _ _; refine yB ?_; refine zX (yN ?_ ?_) <;> (intro h hp k; (try subst k); (try simp only [q_n] at hp); try first | omega | (cases hp; done));
      refine zY (zZ ?_); refine zP ?_; refine zX (zV ?_); simp only [yX]; rotate_left; refine zW (zZ (vX ?_)); refine zR ?_; refine zQ ?_; simp only [zA, zF, zE, zH, yK, ↓reduceIte, Nat.reduceEqDiff]; rotate_left
      all_goals ((repeat (rename BV _ _ => k; first | cases k | clear k)); try exact zN)
      refine ⟨j + 1, ⟨hj, hnext⟩, by omega, ?_⟩
      exact wW
     ·have hbad : ¬ RightA B L A := fun h => by
       obtain ⟨s', h1⟩ := h.pk p hmem
       have h2 := h1.says
       rw [hsd] at h2; cases h2
       have h3 := h1.tab
       have h4 := h1.seq
       exact hall ⟨h1.slip, h1.ft, by unfold inB; simp; omega, by unfold inB; simp; omega⟩
      generalize inB s.tab 0 ((B.length : Int) - 1) = q1 at hi1 hall
      generalize inB s.seq 0 511 = q2 at hi2 hall
      generalize uR s = q0 at hrd hall
      clear hI2 hBok hs hnet hsd
      refine zY (zZ ?_); refine xY ?_; intro _ _; refine zX (zY (yN ?_ ?_)) <;> (intro h hp k; (try subst k); (try simp only [q_n] at hp); try first | omega | (cases hp; done));
      refine zW (zY (zT ?_)); refine zY (zZ ?_); refine vG ?_; refine yA ?_; refine xK ?_; intro _; refine yR ?_; refine zX (zY (zZ ?_)); refine yG ?_; refine xL rfl rfl rfl (xJ rfl rfl (zB (by kernel_rfl)) (hrd _)) ?_; rintro _ _ ⟨_, rfl, rfl, rfl⟩; refine zR ?_; (iterate 2 refine tG ?_); refine xK ?_; intro _; refine yR ?_; refine zP ?_; refine zX (zY (zZ ?_)); refine zR ?_; refine qY ?_; intro _ _; refine zR ?_; refine xT ?_ ?_ <;> (intro h hp k; (try subst k); (try simp only [q_n] at hp); try first | omega | (cases hp; done));
      (iterate 7 refine yC ?_); refine xF ?_; refine zR ?_; (iterate 6 refine yC ?_); refine xF ?_; refine zR ?_; (iterate 4 refine yC ?_); refine xF ?_; refine zX (zG rfl (by rfl) ?_); refine zY (zZ ?_); refine zP ?_; refine zX (zV ?_); simp only [yX]; rotate_left; (iterate 2 refine wL ?_); apply yZ; rfl; (rfl); rfl; rfl; (apply g_max <;> rfl); refine yLd ?_; refine wT ?_; intro _ _; refine yB ?_; refine zR ?_; refine xT ?_ ?_ <;> (intro h hp k; (try subst k); (try simp only [q_n] at hp); try first | omega | (cases hp; done));
      (iterate 6 refine yC ?_); refine xF ?_; refine zR ?_; (iterate 4 refine yC ?_); refine xF ?_; refine zX (zG rfl (by rfl) ?_); refine zY (zZ ?_); refine zP ?_; refine zX (zV ?_); simp only [yX]; rotate_left; refine wL ?_; refine yLd ?_; refine ySu ?_; apply xR; rfl; (rfl); rfl; rfl; (refine yJ ?_; exact hi1 _); intro _ _; refine yNo ?_; intro _ _; refine yB ?_; refine zR ?_; refine xT ?_ ?_ <;> (intro h hp k; (try subst k); (try simp only [q_n] at hp); try first | omega | (cases hp; done));
      (iterate 4 refine yC ?_); refine xF ?_; refine zX (zG rfl (by rfl) ?_); refine zY (zZ ?_); refine zP ?_; refine zX (zV ?_); simp only [yX]; rotate_left; refine wL ?_; apply xR; rfl; (rfl); rfl; rfl; (refine yJ ?_; exact hi2 _); intro _ _; refine yNo ?_; intro _ _; refine yB ?_; refine zX (yN ?_ ?_) <;> (intro h hp k; (try subst k); (try simp only [q_n] at hp); try first | omega | (cases hp; done));
      refine zY (zZ ?_); refine zP ?_; refine zX (zV ?_); simp only [yX]; rotate_left; refine zW (zZ (vX ?_)); refine zR ?_; refine zQ ?_; simp only [zA, zF, zE, zH, yK, ↓reduceIte, Nat.reduceEqDiff]; rotate_left
      all_goals ((repeat (rename BV _ _ => k; first | cases k | clear k)); try exact zN)
      all_goals (try (exact absurd ⟨by assumption, by omega, by assumption, by assumption⟩ hall))
      all_goals
       refine xX (σ3 := σ) ?_
       exact zJ ⟨rfl, .inr ⟨hbad, rfl⟩⟩
   ·have hok : RightA B L A := ⟨hn18.1, hn18.2, hnet, fun l hl => (hBok l hl).1, fun l hl => (hBok l hl).2, fun p hp => (by
     obtain ⟨i, hi⟩ := List.getElem?_of_mem hp
     exact hI2 i p (by have := wD hi; omega) hi)⟩
    clear hI2 hBok hs hnet
    refine zY (zZ ?_); refine xY ?_; intro _ _; refine zX (zY (yN ?_ ?_)) <;> (intro h hp k; (try subst k); (try simp only [q_n] at hp); try first | omega | (cases hp; done));
    refine yQ ?_; refine zY (zZ ?_); refine zP ?_; refine zX (zV ?_); simp only [yX]; rotate_left
    all_goals ((repeat (rename BV _ _ => k; first | cases k | clear k)); try exact zN)
    refine xX (σ3 := σ) ?_
    exact zJ ⟨rfl, .inl ⟨hok, rfl⟩⟩
 ·have hbad : ¬ RightA B L A := fun h => hnet h.net
  have hnc := fun σ => netcheck_bad hnet σ
  refine zY (zZ ?_); refine xB ?_; intro _; refine zP ?_; refine zX (zY (zZ ?_)); refine yG ?_; refine wH ?_; refine xK ?_; intro _; refine yR ?_; refine zX (zY (zY (zZ ?_))); refine xLd ?_; apply yE; rfl; rfl; rfl; (refine yJ ?_; exact hin _); intro _ _; refine qY ?_; intro _ _; refine zR ?_; refine xT ?_ ?_ <;> (intro h hp k; (try subst k); (try simp only [q_n] at hp); try first | omega | (cases hp; done));
  (iterate 4 refine yC ?_); refine xF ?_; refine zX (zG rfl (by rfl) ?_); refine zY (zZ ?_); refine zP ?_; refine zX (zV ?_); simp only [yX]; rotate_left; refine yFa ?_; refine yLa ?_; apply yZ; rfl; (rfl); rfl; rfl; (refine yJ ?_; exact hnc _); refine wT ?_; intro _ _; refine yB ?_; refine zX (yN ?_ ?_) <;> (intro h hp k; (try subst k); (try simp only [q_n] at hp); try first | omega | (cases hp; done));
  refine zY (zZ ?_); refine zP ?_; refine zX (zV ?_); simp only [yX]; rotate_left
  all_goals ((repeat (rename BV _ _ => k; first | cases k | clear k)); try exact zN)
  refine xX (σ3 := σ) ?_
  exact zJ ⟨rfl, .inr ⟨hbad, rfl⟩⟩
theorem right_c (B : List (List Sl)) (L : List Pk) (A : List Ap) (hR : Rt B L A) (σ : List Ent) : SCall Tryz.prog 47 [.agg (stC B L A)] σ (Is (.bool true) σ) :=
 uY (right_g B L A hR.right.2 σ) fun v τ ⟨h1, h2⟩ => by
  rcases h2 with ⟨_, rfl⟩ | ⟨h3, _⟩
  ·subst h1; exact .mk
  ·exact absurd hR.right.1 h3
theorem right_bad {B : List (List Sl)} {L : List Pk} {A : List Ap} (hs : Small L) (h : ¬ RightA B L A) (σ : List Ent) : SCall Tryz.prog 47 [.agg (stC B L A)] σ (Is (.bool false) σ) :=
 uY (right_g B L A hs σ) fun v τ ⟨h1, h2⟩ => by
  rcases h2 with ⟨h3, _⟩ | ⟨_, rfl⟩
  ·exact absurd h3 h
  ·subst h1; exact .mk
end Go.Proofs.YtkhoengjdfmfaaaGreat
