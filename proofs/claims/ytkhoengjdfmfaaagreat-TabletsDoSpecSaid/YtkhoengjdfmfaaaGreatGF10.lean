/- Parts of the proof that belong together: Rd Rg Rh Ri Tu Sae Wa. -/
import Derived.Test.YtkhoengjdfmfaaaGreatGF04
import Derived.Test.YtkhoengjdfmfaaaGreatGF07
import Derived.Test.YtkhoengjdfmfaaaGreatGF09
set_option maxRecDepth 10000
set_option maxHeartbeats 16000000
set_option linter.unusedSimpArgs false
set_option linter.unusedVariables false
namespace Go.Proofs.YtkhoengjdfmfaaaGreat
def RvQ (d b : Nat) (B : List Nat) (a : Nat) : AV → Ent → Prop := fun r e' => (∃ t a', a' ≤ B.length ∧ tF d (B.drop a) = some (t, B.drop a') ∧ r = .agg (vtC t) ∧ e' = rfE b B a' false) ∨ (tF d (B.drop a) = none ∧ ∃ t a', a' ≤ B.length ∧ r = .agg (vtC t) ∧ e' = rfE b B a' true)
abbrev ValR (d : Nat) : Prop := ∀ (b a : Nat) (B : List Nat), a ≤ B.length → (∀ x ∈ B, x < 256) → B.length ≤ 1000 → ∀ σ : List Ent, SCall Tryz.prog 152 [.ptr b 0, .int .i64 (16 - (d : Int))] (rfE b B a false :: σ) (fun r τ => ∃ e', RvQ d b B a r e' ∧ τ = e' :: σ)
theorem pY : vtC (.mk 0 0 [] []) = [.int .i64 0, .int .i64 0, .str ⟨#[]⟩, .dl 4 []] := by rw [vJ]; rfl
theorem value_r (d : Nat) (hd : d ≤ 16) (ih : ∀ d', d = d' + 1 → ValR d') : ValR d := by
 intro b a B ha hb8 hB σ
 refine zL Tryz.func152 rfl (by simp) ?_
 unfold RvQ
 rw [valD_eq]
 by_cases hlt : a < B.length
 ·obtain ⟨c, hcx⟩ : ∃ c, B[a]? = some c := yW hlt
  have hc : c < 256 := hb8 c (List.mem_of_getElem? hcx)
  rw [drop_cons hcx, valO]
  have hnx := fun {σ σ' : List Ent} (h : Upd σ (rfE b B a false) (rfE b B (a + 1) false) σ') => scall_updI (next_in b a c B hcx (by omega)) h
  have hnum := fun {σ : List Ent} {F : Ent → List Ent} (h : ∀ e', Upd σ (rfE b B (a + 1) false) e' (F e')) => scall_atE (fun σ0 => number_r b (a + 1) B hlt hb8 hB σ0) h
  unfold RnQ at hnum
  by_cases h1 : c = 1
  ·subst h1
   rw [if_pos rfl]
   clear ih
   refine zY (zZ ?_); refine xK ?_; intro _; refine zX (zY (zY (zZ ?_))); refine zR ?_; apply zU; rfl; rfl; rfl; (refine yJ ?_; exact hnx (by (exact Upd.there (Upd.here)))); refine zX (zT ?_); refine zY (zZ ?_); refine xY ?_; intro _ _; refine zP ?_; refine zX (yN ?_ ?_) <;> (intro h hp k; (try subst k); (try simp only [q_n] at hp); try first | omega | (cases hp; done));
   refine zY (zZ ?_); refine zR ?_; rotate_left
   all_goals ((repeat (rename BV _ _ => k; first | cases k | clear k)); try exact zN)
   refine xL rfl rfl rfl (xJ rfl rfl (zB (by kernel_rfl)) (hnum (fun e' => by exact (by (repeat first | exact Upd.here | apply Upd.there))))) ?_
   rintro _ _ ⟨_, (⟨u, a', hal, hn, rfl, rfl⟩ | ⟨hn, a', hal, rfl, rfl⟩), rfl⟩
   ·have hul := (numD_some hn (fun x hx => hb8 x (List.mem_of_mem_drop hx))).2
    rw [hn, Option.map_some]
    have h2 : (2 : Int) = ((2 : Nat) : Int) := rfl
    have hci : IntKind.i64.wrap ((u / 2 : Nat) : Int) = ((u / 2 : Nat) : Int) := by rw [IntKind.wrap_i64]; omega
    clear hnx hnum hn hb8
    rcases Nat.mod_two_eq_zero_or_one u with he | he
    ·have hs : sgn u = ((u / 2 : Nat) : Int) := by unfold sgn; rw [if_pos he]
     have hne : (((u % 2 : Nat) : Int) == 1) = false := by rw [he]; rfl
     refine zP ?_; refine zX (zY (zY (zZ ?_))); refine zR ?_; apply zU; rfl; rfl; rfl; (apply g_remP; rfl; rfl; exact ⟨by omega, by omega⟩); refine zD ?_ ?_ <;> (intro h hp; (try simp only [q_n] at hp); try first | omega | (cases hp; done));
     refine zW (zY (zZ ?_)); refine zR ?_; apply zU; rfl; rfl; rfl; (exact g_quoU rfl rfl rfl h2 (by omega) rfl (by omega)); apply zU; rfl; rfl; rfl; (apply wC; rfl; rfl; rfl; exact ⟨by omega, by omega⟩); refine uA ?_; refine yR ?_; refine zX (zV ?_); simp only [yX]; rotate_left
     all_goals ((repeat (rename BV _ _ => k; first | cases k | clear k)); try exact zN)
     refine xX (σ3 := rfE b B a' false :: σ) ?_
     refine wJ (sz := 4) (.agg (.same (.same (.same (.here .nil)))) .nil) ?_
     exact zJ ⟨_, .inl ⟨_, a', hal, rfl, by rw [vJ, hs]; rfl, rfl⟩, rfl⟩
    ·have hs : sgn u = -((u / 2 : Nat) : Int) - 1 := by unfold sgn; rw [if_neg (by omega)]
     have hne : (((u % 2 : Nat) : Int) == 1) = true := by rw [he]; rfl
     refine zP ?_; refine zX (zY (zY (zZ ?_))); refine zR ?_; apply zU; rfl; rfl; rfl; (apply g_remP; rfl; rfl; exact ⟨by omega, by omega⟩); refine zD ?_ ?_ <;> (intro h hp; (try simp only [q_n] at hp); try first | omega | (cases hp; done));
     refine zY (zZ ?_); refine zR ?_; apply zU; rfl; rfl; rfl; (exact g_quoU rfl rfl rfl h2 (by omega) rfl (by omega)); apply zU; rfl; rfl; rfl; (apply wC; rfl; rfl; rfl; exact ⟨by omega, by omega⟩); apply zU; rfl; rfl; rfl; (apply g_neg; rfl; rfl; exact ⟨by omega, by omega⟩); refine xSu ?_; refine uA ?_; refine yR ?_; refine zX (zV ?_); simp only [yX]; rotate_left
     all_goals ((repeat (rename BV _ _ => k; first | cases k | clear k)); try exact zN)
     refine xX (σ3 := rfE b B a' false :: σ) ?_
     refine wJ (sz := 4) (.agg (.same (.same (.same (.here .nil)))) .nil) ?_
     exact zJ ⟨_, .inl ⟨_, a', hal, rfl, by rw [vJ, hs]; rfl, rfl⟩, rfl⟩
   ·rw [hn, Option.map_none]
    have h2 : (2 : Int) = ((2 : Nat) : Int) := rfl
    have hci : IntKind.i64.wrap ((0 / 2 : Nat) : Int) = ((0 : Nat) : Int) := rfl
    have hne : (((0 % 2 : Nat) : Int) == 1) = false := rfl
    clear hnx hnum hn hb8
    refine zP ?_; refine zX (zY (zY (zZ ?_))); refine zR ?_; apply zU; rfl; rfl; rfl; (apply g_remP; rfl; rfl; exact ⟨by omega, by omega⟩); refine zD ?_ ?_ <;> (intro h hp; (try simp only [q_n] at hp); try first | omega | (cases hp; done));
    refine zW (zY (zZ ?_)); refine zR ?_; apply zU; rfl; rfl; rfl; (exact g_quoU rfl rfl rfl h2 (by omega) rfl (by omega)); apply zU; rfl; rfl; rfl; (apply wC; rfl; rfl; rfl; exact ⟨by omega, by omega⟩); refine uA ?_; refine yR ?_; refine zX (zV ?_); simp only [yX]; rotate_left
    all_goals ((repeat (rename BV _ _ => k; first | cases k | clear k)); try exact zN)
    refine xX (σ3 := rfE b B a' true :: σ) ?_
    refine wJ (sz := 4) (.agg (.same (.same (.same (.here .nil)))) .nil) ?_
    exact zJ ⟨_, .inr ⟨trivial, .mk 1 0 [] [], a', hal, by rw [vJ]; rfl, rfl⟩, rfl⟩
  by_cases h2 : c = 2
  ·subst h2
   rw [if_neg (by omega), if_pos rfl]
   clear ih
   refine zY (zZ ?_); refine xK ?_; intro _; refine zX (zY (zY (zZ ?_))); refine zR ?_; apply zU; rfl; rfl; rfl; (refine yJ ?_; exact hnx (by (exact Upd.there (Upd.here)))); refine zX (zT ?_); refine zY (zZ ?_); refine xY ?_; intro _ _; refine zP ?_; refine zX (yN ?_ ?_) <;> (intro h hp k; (try subst k); (try simp only [q_n] at hp); try first | omega | (cases hp; done));
   refine zY (zZ ?_); refine xY ?_; intro _ _; refine zP ?_; refine zX (yN ?_ ?_) <;> (intro h hp k; (try subst k); (try simp only [q_n] at hp); try first | omega | (cases hp; done));
   refine zY (zZ ?_); refine zR ?_; rotate_left
   all_goals ((repeat (rename BV _ _ => k; first | cases k | clear k)); try exact zN)
   refine xL rfl rfl rfl (xJ rfl rfl (zB (by kernel_rfl)) (hnum (fun e' => by exact (by (repeat first | exact Upd.here | apply Upd.there))))) ?_
   rintro _ _ ⟨_, (⟨u, a', hal, hn, rfl, rfl⟩ | ⟨hn, a', hal, rfl, rfl⟩), rfl⟩
   ·have hul := (numD_some hn (fun x hx => hb8 x (List.mem_of_mem_drop hx))).2
    rw [hn, Option.bind_some]
    dsimp only
    have hcv : IntKind.u64.wrap ((B.length : Int) - (a' : Int)) = ((B.length - a' : Nat) : Int) := by rw [IntKind.wrap_u64]; omega
    clear hnx hnum hn
    by_cases hu : u ≤ B.length - a'
    ·rw [if_pos (by rw [List.length_drop]; exact hu)]
     have hgt : decide (((u : Nat) : Int) > ((B.length - a' : Nat) : Int)) = false := decide_eq_false (by omega)
     have hci : IntKind.i64.wrap ((u : Nat) : Int) = ((u : Nat) : Int) := by rw [IntKind.wrap_i64]; omega
     have hlo : ((a' : Nat) : Int) + ((u : Nat) : Int) - ((u : Nat) : Int) = ((a' : Nat) : Int) := by omega
     have hhi : ((a' : Nat) : Int) + ((u : Nat) : Int) = ((a' + u : Nat) : Int) := by omega
     have hsub : (B.take (a' + u)).drop a' = (B.drop a').take u := by rw [List.drop_take]; congr 1; omega
     have hres : (B.drop a').drop u = B.drop (a' + u) := by rw [List.drop_drop]
     refine zP ?_; refine zX (zY ?_); refine zY (wN rfl rfl (by kernel_rfl) rfl ?_); refine yU rfl (by kernel_rfl) rfl ?_; refine xU ?_; apply yY; rfl; rfl; rfl; (intro σ' hl; (apply zK <;> rfl)); refine vR ?_; refine vW ?_; refine xU ?_; (iterate 2 refine uV ?_); apply xS; rfl; (rfl); rfl; rfl; (intro σ' hl; (apply zK <;> rfl)); refine tX ?_; refine uU ?_; apply xS; rfl; (rfl); rfl; rfl; (intro σ' hl; (apply xH; rfl; rfl; (exact (List.length_map _).symm))); refine uV ?_; apply xS; rfl; (rfl); rfl; rfl; (intro σ' hl; (apply zK <;> rfl)); refine tX ?_; refine uU ?_; refine vSu ?_; apply xS; rfl; (rfl); rfl; rfl; (intro σ' hl; (exact vA rfl rfl rfl hcv)); refine tE ?_; intro _ _; refine qW ?_; refine zC ?_; show EX _ _ _ _ _; refine yN ?_ ?_ <;> (intro h hp k; (try subst k); (try simp only [q_n] at hp); try first | omega | (cases hp; done));
     refine zW (zY (zZ ?_)); (iterate 2 refine zR ?_); apply zU; rfl; rfl; rfl; (apply zK <;> rfl); refine yG ?_; refine zR ?_; apply zU; rfl; rfl; rfl; (apply wC; rfl; rfl; rfl; exact ⟨by omega, by omega⟩); refine vX ?_; apply zU; rfl; rfl; rfl; (apply zK <;> rfl); refine uZ ?_; refine yR ?_; refine zX (zY (ex_drawT rfl rfl (by kernel_rfl) rfl ?_)); simp only [List.length_cons, List.length_nil, Nat.reduceAdd, Nat.reduceSub, List.take_succ_cons, List.take_zero, List.drop_succ_cons, List.drop_zero]; refine xU ?_; apply yY; rfl; rfl; rfl; (intro σ' hl; (apply zK <;> rfl)); refine vR ?_; refine vW ?_; refine xU ?_; apply yY; rfl; rfl; rfl; (intro σ' hl; (apply zK <;> rfl)); refine vR ?_; refine vW ?_; refine xU ?_; apply yY; rfl; rfl; rfl; (intro σ' hl; (apply wC; rfl; rfl; rfl; exact ⟨by omega, by omega⟩)); refine wSu ?_; refine xU ?_; apply yY; rfl; rfl; rfl; (intro σ' hl; (apply zK <;> rfl)); refine vR ?_; refine vW ?_; apply yY; rfl; rfl; rfl; (intro σ' hl; (apply g_sliceMap; rfl; rfl; rfl; rfl; (assumption); (rfl); omega)); apply yY; rfl; rfl; rfl; (intro σ' hl; (exact g_bytesStr rfl rfl rfl rfl)); apply yY; rfl; rfl; rfl; (intro σ' hl; (apply tK <;> rfl)); refine zC (yR ?_); refine zX (zV ?_); simp only [yX]; rotate_left
     all_goals ((repeat (rename BV _ _ => k; first | cases k | clear k)); try exact zN)
     refine xX (σ3 := .cells b [bys B, .int .i64 (((a' : Nat) : Int) + ((u : Nat) : Int)), .bool false] 197 :: σ) ?_
     refine wJ (sz := 4) (.agg (.same (.same (.same (.here .nil)))) .nil) ?_
     rw [hhi]
     exact zJ ⟨_, .inl ⟨_, a' + u, by omega, by rw [hres], by rw [vJ, ← hsub]; rfl, rfl⟩, rfl⟩
    ·rw [if_neg (by rw [List.length_drop]; exact hu)]
     have hgt : decide (((u : Nat) : Int) > ((B.length - a' : Nat) : Int)) = true := decide_eq_true (by omega)
     refine zP ?_; refine zX (zY ?_); refine zY (wN rfl rfl (by kernel_rfl) rfl ?_); refine yU rfl (by kernel_rfl) rfl ?_; refine xU ?_; apply yY; rfl; rfl; rfl; (intro σ' hl; (apply zK <;> rfl)); refine vR ?_; refine vW ?_; refine xU ?_; (iterate 2 refine uV ?_); apply xS; rfl; (rfl); rfl; rfl; (intro σ' hl; (apply zK <;> rfl)); refine tX ?_; refine uU ?_; apply xS; rfl; (rfl); rfl; rfl; (intro σ' hl; (apply xH; rfl; rfl; (exact (List.length_map _).symm))); refine uV ?_; apply xS; rfl; (rfl); rfl; rfl; (intro σ' hl; (apply zK <;> rfl)); refine tX ?_; refine uU ?_; refine vSu ?_; apply xS; rfl; (rfl); rfl; rfl; (intro σ' hl; (exact vA rfl rfl rfl hcv)); refine tE ?_; intro _ _; refine qW ?_; refine zC ?_; show EX _ _ _ _ _; refine yN ?_ ?_ <;> (intro h hp k; (try subst k); (try simp only [q_n] at hp); try first | omega | (cases hp; done));
     refine zY (zZ ?_); refine zR ?_; apply zU; rfl; rfl; rfl; (apply zK <;> rfl); refine uZ ?_; refine yR ?_; refine zX (zY (zZ ?_)); refine uA ?_; refine yR ?_; refine zX (zV ?_); simp only [yX]; rotate_left
     all_goals ((repeat (rename BV _ _ => k; first | cases k | clear k)); try exact zN)
     refine xX (σ3 := rfE b B a' true :: σ) ?_
     refine wJ (sz := 4) (.agg (.same (.same (.same (.here .nil)))) .nil) ?_
     exact zJ ⟨_, .inr ⟨trivial, .mk 0 0 [] [], a', hal, by rw [pY]; rfl, rfl⟩, rfl⟩
   ·rw [hn, Option.bind_none]
    clear hnx hnum hn
    refine zP ?_; refine zX (zY ?_); refine zY (wN rfl rfl (by kernel_rfl) rfl ?_); refine yU rfl (by kernel_rfl) rfl ?_; refine xU ?_; apply yY; rfl; rfl; rfl; (intro σ' hl; (apply zK <;> rfl)); refine vR ?_; refine vW ?_; refine xU ?_; (iterate 13 refine vF ?_); refine tZ ?_; refine zC ?_; show EX _ _ _ _ _; refine zG rfl (by rfl) ?_; refine zY (zZ ?_); refine zR ?_; apply zU; rfl; rfl; rfl; (apply zK <;> rfl); refine uZ ?_; refine yR ?_; refine zX (zY (zZ ?_)); refine uA ?_; refine yR ?_; refine zX (zV ?_); simp only [yX]; rotate_left
    all_goals ((repeat (rename BV _ _ => k; first | cases k | clear k)); try exact zN)
    refine xX (σ3 := rfE b B a' true :: σ) ?_
    refine wJ (sz := 4) (.agg (.same (.same (.same (.here .nil)))) .nil) ?_
    exact zJ ⟨_, .inr ⟨trivial, .mk 0 0 [] [], a', hal, by rw [pY]; rfl, rfl⟩, rfl⟩
  by_cases h3 : c = 3
  ·subst h3
   rw [if_neg (by omega), if_neg (by omega), if_pos rfl]
   refine zY (zZ ?_); refine xK ?_; intro _; refine zX (zY (zY (zZ ?_))); refine zR ?_; apply zU; rfl; rfl; rfl; (refine yJ ?_; exact hnx (by (exact Upd.there (Upd.here)))); refine zX (zT ?_); refine zY (zZ ?_); refine xY ?_; intro _ _; refine zP ?_; refine zX (yN ?_ ?_) <;> (intro h hp k; (try subst k); (try simp only [q_n] at hp); try first | omega | (cases hp; done));
   refine zY (zZ ?_); refine xY ?_; intro _ _; refine zP ?_; refine zX (yN ?_ ?_) <;> (intro h hp k; (try subst k); (try simp only [q_n] at hp); try first | omega | (cases hp; done));
   refine zY (zZ ?_); refine xY ?_; intro _ _; refine zP ?_; refine zX (yN ?_ ?_) <;> (intro h hp k; (try subst k); (try simp only [q_n] at hp); try first | omega | (cases hp; done));
   refine zY (zZ ?_); refine zR ?_; rotate_left
   all_goals ((repeat (rename BV _ _ => k; first | cases k | clear k)); try exact zN)
   rename Nat => b4; revert b4
   intro b4
   refine xL rfl rfl rfl (xJ rfl rfl (zB (by kernel_rfl)) (hnum (fun e' => by exact (by (repeat first | exact Upd.here | apply Upd.there))))) ?_
   rintro _ _ ⟨_, (⟨u, a', hal, hn, rfl, rfl⟩ | ⟨hn, a', hal, rfl, rfl⟩), rfl⟩
   ·have hul := (numD_some hn (fun x hx => hb8 x (List.mem_of_mem_drop hx))).2
    rw [hn]
    have hcv : IntKind.u64.wrap ((B.length : Int) - (a' : Int)) = ((B.length - a' : Nat) : Int) := by rw [IntKind.wrap_u64]; omega
    clear hnx hnum hn
    by_cases hd0 : d = 0
    ·subst hd0
     rw [if_pos rfl, Option.bind_none]
     have h16 : ((16 - ((0 : Nat) : Int)) == 16) = true := rfl
     clear ih
     refine zP ?_; refine zX (zY ?_); refine zY (wN rfl rfl (by kernel_rfl) rfl ?_); refine yU rfl (by kernel_rfl) rfl ?_; refine xU ?_; apply yY; rfl; rfl; rfl; (intro σ' hl; (apply zK <;> rfl)); refine vR ?_; refine vW ?_; refine xU ?_; (iterate 2 refine uV ?_); apply xS; rfl; (rfl); rfl; rfl; (intro σ' hl; (apply zK <;> rfl)); refine tX ?_; refine uU ?_; apply xS; rfl; (rfl); rfl; rfl; (intro σ' hl; (apply xH; rfl; rfl; (exact (List.length_map _).symm))); refine uV ?_; apply xS; rfl; (rfl); rfl; rfl; (intro σ' hl; (apply zK <;> rfl)); refine tX ?_; refine uU ?_; refine vSu ?_; apply xS; rfl; (rfl); rfl; rfl; (intro σ' hl; (exact vA rfl rfl rfl hcv)); refine tE ?_; intro _ _; refine qW ?_; refine xU ?_; refine uW ?_ ?_ <;> (intro h hp k; (try subst k); (try simp only [q_n] at hp); try first | omega | (cases hp; done));
     (iterate 2 refine vF ?_); refine tZ ?_; refine zC ?_; show EX _ _ _ _ _; refine zG rfl (by rfl) ?_; refine zY (zZ ?_); refine zR ?_; apply zU; rfl; rfl; rfl; (apply zK <;> rfl); refine uZ ?_; refine yR ?_; refine zX (zY (zZ ?_)); refine uA ?_; refine yR ?_; refine zX (zV ?_); simp only [yX]; rotate_left; refine uV ?_; refine tE ?_; intro _ _; refine qW ?_; refine zC ?_; show EX _ _ _ _ _; refine yN ?_ ?_ <;> (intro h hp k; (try subst k); (try simp only [q_n] at hp); try first | omega | (cases hp; done));
     refine zY (zZ ?_); refine zR ?_; apply zU; rfl; rfl; rfl; (apply zK <;> rfl); refine uZ ?_; refine yR ?_; refine zX (zY (zZ ?_)); refine uA ?_; refine yR ?_; refine zX (zV ?_); simp only [yX]; rotate_left
     all_goals ((repeat (rename BV _ _ => k; first | cases k | clear k)); try exact zN)
     all_goals
      refine xX (σ3 := rfE b B a' true :: σ) ?_
      refine wJ (sz := 4) (.agg (.same (.same (.same (.here .nil)))) .nil) ?_
      exact zJ ⟨_, .inr ⟨trivial, .mk 0 0 [] [], a', hal, by rw [pY]; rfl, rfl⟩, rfl⟩
    obtain ⟨d', rfl⟩ : ∃ d', d = d' + 1 := ⟨d - 1, by omega⟩
    have ihd := ih d' rfl
    clear ih
    have h16 : ((16 - ((d' + 1 : Nat) : Int)) == 16) = false := by rw [beq_eq_false_iff_ne]; omega
    rw [if_neg hd0, Option.bind_some, Option.bind_some, Nat.add_sub_cancel]
    dsimp only
    by_cases hu : u ≤ B.length - a'
    ·rw [if_pos (by rw [List.length_drop]; exact hu)]
     have hgt : decide (((u : Nat) : Int) > ((B.length - a' : Nat) : Int)) = false := decide_eq_false (by omega)
     have hub : u ≤ 1000 := by omega
     obtain ⟨N, hN⟩ : ∃ N, qZ (tF d') u (B.drop a') = N := ⟨_, rfl⟩
     rw [hN]
     refine zP ?_; refine zX (zY ?_); refine zY (wN rfl rfl (by kernel_rfl) rfl ?_); refine yU rfl (by kernel_rfl) rfl ?_; refine xU ?_; apply yY; rfl; rfl; rfl; (intro σ' hl; (apply zK <;> rfl)); refine vR ?_; refine vW ?_; refine xU ?_; (iterate 2 refine uV ?_); apply xS; rfl; (rfl); rfl; rfl; (intro σ' hl; (apply zK <;> rfl)); refine tX ?_; refine uU ?_; apply xS; rfl; (rfl); rfl; rfl; (intro σ' hl; (apply xH; rfl; rfl; (exact (List.length_map _).symm))); refine uV ?_; apply xS; rfl; (rfl); rfl; rfl; (intro σ' hl; (apply zK <;> rfl)); refine tX ?_; refine uU ?_; refine vSu ?_; apply xS; rfl; (rfl); rfl; rfl; (intro σ' hl; (exact vA rfl rfl rfl hcv)); refine tE ?_; intro _ _; refine qW ?_; refine xU ?_; refine uW ?_ ?_ <;> (intro h hp k; (try subst k); (try simp only [q_n] at hp); try first | omega | (cases hp; done));
     refine uV ?_; refine tE ?_; intro _ _; refine qW ?_; refine zC ?_; show EX _ _ _ _ _; refine yN ?_ ?_ <;> (intro h hp k; (try subst k); (try simp only [q_n] at hp); try first | omega | (cases hp; done));
     refine zW (zY (zZ ?_)); refine uA ?_; refine xK ?_; intro _; refine yR ?_; refine zX (zY (zY (zZ ?_))); refine zP ?_; refine zX (zT ?_); simp only [zA, zF, zE, zH, yK, ↓reduceIte, Nat.reduceEqDiff]; rotate_left
     all_goals ((repeat (rename BV _ _ => k; first | cases k | clear k)); try exact zN)
     rename Nat => b8; revert b8
     intro b8
     refine qR 160 4 ?_
     refine yD (fun (z : Nat × List Vt × Nat × Value × Bool) => (⟨[(0, .ptr b 0), (1, .int .i64 (16 - ((d' + 1 : Nat) : Int))), (4, .ptr b4 0), (7, .int .u64 u), (8, .ptr b8 0), (9, .int .u64 z.1)], .row z.2.2.2.1 160 4 (z.2.1.map vtC) :: .cells b8 [.int .i64 3, .int .i64 0, noStr, .slv z.2.2.2.1] 160 :: .cells b4 zvC 160 :: rfE b B z.2.2.1 z.2.2.2.2 :: σ, [], Tryz.f152.ntmps⟩ : St)) (fun z => (z.1 ≤ u ∧ z.2.1.length = z.1 ∧ z.2.2.1 ≤ B.length) ∧ ((z.2.2.2.2 = false ∧ N = (qZ (tF d') (u - z.1) (B.drop z.2.2.1)).map fun q => (z.2.1 ++ q.1, q.2)) ∨ (z.2.2.2.2 = true ∧ N = none))) (fun z => u - z.1) (0, [], a', nilS, false) (⟨⟨Nat.zero_le _, rfl, hal⟩, .inl ⟨rfl, by rw [← hN]; simp only [Nat.sub_zero, List.nil_append]; cases qZ (tF d') u (B.drop a') <;> rfl⟩⟩) (St.le_of (by repeat (first | exact trivial | refine ⟨rfl, ?_⟩)) (by repeat (first | exact q_r | apply q_q | apply q_k))) ?_
     intro z hI
     obtain ⟨j, l, e, w, q⟩ := z
     obtain ⟨⟨hI1, hI2, hI3⟩, hI4⟩ := hI
     dsimp only at hI1 hI2 hI3 hI4 ⊢
     clear hN hal hu hcv hgt hul hc hcx hlt hd0 h16 h1 h2
     rcases hI4 with ⟨rfl, hI4⟩ | ⟨rfl, hI4⟩
     ·by_cases hj : j < u
      ·have hdi : 16 - ((d' + 1 : Nat) : Int) + 1 = 16 - (d' : Int) := by omega
       have hval := fun {σ : List Ent} {F : Ent → List Ent} (h : ∀ e', Upd σ (rfE b B e false) e' (F e')) => scall_atE (fun σ0 => ihd b e B hI3 hb8 hB σ0) h
       unfold RvQ at hval
       rw [← hdi] at hval
       clear ihd
       have hw : IntKind.u64.wrap ((j : Int) + 1) = ((j + 1 : Nat) : Int) := by rw [IntKind.wrap_u64]; omega
       rw [show u - j = (u - (j + 1)) + 1 by omega, qZ] at hI4
       refine zY (zY (zZ ?_)); (iterate 2 refine zR ?_); refine xY ?_; intro _ _; refine zR ?_; refine xT ?_ ?_ <;> (intro h hp k; (try subst k); (try simp only [q_n] at hp); try first | omega | (cases hp; done));
       refine vN ?_; apply yZ; rfl; (rfl); rfl; rfl; (apply zK <;> rfl); refine wL ?_; refine yNo ?_; intro _ _; refine xF ?_; refine zX (yN ?_ ?_) <;> (intro h hp k; (try subst k); (try simp only [q_n] at hp); try first | omega | (cases hp; done));
       refine zW (zY (zT ?_)); rotate_left
       all_goals ((repeat (rename BV _ _ => k; first | cases k | clear k)); try exact zN)
       refine wA (fun x => x = .cells b8 [.int .i64 3, .int .i64 0, noStr, .slv w] 160) [5, 7] 8 rfl (by kernel_rfl) rfl ?_
       refine yL ?_; refine tN ?_; refine yL ?_; refine dLd ?_; refine yL ?_; refine tP ?_; refine yL ?_; refine tP ?_; refine yL ?_; apply yS; rfl; rfl; (intro σ' hl; (apply g_add; rfl; rfl; rfl; exact ⟨by omega, by omega⟩)); refine yP rfl rfl ?_; refine drs_eff rfl rfl (xJ rfl rfl (zB (by kernel_rfl)) (hval (fun e' => by exact (by (exact Upd.there (Upd.there (Upd.there (Upd.here)))))))) ?_; rintro _ _ ⟨_, (⟨⟨t1, t2, t3, t4⟩, a2, h2l, hv, rfl, rfl⟩ | ⟨hv, ⟨t1, t2, t3, t4⟩, a2, h2l, rfl, rfl⟩), rfl⟩ <;> (refine ⟨(by first | (rintro _ (rfl | rfl | rfl) _ <;> exact (by repeat first | exact q_h | apply q_t | assumption)) | (rintro _ (rfl | rfl) _ <;> exact (by repeat first | exact q_h | apply q_t | assumption)) | (rintro _ rfl _; exact (by repeat first | exact q_h | apply q_t | assumption)) | exact fun _ hk _ => hk.elim), ?_⟩; simp only [vtC]); refine yL ?_; apply yS; rfl; rfl; (intro σ' hl; (exact xE (yV rfl rfl (by decide) rfl rfl (by (simp only [xC, wU]; rfl))))); refine yP rfl rfl ?_; refine drs_eff rfl rfl (by apply xG; rfl; rfl; rfl; (intro v'; (exact Upd.here)); (exact .d); (intro y hy; simp only [tC] at hy; (focus (obtain ⟨_, _, rfl⟩ := hy; rfl; done))); (refine wP ?_ (by kernel_rfl); (try simp only [List.length_append, List.length_map, List.length_cons, List.length_nil, List.length_take, List.length_drop]); omega)) ?_; rintro _ _ ⟨v'⟩; refine ⟨(by (rintro _ (rfl | rfl | rfl) _ <;> exact (by repeat first | exact q_h | apply q_t | assumption))), ?_⟩; refine wQ rfl ?_; refine uZ ?_; refine yR ?_; refine zQ (zZ (zR ?_)); apply zU; rfl; rfl; rfl; (apply wG <;> rfl); refine zP ?_; refine zQ ?_; simp only [zA, zF, zE, zH, yK, ↓reduceIte, Nat.reduceEqDiff]; rotate_left; refine yL ?_; apply yS; rfl; rfl; (intro σ' hl; (exact xE (yV rfl rfl (by decide) rfl rfl (by (simp only [xC, wU]; rfl))))); refine yP rfl rfl ?_; refine drs_eff rfl rfl (by apply xG; rfl; rfl; rfl; (intro v'; (exact Upd.here)); (exact .d); (intro y hy; simp only [tC] at hy; (focus (obtain ⟨_, _, rfl⟩ := hy; rfl; done))); (refine wP ?_ (by kernel_rfl); (try simp only [List.length_append, List.length_map, List.length_cons, List.length_nil, List.length_take, List.length_drop]); omega)) ?_; rintro _ _ ⟨v'⟩; refine ⟨(by (rintro _ (rfl | rfl | rfl) _ <;> exact (by repeat first | exact q_h | apply q_t | assumption))), ?_⟩; refine wQ rfl ?_; refine uZ ?_; refine yR ?_; refine zQ (zZ (zR ?_)); apply zU; rfl; rfl; rfl; (apply wG <;> rfl); refine zP ?_; refine zQ ?_; simp only [zA, zF, zE, zH, yK, ↓reduceIte, Nat.reduceEqDiff]; rotate_left
       all_goals ((repeat (rename BV _ _ => k; first | cases k | clear k)); try exact zN)
       ·refine ⟨(j + 1, l ++ [.mk t1 t2 t3 t4], a2, v', false), ⟨⟨hj, by dsimp only; rw [List.length_append, hI2]; rfl, h2l⟩, .inl ⟨rfl, ?_⟩⟩, by dsimp only; omega, ?_⟩
        ·rw [hI4, hv, Option.bind_some, Option.map_map]
         congr 1
         funext q
         show (l ++ _ :: q.1, q.2) = (l ++ [_] ++ q.1, q.2)
         rw [List.append_assoc]; rfl
        ·dsimp only
         rw [hw, List.map_append]
         exact wW
       ·refine ⟨(j + 1, l ++ [.mk t1 t2 t3 t4], a2, v', true), ⟨⟨hj, by dsimp only; rw [List.length_append, hI2]; rfl, h2l⟩, .inr ⟨rfl, by rw [hI4, hv]; rfl⟩⟩, by dsimp only; omega, ?_⟩
        dsimp only
        rw [hw, List.map_append]
        exact wW
      ·have hje : j = u := by omega
       subst hje
       rw [Nat.sub_self, qZ] at hI4
       clear ihd
       refine zY (zY (zZ ?_)); (iterate 2 refine zR ?_); refine xY ?_; intro _ _; refine zR ?_; refine xT ?_ ?_ <;> (intro h hp k; (try subst k); (try simp only [q_n] at hp); try first | omega | (cases hp; done));
       (iterate 5 refine yC ?_); refine yB ?_; refine zX (yH rfl (by rfl) ?_); refine yQ ?_; refine zY (zZ ?_); refine yA ?_; refine yR ?_; refine zX (zV ?_); simp only [yX]; rotate_left
       all_goals ((repeat (rename BV _ _ => k; first | cases k | clear k)); try exact zN)
       refine xX (σ3 := .row w 160 4 (l.map vtC) :: rfE b B e false :: σ) ?_
       refine vV .here (.agg (.same (.same (.same (.here .nil)))) .nil) ?_
       exact zJ ⟨_, .inl ⟨.mk 3 0 [] l, e, hI3, by rw [hI4, Option.map_some, Option.map_some, List.append_nil], by rw [vJ]; rfl, rfl⟩, rfl⟩
     ·clear ihd
      refine zY (zY (zZ ?_)); (iterate 2 refine zR ?_); refine xY ?_; intro _ _; refine zR ?_; refine xT ?_ ?_ <;> (intro h hp k; (try subst k); (try simp only [q_n] at hp); try first | omega | (cases hp; done));
      refine vN ?_; apply yZ; rfl; (rfl); rfl; rfl; (apply zK <;> rfl); refine wL ?_; refine yNo ?_; intro _ _; refine xF ?_; refine zX (yN ?_ ?_) <;> (intro h hp k; (try subst k); (try simp only [q_n] at hp); try first | omega | (cases hp; done));
      refine yQ ?_; refine zY (zZ ?_); refine yA ?_; refine yR ?_; refine zX (zV ?_); simp only [yX]; rotate_left; (iterate 5 refine yC ?_); refine yB ?_; refine zX (yH rfl (by rfl) ?_); refine yQ ?_; refine zY (zZ ?_); refine yA ?_; refine yR ?_; refine zX (zV ?_); simp only [yX]; rotate_left
      all_goals ((repeat (rename BV _ _ => k; first | cases k | clear k)); try exact zN)
      all_goals
       refine xX (σ3 := .row w 160 4 (l.map vtC) :: rfE b B e true :: σ) ?_
       refine vV .here (.agg (.same (.same (.same (.here .nil)))) .nil) ?_
       exact zJ ⟨_, .inr ⟨by rw [hI4]; rfl, .mk 3 0 [] l, e, hI3, by rw [vJ]; rfl, rfl⟩, rfl⟩
    ·rw [if_neg (by rw [List.length_drop]; exact hu)]
     have hgt : decide (((u : Nat) : Int) > ((B.length - a' : Nat) : Int)) = true := decide_eq_true (by omega)
     clear ihd
     refine zP ?_; refine zX (zY ?_); refine zY (wN rfl rfl (by kernel_rfl) rfl ?_); refine yU rfl (by kernel_rfl) rfl ?_; refine xU ?_; apply yY; rfl; rfl; rfl; (intro σ' hl; (apply zK <;> rfl)); refine vR ?_; refine vW ?_; refine xU ?_; (iterate 2 refine uV ?_); apply xS; rfl; (rfl); rfl; rfl; (intro σ' hl; (apply zK <;> rfl)); refine tX ?_; refine uU ?_; apply xS; rfl; (rfl); rfl; rfl; (intro σ' hl; (apply xH; rfl; rfl; (exact (List.length_map _).symm))); refine uV ?_; apply xS; rfl; (rfl); rfl; rfl; (intro σ' hl; (apply zK <;> rfl)); refine tX ?_; refine uU ?_; refine vSu ?_; apply xS; rfl; (rfl); rfl; rfl; (intro σ' hl; (exact vA rfl rfl rfl hcv)); refine tE ?_; intro _ _; refine qW ?_; refine xU ?_; refine uW ?_ ?_ <;> (intro h hp k; (try subst k); (try simp only [q_n] at hp); try first | omega | (cases hp; done));
     (iterate 2 refine vF ?_); refine tZ ?_; refine zC ?_; show EX _ _ _ _ _; refine zG rfl (by rfl) ?_; refine zY (zZ ?_); refine zR ?_; apply zU; rfl; rfl; rfl; (apply zK <;> rfl); refine uZ ?_; refine yR ?_; refine zX (zY (zZ ?_)); refine uA ?_; refine yR ?_; refine zX (zV ?_); simp only [yX]; rotate_left
     all_goals ((repeat (rename BV _ _ => k; first | cases k | clear k)); try exact zN)
     all_goals
      refine xX (σ3 := rfE b B a' true :: σ) ?_
      refine wJ (sz := 4) (.agg (.same (.same (.same (.here .nil)))) .nil) ?_
      exact zJ ⟨_, .inr ⟨trivial, .mk 0 0 [] [], a', hal, by rw [pY]; rfl, rfl⟩, rfl⟩
   ·rw [hn]
    have hnone : (if d = 0 then none else some (tF (d - 1))).bind (fun f => (none : Option (Nat × List Nat)).bind fun p => if p.1 ≤ p.2.length then (qZ f p.1 p.2).map fun q => (Vt.mk 3 0 [] q.1, q.2) else none) = none := by split <;> rfl
    rw [hnone]
    clear hnx hnum hn hnone ih
    refine zP ?_; refine zX (zY ?_); refine zY (wN rfl rfl (by kernel_rfl) rfl ?_); refine yU rfl (by kernel_rfl) rfl ?_; refine xU ?_; apply yY; rfl; rfl; rfl; (intro σ' hl; (apply zK <;> rfl)); refine vR ?_; refine vW ?_; refine xU ?_; (iterate 13 refine vF ?_); refine tZ ?_; refine xU ?_; (iterate 2 refine vF ?_); refine tZ ?_; refine zC ?_; show EX _ _ _ _ _; refine zG rfl (by rfl) ?_; refine zY (zZ ?_); refine zR ?_; apply zU; rfl; rfl; rfl; (apply zK <;> rfl); refine uZ ?_; refine yR ?_; refine zX (zY (zZ ?_)); refine uA ?_; refine yR ?_; refine zX (zV ?_); simp only [yX]; rotate_left
    all_goals ((repeat (rename BV _ _ => k; first | cases k | clear k)); try exact zN)
    all_goals
     refine xX (σ3 := rfE b B a' true :: σ) ?_
     refine wJ (sz := 4) (.agg (.same (.same (.same (.here .nil)))) .nil) ?_
     exact zJ ⟨_, .inr ⟨trivial, .mk 0 0 [] [], a', hal, by rw [pY]; rfl, rfl⟩, rfl⟩
  ·rw [if_neg h1, if_neg h2, if_neg h3]
   clear ih
   refine zY (zZ ?_); refine xK ?_; intro _; refine zX (zY (zY (zZ ?_))); refine zR ?_; apply zU; rfl; rfl; rfl; (refine yJ ?_; exact hnx (by (exact Upd.there (Upd.here)))); refine zX (zT ?_); refine zY (zZ ?_); refine xY ?_; intro _ _; refine zP ?_; refine zX (yN ?_ ?_) <;> (intro h hp k; (try subst k); (try simp only [q_n] at hp); try first | omega | (cases hp; done));
   refine zY (zZ ?_); refine xY ?_; intro _ _; refine zP ?_; refine zX (yN ?_ ?_) <;> (intro h hp k; (try subst k); (try simp only [q_n] at hp); try first | omega | (cases hp; done));
   refine zY (zZ ?_); refine xY ?_; intro _ _; refine zP ?_; refine zX (yN ?_ ?_) <;> (intro h hp k; (try subst k); (try simp only [q_n] at hp); try first | omega | (cases hp; done));
   refine zW (zY (zZ ?_)); refine zR ?_; apply zU; rfl; rfl; rfl; (apply zK <;> rfl); refine uZ ?_; refine yR ?_; refine zX (zY (zZ ?_)); refine uA ?_; refine yR ?_; refine zX (zV ?_); simp only [yX]; rotate_left
   all_goals ((repeat (rename BV _ _ => k; first | cases k | clear k)); try exact zN)
   refine xX (σ3 := rfE b B (a + 1) true :: σ) ?_
   refine wJ (sz := 4) (.agg (.same (.same (.same (.here .nil)))) .nil) ?_
   exact zJ ⟨_, .inr ⟨trivial, .mk 0 0 [] [], a + 1, hlt, by rw [pY]; rfl, rfl⟩, rfl⟩
 ·have he : a = B.length := by omega
  subst he
  rw [List.drop_length, valO]
  have hnx := fun {σ σ' : List Ent} (h : Upd σ (rfE b B B.length false) (rfE b B B.length true) σ') => scall_updI (next_out b B.length B (Nat.le_refl _)) h
  clear ih
  refine zY (zZ ?_); refine xK ?_; intro _; refine zX (zY (zY (zZ ?_))); refine zR ?_; apply zU; rfl; rfl; rfl; (refine yJ ?_; exact hnx (by (exact Upd.there (Upd.here)))); refine zX (zT ?_); refine zY (zZ ?_); refine xY ?_; intro _ _; refine zP ?_; refine zX (yN ?_ ?_) <;> (intro h hp k; (try subst k); (try simp only [q_n] at hp); try first | omega | (cases hp; done));
  refine zY (zZ ?_); refine xY ?_; intro _ _; refine zP ?_; refine zX (yN ?_ ?_) <;> (intro h hp k; (try subst k); (try simp only [q_n] at hp); try first | omega | (cases hp; done));
  refine zY (zZ ?_); refine xY ?_; intro _ _; refine zP ?_; refine zX (yN ?_ ?_) <;> (intro h hp k; (try subst k); (try simp only [q_n] at hp); try first | omega | (cases hp; done));
  refine zW (zY (zZ ?_)); refine zR ?_; apply zU; rfl; rfl; rfl; (apply zK <;> rfl); refine uZ ?_; refine yR ?_; refine zX (zY (zZ ?_)); refine uA ?_; refine yR ?_; refine zX (zV ?_); simp only [yX]; rotate_left
  all_goals ((repeat (rename BV _ _ => k; first | cases k | clear k)); try exact zN)
  refine xX (σ3 := rfE b B B.length true :: σ) ?_
  refine wJ (sz := 4) (.agg (.same (.same (.same (.here .nil)))) .nil) ?_
  exact zJ ⟨_, .inr ⟨trivial, .mk 0 0 [] [], _, Nat.le_refl _, by rw [pY]; rfl, rfl⟩, rfl⟩
theorem value_all : ∀ d : Nat, d ≤ 16 → ValR d
 | 0, h => value_r 0 h (fun _ e => by cases e)
 | d + 1, h => value_r (d + 1) h (fun d' e => by
   have e2 : d = d' := by omega
   subst e2
   exact value_all d (by omega))
theorem g_neqStr {ro : Option Nat} {P : Program} {dst : Option Tmp} {ty : TypeId} {pos : String} {after : Array Edge} {guard : Option (Nat × Bool)} {env : Env} {σ : List Ent} {x y : Operand} {t yt : TypeId} {a : ByteArray} (ht : P.underlying t = some .string) (hx : xP env x = some (.str a)) (hy : xP env y = some (.str a)) :
  GOp P ro ⟨dst, .binOp .neq t x y yt, ty, pos, after, guard⟩ env σ (Is (.bool false) σ) :=
 xZ _ (by intro c h; cases h) fun X M e w hg ho => by
  have h1 := ho x (by simp [Op.operands]) _ hx
  have h2 := ho y (by simp [Op.operands]) _ hy
  simp only [VRel] at h1 h2
  refine ⟨.bool false, by simp [VRel], ?_⟩
  simp [execOp, h1, h2, eqGuard, binOp, Sem.run_bind, Op.stringOp]
theorem rdecode_c (D : List Nat) (hB : ∀ x ∈ D, x < 256) (hD : D.length ≤ 1000) (σ : List Ent) : SCall Tryz.prog 132 [bys D] σ (Is (decR D) σ) := by
 refine zL Tryz.func132 rfl (by simp) ?_
 have hbad : decD D = none → decR D = .tup [.agg (vtC (.mk 0 0 [] [])), .int .i64 10] := fun h => by unfold decR; rw [h]
 have hv := fun (b : Nat) {σ : List Ent} {F : Ent → List Ent} (h : ∀ e', Upd σ (rfE b D 0 false) e' (F e')) => scall_atE (fun σ0 => value_all 16 (by omega) b 0 D (Nat.zero_le _) hB hD σ0) h
 rw [show (16 - ((16 : Nat) : Int)) = 0 from rfl] at hv
 unfold RvQ at hv
 rw [List.drop_zero] at hv
 refine zY (zZ ?_); refine xK ?_; intro _; refine zP ?_; refine zX (zY (zZ ?_)); refine zR ?_; refine uA ?_; refine xB ?_; intro _; refine zP ?_; refine zX (zY (zZ ?_)); refine zR ?_; simp only [zA, zF, zE, zH, yK, ↓reduceIte, Nat.reduceEqDiff]; rotate_left
 all_goals ((repeat (rename BV _ _ => k; first | cases k | clear k)); try exact zN)
 refine xL rfl rfl rfl (xJ rfl rfl (zB (by kernel_rfl)) (hv _ (fun e' => by exact (by (repeat first | exact Upd.here | apply Upd.there))))) ?_
 rintro _ _ ⟨_, (⟨t, a', hal, hvd, rfl, rfl⟩ | ⟨hvd, t, a', hal, rfl, rfl⟩), rfl⟩
 ·by_cases ha : a' = D.length
  ·subst ha
   rw [List.drop_length] at hvd
   have hdec : decD D = some t := by unfold decD; rw [hvd]
   obtain ⟨d1, d2, d3⟩ := decD_rd hdec hB hD
   have hck := fun σ => check_r t d2 d3 σ
   have hen := fun σ => encode_r 16 t d2 (by rw [d1]; omega) σ
   have hres : decR D = .tup [.agg (vtC t), .int .i64 0] := by unfold decR; rw [hdec]
   have hne : ((D.length : Int) != ((D.length : Nat) : Int)) = false := by simp
   rw [hres]
   rw [d1] at hen
   rw [vtC_is] at hck hen ⊢
   clear hv hbad hvd hdec d1 d2 d3 hres hB
   refine xK ?_; intro _; refine yR ?_; refine zX (zY (zY ?_)); rotate_left
   all_goals ((repeat (rename BV _ _ => k; first | cases k | clear k)); try exact zN)
   refine xN anyK 26 [] rfl (by kernel_rfl) rfl ?_
   simp only [wU]
   refine xU ?_; apply yY; rfl; rfl; rfl; (intro σ' hl; (apply zK <;> rfl)); refine vR ?_; refine vW ?_; refine xU ?_; refine uV ?_; apply xS; rfl; (rfl); rfl; rfl; (intro σ' hl; (apply zK <;> rfl)); refine tX ?_; refine uU ?_; refine uV ?_; apply xS; rfl; (rfl); rfl; rfl; (intro σ' hl; (apply xH; rfl; rfl; (exact (List.length_map _).symm))); refine tE ?_; intro _ _; refine qW ?_; refine xU ?_; refine uW ?_ ?_ <;> (intro h hp k; (try subst k); (try simp only [q_n] at hp); try first | omega | (cases hp; done));
   refine vLa ?_; apply xS; rfl; (rfl); rfl; rfl; (intro σ' hl; (refine yJ ?_; exact hck _)); refine tE ?_; intro _ _; refine qW ?_; refine xU ?_; refine uW ?_ ?_ <;> (intro h hp k; (try subst k); (try simp only [q_n] at hp); try first | omega | (cases hp; done));
   refine vLa ?_; apply xS; rfl; (rfl); rfl; rfl; (intro σ' hl; (refine yJ ?_; exact hen _)); apply xS; rfl; (rfl); rfl; rfl; (intro σ' hl; (exact g_bytesStr rfl rfl rfl rfl)); refine uV ?_; apply xS; rfl; (rfl); rfl; rfl; (intro σ' hl; (exact g_bytesStr rfl rfl rfl rfl)); apply xS; rfl; (rfl); rfl; rfl; (intro σ' hl; (exact g_neqStr rfl rfl rfl)); refine qW ?_; refine zC (zX (yH rfl (by rfl) ?_)); refine zW (zY (zZ ?_)); refine yA ?_; refine yR ?_; refine zP ?_; refine zX (zV ?_); simp only [yX]; rotate_left
   all_goals ((repeat (rename BV _ _ => k; first | cases k | clear k)); try exact zN)
   refine xX (σ3 := σ) ?_
   exact zJ .mk
  ·have hdn : D.drop a' ≠ [] := fun h => ha (by have := congrArg List.length h; rw [List.length_drop, List.length_nil] at this; omega)
   rw [hbad (by unfold decD; rw [hvd]; cases hz : D.drop a' with | nil => exact absurd hz hdn | cons x r => rfl), pY]
   have hne : (((a' : Nat) : Int) != (D.length : Int)) = true := by rw [bne_iff_ne]; omega
   rw [vtC_is]
   clear hv hbad hvd hdn
   refine xK ?_; intro _; refine yR ?_; refine zX (zY (zY ?_)); rotate_left
   all_goals ((repeat (rename BV _ _ => k; first | cases k | clear k)); try exact zN)
   refine xN anyK 26 [] rfl (by kernel_rfl) rfl ?_
   simp only [wU]
   refine xU ?_; apply yY; rfl; rfl; rfl; (intro σ' hl; (apply zK <;> rfl)); refine vR ?_; refine vW ?_; refine xU ?_; refine uV ?_; apply xS; rfl; (rfl); rfl; rfl; (intro σ' hl; (apply zK <;> rfl)); refine tX ?_; refine uU ?_; refine uV ?_; apply xS; rfl; (rfl); rfl; rfl; (intro σ' hl; (apply xH; rfl; rfl; (exact (List.length_map _).symm))); refine tE ?_; intro _ _; refine qW ?_; refine xU ?_; refine uW ?_ ?_ <;> (intro h hp k; (try subst k); (try simp only [q_n] at hp); try first | omega | (cases hp; done));
   (iterate 3 refine vF ?_); refine tZ ?_; refine xU ?_; (iterate 6 refine vF ?_); refine tZ ?_; refine zC (zX (zG rfl (by rfl) ?_)); refine zY (zZ ?_); refine uA ?_; refine yR ?_; refine zP ?_; refine zX (zV ?_); simp only [yX]; rotate_left
   all_goals ((repeat (rename BV _ _ => k; first | cases k | clear k)); try exact zN)
   refine xX (σ3 := σ) ?_
   refine wJ (sz := 4) (.tup (.agg (.same (.same (.same (.here .nil)))) (.same .nil)) .nil) ?_
   exact zJ .mk
 ·rw [hbad (by unfold decD; rw [hvd]), pY, vtC_is]
  clear hv hbad hvd
  refine xK ?_; intro _; refine yR ?_; refine zX (zY (zY ?_)); rotate_left
  all_goals ((repeat (rename BV _ _ => k; first | cases k | clear k)); try exact zN)
  refine xN anyK 26 [] rfl (by kernel_rfl) rfl ?_
  simp only [wU]
  refine xU ?_; apply yY; rfl; rfl; rfl; (intro σ' hl; (apply zK <;> rfl)); refine vR ?_; refine vW ?_; refine xU ?_; (iterate 7 refine vF ?_); refine tZ ?_; refine xU ?_; (iterate 3 refine vF ?_); refine tZ ?_; refine xU ?_; (iterate 6 refine vF ?_); refine tZ ?_; refine zC (zX (zG rfl (by rfl) ?_)); refine zY (zZ ?_); refine uA ?_; refine yR ?_; refine zP ?_; refine zX (zV ?_); simp only [yX]; rotate_left
  all_goals ((repeat (rename BV _ _ => k; first | cases k | clear k)); try exact zN)
  refine xX (σ3 := σ) ?_
  refine wJ (sz := 4) (.tup (.agg (.same (.same (.same (.here .nil)))) (.same .nil)) .nil) ?_
  exact zJ .mk
abbrev icl (n : Int) : List AV := [.int .i64 n]
def rdR (D : List Nat) : AV := match pX D with
 | some s => .tup [slV s, .bool true]
 | none => .tup [slV ⟨0, 0, 0, 0, 0, 0, 0, 0⟩, .bool false]
theorem rread_c (D : List Nat) (hB : ∀ x ∈ D, x < 256) (hD : D.length ≤ 1000) (σ : List Ent) : SCall Tryz.prog 89 [bys D] σ (Is (rdR D) σ) := by
 refine zL Tryz.func89 rfl (by simp) ?_
 have hd := fun σ => rdecode_c D hB hD σ
 unfold decR at hd
 clear hB hD
 have hbad : pX D = none → rdR D = .tup [slV ⟨0, 0, 0, 0, 0, 0, 0, 0⟩, .bool false] := fun h => by unfold rdR; rw [h]
 cases hdec : decD D with
 | none =>
  rw [hdec] at hd
  rw [hbad (slipD_bad hdec)]
  simp only [vJ] at hd
  clear hbad hdec
  refine zY (zZ ?_); refine xK ?_; intro _; refine zP ?_; refine zX (zY (zZ ?_)); refine zR ?_; apply zU; rfl; rfl; rfl; (refine yJ ?_; exact hd _); refine zR ?_; (iterate 2 refine tG ?_); refine xK ?_; intro _; refine yR ?_; refine zP ?_; refine zX (zY (zY (zZ ?_))); refine zR ?_; refine xY ?_; intro _ _; refine zR ?_; refine xT ?_ ?_ <;> (intro h hp k; (try subst k); (try simp only [q_n] at hp); try first | omega | (cases hp; done));
  (iterate 3 refine yC ?_); refine xF ?_; refine zR ?_; (iterate 4 refine yC ?_); refine xF ?_; refine zX (zG rfl (by rfl) ?_); refine zY (zZ ?_); refine uA ?_; refine yR ?_; refine zP ?_; refine zX (zV ?_); simp only [yX]; rotate_left
  all_goals ((repeat (rename BV _ _ => k; first | cases k | clear k)); try exact zN)
  refine xX (σ3 := σ) ?_
  exact zJ .mk
 | some t =>
  obtain ⟨k, n, s, l⟩ := t
  rw [hdec] at hd
  simp only [vJ] at hd
  by_cases hk : k = 3 ∧ l.length = 8
  ·obtain ⟨rfl, hl⟩ := hk
   have hkB : ((3 : Int) != 3) = false := rfl
   have hlB : (((l.map vtC).length : Int) != 8) = false := by rw [List.length_map, hl]; rfl
   refine zY (zZ ?_); refine xK ?_; intro _; refine zP ?_; refine zX (zY (zZ ?_)); refine zR ?_; apply zU; rfl; rfl; rfl; (refine yJ ?_; exact hd _); refine zR ?_; (iterate 2 refine tG ?_); refine xK ?_; intro _; refine yR ?_; refine zP ?_; refine zX (zY (zY (zZ ?_))); refine zR ?_; refine xY ?_; intro _ _; refine zR ?_; refine xT ?_ ?_ <;> (intro h hp k; (try subst k); (try simp only [q_n] at hp); try first | omega | (cases hp; done));
   refine wL ?_; refine wT ?_; intro _ _; refine yB ?_; refine zR ?_; refine xT ?_ ?_ <;> (intro h hp k; (try subst k); (try simp only [q_n] at hp); try first | omega | (cases hp; done));
   refine wL ?_; apply yZ; rfl; (rfl); rfl; rfl; (apply xH; rfl; rfl; (exact (List.length_map _).symm)); refine wT ?_; intro _ _; refine yB ?_; refine zX (yN ?_ ?_) <;> (intro h hp k; (try subst k); (try simp only [q_n] at hp); try first | omega | (cases hp; done));
   refine zW (zY (zZ ?_)); refine zP ?_; refine zX (zY (zY (zZ ?_))); refine zP ?_; refine zX (zT ?_); rotate_left
   all_goals ((repeat (rename BV _ _ => k; first | cases k | clear k)); try exact zN)
   rename Nat => b4; revert b4; rename Nat => b2; revert b2
   intro b2 b4
   clear hd
   refine qR 3 1 ?_
   refine yD (fun (z : Nat × List Int × Value) => (⟨[(2, .ptr b2 0), (4, .ptr b4 0), (6, .slv z.2.2), (7, .int .i64 z.1)], .row z.2.2 3 1 (z.2.1.map icl) :: .cells b4 [.int .i64 3, .int .i64 n, .str (pZ s), .dl 4 (l.map vtC)] 160 :: .cells b2 [.int .i64 0, .int .i64 0, .int .i64 0, .int .i64 0, .int .i64 0, .int .i64 0, .int .i64 0, .int .i64 0] 43 :: σ, [], Tryz.f89.ntmps⟩ : St)) (fun z => z.1 ≤ 8 ∧ z.2.1 = (l.take z.1).map Vt.num ∧ ∀ x ∈ l.take z.1, x.kind = 1) (fun z => 8 - z.1) (0, [], nilS) (⟨Nat.zero_le _, rfl, fun x hx => by simp at hx⟩) (St.le_of (by repeat (first | exact trivial | refine ⟨rfl, ?_⟩)) (by repeat (first | exact q_r | apply q_q | apply q_k))) ?_
   intro z hI
   obtain ⟨i, C, w⟩ := z
   obtain ⟨hI1, hI3, hI4⟩ := hI
   dsimp only at hI1 hI3 hI4 ⊢
   by_cases hi : i < 8
   ·obtain ⟨x, hx⟩ : ∃ x, l[i]? = some x := yW (by omega)
    have hg := vt_get hx
    by_cases hx1 : x.kind = 1
    ·have hCl : C.length ≤ 8 := by rw [hI3, List.length_map, List.length_take]; omega
     have hnext : C ++ [x.num] = (l.take (i + 1)).map Vt.num := by rw [List.take_add_one, hx, List.map_append, hI3]; rfl
     have hall : ∀ y ∈ l.take (i + 1), y.kind = 1 := fun y hy => by
      rw [List.take_add_one, hx] at hy
      rcases List.mem_append.1 hy with hy | hy
      ·exact hI4 y hy
      ·simp at hy; subst hy; exact hx1
     rw [hx1] at hg
     clear hI3 hI4 hdec hbad
     refine zY (zY (zZ ?_)); refine zR ?_; refine zD ?_ ?_ <;> (intro h hp; (try simp only [q_n] at hp); try first | omega | (cases hp; done));
     refine zW (zY (zT ?_)); refine zY (zY (zZ ?_)); refine yG ?_; refine zR ?_; refine vG ?_; refine yG ?_; refine zD ?_ ?_ <;> (intro h hp; (try simp only [q_n] at hp); try first | omega | (cases hp; done));
     refine zW (zZ (zR ?_)); refine yG ?_; refine zR ?_; refine vG ?_; refine yG ?_; refine qS rfl rfl rfl (by exact yV rfl rfl (by decide) rfl rfl (by (simp only [xC, wU]; rfl))) ?_; intro _; apply tQ; rfl; rfl; rfl; (apply xG; rfl; rfl; rfl; (intro v'; (exact Upd.there (Upd.here))); (exact .r (by repeat first | exact q_h | apply q_t | assumption)); (intro y hy; simp only [tC] at hy; (focus (obtain ⟨_, _, rfl⟩ := hy; rfl; done))); (refine wP ?_ (by kernel_rfl); (try simp only [List.length_append, List.length_map, List.length_cons, List.length_nil, List.length_take, List.length_drop]); omega)); intro _; refine zP ?_; refine zQ (zZ (zR ?_)); refine vX ?_; refine zP ?_; refine zQ ?_; simp only [zA, zF, zE, zH, yK, ↓reduceIte, Nat.reduceEqDiff]; rotate_left
     all_goals ((repeat (rename BV _ _ => k; first | cases k | clear k)); try exact zN)
     rename Value => w2
     refine ⟨(i + 1, C ++ [x.num], w2), ⟨hi, hnext, hall⟩, by dsimp only; omega, ?_⟩
     dsimp only
     rw [List.map_append]
     exact wW
    ·rw [hbad (slipD_not hdec (fun h => hx1 (h.2.2 x (List.mem_of_getElem? hx))))]
     clear hI3 hI4 hdec hbad
     refine zY (zY (zZ ?_)); refine zR ?_; refine zD ?_ ?_ <;> (intro h hp; (try simp only [q_n] at hp); try first | omega | (cases hp; done));
     refine zW (zY (zT ?_)); refine zY (zY (zZ ?_)); refine yG ?_; refine zR ?_; refine vG ?_; refine yG ?_; refine zD ?_ ?_ <;> (intro h hp; (try simp only [q_n] at hp); try first | omega | (cases hp; done));
     refine zY (zZ ?_); refine uA ?_; refine yR ?_; refine zP ?_; refine zX (zV ?_); simp only [yX]; rotate_left
     all_goals ((repeat (rename BV _ _ => k; first | cases k | clear k)); try exact zN)
     refine xX (σ3 := σ) ?_
     exact zJ .mk
   ·have e : i = 8 := by omega
    subst e
    rw [List.take_of_length_le (by omega)] at hI3 hI4
    have his := slipD_is hdec rfl hl hI4
    have hres : rdR D = .tup [slV (ofL C), .bool true] := by unfold rdR; rw [his, hI3]; rfl
    have hC8 : C.length = 8 := by rw [hI3, List.length_map, hl]
    rw [hres]
    clear hI3 hI4 hdec hbad his hres
    match C, hC8 with
    | [c0, c1, c2, c3, c4, c5, c6, c7], _ =>
     refine zY (zY (zZ ?_)); refine zR ?_; refine zD ?_ ?_ <;> (intro h hp; (try simp only [q_n] at hp); try first | omega | (cases hp; done));
     refine yQ ?_; refine zY ?_; rotate_left
     all_goals ((repeat (rename BV _ _ => k; first | cases k | clear k)); try exact zN)
     refine xN anyK 25 [] rfl (by kernel_rfl) rfl ?_
     simp only [wU]
     refine xU ?_; apply yY; rfl; rfl; rfl; (intro σ' hl; (apply yF; rfl; rfl; exact hl _ (by (exact True.intro)) (by repeat first | exact q_h | apply q_t | assumption); rfl; (rfl); (simp only [List.length_map, List.length_set]; omega))); refine vW ?_; refine xU ?_; apply yY; rfl; rfl; rfl; (intro σ' hl; (apply yF; rfl; rfl; exact hl _ (by (exact True.intro)) (by repeat first | exact q_h | apply q_t | assumption); rfl; (rfl); (simp only [List.length_map, List.length_set]; omega))); refine vW ?_; refine xU ?_; apply yY; rfl; rfl; rfl; (intro σ' hl; (apply yF; rfl; rfl; exact hl _ (by (exact True.intro)) (by repeat first | exact q_h | apply q_t | assumption); rfl; (rfl); (simp only [List.length_map, List.length_set]; omega))); refine vW ?_; refine xU ?_; apply yY; rfl; rfl; rfl; (intro σ' hl; (apply yF; rfl; rfl; exact hl _ (by (exact True.intro)) (by repeat first | exact q_h | apply q_t | assumption); rfl; (rfl); (simp only [List.length_map, List.length_set]; omega))); refine vW ?_; refine xU ?_; apply yY; rfl; rfl; rfl; (intro σ' hl; (apply yF; rfl; rfl; exact hl _ (by (exact True.intro)) (by repeat first | exact q_h | apply q_t | assumption); rfl; (rfl); (simp only [List.length_map, List.length_set]; omega))); refine vW ?_; refine xU ?_; apply yY; rfl; rfl; rfl; (intro σ' hl; (apply yF; rfl; rfl; exact hl _ (by (exact True.intro)) (by repeat first | exact q_h | apply q_t | assumption); rfl; (rfl); (simp only [List.length_map, List.length_set]; omega))); refine vW ?_; refine xU ?_; apply yY; rfl; rfl; rfl; (intro σ' hl; (apply yF; rfl; rfl; exact hl _ (by (exact True.intro)) (by repeat first | exact q_h | apply q_t | assumption); rfl; (rfl); (simp only [List.length_map, List.length_set]; omega))); refine vW ?_; refine xU ?_; apply yY; rfl; rfl; rfl; (intro σ' hl; (apply yF; rfl; rfl; exact hl _ (by (exact True.intro)) (by repeat first | exact q_h | apply q_t | assumption); rfl; (rfl); (assumption))); refine vW ?_; apply yY; rfl; rfl; rfl; (intro σ' hl; (apply tK <;> rfl)); refine zC (yR ?_); refine zP ?_; refine zX (zV ?_); simp only [yX]; rotate_left
     all_goals ((repeat (rename BV _ _ => k; first | cases k | clear k)); try exact zN)
     refine xX (σ3 := σ) ?_
     exact zJ .mk
  ·rw [hbad (slipD_not hdec (fun h => hk ⟨h.1, h.2.1⟩))]
   clear hbad hdec
   refine zY (zZ ?_); refine xK ?_; intro _; refine zP ?_; refine zX (zY (zZ ?_)); refine zR ?_; apply zU; rfl; rfl; rfl; (refine yJ ?_; exact hd _); refine zR ?_; (iterate 2 refine tG ?_); refine xK ?_; intro _; refine yR ?_; refine zP ?_; refine zX (zY (zY (zZ ?_))); refine zR ?_; refine xY ?_; intro _ _; refine zR ?_; refine xT ?_ ?_ <;> (intro h hp k; (try subst k); (try simp only [q_n] at hp); try first | omega | (cases hp; done));
   refine wL ?_; refine wT ?_; intro _ _; refine yB ?_; refine zR ?_; refine xT ?_ ?_ <;> (intro h hp k; (try subst k); (try simp only [q_n] at hp); try first | omega | (cases hp; done));
   (iterate 4 refine yC ?_); refine xF ?_; refine zX (zG rfl (by rfl) ?_); refine zY (zZ ?_); refine uA ?_; refine yR ?_; refine zP ?_; refine zX (zV ?_); simp only [yX]; rotate_left; refine wL ?_; apply yZ; rfl; (rfl); rfl; rfl; (apply xH; rfl; rfl; (exact (List.length_map _).symm)); refine wT ?_; intro _ _; refine yB ?_; refine zX (yN ?_ ?_) <;> (intro h hp k; (try subst k); (try simp only [q_n] at hp); try first | omega | (cases hp; done));
   refine zY (zZ ?_); refine uA ?_; refine yR ?_; refine zP ?_; refine zX (zV ?_); simp only [yX]; rotate_left
   all_goals ((repeat (rename BV _ _ => k; first | cases k | clear k)); try exact zN)
   all_goals
    refine xX (σ3 := σ) ?_
    exact zJ .mk
theorem rencode_c (t : Vt) (hw : VtOk 16 t) (hd : vtD t ≤ 16) (hl : (vtB t).length ≤ 100000) (σ : List Ent) : SCall Tryz.prog 133 [.agg (vtC t)] σ (Is (.tup [bys (vtB t), .int .i64 0]) σ) := by
 refine zL Tryz.func133 rfl (by simp) ?_
 have hck := fun σ => check_r t hw hd σ
 have hen := fun σ => encode_r 16 t hw hl σ
 rw [vtC_is] at hck hen ⊢
 generalize vtB t = X at hen ⊢
 refine zY (zZ ?_); refine xB ?_; intro _; (iterate 2 refine zP ?_); refine zX (zY (zZ ?_)); refine yA ?_; apply zU; rfl; rfl; rfl; (refine yJ ?_; exact hck _); refine zP ?_; refine zX (zY (zY (zZ ?_))); refine zR ?_; refine zD ?_ ?_ <;> (intro h hp; (try simp only [q_n] at hp); try first | omega | (cases hp; done));
 refine zW (zY (zZ ?_)); refine yA ?_; apply zU; rfl; rfl; rfl; (refine yJ ?_; exact hen _); (iterate 2 refine zP ?_); refine zX (zV ?_); simp only [yX]; rotate_left
 all_goals ((repeat (rename BV _ _ => k; first | cases k | clear k)); try exact zN)
 refine xW ?_
 rfl
abbrev msgT (s : Sl) : Vt := .mk 3 0 [] ((wZ s).map fun n => .mk 1 n [] [])
theorem vtBs_ints : ∀ {l : List Int}, (∀ n ∈ l, 0 ≤ n) → vtBs (l.map fun n => .mk 1 n [] []) = l.flatMap vH
 | [], _ => rfl
 | n :: l, h => by
  have hn := h n (by simp)
  rw [List.map_cons, vtBs, vtBs_ints fun m hm => h m (by simp [hm]), List.flatMap_cons]
  congr 1
  rw [vtB, if_pos rfl]
  unfold vH usg
  rw [if_pos hn]
theorem msgT_enc {s : Sl} (h : Sendable s) : vtB (msgT s) = msgS s := by
 rw [msgT, vtB, if_neg (by decide), if_neg (by decide), vtBs_ints fun n hn => (h.nats n hn).1]
 rw [List.length_map, show (wZ s).length = 8 from rfl, qT (by decide)]
 rfl
theorem vtDs_ints : ∀ (l : List Int), vtDs (l.map fun n => .mk 1 n [] []) = 0
 | [] => rfl
 | n :: l => by rw [List.map_cons, vtDs, vtDs_ints l, vtD, if_neg (by decide)]; rfl
theorem msgT_ok {s : Sl} (h : Sendable s) : VtOk 16 (msgT s) ∧ vtD (msgT s) ≤ 16 := by
 constructor
 ·rw [msgT, VtOk]
  refine .inr (.inr ⟨rfl, rfl, rfl, by rw [List.length_map]; exact (by decide : (8 : Nat) ≤ 1000), by decide, vtsOk_of fun t ht => ?_⟩)
  obtain ⟨n, hn, rfl⟩ := List.mem_map.1 ht
  have := h.nats n hn
  rw [VtOk]
  exact .inl ⟨rfl, rfl, rfl, by omega, by omega⟩
 ·rw [msgT, vtD, if_pos rfl, vtDs_ints]; decide
/-- A list of integers whose own lists are nil. -/
theorem ints_view {M : Mem} {ns : List Int} {u : Value} (h : VRel M (.dl 4 (ns.map itC)) u) : VRel M (.dl 4 ((ns.map fun n => Vt.mk 1 n [] []).map vtC)) u := by
 refine h.dl_view (by simp) (fun x hx => by obtain ⟨y, hy, rfl⟩ := List.mem_map.1 hx; obtain ⟨n, _, rfl⟩ := List.mem_map.1 hy; rw [vJ]; rfl) (fun k x x' b i hx hx' hc => ?_)
 rw [List.getElem?_map] at hx
 rw [List.map_map, List.getElem?_map] at hx'
 cases hn : ns[k]? with
 | none => rw [hn] at hx; cases hx
 | some n =>
  rw [hn] at hx hx'
  cases hx
  cases hx'
  show CRel M b i (vtC (.mk 1 n [] []))
  rw [vJ]
  exact hc.view fun vs hvs => (Cv.same (.same (.same (.here .nil))) : Cv nilS (.dl 4 []) (itC n) [.int .i64 1, .int .i64 n, .str (pZ []), .dl 4 []]).rel (nil_rel M 4) hvs
theorem rmessage_c (s : Sl) (hs : Sendable s) (σ : List Ent) : SCall Tryz.prog 94 [slV s] σ (Is (bys (msgS s)) σ) := by
 refine zL Tryz.func94 rfl (by simp) ?_
 have hen : ∀ σ, SCall Tryz.prog 133 [.agg (lvC (wZ s))] σ (Is (.tup [bys (msgS s), .int .i64 0]) σ) := fun σ => by
  have h0 := rencode_c (msgT s) (msgT_ok hs).1 (msgT_ok hs).2 (by rw [msgT_enc hs]; have := msg_len hs; omega) σ
  rw [msgT_enc hs] at h0
  refine scall_view (fun M vs hv => ?_) h0
  simp only [VRels] at hv ⊢
  obtain ⟨v, r, rfl, h1, h2⟩ := hv
  refine ⟨v, r, rfl, ?_, h2⟩
  rw [msgT, vJ]
  simp only [VRel, VRels] at h1 ⊢
  obtain ⟨ws, rfl, a, q, e1, ha, b, q2, e2, hb, c, q3, e3, hc, d, q4, e4, hd, e5⟩ := h1
  exact ⟨ws, rfl, a, q, e1, ha, b, q2, e2, hb, c, q3, e3, hc, d, q4, e4, by simpa only [VRel] using ints_view (by simpa only [VRel] using hd), e5⟩
 have hfl : (wZ s).length = 8 := rfl
 clear hs
 refine zY (zZ ?_); refine xB ?_; intro _; refine zP ?_; refine zX (zY (zZ ?_)); (iterate 8 refine yG ?_); apply zU; rfl; rfl; rfl; (exact xE (yV rfl rfl (by decide) rfl rfl (by (simp only [xC, wU]; rfl)))); refine zP ?_; refine zX (zY (zZ ?_)); refine uA ?_; refine xK ?_; intro _; refine yR ?_; refine zX (zY (zY (zZ ?_))); refine zP ?_; refine zX (zT ?_); simp only [zA, zF, zE, zH, yK, ↓reduceIte, Nat.reduceEqDiff]; rotate_left
 all_goals ((repeat (rename BV _ _ => k; first | cases k | clear k)); try exact zN)
 rename Nat => b4; revert b4; rename Nat => b1; revert b1
 intro b1 b4
 refine qR 160 4 ?_
 refine yD (fun (z : Nat × Value) => (⟨[(3, .dl 1 ((wZ s).map icl)), (4, .ptr b4 0), (5, .int .i64 z.1)], .row z.2 160 4 (((wZ s).take z.1).map itC) :: .cells b4 [.int .i64 3, .int .i64 0, noStr, .slv z.2] 160 :: σ, [], Tryz.f94.ntmps⟩ : St)) (fun z => z.1 ≤ 8) (fun z => 8 - z.1) (0, nilS) (Nat.zero_le _) (St.le_of (by repeat (first | exact trivial | refine ⟨rfl, ?_⟩)) (by repeat (first | exact q_r | apply q_q | apply q_k))) ?_
 intro z hI
 obtain ⟨k, w⟩ := z
 dsimp only at hI ⊢
 obtain ⟨F, hF⟩ : ∃ F, wZ s = F := ⟨_, rfl⟩
 rw [hF] at hfl ⊢
 have hFm : (F.map icl).length = 8 := by rw [List.length_map]; exact hfl
 by_cases hk : k < 8
 ·obtain ⟨n, hn⟩ : ∃ n, F[k]? = some n := yW (by omega)
  have hg1 : (F.map icl)[k]? = some (icl n) := by rw [List.getElem?_map, hn]; rfl
  have hst : (F.take (k + 1)).map itC = (F.take k).map itC ++ [itC n] := by rw [List.take_add_one, hn, List.map_append]; rfl
  have htl : ((F.take k).map itC).length ≤ 8 := by rw [List.length_map, List.length_take]; omega
  clear hen hn hF
  generalize (F.take k).map itC = T at hst htl ⊢
  refine zY (zY (zZ ?_)); (iterate 2 refine zR ?_); refine wH ?_; refine zD ?_ ?_ <;> (intro h hp; (try simp only [q_n] at hp); try first | omega | (cases hp; done));
  refine zW (zY (zT ?_)); rotate_left
  all_goals ((repeat (rename BV _ _ => k; first | cases k | clear k)); try exact zN)
  refine xN cellsK 9 [8] rfl (by kernel_rfl) rfl ?_
  simp only [wU]
  refine vR ?_; refine vW ?_; (iterate 2 refine xU ?_); refine wIx ?_; refine vW ?_; apply yY; rfl; rfl; rfl; (intro σ' hl; (apply tK <;> rfl)); apply yY; rfl; rfl; rfl; (intro σ' hl; (exact xE (yV rfl rfl (by decide) rfl rfl (by (simp only [xC, wU]; rfl))))); refine wE rfl rfl rfl (by apply xG; rfl; rfl; rfl; (intro v'; exact (by (exact Upd.here))); (exact .d); (intro y hy; simp only [tC] at hy; (focus (obtain ⟨_, _, rfl⟩ := hy; rfl; done))); (refine wP ?_ (by kernel_rfl); (try simp only [List.length_append, List.length_map, List.length_cons, List.length_nil, List.length_take, List.length_drop]); omega)) ?_; rintro _ _ ⟨v2⟩; refine ⟨upd_keepsK (fun h => h) (by (exact Upd.here)), ?_⟩; refine zC (uZ ?_); refine yR ?_; refine zQ (zZ (zR ?_)); refine vX ?_; refine zP ?_; refine zQ ?_; simp only [zA, zF, zE, zH, yK, ↓reduceIte, Nat.reduceEqDiff]; rotate_left
  all_goals ((repeat (rename BV _ _ => k; first | cases k | clear k)); try exact zN)
  refine ⟨(k + 1, v2), hk, by dsimp only; omega, ?_⟩
  dsimp only
  rw [hst]
  exact wW
 ·have e : k = 8 := by omega
  subst e
  rw [List.take_of_length_le (by omega)]
  rw [hF] at hen
  refine ex_shut (v := w) (env' := [(3, .dl 1 (F.map icl)), (4, .ptr b4 0), (5, .int .i64 ((8 : Nat) : Int))]) .here (.cells (.same (.same (.same (.here .nil)))) (ShutEnts.refl _)) (by repeat (first | exact .nil | refine .same rfl ?_)) ?_
  generalize msgS s = C at hen ⊢
  refine zY (zY (zZ ?_)); (iterate 2 refine zR ?_); refine wH ?_; refine zD ?_ ?_ <;> (intro h hp; (try simp only [q_n] at hp); try first | omega | (cases hp; done));
  refine yQ ?_; refine zY (zZ ?_); refine yA ?_; apply zU; rfl; rfl; rfl; (refine yJ ?_; exact hen _); refine zR ?_; (iterate 2 refine tG ?_); (iterate 2 refine zP ?_); refine zX (zY (zZ ?_)); refine zR ?_; refine zP ?_; refine zX (zV ?_); simp only [yX]; rotate_left
  all_goals ((repeat (rename BV _ _ => k; first | cases k | clear k)); try exact zN)
  refine xW ?_
  rfl
structure Pk where
 f : Int
 t : Int
 d : List Nat
abbrev Ap := Int × Int
structure OkP (p : Pk) : Prop where
 f0 : 0 ≤ p.f
 t0 : 0 ≤ p.t
 ne : p.f ≠ p.t
 f1 : p.f < 24
 t1 : p.t < 24
 d1 : p.d.length ≤ 1048576
def linkB (p : Ap) : Bool := decide (0 ≤ p.1 ∧ p.1 < p.2 ∧ p.2 < 24)
def okPB (p : Pk) : Bool := linkB (min p.f p.t, max p.f p.t) && decide (p.d.length ≤ 1048576)
theorem okPB_iff {p : Pk} : okPB p = true ↔ OkP p := by
 unfold okPB linkB
 simp only [Bool.and_eq_true, decide_eq_true_eq]
 constructor
 ·rintro ⟨h1, h2⟩
  exact ⟨by omega, by omega, by omega, by omega, by omega, h2⟩
 ·rintro ⟨h1, h2, h3, h4, h5, h6⟩
  exact ⟨by omega, h6⟩
def ltA (p q : Ap) : Bool := decide (p.1 < q.1 ∨ p.1 = q.1 ∧ p.2 < q.2)
structure OkA (A : List Ap) : Prop where
 link : ∀ p ∈ A, linkB p = true
 up : ∀ (i : Nat) (p q : Ap), A[i]? = some p → A[i + 1]? = some q → ltA p q = true
structure NetOk (L : List Pk) (A : List Ap) : Prop where
 few : L.length ≤ 4096
 pk : ∀ p ∈ L, OkP p
 ap : OkA A
theorem okA_nil : OkA [] := ⟨fun p h => (by cases h), fun i p q h => (by simp at h)⟩
def cutB (A : List Ap) (f t : Int) : Bool := A.contains (min f t, max f t)
def doSA (A : List Ap) (B : List (List Sl)) (Q : List Qk) (r : Ps) : Except Int (List (List Sl) × List Qk) :=
 match Q[r.i.toNat]? with
 | none => doS B Q r
 | some q => if r.k = 3 ∧ 0 ≤ r.i ∧ cutB A q.f q.t = true then .ok (B, Q.eraseIdx r.i.toNat) else doS B Q r
theorem doSA_nil (B : List (List Sl)) (Q : List Qk) (r : Ps) : doSA [] B Q r = doS B Q r := by
 unfold doSA
 cases Q[r.i.toNat]? with
 | none => rfl
 | some q => exact if_neg fun h => by have := h.2.2; simp [cutB] at this
theorem doSA_not {A : List Ap} {B : List (List Sl)} {Q : List Qk} {r : Ps} (h : r.k ≠ 3) : doSA A B Q r = doS B Q r := by
 unfold doSA
 cases Q[r.i.toNat]? with
 | none => rfl
 | some q => exact if_neg fun h1 => h h1.1
section
variable {P : Program} {ro : Option Nat} {env : Env} {σ σ' : List Ent} {dst : Option Tmp} {ty : TypeId} {pos : String} {after : Array Edge} {guard : Option (Nat × Bool)}
theorem g_sliceArrE {t : TypeId} {x : Operand} {n : Nat} {L : List AV} (ht : arrTy P t = some (n, 1)) (hx : xP env x = some (.eptr L 0)) (hl : L.length = n) (hn : Nat.ble n 1000000 = true) (h0 : Nat.blt 0 n = true) :
  GOp P ro ⟨dst, .slice t x none none none, ty, pos, after, guard⟩ env σ (Is (.dl 1 (L.map fun x => [x])) σ) :=
 xZ _ (by intro c hc; cases hc) fun X M a w hg ho => by
  have h1 := ho x (by simp [Op.operands]) _ hx
  simp only [VRel] at h1
  obtain ⟨b, base, h1, hc⟩ := h1
  obtain ⟨e, inf, hu, hinf, hsz⟩ := arrTy_spec ht
  have hn := q_b hn
  have h0 : n ≠ 0 := by have := q_b h0; omega
  refine ⟨.slice (some ⟨b, base, none⟩) n n, ?_, ?_⟩
  ·simp only [VRel]
   refine ⟨_, n, by rw [List.length_map, hl], by rw [List.length_map]; omega, by unfold maxLen; omega, fun y hy => ?_, .inr ⟨b, base, rfl, rrel_ones hc⟩⟩
   obtain ⟨_, _, rfl⟩ := List.mem_map.1 hy; rfl
  ·simp [execOp, h1, Instr.sliceAt, Instr.sureAddr, run_underlying hu, Instr.sliceBounds, Sem.run_bind, sizeOf, typeInfo, hinf, hsz, h0]
   unfold Addr.add
   split <;> simp_all
/-- A block of cells, now immutable. -/
theorem Good.shutC {X : Fx} {M : Mem} {b : Nat} {L : List AV} {t : TypeId} {w : World} (h : Good X M σ w) (hr : Rem σ (.cells b L t) σ') : ∃ M', M.le M' ∧ Good X M' σ' w ∧ CRel M' b 0 L := by
 obtain ⟨a, c, rfl, rfl⟩ := hr.split
 have hme : Ent.cells b L t ∈ a ++ Ent.cells b L t :: c := by simp
 obtain ⟨cs, hb, hrel⟩ := h.ent _ hme
 have hsub : ∀ x ∈ a ++ c, x ∈ a ++ Ent.cells b L t :: c := fun x hx => hr.sub.subset hx
 have hno : M b = none ∧ X.fr b = none := h.own _ hme b rfl
 have hle : M.le (fun k => if k = b then some (.cells cs t (0, 0)) else M k) := fun k o ho => by
  simp only
  split
  ·rename_i hb'; subst hb'; rw [hno.1] at ho; cases ho
  ·exact ho
 refine ⟨_, hle, ⟨h.os, h.tape, h.output, ?_, h.frm, ?_, fun x hx => (h.ent x (hsub x hx)).mono hle, ?_, (hr.sub.filterMap _).nodup h.nod⟩, ?_⟩
 ·intro k o ho
  split at ho
  ·rename_i hb'; subst hb'; cases ho; exact hb
  ·exact h.mem k o ho
 ·intro k o ho
  split at ho
  ·rename_i hb'; subst hb'; exact hno.2
  ·exact h.dis k o ho
 ·intro x hx k hb'
  refine ⟨?_, (h.own x (hsub x hx) k hb').2⟩
  split
  ·rename_i hbg
   subst hbg
   have hnod := h.nod
   simp only [List.filterMap_append, List.filterMap_cons, Ent.block, List.nodup_append, List.nodup_cons] at hnod
   rcases List.mem_append.1 hx with hx | hx
   ·exact absurd rfl (hnod.2.2 k (List.mem_filterMap.2 ⟨x, hx, hb'⟩) k (by simp))
   ·exact absurd (List.mem_filterMap.2 ⟨x, hx, hb'⟩) hnod.2.1.1
  ·exact (h.own x (hsub x hx) k hb').1
 ·refine CRel.of_cells (VRels.mono hle _ _ hrel) (fun j v hv => ?_)
  unfold Mem.cell
  simp only [if_true]
  simpa using hv
theorem ex_sealCells {c : Code} {Q : Exit → St → Prop} {mk : List Nat} {n d b : Nat} {L : List AV} {t : TypeId} (hr : Rem σ (.cells b L t) σ') (hd : lk env d = some (.ptr b 0)) (h : EX P ro c Q ⟨(d, .eptr L 0) :: env, σ', mk, n⟩) : EX P ro c Q ⟨env, σ, mk, n⟩ :=
 ⟨fun X M a w hs => by
  obtain ⟨M1, h1, h2, h3⟩ := hs.good.shutC hr
  refine Go.wpIn_mono (h.run X M1 a w ⟨h2, hs.size, hs.defs, fun t v ht => ?_⟩) fun _ _ _ hp => vB h1 (fun _ _ h => h) hp
  by_cases e : d = t
  ·subst e
   rw [vS] at ht
   cases ht
   obtain ⟨u, k1, k2⟩ := hs.env d _ hd
   simp only [VRel] at k2
   subst k2
   exact ⟨_, k1, b, 0, rfl, h3⟩
  ·rw [tL e] at ht
   obtain ⟨u, k1, k2⟩ := hs.env t v ht
   exact ⟨u, k1, VRel.mono h1 _ _ k2⟩⟩
end
abbrev pkC (p : Pk) : List AV := [.int .i64 p.f, .int .i64 p.t, bys p.d]
abbrev pkV (p : Pk) : AV := .agg (pkC p)
abbrev pks (L : List Pk) : AV := .dl 3 (L.map pkC)
abbrev apC (p : Ap) : List AV := [.int .i64 p.1, .int .i64 p.2]
abbrev aps (A : List Ap) : AV := .dl 2 (A.map apC)
abbrev netC (L : List Pk) (A : List Ap) : List AV := [pks L, aps A]
abbrev netV (L : List Pk) (A : List Ap) : AV := .agg (netC L A)
theorem between_c (f t : Int) (σ : List Ent) : SCall Tryz.prog 101 [.int .i64 f, .int .i64 t] σ (Is (.agg [.int .i64 (min f t), .int .i64 (max f t)]) σ) := by
 refine zL Tryz.func101 rfl (by simp) ?_
 refine zY (zZ ?_); refine xK ?_; intro _; refine zX (zY (zZ ?_)); (iterate 2 refine zR ?_); apply zU; rfl; rfl; rfl; (apply g_min <;> rfl); (iterate 2 refine zR ?_); apply zU; rfl; rfl; rfl; (apply g_max <;> rfl); apply zU; rfl; rfl; rfl; (apply g_buildArr <;> rfl); refine yR ?_; refine zX (zV ?_); simp only [yX]; rotate_left
 all_goals ((repeat (rename BV _ _ => k; first | cases k | clear k)); try exact zN)
 refine xW ?_
 rfl
theorem link_g (a b : Int) (σ : List Ent) : SCall Tryz.prog 65 [.agg [.int .i64 a, .int .i64 b]] σ (Is (.bool (linkB (a, b))) σ) := by
 refine zL Tryz.func65 rfl (by simp) ?_
 unfold linkB
 refine zY (zZ ?_); refine xB ?_; intro _; refine zP ?_; refine zX (zY (zZ ?_)); apply zU; rfl; rfl; rfl; (apply yT; rfl; rfl; rfl; (exact (rfl : (0:Int) = ((0:Nat):Int))); (exact q_b rfl); rfl); refine xLd ?_; refine xY ?_; intro _ _; refine zR ?_; refine xT ?_ ?_ <;> (intro h hp k; (try subst k); (try simp only [q_n] at hp); try first | omega | (cases hp; done));
 apply yZ; rfl; (rfl); rfl; rfl; (apply yT; rfl; rfl; rfl; (exact (rfl : (0:Int) = ((0:Nat):Int))); (exact q_b rfl); rfl); refine yLd ?_; apply yZ; rfl; (rfl); rfl; rfl; (apply yT; rfl; rfl; rfl; (exact (rfl : (1:Int) = ((1:Nat):Int))); (exact q_b rfl); rfl); refine yLd ?_; refine wT ?_; intro _ _; refine xF ?_; refine zR ?_; refine xT ?_ ?_ <;> (intro h hp k; (try subst k); (try simp only [q_n] at hp); try first | omega | (cases hp; done));
 apply yZ; rfl; (rfl); rfl; rfl; (apply yT; rfl; rfl; rfl; (exact (rfl : (1:Int) = ((1:Nat):Int))); (exact q_b rfl); rfl); refine yLd ?_; refine wT ?_; intro _ _; refine xF ?_; refine zP ?_; refine zX (zV ?_); simp only [yX]; rotate_left; (iterate 3 refine yC ?_); refine yB ?_; refine zP ?_; refine zX (zV ?_); simp only [yX]; rotate_left; (iterate 5 refine yC ?_); refine yB ?_; refine zR ?_; (iterate 3 refine yC ?_); refine yB ?_; refine zP ?_; refine zX (zV ?_); simp only [yX]; rotate_left
 all_goals ((repeat (rename BV _ _ => k; first | cases k | clear k)); try exact zN)
 all_goals
  refine xW (tV ?_)
  first | (exact (decide_eq_true (by omega)).symm) | (exact (decide_eq_false (by omega)).symm) | (rw [decide_eq_decide]; omega)
theorem packet_g (p : Pk) (σ : List Ent) : SCall Tryz.prog 64 [pkV p] σ (Is (.bool (okPB p)) σ) := by
 refine zL Tryz.func64 rfl (by simp) ?_
 unfold okPB
 have hl := fun σ => link_g (min p.f p.t) (max p.f p.t) σ
 generalize linkB (min p.f p.t, max p.f p.t) = q at hl ⊢
 cases q
 ·refine zY (zZ ?_); refine xB ?_; intro _; refine zP ?_; refine zX (zY (zZ ?_)); (iterate 2 refine yG ?_); apply zU; rfl; rfl; rfl; (refine yJ ?_; exact between_c _ _ _); apply yE; rfl; rfl; rfl; (refine yJ ?_; exact hl _); intro _ _; refine zR ?_; refine xT ?_ ?_ <;> (intro h hp k; (try subst k); (try simp only [q_n] at hp); try first | omega | (cases hp; done));
  (iterate 4 refine yC ?_); refine yB ?_; refine zP ?_; refine zX (zV ?_); simp only [yX]; rotate_left
  all_goals ((repeat (rename BV _ _ => k; first | cases k | clear k)); try exact zN)
  all_goals
   refine xW ?_
   rfl
 ·refine zY (zZ ?_); refine xB ?_; intro _; refine zP ?_; refine zX (zY (zZ ?_)); (iterate 2 refine yG ?_); apply zU; rfl; rfl; rfl; (refine yJ ?_; exact between_c _ _ _); apply yE; rfl; rfl; rfl; (refine yJ ?_; exact hl _); intro _ _; refine zR ?_; refine xT ?_ ?_ <;> (intro h hp k; (try subst k); (try simp only [q_n] at hp); try first | omega | (cases hp; done));
  refine wL ?_; apply yZ; rfl; (rfl); rfl; rfl; (apply xH; rfl; rfl; (exact (List.length_map _).symm)); refine wT ?_; intro _ _; refine xF ?_; refine zP ?_; refine zX (zV ?_); simp only [yX]; rotate_left
  all_goals ((repeat (rename BV _ _ => k; first | cases k | clear k)); try exact zN)
  all_goals
   refine xW (tV ?_)
   first | rfl | (simp only [Bool.true_and]; rw [decide_eq_decide]; omega)
theorem check1_g (p : Pk) (σ : List Ent) : SCall Tryz.prog 63 [pkV p] σ (Is (.bool (!okPB p)) σ) := by
 refine zL Tryz.func63 rfl (by simp) ?_
 refine zY (zZ ?_); refine xB ?_; intro _; refine zP ?_; refine zX (zY (zZ ?_)); refine yA ?_; apply yE; rfl; rfl; rfl; (refine yJ ?_; exact packet_g p _); intro _ _; refine qY ?_; intro _ _; refine zP ?_; refine zX (zV ?_); simp only [yX]; rotate_left
 all_goals ((repeat (rename BV _ _ => k; first | cases k | clear k)); try exact zN)
 refine xW ?_
 rfl
theorem fPk_idx (l : List Pk) (g : Nat) (first cap : List AV) (p : Pk → Bool) (σ : List Ent) (he : Enters Tryz.prog g) (hf : ∀ (k : Nat) (c : Pk), l[k]? = some c → SCall Tryz.prog g (first ++ [(pkV) c] ++ cap) σ (Is (.bool (p c)) σ)) :
  SCall Tryz.prog 100 [.dl 3 (l.map pkC), .fn (.func g) first cap] σ (Is (.int .i64 (uK p l 0)) σ) := by
 refine zL Tryz.func100 rfl (by simp) ?_
 refine zY (zZ ?_); refine zP ?_; refine zX (zY (zY (zZ ?_))); refine zR ?_; refine wH ?_; refine zR ?_; refine zX (zT ?_); rotate_left
 all_goals ((repeat (rename BV _ _ => k; first | cases k | clear k)); try exact zN)
 refine pS (t := 0) rfl ((List.length_map _).symm) (fun hlen => ?_)
 refine yD (fun (k : Nat) => (⟨[(0, .dl 3 (l.map pkC)), (1, .fn (.func g) first cap), (7, .int .i64 l.length), (8, .int .i64 k)], σ, [], Tryz.f100.ntmps⟩ : St)) (fun k => k ≤ l.length ∧ uK p l 0 = uK p (l.drop k) k) (fun k => l.length - k) 0 (⟨Nat.zero_le _, rfl⟩) (St.le_of (by repeat (first | exact trivial | refine ⟨rfl, ?_⟩)) (by repeat (first | exact q_r | apply q_q | apply q_k))) ?_
 intro k hI
 by_cases hk : k < l.length
 ·obtain ⟨c, hc⟩ : ∃ c, l[k]? = some c := ⟨_, List.getElem?_eq_getElem hk⟩
  have hd := idxFrom_drop p hc
  refine zY (zZ ?_); refine xY ?_; intro _ _; refine zX (zY (yN ?_ ?_)) <;> (intro h hp k; (try subst k); (try simp only [q_n] at hp); try first | omega | (cases hp; done));
  refine zW (zY (zT ?_)); refine zY (zZ ?_); refine zR ?_; refine zP ?_; refine zX (zY (zZ ?_)); (iterate 3 refine zR ?_); refine vG ?_; refine yA ?_; apply zU; rfl; rfl; rfl; (exact xJ rfl rfl he (hf k c hc)); refine zX (yN ?_ ?_) <;> (intro h hp k; (try subst k); (try simp only [q_n] at hp); try first | omega | (cases hp; done));
  refine zY (zZ ?_); refine zR ?_; refine zP ?_; refine zX (zV ?_); simp only [yX]; rotate_left; refine zW (zZ (vX ?_)); refine zR ?_; refine zQ ?_; simp only [zA, zF, zE, zH, yK, ↓reduceIte, Nat.reduceEqDiff]; rotate_left
  all_goals ((repeat (rename BV _ _ => k; first | cases k | clear k)); try exact zN)
  ·refine xW (int_eq ?_)
   rw [hI.2, hd, if_pos (by assumption)]
  ·refine ⟨k + 1, ⟨hk, by rw [hI.2, hd, if_neg (by simp [*])]⟩, by omega, St.le_of (by repeat (first | exact trivial | refine ⟨rfl, ?_⟩)) (by repeat (first | exact q_r | apply q_q | apply q_k))⟩
 ·refine zY (zZ ?_); refine xY ?_; intro _ _; refine zX (zY (yN ?_ ?_)) <;> (intro h hp k; (try subst k); (try simp only [q_n] at hp); try first | omega | (cases hp; done));
  refine yQ ?_; refine zY (zZ ?_); refine zP ?_; refine zX (zV ?_); simp only [yX]; rotate_left
  all_goals ((repeat (rename BV _ _ => k; first | cases k | clear k)); try exact zN)
  refine xW (int_eq ?_)
  rw [hI.2, List.drop_of_length_le (by omega)]; rfl
theorem fPk_any (l : List Pk) (g : Nat) (first cap : List AV) (p : Pk → Bool) (σ : List Ent) (he : Enters Tryz.prog g) (hf : ∀ (k : Nat) (c : Pk), l[k]? = some c → SCall Tryz.prog g (first ++ [(pkV) c] ++ cap) σ (Is (.bool (p c)) σ)) :
  SCall Tryz.prog 62 [.dl 3 (l.map pkC), .fn (.func g) first cap] σ (Is (.bool (l.any p)) σ) := by
 refine zL Tryz.func62 rfl (by simp) ?_
 refine zY (zZ ?_); refine zP ?_; refine zX (zY (zZ ?_)); (iterate 2 refine zR ?_); apply zU; rfl; rfl; rfl; (refine yJ ?_; exact fPk_idx l g first cap p σ he hf); refine xY ?_; intro _ _; refine zP ?_; refine zX (zV ?_); simp only [yX]; rotate_left
 all_goals ((repeat (rename BV _ _ => k; first | cases k | clear k)); try exact zN)
 refine xW (tV ?_)
 exact idxFrom_any p l 0
def cmpA (p q : Ap) : Int := if qJ p.1 q.1 ≠ 0 then qJ p.1 q.1 else qJ p.2 q.2
theorem cmpA_lt {p q : Ap} : ¬ (0 ≤ cmpA p q) ↔ ltA p q = true := by
 unfold cmpA ltA qJ
 rw [decide_eq_true_eq]
 split <;> (repeat' split) <;> omega
/-- Two pairs compared as slices. -/
theorem compare2_c (p q : Ap) (σ : List Ent) : SCall Tryz.prog 66 [.dl 1 ((apC p).map fun x => [x]), .dl 1 ((apC q).map fun x => [x])] σ (Is (.int .i64 (cmpA p q)) σ) := by
 refine zL Tryz.func66 rfl (by simp) ?_
 have h0 : ((apC p).map fun x => [x])[0]? = some [.int .i64 p.1] := rfl
 have h1 : ((apC p).map fun x => [x])[1]? = some [.int .i64 p.2] := rfl
 have g0 : ((apC q).map fun x => [x])[0]? = some [.int .i64 q.1] := rfl
 have g1 : ((apC q).map fun x => [x])[1]? = some [.int .i64 q.2] := rfl
 obtain ⟨A, hA⟩ : ∃ A, ((apC p).map fun x => [x]) = A := ⟨_, rfl⟩
 obtain ⟨B, hB⟩ : ∃ B, ((apC q).map fun x => [x]) = B := ⟨_, rfl⟩
 have hAl : A.length = 2 := by rw [← hA]; rfl
 have hBl : B.length = 2 := by rw [← hB]; rfl
 rw [hA] at h0 h1 ⊢
 rw [hB] at g0 g1 ⊢
 clear hA hB
 have k1 := fun σ => cmpI_c p.1 q.1 σ
 have k2 := fun σ => cmpI_c p.2 q.2 σ
 unfold cmpA
 refine zY (zZ ?_); refine zP ?_; refine zX (zY (zY (zZ ?_))); refine zR ?_; apply zU; rfl; rfl; rfl; (apply xH <;> rfl); refine zR ?_; refine zX (zT ?_); rotate_left
 all_goals ((repeat (rename BV _ _ => k; first | cases k | clear k)); try exact zN)
 refine yD (fun (k : Nat) => (⟨[(0, .dl 1 A), (1, .dl 1 B), (9, .dl 1 A), (10, .int .i64 (A.length : Nat)), (11, .int .i64 k)], σ, [], Tryz.f66.ntmps⟩ : St)) (fun k => k ≤ 2 ∧ (k = 0 ∨ qJ p.1 q.1 = 0) ∧ (k = 2 → qJ p.2 q.2 = 0)) (fun k => 2 - k) 0 (⟨by omega, .inl rfl, fun h => by cases h⟩) (St.le_of (by repeat (first | exact trivial | refine ⟨rfl, ?_⟩)) (by repeat (first | exact q_r | apply q_q | apply q_k))) ?_
 intro k hI
 obtain ⟨hk, hI1, hI2⟩ := hI
 have hk3 : k = 0 ∨ k = 1 ∨ k = 2 := by omega
 rcases hk3 with rfl | rfl | rfl
 ·by_cases hc : qJ p.1 q.1 = 0
  ·rw [hc] at k1
   refine zY (zZ ?_); refine xY ?_; intro _ _; refine zX (zY (yN ?_ ?_)) <;> (intro h hp k; (try subst k); (try simp only [q_n] at hp); try first | omega | (cases hp; done));
   refine zW (zY (zT ?_)); refine zY (zZ ?_); refine zR ?_; refine vG ?_; refine xLd ?_; (iterate 2 refine zP ?_); refine zX (zY (zY (zZ ?_))); (iterate 2 refine zR ?_); apply zU; rfl; rfl; rfl; (apply xH <;> rfl); refine zD ?_ ?_ <;> (intro h hp; (try simp only [q_n] at hp); try first | omega | (cases hp; done));
   refine zW (zY (zZ ?_)); (iterate 2 refine zR ?_); refine vG ?_; refine xLd ?_; refine zP ?_; refine zX (zY (zZ ?_)); (iterate 2 refine zR ?_); apply zU; rfl; rfl; rfl; (refine yJ ?_; exact k1 _); refine zP ?_; refine zX (zY (zZ ?_)); refine zR ?_; refine zD ?_ ?_ <;> (intro h hp; (try simp only [q_n] at hp); try first | omega | (cases hp; done));
   refine zW (zZ (vX ?_)); refine zR ?_; refine zQ ?_; simp only [zA, zF, zE, zH, yK, ↓reduceIte, Nat.reduceEqDiff]; rotate_left
   all_goals ((repeat (rename BV _ _ => k; first | cases k | clear k)); try exact zN)
   refine ⟨1, ⟨by omega, .inr hc, fun h => (by cases h)⟩, by omega, ?_⟩
   exact wW
  ·rw [if_pos hc]
   generalize qJ p.1 q.1 = c at k1 hc
   refine zY (zZ ?_); refine xY ?_; intro _ _; refine zX (zY (yN ?_ ?_)) <;> (intro h hp k; (try subst k); (try simp only [q_n] at hp); try first | omega | (cases hp; done));
   refine zW (zY (zT ?_)); refine zY (zZ ?_); refine zR ?_; refine vG ?_; refine xLd ?_; (iterate 2 refine zP ?_); refine zX (zY (zY (zZ ?_))); (iterate 2 refine zR ?_); apply zU; rfl; rfl; rfl; (apply xH <;> rfl); refine zD ?_ ?_ <;> (intro h hp; (try simp only [q_n] at hp); try first | omega | (cases hp; done));
   refine zW (zY (zZ ?_)); (iterate 2 refine zR ?_); refine vG ?_; refine xLd ?_; refine zP ?_; refine zX (zY (zZ ?_)); (iterate 2 refine zR ?_); apply zU; rfl; rfl; rfl; (refine yJ ?_; exact k1 _); refine zP ?_; refine zX (zY (zZ ?_)); refine zR ?_; refine zD ?_ ?_ <;> (intro h hp; (try simp only [q_n] at hp); try first | omega | (cases hp; done));
   refine zY (zZ ?_); refine zR ?_; refine zP ?_; refine zX (zV ?_); simp only [yX]; rotate_left
   all_goals ((repeat (rename BV _ _ => k; first | cases k | clear k)); try exact zN)
   refine xW ?_
   rfl
 ·have hc1 : qJ p.1 q.1 = 0 := by rcases hI1 with h | h; cases h; exact h
  rw [if_neg (fun h => h hc1)]
  by_cases hc : qJ p.2 q.2 = 0
  ·rw [hc] at k2
   refine zY (zZ ?_); refine xY ?_; intro _ _; refine zX (zY (yN ?_ ?_)) <;> (intro h hp k; (try subst k); (try simp only [q_n] at hp); try first | omega | (cases hp; done));
   refine zW (zY (zT ?_)); refine zY (zZ ?_); refine zR ?_; refine vG ?_; refine xLd ?_; (iterate 2 refine zP ?_); refine zX (zY (zY (zZ ?_))); (iterate 2 refine zR ?_); apply zU; rfl; rfl; rfl; (apply xH <;> rfl); refine zD ?_ ?_ <;> (intro h hp; (try simp only [q_n] at hp); try first | omega | (cases hp; done));
   refine zW (zY (zZ ?_)); (iterate 2 refine zR ?_); refine vG ?_; refine xLd ?_; refine zP ?_; refine zX (zY (zZ ?_)); (iterate 2 refine zR ?_); apply zU; rfl; rfl; rfl; (refine yJ ?_; exact k2 _); refine zP ?_; refine zX (zY (zZ ?_)); refine zR ?_; refine zD ?_ ?_ <;> (intro h hp; (try simp only [q_n] at hp); try first | omega | (cases hp; done));
   refine zW (zZ (vX ?_)); refine zR ?_; refine zQ ?_; simp only [zA, zF, zE, zH, yK, ↓reduceIte, Nat.reduceEqDiff]; rotate_left
   all_goals ((repeat (rename BV _ _ => k; first | cases k | clear k)); try exact zN)
   refine ⟨2, ⟨by omega, .inr hc1, fun _ => hc⟩, by omega, ?_⟩
   exact wW
  ·generalize qJ p.2 q.2 = c at k2 hc
   refine zY (zZ ?_); refine xY ?_; intro _ _; refine zX (zY (yN ?_ ?_)) <;> (intro h hp k; (try subst k); (try simp only [q_n] at hp); try first | omega | (cases hp; done));
   refine zW (zY (zT ?_)); refine zY (zZ ?_); refine zR ?_; refine vG ?_; refine xLd ?_; (iterate 2 refine zP ?_); refine zX (zY (zY (zZ ?_))); (iterate 2 refine zR ?_); apply zU; rfl; rfl; rfl; (apply xH <;> rfl); refine zD ?_ ?_ <;> (intro h hp; (try simp only [q_n] at hp); try first | omega | (cases hp; done));
   refine zW (zY (zZ ?_)); (iterate 2 refine zR ?_); refine vG ?_; refine xLd ?_; refine zP ?_; refine zX (zY (zZ ?_)); (iterate 2 refine zR ?_); apply zU; rfl; rfl; rfl; (refine yJ ?_; exact k2 _); refine zP ?_; refine zX (zY (zZ ?_)); refine zR ?_; refine zD ?_ ?_ <;> (intro h hp; (try simp only [q_n] at hp); try first | omega | (cases hp; done));
   refine zY (zZ ?_); refine zR ?_; refine zP ?_; refine zX (zV ?_); simp only [yX]; rotate_left
   all_goals ((repeat (rename BV _ _ => k; first | cases k | clear k)); try exact zN)
   refine xW ?_
   rfl
 ·have hc1 : qJ p.1 q.1 = 0 := by rcases hI1 with h | h; cases h; exact h
  rw [if_neg (fun h => h hc1), hI2 rfl]
  refine zY (zZ ?_); refine xY ?_; intro _ _; refine zX (zY (yN ?_ ?_)) <;> (intro h hp k; (try subst k); (try simp only [q_n] at hp); try first | omega | (cases hp; done));
  refine yQ ?_; refine zY (zY (zZ ?_)); refine zR ?_; apply zU; rfl; rfl; rfl; (apply xH <;> rfl); refine zR ?_; apply zU; rfl; rfl; rfl; (apply xH <;> rfl); refine zD ?_ ?_ <;> (intro h hp; (try simp only [q_n] at hp); try first | omega | (cases hp; done));
  refine zW (zY (zZ ?_)); refine zP ?_; refine zX (zV ?_); simp only [yX]; rotate_left
  all_goals ((repeat (rename BV _ _ => k; first | cases k | clear k)); try exact zN)
  refine xW ?_
  rfl
end Go.Proofs.YtkhoengjdfmfaaaGreat
