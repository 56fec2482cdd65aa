/- Parts of the proof that belong together: Tn Wf Wg Wh Wi Sin Wj. -/
import Derived.Test.YtkhoengjdfmfaaaGreatGE03
import Derived.Test.YtkhoengjdfmfaaaGreatGE05
import Derived.Test.YtkhoengjdfmfaaaGreatGE09
set_option maxRecDepth 10000
set_option linter.unusedSimpArgs false
set_option linter.unusedVariables false
namespace Go.Proofs.YtkhoengjdfmfaaaGreat
structure Ps where
  k : Int
  a : Int
  t : Int
  i : Int
  s : Sl
def heardS (l : List Sl) (s : Sl) : List Sl := if s.seq = (manyS l s.tab : Nat) ∧ checkS (putS l s) = 0 then putS l s else l
structure Qk where
  f : Int
  t : Int
  s : Sl
  deriving DecidableEq
structure RtQ (B : List (List Sl)) (Q : List Qk) : Prop where
  n1 : 1 ≤ B.length
  n8 : B.length ≤ 8
  ck : ∀ l ∈ B, checkS l = 0
  tab : ∀ l ∈ B, ∀ s ∈ l, s.tab < B.length
  net : ∀ q ∈ Q, 0 ≤ q.f ∧ 0 ≤ q.t ∧ q.f ≠ q.t ∧ q.f < B.length ∧ q.t < B.length ∧ Sendable q.s ∧ q.s.tab < B.length
  few : Q.length ≤ 4096
def doS (B : List (List Sl)) (Q : List Qk) (r : Ps) : Except Int (List (List Sl) × List Qk) :=
  if r.k = 1 then
    if 0 ≤ r.a ∧ r.a < B.length ∧ r.s.tab = r.a then
      (if (writeS (B.getD r.a.toNat []) r.s).2 = 0 then .ok (B.set r.a.toNat (writeS (B.getD r.a.toNat []) r.s).1, Q) else .error (writeS (B.getD r.a.toNat []) r.s).2)
    else .error 1
  else if r.k = 2 then
    if 0 ≤ r.a ∧ r.a < B.length ∧ 0 ≤ r.t ∧ r.t < B.length ∧ r.a ≠ r.t then
      (if Q.length + (B.getD r.a.toNat []).length ≤ 4096 then .ok (B, Q ++ (B.getD r.a.toNat []).map fun s => ⟨r.a, r.t, s⟩) else .error 2)
    else .error 1
  else if r.k = 3 ∨ r.k = 4 ∨ r.k = 5 then
    if r.i < 0 ∨ (Q.length : Int) ≤ r.i then .error 1
    else match Q[r.i.toNat]? with
      | none => .error 1
      | some q =>
        if r.k = 3 then .ok (B.set q.t.toNat (heardS (B.getD q.t.toNat []) q.s), Q.eraseIdx r.i.toNat)
        else if r.k = 4 then .ok (B, Q.eraseIdx r.i.toNat)
        else if Q.length = 4096 then .error 2
        else .ok (B, Q ++ [q])
  else .error 1
structure Hist (B : List (List Sl)) (Q : List Qk) (W : List (List Sl)) : Prop where
  rt : RtQ B Q
  len : W.length = B.length
  own : ∀ t : Nat, t < B.length → ofT (B.getD t []) t = W.getD t []
  pre : ∀ l ∈ B, ∀ t : Nat, t < B.length → ofT l t <+: W.getD t []
  net : ∀ q ∈ Q, ∀ t : Nat, q.s.tab = t → (W.getD t [])[q.s.seq.toNat]? = some q.s
theorem getD_set {α : Type} (B : List α) (k t : Nat) (x d : α) (hk : k < B.length) : (B.set k x).getD t d = if k = t then x else B.getD t d := by
  rw [List.getD_eq_getElem?_getD, List.getD_eq_getElem?_getD, List.getElem?_set]
  split
  · rename_i e; subst e
    first
      | rfl
      | (rw [if_pos hk]; rfl)
  · rfl
theorem getD_mem {α : Type} {B : List α} {t : Nat} {d : α} (h : t < B.length) : B.getD t d ∈ B := by
  rw [List.getD_eq_getElem?_getD, List.getElem?_eq_getElem h]; exact List.getElem_mem h
theorem pre_get {α : Type} {p w : List α} (h : p <+: w) {i : Nat} {x : α} (hx : p[i]? = some x) : w[i]? = some x := by
  obtain ⟨r, rfl⟩ := h
  rw [List.getElem?_append_left (get_lt hx)]; exact hx
theorem pre_snoc {α : Type} {p w : List α} {x : α} (h : p <+: w) (hx : w[p.length]? = some x) : p ++ [x] <+: w := by
  obtain ⟨r, rfl⟩ := h
  rw [List.getElem?_append_right (Nat.le_refl _), Nat.sub_self] at hx
  cases r with
  | nil => cases hx
  | cons y r => cases hx; exact ⟨r, by simp⟩
theorem eraseIdx_mem {α : Type} {Q : List α} {k : Nat} {x : α} (h : x ∈ Q.eraseIdx k) : x ∈ Q := (List.eraseIdx_sublist Q k).subset h
theorem hist_new {n : Nat} (h1 : 1 ≤ n) (h8 : n ≤ 8) : Hist (List.replicate n []) [] (List.replicate n []) := by
  have hm : ∀ l ∈ List.replicate n ([] : List Sl), l = [] := fun l hl => (List.mem_replicate.1 hl).2
  have hg : ∀ t : Nat, (List.replicate n ([] : List Sl)).getD t [] = [] := fun t => by
    rw [List.getD_eq_getElem?_getD, List.getElem?_replicate]; split <;> rfl
  refine ⟨⟨by simp [h1], by simp [h8], fun l hl => by rw [hm l hl]; rfl, fun l hl s hs => by rw [hm l hl] at hs; simp at hs, by simp, by simp⟩, rfl, fun t _ => by rw [hg]; rfl, fun l hl t _ => by rw [hm l hl, hg]; exact List.prefix_refl _, by simp⟩
theorem sub_of {l : List Sl} (h : BookC l) {s : Sl} (hs : s ∈ l) : (ofT l s.tab)[s.seq.toNat]? = some s := by
  obtain ⟨i, hi⟩ := List.getElem?_of_mem (ofT_mem.2 ⟨hs, rfl⟩ : s ∈ ofT l s.tab)
  have := (h.each s.tab).seq i s hi
  rw [show s.seq.toNat = i by omega]; exact hi
def wroteS (W : List (List Sl)) (r : Ps) : List (List Sl) := if r.k = 1 then W.set r.a.toNat (W.getD r.a.toNat [] ++ [{ r.s with seq := ((W.getD r.a.toNat []).length : Nat) }]) else W
structure GrewB (B B' : List (List Sl)) : Prop where
  len : B'.length = B.length
  more : ∀ i : Nat, i < B.length → (B.getD i []).length ≤ (B'.getD i []).length
theorem grew_refl (B : List (List Sl)) : GrewB B B := ⟨rfl, fun _ _ => Nat.le_refl _⟩
theorem grew_set {B : List (List Sl)} {k : Nat} {x : List Sl} (hk : k < B.length) (h : (B.getD k []).length ≤ x.length) : GrewB B (B.set k x) :=
  ⟨List.length_set, fun i hi => by rw [getD_set _ _ _ _ _ hk]; split; · rename_i e; subst e; exact h
                                   · exact Nat.le_refl _⟩
theorem hist_put {B : List (List Sl)} {Q Q' : List Qk} {W W' : List (List Sl)} {k : Nat} {s : Sl} (h : Hist B Q W) (hk : k < B.length) (hc : checkS (putS (B.getD k []) s) = 0) (hst : 0 ≤ s.tab ∧ s.tab < B.length) (hQ : ∀ q ∈ Q', q ∈ Q) (hQl : Q'.length ≤ Q.length)
    (hW : W'.length = W.length) (hWp : ∀ t : Nat, W.getD t [] <+: W'.getD t []) (hpre : ofT (B.getD k []) s.tab ++ [s] <+: W'.getD s.tab.toNat [])
    (hown : ∀ t : Nat, t < B.length → ofT ((B.set k (putS (B.getD k []) s)).getD t []) t = W'.getD t []) : Hist (B.set k (putS (B.getD k []) s)) Q' W' := by
  have hkm : B.getD k [] ∈ B := getD_mem hk
  have hb := check_book (h.rt.ck _ hkm)
  generalize B.getD k [] = l at *
  refine ⟨⟨by simp [h.rt.n1], by simp [h.rt.n8], fun l' hl' => ?_, fun l' hl' x hx => ?_, fun q hq => ?_, by have := h.rt.few; omega⟩, by rw [hW, h.len, List.length_set], fun t ht => hown t (by simpa using ht), fun l' hl' t ht => ?_, fun q hq t ht => pre_get (hWp t) (h.net q (hQ q hq) t ht)⟩
  · rcases List.mem_or_eq_of_mem_set hl' with hl' | rfl
    · exact h.rt.ck _ hl'
    · exact hc
  · rw [List.length_set]
    rcases List.mem_or_eq_of_mem_set hl' with hl' | rfl
    · exact h.rt.tab _ hl' x hx
    · rcases put_mem.1 hx with rfl | hx
      · exact hst.2
      · exact h.rt.tab _ hkm x hx
  · rw [List.length_set]; exact h.rt.net q (hQ q hq)
  · rw [List.length_set] at ht
    rcases List.mem_or_eq_of_mem_set hl' with hl' | rfl
    · exact (h.pre _ hl' t ht).trans (hWp t)
    · rw [ofT_put hb.up]
      split
      · rename_i e
        rw [show s.tab.toNat = t by omega, e] at hpre; exact hpre
      · exact (h.pre _ hkm t ht).trans (hWp t)
theorem hist_do {B : List (List Sl)} {Q : List Qk} {W : List (List Sl)} {r : Ps} {B' : List (List Sl)} {Q' : List Qk} (h : Hist B Q W) (hd : doS B Q r = .ok (B', Q')) : Hist B' Q' (wroteS W r) ∧ GrewB B B' ∧ (r.k = 1 → 0 ≤ r.a ∧ r.a < B.length) := by
  unfold doS at hd
  unfold wroteS
  by_cases k1 : r.k = 1
  · rw [if_pos k1] at hd ⊢
    by_cases hc : 0 ≤ r.a ∧ r.a < B.length ∧ r.s.tab = r.a
    · rw [if_pos hc] at hd
      obtain ⟨k, hkk⟩ : ∃ k : Nat, r.a = k := ⟨r.a.toNat, by omega⟩
      have hkB : k < B.length := by omega
      have hkm : B.getD k [] ∈ B := getD_mem hkB
      have hck := h.rt.ck _ hkm
      have hb := check_book hck
      have hown := h.own k hkB
      rw [show r.a.toNat = k by omega] at hd ⊢
      by_cases hw : (writeS (B.getD k []) r.s).2 = 0
      · rw [if_pos hw] at hd
        injection hd with hd; injection hd with e1 e2
        subst e1 e2
        have hmany : manyS (B.getD k []) r.s.tab = (W.getD k []).length := by rw [many_len, hc.2.2, hkk, hown]
        have hwr : (writeS (B.getD k []) r.s).1 = putS (B.getD k []) { r.s with seq := ((W.getD k []).length : Nat) } ∧ checkS (putS (B.getD k []) { r.s with seq := ((W.getD k []).length : Nat) }) = 0 := by
          unfold writeS at hw ⊢
          rw [if_neg (by rw [hck]; simp), hmany] at hw ⊢
          by_cases h5 : (B.getD k []).length = 512
          · rw [if_pos h5] at hw; exact absurd hw (by decide)
          · rw [if_neg h5] at hw ⊢
            cases hbk : bookB (putS (B.getD k []) { r.s with seq := ((W.getD k []).length : Nat) }) with
            | false => rw [hbk] at hw; simp at hw
            | true =>
              refine ⟨by simp, check_zero.2 ⟨?_, hbk⟩⟩
              have := (check_zero.1 hck).1
              rw [put_len]; omega
        obtain ⟨hw1, hw2⟩ := hwr
        rw [hw1]
        have hWk : k < W.length := by rw [h.len]; exact hkB
        obtain ⟨s, hs⟩ : ∃ s : Sl, s = { r.s with seq := ((W.getD k []).length : Nat) } := ⟨_, rfl⟩
        rw [← hs] at hw2 ⊢
        have hst : s.tab = k := by rw [hs]; show r.s.tab = k; omega
        refine ⟨hist_put h hkB hw2 (by omega) (fun q hq => hq) (Nat.le_refl _) List.length_set (fun t => ?_) ?_ (fun t ht => ?_), grew_set hkB (by rw [put_len]; omega), fun _ => ⟨hc.1, hc.2.1⟩⟩
        · rw [getD_set _ _ _ _ _ hWk]
          split
          · rename_i e; subst e; exact List.prefix_append _ _
          · exact List.prefix_refl _
        · rw [hst, show ((k : Int)).toNat = k by omega, getD_set _ _ _ _ _ hWk, if_pos rfl, hown]
          exact List.prefix_refl _
        · rw [getD_set _ _ _ _ _ hkB, getD_set _ _ _ _ _ hWk]
          split
          · rename_i e; subst e
            rw [ofT_put hb.up, if_pos hst, hown]
          · exact h.own t ht
      · rw [if_neg hw] at hd; cases hd
    · rw [if_neg hc] at hd; cases hd
  · rw [if_neg k1] at hd
    rw [if_neg k1]
    refine ⟨?_, ?_, fun e => absurd e k1⟩ <;> clear k1
    all_goals
      by_cases k2 : r.k = 2
      · rw [if_pos k2] at hd
        by_cases hc : 0 ≤ r.a ∧ r.a < B.length ∧ 0 ≤ r.t ∧ r.t < B.length ∧ r.a ≠ r.t
        · rw [if_pos hc] at hd
          split at hd
          · rename_i hlen
            injection hd with hd; injection hd with e1 e2
            subst e1 e2
            first
              | exact grew_refl _
              | (have hkB : r.a.toNat < B.length := by omega
                 have hkm : B.getD r.a.toNat [] ∈ B := getD_mem hkB
                 have hck := h.rt.ck _ hkm
                 have hb := check_book hck
                 refine ⟨⟨h.rt.n1, h.rt.n8, h.rt.ck, h.rt.tab, fun q hq => ?_, by simpa using hlen⟩, h.len, h.own, h.pre, fun q hq t ht => ?_⟩
                 · rcases List.mem_append.1 hq with hq | hq
                   · exact h.rt.net q hq
                   · obtain ⟨s, hs, rfl⟩ := List.mem_map.1 hq
                     exact ⟨hc.1, hc.2.2.1, hc.2.2.2.2, hc.2.1, hc.2.2.2.1, sendable_book hck hs, h.rt.tab _ hkm s hs⟩
                 · rcases List.mem_append.1 hq with hq | hq
                   · exact h.net q hq t ht
                   · obtain ⟨s, hs, rfl⟩ := List.mem_map.1 hq
                     dsimp only at ht ⊢
                     have h1 := h.rt.tab _ hkm s hs
                     have h2 := sub_of hb hs
                     rw [ht] at h2
                     exact pre_get (h.pre _ hkm t (by omega)) h2)
          · cases hd
        · rw [if_neg hc] at hd; cases hd
      · rw [if_neg k2] at hd
        by_cases k3 : r.k = 3 ∨ r.k = 4 ∨ r.k = 5
        · rw [if_pos k3] at hd
          by_cases hi : r.i < 0 ∨ (Q.length : Int) ≤ r.i
          · rw [if_pos hi] at hd; cases hd
          · rw [if_neg hi] at hd
            obtain ⟨q, hq⟩ : ∃ q, Q[r.i.toNat]? = some q := get_some (by omega)
            rw [hq] at hd
            dsimp only at hd
            have hqm := List.mem_of_getElem? hq
            obtain ⟨n1, n2, n3, n4, n5, n6, n7⟩ := h.rt.net q hqm
            have hkB : q.t.toNat < B.length := by omega
            have hkm : B.getD q.t.toNat [] ∈ B := getD_mem hkB
            have hck := h.rt.ck _ hkm
            have hb := check_book hck
            have hlose : Hist B (Q.eraseIdx r.i.toNat) W := ⟨⟨h.rt.n1, h.rt.n8, h.rt.ck, h.rt.tab, fun q hq => h.rt.net q (eraseIdx_mem hq), by have := h.rt.few; have := (List.eraseIdx_sublist Q r.i.toNat).length_le; omega⟩, h.len, h.own, h.pre, fun q hq => h.net q (eraseIdx_mem hq)⟩
            split at hd
            · injection hd with hd; injection hd with e1 e2
              subst e1 e2
              have hself : ∀ l : List Sl, l = B.getD q.t.toNat [] → B.set q.t.toNat l = B := fun l e => by
                subst e
                refine List.ext_getElem? fun j => ?_
                rw [List.getElem?_set]
                split
                · rename_i e; subst e
                  first
                    | (rw [List.getD_eq_getElem?_getD, List.getElem?_eq_getElem hkB]; rfl)
                    | (rw [if_pos hkB, List.getD_eq_getElem?_getD, List.getElem?_eq_getElem hkB]; rfl)
                · rfl
              by_cases hh : q.s.seq = (manyS (B.getD q.t.toNat []) q.s.tab : Nat) ∧ checkS (putS (B.getD q.t.toNat []) q.s) = 0
              · rw [show heardS (B.getD q.t.toNat []) q.s = putS (B.getD q.t.toNat []) q.s from if_pos hh]
                first
                  | exact grew_set hkB (by rw [put_len]; omega)
                  | (have hnt := h.net q hqm q.s.tab.toNat (by have := n6.tab; omega)
                     have h0 := n6.tab.1
                     have hmany : (ofT (B.getD q.t.toNat []) q.s.tab).length = q.s.seq.toNat := by have := hh.1; rw [many_len] at this; omega
                     refine hist_put h hkB hh.2 ⟨h0, n7⟩ (fun q hq => eraseIdx_mem hq) (List.eraseIdx_sublist Q r.i.toNat).length_le rfl (fun t => List.prefix_refl _) (pre_snoc ?_ (by rw [hmany]; exact hnt)) (fun t ht => ?_)
                     · have := h.pre _ hkm q.s.tab.toNat (by omega)
                       rwa [show ((q.s.tab.toNat : Nat) : Int) = q.s.tab by omega] at this
                     · rw [getD_set _ _ _ _ _ hkB]
                       split
                       · rename_i e
                         rw [ofT_put hb.up]
                         have ho := h.own t ht
                         split
                         · rename_i e2
                           rw [show q.s.tab.toNat = t by omega, ← ho, ← e] at hnt
                           rw [e2, ← e] at hmany
                           have := get_lt hnt
                           omega
                         · rw [e]; exact ho
                       · exact h.own t ht)
              · rw [show heardS (B.getD q.t.toNat []) q.s = B.getD q.t.toNat [] from if_neg hh, hself _ rfl]
                first
                  | exact grew_refl _
                  | exact hlose
            · split at hd
              · injection hd with hd; injection hd with e1 e2
                subst e1 e2
                first
                  | exact grew_refl _
                  | exact hlose
              · split at hd
                · cases hd
                · rename_i hfull
                  injection hd with hd; injection hd with e1 e2
                  subst e1 e2
                  first
                    | exact grew_refl _
                    | (have hfew := h.rt.few
                       refine ⟨⟨h.rt.n1, h.rt.n8, h.rt.ck, h.rt.tab, fun p hp => ?_, by simp; omega⟩, h.len, h.own, h.pre, fun p hp => ?_⟩
                       · rcases List.mem_append.1 hp with hp | hp
                         · exact h.rt.net p hp
                         · rw [List.mem_singleton] at hp; subst hp; exact h.rt.net p hqm
                       · rcases List.mem_append.1 hp with hp | hp
                         · exact h.net p hp
                         · rw [List.mem_singleton] at hp; subst hp; exact h.net p hqm)
        · rw [if_neg k3] at hd; cases hd
end Go.Proofs.YtkhoengjdfmfaaaGreat
namespace Go.Proofs.YtkhoengjdfmfaaaGreat
abbrev psC (r : Ps) : List AV := [.int .i64 r.k, .int .i64 r.a, .int .i64 r.t, .int .i64 r.i] ++ slC r.s
abbrev psV (r : Ps) : AV := .agg (psC r)
set_option maxHeartbeats 8000000 in
theorem pwrite_bad (b : Nat) (B : List (List Sl)) (L : List Pk) (r : Ps) (hn : B.length ≤ 8) (hbad : ¬ (0 ≤ r.a ∧ r.a < B.length ∧ r.s.tab = r.a)) (σ : List Ent) :
    SCall Tryz.prog 48 [.ptr b 0, psV r] (stE b B L :: σ) (Is (.int .i64 1) (stE b B L :: σ)) := by
  refine scall_of Tryz.func48 rfl (by simp) ?_
  have hi := fun σ => in_c r.a 0 ((B.length : Int) - 1) σ
  have hq : inB r.a 0 ((B.length : Int) - 1) = decide (0 ≤ r.a ∧ r.a < B.length) := by unfold inB; rw [Bool.eq_iff_iff]; simp; omega
  rw [hq] at hi
  refine zX (zZ ?_); refine xBb ?_; intro _; refine xAs ?_; refine zY ?_; refine zX ?_; refine zX ?_; rotate_left
  (all_goals (repeat (rename BV _ _ => hbv; first | cases hbv | clear hbv)))
  all_goals (try (first | cases ‹true = false› | cases ‹false = true›))
  refine ex_drawLK anyK 19 [9] rfl (by kernel_rfl) rfl ?_
  simp only [List.take_succ_cons, List.take_zero, List.drop_succ_cons, List.drop_zero]
  refine wFa ?_; refine wLd ?_; refine wMv ?_; apply wl_is; rfl; rfl; rfl; (intro σ' hl; (apply g_nilCheck; rfl; rfl)); refine wFa ?_; refine wFa ?_; refine wLd ?_; apply wl_is; rfl; rfl; rfl; (intro σ' hl; (apply g_len; rfl; rfl; (exact (List.length_map _).symm))); apply wl_is; rfl; rfl; rfl; (intro σ' hl; (apply g_sub; rfl; rfl; rfl; exact ⟨by omega, by omega⟩)); refine wl_eff rfl rfl rfl (zK rfl rfl (zV (by kernel_rfl)) (hi _)) ?_; rintro _ _ ⟨⟩; refine ⟨fun _ _ h => h, ?_⟩; apply wl_isB; rfl; rfl; rfl; (intro σ' hl; (apply g_not; rfl)); intro _ _; refine wMv ?_; refine q_w (fun h h_k => ?_) (fun h h_k => ?_) <;> ((try subst h_k); (have hp := h; try simp only [q_n] at hp); (try (exfalso; first | omega | (cases hp; done))));
  refine wSk ?_; refine wSk ?_; refine wSk ?_; refine wSk ?_; refine wSk ?_; refine wSk ?_; apply wl_is; rfl; rfl; rfl; (intro σ' hl; (apply g_pick_t; rfl; (rfl); rfl)); refine wl_nil ?_; refine zY ?_; refine ex_cond_t rfl (by rfl) ?_; refine zX (zZ ?_); refine xAs ?_; refine zY ?_; refine zJ ?_; simp only [zP, zU, zT, zW, retA, ↓reduceIte, Nat.reduceEqDiff]; rotate_left; refine vFa ?_; refine vFa ?_; refine vLd ?_; refine vFa ?_; refine vLd ?_; refine vBi ?_; intro _ _; apply wl_is; rfl; rfl; rfl; (intro σ' hl; (apply g_pick_f; rfl; (rfl); rfl)); refine wl_nil ?_; refine zY ?_; refine q_c (fun h h_k => ?_) (fun h h_k => ?_) <;> ((try subst h_k); (have hp := h; try simp only [q_n] at hp); (try (exfalso; first | omega | (cases hp; done))));
  refine zX (zZ ?_); refine xAs ?_; refine zY ?_; refine zJ ?_; simp only [zP, zU, zT, zW, retA, ↓reduceIte, Nat.reduceEqDiff]; rotate_left
  (all_goals (repeat (rename BV _ _ => hbv; first | cases hbv | clear hbv)))
  all_goals (try (first | cases ‹true = false› | cases ‹false = true›))
  all_goals
    refine q_rq (σ3 := stE b B L :: σ) ?_
    exact fin_done .mk
set_option maxHeartbeats 8000000 in
theorem pwrite_ok (b k : Nat) (B : List (List Sl)) (L : List Pk) (r : Ps) (hn : B.length ≤ 8) (hk : k < B.length) (ha : r.a = k) (ht : r.s.tab = r.a) (l : List Sl) (hl : B[k]? = some l) (e : Int) (he : (writeS l r.s).2 = e) (σ : List Ent) :
    SCall Tryz.prog 48 [.ptr b 0, psV r] (stE b B L :: σ) (Is (.int .i64 e) (stE b (if e = 0 then B.set k (writeS l r.s).1 else B) L :: σ)) := by
  refine scall_of Tryz.func48 rfl (by simp) ?_
  have hi : ∀ σ, SCall Tryz.prog 44 [.int .i64 r.a, .int .i64 0, .int .i64 ((B.length : Int) - 1)] σ (Is (.bool true) σ) := fun σ => by
    have h0 := in_c r.a 0 ((B.length : Int) - 1) σ
    rwa [show inB r.a 0 ((B.length : Int) - 1) = true by unfold inB; simp; omega] at h0
  have hw := fun σ => write_c l r.s σ
  have hg := bk_get hl
  rw [he] at hw
  obtain ⟨l', hl'⟩ : ∃ l', (writeS l r.s).1 = l' := ⟨_, rfl⟩
  rw [hl'] at hw ⊢
  refine zX (zZ ?_); refine xBb ?_; intro _; refine xAs ?_; refine zY ?_; refine zX ?_; refine zX ?_; rotate_left
  (all_goals (repeat (rename BV _ _ => hbv; first | cases hbv | clear hbv)))
  all_goals (try (first | cases ‹true = false› | cases ‹false = true›))
  refine ex_drawLK anyK 19 [9] rfl (by kernel_rfl) rfl ?_
  simp only [List.take_succ_cons, List.take_zero, List.drop_succ_cons, List.drop_zero]
  refine wFa ?_; refine wLd ?_; refine wMv ?_; apply wl_is; rfl; rfl; rfl; (intro σ' hl; (apply g_nilCheck; rfl; rfl)); refine wFa ?_; refine wFa ?_; refine wLd ?_; apply wl_is; rfl; rfl; rfl; (intro σ' hl; (apply g_len; rfl; rfl; (exact (List.length_map _).symm))); apply wl_is; rfl; rfl; rfl; (intro σ' hl; (apply g_sub; rfl; rfl; rfl; exact ⟨by omega, by omega⟩)); refine wl_eff rfl rfl rfl (zK rfl rfl (zV (by kernel_rfl)) (hi _)) ?_; rintro _ _ ⟨⟩; refine ⟨fun _ _ h => h, ?_⟩; apply wl_isB; rfl; rfl; rfl; (intro σ' hl; (apply g_not; rfl)); intro _ _; refine wMv ?_; refine q_w (fun h h_k => ?_) (fun h h_k => ?_) <;> ((try subst h_k); (have hp := h; try simp only [q_n] at hp); (try (exfalso; first | omega | (cases hp; done))));
  refine vFa ?_; refine vFa ?_; refine vLd ?_; refine vFa ?_; refine vLd ?_; refine vBi ?_; intro _ _; apply wl_is; rfl; rfl; rfl; (intro σ' hl; (apply g_pick_f; rfl; (rfl); rfl)); refine wl_nil ?_; refine zY ?_; refine q_c (fun h h_k => ?_) (fun h h_k => ?_) <;> ((try subst h_k); (have hp := h; try simp only [q_n] at hp); (try (exfalso; first | omega | (cases hp; done))));
  refine zR ?_; refine zX ?_; rotate_left
  (all_goals (repeat (rename BV _ _ => hbv; first | cases hbv | clear hbv)))
  all_goals (try (first | cases ‹true = false› | cases ‹false = true›))
  rename Nat => b3; revert b3
  intro b3
  have hput : ∀ {σ σ' : List Ent}, Upd σ (stE b B L) (stE b (B.set k l') L) σ' → SCall Tryz.prog 82 [.ptr b 0, .int .i64 r.a, .agg (bkC l')] σ (Is (.tup []) σ') := fun h => by rw [ha]; exact put_c hk hn h
  by_cases he0 : e = 0
  · subst he0
    rw [if_pos rfl]
    refine ex_drfT (fun x => x = stE b B L ∨ x = .cells b3 (psC r) 45) [15, 16] 17 rfl (by kernel_rfl) rfl ?_
    refine dVl ?_; refine dMv ?_; refine dVl ?_; apply drv_is; rfl; rfl; (intro σ' hl; (apply g_nilCheck; rfl; rfl)); refine dVl ?_; refine dFa ?_; refine dVl ?_; refine dFa ?_; refine dVl ?_; refine dLd ?_; refine dVl ?_; refine dFa ?_; refine dVl ?_; refine dLd ?_; refine dVl ?_; apply drv_is; rfl; rfl; (intro σ' hl; (apply g_indexDl; rfl; rfl; rfl; (assumption); (assumption))); refine dVl ?_; refine dLa ?_; refine dVl ?_; refine dFa ?_; refine dVl ?_; refine dLa ?_; refine dVl ?_; apply drv_is; rfl; rfl; (intro σ' hl; (refine zK rfl rfl (zV (by kernel_rfl)) ?_; exact hw _)); refine dVl ?_; refine dMv ?_; refine dVl ?_; refine dEx ?_; refine dVl ?_; refine dEx ?_; refine drf_one rfl rfl ?_; refine drs_box rfl rfl (g_alloc rfl) ?_; intro _; refine drf_one rfl rfl ?_; apply drs_do; rfl; rfl; (apply g_store'; rfl; rfl; rfl; (exact Upd.here); (simp only [setL, q_z, AV.cells]; rfl); rfl; rfl; rfl; exact q_b rfl); (rintro _ (rfl | rfl | rfl) _ <;> exact (by (repeat first | exact q_h | apply q_t | assumption); done)); refine drf_nil rfl ?_; refine xAs ?_; refine zY ?_; refine zX ?_; refine zX (zZ ?_); refine xMv ?_; refine xBi ?_; intro _ _; refine zY ?_; refine q_c (fun h h_k => ?_) (fun h h_k => ?_) <;> ((try subst h_k); (have hp := h; try simp only [q_n] at hp); (try (exfalso; first | omega | (cases hp; done))));
    refine zZ ?_; refine xMv ?_; refine xFa ?_; refine xLd ?_; refine xLa ?_; apply zQ; rfl; rfl; rfl; (refine zK rfl rfl (zV (by kernel_rfl)) ?_; exact hput (by (exact Upd.there (Upd.there (Upd.here))))); refine zY ?_; refine zX (zZ ?_); refine xMv ?_; refine xAs ?_; refine zY ?_; refine zJ ?_; simp only [zP, zU, zT, zW, retA, ↓reduceIte, Nat.reduceEqDiff]; rotate_left
    (all_goals (repeat (rename BV _ _ => hbv; first | cases hbv | clear hbv)))
    all_goals (try (first | cases ‹true = false› | cases ‹false = true›))
    refine q_rq (σ3 := stE b (B.set k l') L :: σ) ?_
    exact fin_done .mk
  · rw [if_neg he0]
    refine ex_drfT (fun x => x = stE b B L ∨ x = .cells b3 (psC r) 45) [15, 16] 17 rfl (by kernel_rfl) rfl ?_
    refine dVl ?_; refine dMv ?_; refine dVl ?_; apply drv_is; rfl; rfl; (intro σ' hl; (apply g_nilCheck; rfl; rfl)); refine dVl ?_; refine dFa ?_; refine dVl ?_; refine dFa ?_; refine dVl ?_; refine dLd ?_; refine dVl ?_; refine dFa ?_; refine dVl ?_; refine dLd ?_; refine dVl ?_; apply drv_is; rfl; rfl; (intro σ' hl; (apply g_indexDl; rfl; rfl; rfl; (assumption); (assumption))); refine dVl ?_; refine dLa ?_; refine dVl ?_; refine dFa ?_; refine dVl ?_; refine dLa ?_; refine dVl ?_; apply drv_is; rfl; rfl; (intro σ' hl; (refine zK rfl rfl (zV (by kernel_rfl)) ?_; exact hw _)); refine dVl ?_; refine dMv ?_; refine dVl ?_; refine dEx ?_; refine dVl ?_; refine dEx ?_; refine drf_one rfl rfl ?_; refine drs_box rfl rfl (g_alloc rfl) ?_; intro _; refine drf_one rfl rfl ?_; apply drs_do; rfl; rfl; (apply g_store'; rfl; rfl; rfl; (exact Upd.here); (simp only [setL, q_z, AV.cells]; rfl); rfl; rfl; rfl; exact q_b rfl); (rintro _ (rfl | rfl | rfl) _ <;> exact (by (repeat first | exact q_h | apply q_t | assumption); done)); refine drf_nil rfl ?_; refine xAs ?_; refine zY ?_; refine zX ?_; refine zX (zZ ?_); refine xMv ?_; refine xBi ?_; intro _ _; refine zY ?_; refine q_c (fun h h_k => ?_) (fun h h_k => ?_) <;> ((try subst h_k); (have hp := h; try simp only [q_n] at hp); (try (exfalso; first | omega | (cases hp; done))));
    refine zR ?_; refine zX (zZ ?_); refine xMv ?_; refine xAs ?_; refine zY ?_; refine zJ ?_; simp only [zP, zU, zT, zW, retA, ↓reduceIte, Nat.reduceEqDiff]; rotate_left
    (all_goals (repeat (rename BV _ _ => hbv; first | cases hbv | clear hbv)))
    all_goals (try (first | cases ‹true = false› | cases ‹false = true›))
    refine q_rq (σ3 := stE b B L :: σ) ?_
    exact fin_done .mk
end Go.Proofs.YtkhoengjdfmfaaaGreat
namespace Go.Proofs.YtkhoengjdfmfaaaGreat
abbrev st0 (b : Nat) (B : List (List Sl)) : Ent := .cells b [bks B, .slv nilS, .slv nilS] 102
set_option maxHeartbeats 8000000 in
theorem plose_out (b : Nat) (B : List (List Sl)) (L : List Pk) (r : Ps) (h0 : ∀ p ∈ L, OkP p) (hl : L.length ≤ 4096) (ho : r.i < 0 ∨ (L.length : Int) ≤ r.i) (σ : List Ent) :
    SCall Tryz.prog 51 [.ptr b 0, psV r] (stE b B L :: σ) (Is (.int .i64 1) (st0 b B :: σ)) := by
  refine scall_of Tryz.func51 rfl (by simp) ?_
  have hc := fun σ => lose_out L h0 hl r.i ho σ
  clear h0 ho
  refine zX (zZ ?_); refine xBb ?_; intro _; refine xAs ?_; refine zY ?_; refine zX ?_; rotate_left
  (all_goals (repeat (rename BV _ _ => hbv; first | cases hbv | clear hbv)))
  all_goals (try (first | cases ‹true = false› | cases ‹false = true›))
  rename Nat => b3; revert b3
  intro b3
  refine ex_drfT (fun x => x = .cells b3 (psC r) 45) [5, 15] 16 rfl (by kernel_rfl) rfl ?_
  refine dVl ?_; refine dMv ?_; refine dVl ?_; refine dMv ?_; refine dVl ?_; apply drv_is; rfl; rfl; (intro σ' hl; (apply g_nilCheck; rfl; rfl)); refine dVl ?_; refine dFa ?_; refine dVl ?_; refine dFa ?_; refine dVl ?_; refine dFa ?_; refine dVl ?_; refine dLd ?_; refine drf_one rfl rfl ?_; apply drs_is; rfl; rfl; (apply g_loadAgg; rfl; decide; rfl; (exact .p (by (repeat first | exact q_h | apply q_t | assumption); done) rfl rfl)); refine dVl ?_; apply drv_is; rfl; rfl; (intro σ' hl; (refine zK rfl rfl (zV (by kernel_rfl)) ?_; exact hc _)); refine dVl ?_; refine dMv ?_; refine dVl ?_; refine dEx ?_; refine dVl ?_; refine dEx ?_; refine dVl ?_; apply drv_is; rfl; rfl; (intro σ' hl; (apply g_nilCheck; rfl; rfl)); refine dVl ?_; refine dFa ?_; refine dVl ?_; refine dFa ?_; refine drf_one rfl rfl ?_; apply drs_do; rfl; rfl; (apply g_store'; rfl; rfl; rfl; (exact Upd.there (Upd.here)); (simp only [setL, q_z, AV.cells]; rfl); rfl; rfl; rfl; exact q_b rfl); (rintro _ (rfl | rfl | rfl) _ <;> exact (by (repeat first | exact q_h | apply q_t | assumption); done)); refine drf_nil rfl ?_; refine xAs ?_; refine zY ?_; refine zX (zZ ?_); refine xMv ?_; refine xAs ?_; refine zY ?_; refine zJ ?_; simp only [zP, zU, zT, zW, retA, ↓reduceIte, Nat.reduceEqDiff]; rotate_left
  (all_goals (repeat (rename BV _ _ => hbv; first | cases hbv | clear hbv)))
  all_goals (try (first | cases ‹true = false› | cases ‹false = true›))
  all_goals
    refine q_rq (σ3 := st0 b B :: σ) ?_
    exact fin_done .mk
set_option maxHeartbeats 8000000 in
theorem plose_in (b : Nat) (B : List (List Sl)) (L : List Pk) (r : Ps) (h0 : ∀ p ∈ L, OkP p) (hl : L.length ≤ 4096) (k : Nat) (p : Pk) (hk : L[k]? = some p) (hi : r.i = k) (σ : List Ent) :
    SCall Tryz.prog 51 [.ptr b 0, psV r] (stE b B L :: σ) (Is (.int .i64 0) (stE b B (L.eraseIdx k) :: σ)) := by
  refine scall_of Tryz.func51 rfl (by simp) ?_
  have hc := fun σ => lose_in L h0 hl k p hk σ
  rw [← hi] at hc
  clear h0 hk
  refine zX (zZ ?_); refine xBb ?_; intro _; refine xAs ?_; refine zY ?_; refine zX ?_; rotate_left
  (all_goals (repeat (rename BV _ _ => hbv; first | cases hbv | clear hbv)))
  all_goals (try (first | cases ‹true = false› | cases ‹false = true›))
  rename Nat => b3; revert b3
  intro b3
  refine ex_drfT (fun x => x = .cells b3 (psC r) 45) [5, 15] 16 rfl (by kernel_rfl) rfl ?_
  refine dVl ?_; refine dMv ?_; refine dVl ?_; refine dMv ?_; refine dVl ?_; apply drv_is; rfl; rfl; (intro σ' hl; (apply g_nilCheck; rfl; rfl)); refine dVl ?_; refine dFa ?_; refine dVl ?_; refine dFa ?_; refine dVl ?_; refine dFa ?_; refine dVl ?_; refine dLd ?_; refine drf_one rfl rfl ?_; apply drs_is; rfl; rfl; (apply g_loadAgg; rfl; decide; rfl; (exact .p (by (repeat first | exact q_h | apply q_t | assumption); done) rfl rfl)); refine dVl ?_; apply drv_is; rfl; rfl; (intro σ' hl; (refine zK rfl rfl (zV (by kernel_rfl)) ?_; exact hc _)); refine dVl ?_; refine dMv ?_; refine dVl ?_; refine dEx ?_; refine dVl ?_; refine dEx ?_; refine dVl ?_; apply drv_is; rfl; rfl; (intro σ' hl; (apply g_nilCheck; rfl; rfl)); refine dVl ?_; refine dFa ?_; refine dVl ?_; refine dFa ?_; refine drf_one rfl rfl ?_; apply drs_do; rfl; rfl; (apply g_store'; rfl; rfl; rfl; (exact Upd.there (Upd.here)); (simp only [setL, q_z, AV.cells]; rfl); rfl; rfl; rfl; exact q_b rfl); (rintro _ (rfl | rfl | rfl) _ <;> exact (by (repeat first | exact q_h | apply q_t | assumption); done)); refine drf_nil rfl ?_; refine xAs ?_; refine zY ?_; refine zX (zZ ?_); refine xMv ?_; refine xAs ?_; refine zY ?_; refine zJ ?_; simp only [zP, zU, zT, zW, retA, ↓reduceIte, Nat.reduceEqDiff]; rotate_left
  (all_goals (repeat (rename BV _ _ => hbv; first | cases hbv | clear hbv)))
  all_goals (try (first | cases ‹true = false› | cases ‹false = true›))
  all_goals
    refine q_rq (σ3 := stE b B (L.eraseIdx k) :: σ) ?_
    exact fin_done .mk
set_option maxHeartbeats 8000000 in
theorem prepeat_out (b : Nat) (B : List (List Sl)) (L : List Pk) (r : Ps) (h0 : ∀ p ∈ L, OkP p) (hl : L.length ≤ 4096) (ho : r.i < 0 ∨ (L.length : Int) ≤ r.i) (σ : List Ent) :
    SCall Tryz.prog 52 [.ptr b 0, psV r] (stE b B L :: σ) (Is (.int .i64 1) (st0 b B :: σ)) := by
  refine scall_of Tryz.func52 rfl (by simp) ?_
  have hc := fun σ => repeat_out L h0 hl r.i ho σ
  clear h0 ho
  refine zX (zZ ?_); refine xBb ?_; intro _; refine xAs ?_; refine zY ?_; refine zX ?_; rotate_left
  (all_goals (repeat (rename BV _ _ => hbv; first | cases hbv | clear hbv)))
  all_goals (try (first | cases ‹true = false› | cases ‹false = true›))
  rename Nat => b3; revert b3
  intro b3
  refine ex_drfT (fun x => x = .cells b3 (psC r) 45) [5, 15] 16 rfl (by kernel_rfl) rfl ?_
  refine dVl ?_; refine dMv ?_; refine dVl ?_; refine dMv ?_; refine dVl ?_; apply drv_is; rfl; rfl; (intro σ' hl; (apply g_nilCheck; rfl; rfl)); refine dVl ?_; refine dFa ?_; refine dVl ?_; refine dFa ?_; refine dVl ?_; refine dFa ?_; refine dVl ?_; refine dLd ?_; refine drf_one rfl rfl ?_; apply drs_is; rfl; rfl; (apply g_loadAgg; rfl; decide; rfl; (exact .p (by (repeat first | exact q_h | apply q_t | assumption); done) rfl rfl)); refine dVl ?_; apply drv_is; rfl; rfl; (intro σ' hl; (refine zK rfl rfl (zV (by kernel_rfl)) ?_; exact hc _)); refine dVl ?_; refine dMv ?_; refine dVl ?_; refine dEx ?_; refine dVl ?_; refine dEx ?_; refine dVl ?_; apply drv_is; rfl; rfl; (intro σ' hl; (apply g_nilCheck; rfl; rfl)); refine dVl ?_; refine dFa ?_; refine dVl ?_; refine dFa ?_; refine drf_one rfl rfl ?_; apply drs_do; rfl; rfl; (apply g_store'; rfl; rfl; rfl; (exact Upd.there (Upd.here)); (simp only [setL, q_z, AV.cells]; rfl); rfl; rfl; rfl; exact q_b rfl); (rintro _ (rfl | rfl | rfl) _ <;> exact (by (repeat first | exact q_h | apply q_t | assumption); done)); refine drf_nil rfl ?_; refine xAs ?_; refine zY ?_; refine zX (zZ ?_); refine xMv ?_; refine xAs ?_; refine zY ?_; refine zJ ?_; simp only [zP, zU, zT, zW, retA, ↓reduceIte, Nat.reduceEqDiff]; rotate_left
  (all_goals (repeat (rename BV _ _ => hbv; first | cases hbv | clear hbv)))
  all_goals (try (first | cases ‹true = false› | cases ‹false = true›))
  all_goals
    refine q_rq (σ3 := st0 b B :: σ) ?_
    exact fin_done .mk
set_option maxHeartbeats 8000000 in
theorem prepeat_full (b : Nat) (B : List (List Sl)) (L : List Pk) (r : Ps) (h0 : ∀ p ∈ L, OkP p) (hl : L.length ≤ 4096) (k : Nat) (p : Pk) (hk : L[k]? = some p) (hi : r.i = k) (he : L.length = 4096) (σ : List Ent) :
    SCall Tryz.prog 52 [.ptr b 0, psV r] (stE b B L :: σ) (Is (.int .i64 2) (st0 b B :: σ)) := by
  refine scall_of Tryz.func52 rfl (by simp) ?_
  have hc := fun σ => repeat_in L h0 hl k p hk σ
  unfold sendR at hc
  rw [← hi, if_pos he] at hc
  clear h0 hk
  refine zX (zZ ?_); refine xBb ?_; intro _; refine xAs ?_; refine zY ?_; refine zX ?_; rotate_left
  (all_goals (repeat (rename BV _ _ => hbv; first | cases hbv | clear hbv)))
  all_goals (try (first | cases ‹true = false› | cases ‹false = true›))
  rename Nat => b3; revert b3
  intro b3
  refine ex_drfT (fun x => x = .cells b3 (psC r) 45) [5, 15] 16 rfl (by kernel_rfl) rfl ?_
  refine dVl ?_; refine dMv ?_; refine dVl ?_; refine dMv ?_; refine dVl ?_; apply drv_is; rfl; rfl; (intro σ' hl; (apply g_nilCheck; rfl; rfl)); refine dVl ?_; refine dFa ?_; refine dVl ?_; refine dFa ?_; refine dVl ?_; refine dFa ?_; refine dVl ?_; refine dLd ?_; refine drf_one rfl rfl ?_; apply drs_is; rfl; rfl; (apply g_loadAgg; rfl; decide; rfl; (exact .p (by (repeat first | exact q_h | apply q_t | assumption); done) rfl rfl)); refine dVl ?_; apply drv_is; rfl; rfl; (intro σ' hl; (refine zK rfl rfl (zV (by kernel_rfl)) ?_; exact hc _)); refine dVl ?_; refine dMv ?_; refine dVl ?_; refine dEx ?_; refine dVl ?_; refine dEx ?_; refine dVl ?_; apply drv_is; rfl; rfl; (intro σ' hl; (apply g_nilCheck; rfl; rfl)); refine dVl ?_; refine dFa ?_; refine dVl ?_; refine dFa ?_; refine drf_one rfl rfl ?_; apply drs_do; rfl; rfl; (apply g_store'; rfl; rfl; rfl; (exact Upd.there (Upd.here)); (simp only [setL, q_z, AV.cells]; rfl); rfl; rfl; rfl; exact q_b rfl); (rintro _ (rfl | rfl | rfl) _ <;> exact (by (repeat first | exact q_h | apply q_t | assumption); done)); refine drf_nil rfl ?_; refine xAs ?_; refine zY ?_; refine zX (zZ ?_); refine xMv ?_; refine xAs ?_; refine zY ?_; refine zJ ?_; simp only [zP, zU, zT, zW, retA, ↓reduceIte, Nat.reduceEqDiff]; rotate_left
  (all_goals (repeat (rename BV _ _ => hbv; first | cases hbv | clear hbv)))
  all_goals (try (first | cases ‹true = false› | cases ‹false = true›))
  all_goals
    refine q_rq (σ3 := st0 b B :: σ) ?_
    exact fin_done .mk
set_option maxHeartbeats 8000000 in
theorem prepeat_in (b : Nat) (B : List (List Sl)) (L : List Pk) (r : Ps) (h0 : ∀ p ∈ L, OkP p) (hl : L.length ≤ 4096) (k : Nat) (p : Pk) (hk : L[k]? = some p) (hi : r.i = k) (he : ¬ L.length = 4096) (σ : List Ent) :
    SCall Tryz.prog 52 [.ptr b 0, psV r] (stE b B L :: σ) (Is (.int .i64 0) (stE b B (L ++ [p]) :: σ)) := by
  refine scall_of Tryz.func52 rfl (by simp) ?_
  have hc := fun σ => repeat_in L h0 hl k p hk σ
  unfold sendR at hc
  rw [← hi, if_neg he] at hc
  clear h0 hk
  refine zX (zZ ?_); refine xBb ?_; intro _; refine xAs ?_; refine zY ?_; refine zX ?_; rotate_left
  (all_goals (repeat (rename BV _ _ => hbv; first | cases hbv | clear hbv)))
  all_goals (try (first | cases ‹true = false› | cases ‹false = true›))
  rename Nat => b3; revert b3
  intro b3
  refine ex_drfT (fun x => x = .cells b3 (psC r) 45) [5, 15] 16 rfl (by kernel_rfl) rfl ?_
  refine dVl ?_; refine dMv ?_; refine dVl ?_; refine dMv ?_; refine dVl ?_; apply drv_is; rfl; rfl; (intro σ' hl; (apply g_nilCheck; rfl; rfl)); refine dVl ?_; refine dFa ?_; refine dVl ?_; refine dFa ?_; refine dVl ?_; refine dFa ?_; refine dVl ?_; refine dLd ?_; refine drf_one rfl rfl ?_; apply drs_is; rfl; rfl; (apply g_loadAgg; rfl; decide; rfl; (exact .p (by (repeat first | exact q_h | apply q_t | assumption); done) rfl rfl)); refine dVl ?_; apply drv_is; rfl; rfl; (intro σ' hl; (refine zK rfl rfl (zV (by kernel_rfl)) ?_; exact hc _)); refine dVl ?_; refine dMv ?_; refine dVl ?_; refine dEx ?_; refine dVl ?_; refine dEx ?_; refine dVl ?_; apply drv_is; rfl; rfl; (intro σ' hl; (apply g_nilCheck; rfl; rfl)); refine dVl ?_; refine dFa ?_; refine dVl ?_; refine dFa ?_; refine drf_one rfl rfl ?_; apply drs_do; rfl; rfl; (apply g_store'; rfl; rfl; rfl; (exact Upd.there (Upd.here)); (simp only [setL, q_z, AV.cells]; rfl); rfl; rfl; rfl; exact q_b rfl); (rintro _ (rfl | rfl | rfl) _ <;> exact (by (repeat first | exact q_h | apply q_t | assumption); done)); refine drf_nil rfl ?_; refine xAs ?_; refine zY ?_; refine zX (zZ ?_); refine xMv ?_; refine xAs ?_; refine zY ?_; refine zJ ?_; simp only [zP, zU, zT, zW, retA, ↓reduceIte, Nat.reduceEqDiff]; rotate_left
  (all_goals (repeat (rename BV _ _ => hbv; first | cases hbv | clear hbv)))
  all_goals (try (first | cases ‹true = false› | cases ‹false = true›))
  all_goals
    refine q_rq (σ3 := stE b B (L ++ [p]) :: σ) ?_
    exact fin_done .mk
end Go.Proofs.YtkhoengjdfmfaaaGreat
namespace Go.Proofs.YtkhoengjdfmfaaaGreat
set_option maxHeartbeats 8000000 in
theorem pdeliver_out (b : Nat) (B : List (List Sl)) (L : List Pk) (r : Ps) (h0 : ∀ p ∈ L, OkP p) (hl : L.length ≤ 4096) (ho : r.i < 0 ∨ (L.length : Int) ≤ r.i) (σ : List Ent) :
    SCall Tryz.prog 50 [.ptr b 0, psV r] (stE b B L :: σ) (Is (.int .i64 1) (stE b B L :: σ)) := by
  refine scall_of Tryz.func50 rfl (by simp) ?_
  have hc := fun σ => deliver_out L h0 hl r.i ho σ
  clear h0 ho
  refine zX (zZ ?_); refine xBb ?_; intro _; refine xAs ?_; refine zY ?_; refine zX ?_; rotate_left
  (all_goals (repeat (rename BV _ _ => hbv; first | cases hbv | clear hbv)))
  all_goals (try (first | cases ‹true = false› | cases ‹false = true›))
  rename Nat => b3; revert b3
  intro b3
  refine ex_joinT (fun (z : Nat × Nat) => (⟨[(0, .ptr b 0), (3, .ptr b3 0), (4, .int .i64 1)], stE b B L :: σ, [], Tryz.f50.ntmps⟩ : St)) ?_ ?_
  · refine ex_drfT (fun x => x = stE b B L ∨ x = .cells b3 (psC r) 45) [12, 13, 14, 15] 16 rfl (by kernel_rfl) rfl ?_
    refine dVl ?_; refine dMv ?_; refine dVl ?_; apply drv_is; rfl; rfl; (intro σ' hl; (apply g_nilCheck; rfl; rfl)); refine dVl ?_; refine dFa ?_; refine dVl ?_; refine dFa ?_; refine dVl ?_; refine dLa ?_; refine dVl ?_; refine dFa ?_; refine dVl ?_; refine dLd ?_; refine dVl ?_; apply drv_is; rfl; rfl; (intro σ' hl; (refine zK rfl rfl (zV (by kernel_rfl)) ?_; exact hc _)); refine dVl ?_; refine dMv ?_; refine dVl ?_; refine dEx ?_; refine dVl ?_; refine dEx ?_; refine dVl ?_; refine dEx ?_; refine drf_two rfl rfl rfl ?_ ?_; refine drs_box rfl rfl (g_alloc rfl) ?_; intro _; refine drf_one rfl rfl ?_; refine drs_box rfl rfl (g_alloc rfl) ?_; intro _; refine drf_one rfl rfl ?_; apply drs_do; rfl; rfl; (apply g_store'; rfl; rfl; rfl; (exact Upd.there (Upd.here)); (simp only [setL, q_z, AV.cells]; rfl); rfl; rfl; rfl; exact q_b rfl); (rintro _ (rfl | rfl | rfl) _ <;> exact (by (repeat first | exact q_h | apply q_t | assumption); done)); refine drf_one rfl rfl ?_; apply drs_do; rfl; rfl; (apply g_store'; rfl; rfl; rfl; (exact Upd.here); (simp only [setL, q_z, AV.cells]; rfl); rfl; rfl; rfl; exact q_b rfl); (rintro _ (rfl | rfl | rfl) _ <;> exact (by (repeat first | exact q_h | apply q_t | assumption); done)); refine drf_nil rfl ?_; refine xAs ?_; refine zN ?_; simp only [zP, zU, zT, zW, retA, ↓reduceIte, Nat.reduceEqDiff]; rotate_left; refine drs_box rfl rfl (g_alloc rfl) ?_; intro _; refine drf_one rfl rfl ?_; refine drs_box rfl rfl (g_alloc rfl) ?_; intro _; refine drf_one rfl rfl ?_; apply drs_do; rfl; rfl; (apply g_store'; rfl; rfl; rfl; (exact Upd.here); (simp only [setL, q_z, AV.cells]; rfl); rfl; rfl; rfl; exact q_b rfl); (rintro _ (rfl | rfl | rfl) _ <;> exact (by (repeat first | exact q_h | apply q_t | assumption); done)); refine drf_one rfl rfl ?_; apply drs_do; rfl; rfl; (apply g_store'; rfl; rfl; rfl; (exact Upd.there (Upd.here)); (simp only [setL, q_z, AV.cells]; rfl); rfl; rfl; rfl; exact q_b rfl); (rintro _ (rfl | rfl | rfl) _ <;> exact (by (repeat first | exact q_h | apply q_t | assumption); done)); refine drf_nil rfl ?_; refine xAs ?_; refine zN ?_; simp only [zP, zU, zT, zW, retA, ↓reduceIte, Nat.reduceEqDiff]; rotate_left
    (all_goals (repeat (rename BV _ _ => hbv; first | cases hbv | clear hbv)))
    all_goals (try (first | cases ‹true = false› | cases ‹false = true›))
    all_goals exact ⟨(0, 0), _, List.Perm.refl _, (St.le_of (by repeat (first | exact trivial | refine ⟨rfl, ?_⟩)) (by repeat (first | exact q_r | apply q_q | apply q_k | exact q_a)))⟩
  · rintro ⟨_, _⟩
    refine zX ?_; refine zX (zZ ?_); refine xMv ?_; refine xBi ?_; intro _ _; refine zY ?_; refine q_c (fun h h_k => ?_) (fun h h_k => ?_) <;> ((try subst h_k); (have hp := h; try simp only [q_n] at hp); (try (exfalso; first | omega | (cases hp; done))));
    refine zX (zZ ?_); refine xMv ?_; refine xAs ?_; refine zY ?_; refine zJ ?_; simp only [zP, zU, zT, zW, retA, ↓reduceIte, Nat.reduceEqDiff]; rotate_left
    (all_goals (repeat (rename BV _ _ => hbv; first | cases hbv | clear hbv)))
    all_goals (try (first | cases ‹true = false› | cases ‹false = true›))
    refine q_rq (σ3 := stE b B L :: σ) ?_
    exact fin_done .mk
set_option maxHeartbeats 16000000 in
theorem pdeliver_in (b : Nat) (B : List (List Sl)) (L : List Pk) (r : Ps) (h0 : ∀ p ∈ L, OkP p) (hl : L.length ≤ 4096) (hn : B.length ≤ 8) (k t : Nat) (p : Pk) (hk : L[k]? = some p) (hi : r.i = k) (s : Sl) (hs : Sendable s) (hd : p.d = msgS s) (ht : p.t = (t : Int)) (l : List Sl) (hB : B[t]? = some l) (hlen : l.length ≤ 512) (σ : List Ent) :
    SCall Tryz.prog 50 [.ptr b 0, psV r] (stE b B L :: σ) (Is (.int .i64 0) (stE b (B.set t (heardS l s)) (L.eraseIdx k) :: σ)) := by
  refine scall_of Tryz.func50 rfl (by simp) ?_
  have hc := fun σ => deliver_in L h0 hl k p hk σ
  rw [← hi] at hc
  have hrd : ∀ σ, SCall Tryz.prog 81 [bys p.d] σ (Is (.tup [slV s, .bool true]) σ) := fun σ => by rw [hd]; exact read_c s hs σ
  have hen := fun σ => end_c l s.tab σ
  have had := fun σ => added_c l s (by omega) σ
  have hck := fun σ => check_c (putS l s) σ
  have htB : t < B.length := (List.getElem?_eq_some_iff.1 hB).1
  have hg := bk_get hB
  have hput : ∀ {σ σ' : List Ent}, Upd σ (stE b B (L.eraseIdx k)) (stE b (B.set t (putS l s)) (L.eraseIdx k)) σ' → SCall Tryz.prog 82 [.ptr b 0, .int .i64 p.t, .agg (bkC (putS l s))] σ (Is (.tup []) σ') := fun h => by rw [ht]; exact put_c htB hn h
  have hkeep : B.set t l = B := by
    refine List.ext_getElem? fun j => ?_
    rw [List.getElem?_set]
    split
    · rename_i e; subst e; rw [hB]
    · rfl
  clear h0 hk hs
  refine zX (zZ ?_); refine xBb ?_; intro _; refine xAs ?_; refine zY ?_; refine zX ?_; rotate_left
  (all_goals (repeat (rename BV _ _ => hbv; first | cases hbv | clear hbv)))
  all_goals (try (first | cases ‹true = false› | cases ‹false = true›))
  rename Nat => b3; revert b3
  intro b3
  refine ex_joinT (fun (z : Nat × Nat) => (⟨[(0, .ptr b 0), (3, .ptr b3 0), (4, .int .i64 0), (5, .ptr z.1 0), (6, .ptr z.2 0)], .cells z.2 (netC (L.eraseIdx k)) 39 :: .cells z.1 (pkC p) 93 :: .cells b3 (psC r) 45 :: stE b B L :: σ, [], Tryz.f50.ntmps⟩ : St)) ?_ ?_
  · refine ex_drfT (fun x => x = stE b B L ∨ x = .cells b3 (psC r) 45) [12, 13, 14, 15] 16 rfl (by kernel_rfl) rfl ?_
    refine dVl ?_; refine dMv ?_; refine dVl ?_; apply drv_is; rfl; rfl; (intro σ' hl; (apply g_nilCheck; rfl; rfl)); refine dVl ?_; refine dFa ?_; refine dVl ?_; refine dFa ?_; refine dVl ?_; refine dLa ?_; refine dVl ?_; refine dFa ?_; refine dVl ?_; refine dLd ?_; refine dVl ?_; apply drv_is; rfl; rfl; (intro σ' hl; (refine zK rfl rfl (zV (by kernel_rfl)) ?_; exact hc _)); refine dVl ?_; refine dMv ?_; refine dVl ?_; refine dEx ?_; refine dVl ?_; refine dEx ?_; refine dVl ?_; refine dEx ?_; refine drf_two rfl rfl rfl ?_ ?_; refine drs_box rfl rfl (g_alloc rfl) ?_; intro _; refine drf_one rfl rfl ?_; refine drs_box rfl rfl (g_alloc rfl) ?_; intro _; refine drf_one rfl rfl ?_; apply drs_do; rfl; rfl; (apply g_store'; rfl; rfl; rfl; (exact Upd.there (Upd.here)); (simp only [setL, q_z, AV.cells]; rfl); rfl; rfl; rfl; exact q_b rfl); (rintro _ (rfl | rfl | rfl) _ <;> exact (by (repeat first | exact q_h | apply q_t | assumption); done)); refine drf_one rfl rfl ?_; apply drs_do; rfl; rfl; (apply g_store'; rfl; rfl; rfl; (exact Upd.here); (simp only [setL, q_z, AV.cells]; rfl); rfl; rfl; rfl; exact q_b rfl); (rintro _ (rfl | rfl | rfl) _ <;> exact (by (repeat first | exact q_h | apply q_t | assumption); done)); refine drf_nil rfl ?_; refine xAs ?_; refine zN ?_; simp only [zP, zU, zT, zW, retA, ↓reduceIte, Nat.reduceEqDiff]; rotate_left; refine drs_box rfl rfl (g_alloc rfl) ?_; intro _; refine drf_one rfl rfl ?_; refine drs_box rfl rfl (g_alloc rfl) ?_; intro _; refine drf_one rfl rfl ?_; apply drs_do; rfl; rfl; (apply g_store'; rfl; rfl; rfl; (exact Upd.here); (simp only [setL, q_z, AV.cells]; rfl); rfl; rfl; rfl; exact q_b rfl); (rintro _ (rfl | rfl | rfl) _ <;> exact (by (repeat first | exact q_h | apply q_t | assumption); done)); refine drf_one rfl rfl ?_; apply drs_do; rfl; rfl; (apply g_store'; rfl; rfl; rfl; (exact Upd.there (Upd.here)); (simp only [setL, q_z, AV.cells]; rfl); rfl; rfl; rfl; exact q_b rfl); (rintro _ (rfl | rfl | rfl) _ <;> exact (by (repeat first | exact q_h | apply q_t | assumption); done)); refine drf_nil rfl ?_; refine xAs ?_; refine zN ?_; simp only [zP, zU, zT, zW, retA, ↓reduceIte, Nat.reduceEqDiff]; rotate_left
    (all_goals (repeat (rename BV _ _ => hbv; first | cases hbv | clear hbv)))
    all_goals (try (first | cases ‹true = false› | cases ‹false = true›))
    · exact ⟨(_, _), _, List.Perm.refl _, (St.le_of (by repeat (first | exact trivial | refine ⟨rfl, ?_⟩)) (by repeat (first | exact q_r | apply q_q | apply q_k | exact q_a)))⟩
    · exact ⟨(_, _), _, .swap _ _ _, (St.le_of (by repeat (first | exact trivial | refine ⟨rfl, ?_⟩)) (by repeat (first | exact q_r | apply q_q | apply q_k | exact q_a)))⟩
  · rintro ⟨b5, b6⟩
    dsimp only
    clear hc
    refine zX ?_; refine zX (zZ ?_); refine xMv ?_; refine xBi ?_; intro _ _; refine zY ?_; refine q_c (fun h h_k => ?_) (fun h h_k => ?_) <;> ((try subst h_k); (have hp := h; try simp only [q_n] at hp); (try (exfalso; first | omega | (cases hp; done))));
    refine zR ?_; refine zX (zZ ?_); refine xMv ?_; refine xLa ?_; apply zQ; rfl; rfl; rfl; (apply g_nilCheck; rfl; rfl); refine xFa ?_; refine xFa ?_; refine xSt ?_; refine zY ?_; refine zX (zZ ?_); refine xFa ?_; refine xLd ?_; apply zQ; rfl; rfl; rfl; (refine zK rfl rfl (zV (by kernel_rfl)) ?_; exact hrd _); refine xMv ?_; refine xEx ?_; refine xEx ?_; refine xBa ?_; intro _; refine xSt ?_; refine xAs ?_; refine zY ?_; refine zX ?_; refine zX (zZ ?_); refine xMv ?_; refine xNo ?_; intro _ _; refine zY ?_; refine q_c (fun h h_k => ?_) (fun h h_k => ?_) <;> ((try subst h_k); (have hp := h; try simp only [q_n] at hp); (try (exfalso; first | omega | (cases hp; done))));
    refine zR ?_; refine zX ?_; refine zX ?_; rotate_left
    (all_goals (repeat (rename BV _ _ => hbv; first | cases hbv | clear hbv)))
    all_goals (try (first | cases ‹true = false› | cases ‹false = true›))
    rename Nat => b7; revert b7
    intro b7
    refine ex_weaken (s' := ⟨[(0, .ptr b 0), (3, .ptr b3 0), (4, .int .i64 0), (5, .ptr b5 0), (7, .ptr b7 0)], .cells b7 (slC s) 43 :: .cells b5 (pkC p) 93 :: stE b B (L.eraseIdx k) :: σ, [], Tryz.f50.ntmps⟩) (St.le_of (by repeat (first | exact trivial | refine ⟨rfl, ?_⟩)) (by repeat (first | exact q_r | apply q_q | apply q_k))) ?_
    clear hrd
    by_cases hq : s.seq = (manyS l s.tab : Nat)
    · by_cases hz : checkS (putS l s) = 0
      · rw [show heardS l s = putS l s from if_pos ⟨hq, hz⟩]
        rw [hz] at hck
        clear hkeep
        generalize putS l s = l' at had hck hput
        refine ex_drawLK anyK 17 [] rfl (by kernel_rfl) rfl ?_
        simp only [List.take_succ_cons, List.take_zero, List.drop_succ_cons, List.drop_zero]
        refine wMv ?_; apply wl_is; rfl; rfl; rfl; (intro σ' hl; (apply g_nilCheck; rfl; rfl)); refine wFa ?_; refine wFa ?_; refine wLd ?_; refine wFa ?_; refine wLd ?_; refine wIx ?_; refine wLa ?_; refine wFa ?_; refine wLd ?_; apply wl_is; rfl; rfl; rfl; (intro σ' hl; (refine zK rfl rfl (zV (by kernel_rfl)) ?_; exact hen _)); refine wMv ?_; apply wl_is; rfl; rfl; rfl; (intro σ' hl; (apply g_extract; rfl; rfl)); apply wl_is; rfl; rfl; rfl; (intro σ' hl; (apply g_extract; rfl; rfl)); apply wl_is; rfl; rfl; rfl; (intro σ' hl; (apply g_assign; rfl)); apply wl_is; rfl; rfl; rfl; (intro σ' hl; (apply g_assign; rfl)); refine wl_nil ?_; refine zY ?_; refine zX (zZ ?_); refine xFa ?_; refine xLd ?_; refine xMv ?_; refine xBi ?_; intro _ _; refine zY ?_; refine q_c (fun h h_k => ?_) (fun h h_k => ?_) <;> ((try subst h_k); (have hp := h; try simp only [q_n] at hp); (try (exfalso; first | omega | (cases hp; done))));
        refine zX ?_; rotate_left
        (all_goals (repeat (rename BV _ _ => hbv; first | cases hbv | clear hbv)))
        all_goals (try (first | cases ‹true = false› | cases ‹false = true›))
        refine ex_drfT (fun x => x = stE b B (L.eraseIdx k) ∨ x = .cells b5 (pkC p) 93 ∨ x = .cells b7 (slC s) 43) [11, 12] 13 rfl (by kernel_rfl) rfl ?_
        refine dVl ?_; refine dMv ?_; refine dVl ?_; apply drv_is; rfl; rfl; (intro σ' hl; (apply g_nilCheck; rfl; rfl)); refine dVl ?_; refine dFa ?_; refine dVl ?_; refine dFa ?_; refine dVl ?_; refine dLd ?_; refine dVl ?_; refine dFa ?_; refine dVl ?_; refine dLd ?_; refine dVl ?_; apply drv_is; rfl; rfl; (intro σ' hl; (apply g_indexDl; rfl; rfl; rfl; (assumption); (assumption))); refine dVl ?_; refine dLa ?_; refine dVl ?_; refine dLa ?_; refine dVl ?_; apply drv_is; rfl; rfl; (intro σ' hl; (refine zK rfl rfl (zV (by kernel_rfl)) ?_; exact had _)); refine drf_one rfl rfl ?_; refine drs_box rfl rfl (g_alloc rfl) ?_; intro _; refine drf_one rfl rfl ?_; apply drs_do; rfl; rfl; (apply g_store'; rfl; rfl; rfl; (exact Upd.here); (simp only [setL, q_z, AV.cells]; rfl); rfl; rfl; rfl; exact q_b rfl); (rintro _ (rfl | rfl | rfl) _ <;> exact (by (repeat first | exact q_h | apply q_t | assumption); done)); refine drf_nil rfl ?_; refine zY ?_; refine zX (zZ ?_); refine xLa ?_; apply zQ; rfl; rfl; rfl; (refine zK rfl rfl (zV (by kernel_rfl)) ?_; exact hck _); refine xBi ?_; intro _ _; refine zY ?_; refine q_c (fun h h_k => ?_) (fun h h_k => ?_) <;> ((try subst h_k); (have hp := h; try simp only [q_n] at hp); (try (exfalso; first | omega | (cases hp; done))));
        refine zZ ?_; refine xMv ?_; refine xFa ?_; refine xLd ?_; refine xLa ?_; apply zQ; rfl; rfl; rfl; (refine zK rfl rfl (zV (by kernel_rfl)) ?_; exact hput (by (exact Upd.there (Upd.there (Upd.there (Upd.here)))))); refine zY ?_; refine zX (zZ ?_); refine xAs ?_; refine zY ?_; refine zJ ?_; simp only [zP, zU, zT, zW, retA, ↓reduceIte, Nat.reduceEqDiff]; rotate_left
        (all_goals (repeat (rename BV _ _ => hbv; first | cases hbv | clear hbv)))
        all_goals (try (first | cases ‹true = false› | cases ‹false = true›))
        refine q_rq (σ3 := stE b (B.set t l') (L.eraseIdx k) :: σ) ?_
        exact fin_done .mk
      · rw [show heardS l s = l from if_neg (fun h => hz h.2), hkeep]
        clear hkeep hput
        generalize putS l s = l' at had hck hz
        generalize checkS l' = e at hck hz
        refine ex_drawLK anyK 17 [] rfl (by kernel_rfl) rfl ?_
        simp only [List.take_succ_cons, List.take_zero, List.drop_succ_cons, List.drop_zero]
        refine wMv ?_; apply wl_is; rfl; rfl; rfl; (intro σ' hl; (apply g_nilCheck; rfl; rfl)); refine wFa ?_; refine wFa ?_; refine wLd ?_; refine wFa ?_; refine wLd ?_; refine wIx ?_; refine wLa ?_; refine wFa ?_; refine wLd ?_; apply wl_is; rfl; rfl; rfl; (intro σ' hl; (refine zK rfl rfl (zV (by kernel_rfl)) ?_; exact hen _)); refine wMv ?_; apply wl_is; rfl; rfl; rfl; (intro σ' hl; (apply g_extract; rfl; rfl)); apply wl_is; rfl; rfl; rfl; (intro σ' hl; (apply g_extract; rfl; rfl)); apply wl_is; rfl; rfl; rfl; (intro σ' hl; (apply g_assign; rfl)); apply wl_is; rfl; rfl; rfl; (intro σ' hl; (apply g_assign; rfl)); refine wl_nil ?_; refine zY ?_; refine zX (zZ ?_); refine xFa ?_; refine xLd ?_; refine xMv ?_; refine xBi ?_; intro _ _; refine zY ?_; refine q_c (fun h h_k => ?_) (fun h h_k => ?_) <;> ((try subst h_k); (have hp := h; try simp only [q_n] at hp); (try (exfalso; first | omega | (cases hp; done))));
        refine zX ?_; rotate_left
        (all_goals (repeat (rename BV _ _ => hbv; first | cases hbv | clear hbv)))
        all_goals (try (first | cases ‹true = false› | cases ‹false = true›))
        refine ex_drfT (fun x => x = stE b B (L.eraseIdx k) ∨ x = .cells b5 (pkC p) 93 ∨ x = .cells b7 (slC s) 43) [11, 12] 13 rfl (by kernel_rfl) rfl ?_
        refine dVl ?_; refine dMv ?_; refine dVl ?_; apply drv_is; rfl; rfl; (intro σ' hl; (apply g_nilCheck; rfl; rfl)); refine dVl ?_; refine dFa ?_; refine dVl ?_; refine dFa ?_; refine dVl ?_; refine dLd ?_; refine dVl ?_; refine dFa ?_; refine dVl ?_; refine dLd ?_; refine dVl ?_; apply drv_is; rfl; rfl; (intro σ' hl; (apply g_indexDl; rfl; rfl; rfl; (assumption); (assumption))); refine dVl ?_; refine dLa ?_; refine dVl ?_; refine dLa ?_; refine dVl ?_; apply drv_is; rfl; rfl; (intro σ' hl; (refine zK rfl rfl (zV (by kernel_rfl)) ?_; exact had _)); refine drf_one rfl rfl ?_; refine drs_box rfl rfl (g_alloc rfl) ?_; intro _; refine drf_one rfl rfl ?_; apply drs_do; rfl; rfl; (apply g_store'; rfl; rfl; rfl; (exact Upd.here); (simp only [setL, q_z, AV.cells]; rfl); rfl; rfl; rfl; exact q_b rfl); (rintro _ (rfl | rfl | rfl) _ <;> exact (by (repeat first | exact q_h | apply q_t | assumption); done)); refine drf_nil rfl ?_; refine zY ?_; refine zX (zZ ?_); refine xLa ?_; apply zQ; rfl; rfl; rfl; (refine zK rfl rfl (zV (by kernel_rfl)) ?_; exact hck _); refine xBi ?_; intro _ _; refine zY ?_; refine q_c (fun h h_k => ?_) (fun h h_k => ?_) <;> ((try subst h_k); (have hp := h; try simp only [q_n] at hp); (try (exfalso; first | omega | (cases hp; done))));
        refine zR ?_; refine zX (zZ ?_); refine xAs ?_; refine zY ?_; refine zJ ?_; simp only [zP, zU, zT, zW, retA, ↓reduceIte, Nat.reduceEqDiff]; rotate_left
        (all_goals (repeat (rename BV _ _ => hbv; first | cases hbv | clear hbv)))
        all_goals (try (first | cases ‹true = false› | cases ‹false = true›))
        refine q_rq (σ3 := stE b B (L.eraseIdx k) :: σ) ?_
        exact fin_done .mk
    · rw [show heardS l s = l from if_neg (fun h => hq h.1), hkeep]
      clear hkeep hput had hck
      refine ex_drawLK anyK 17 [] rfl (by kernel_rfl) rfl ?_
      simp only [List.take_succ_cons, List.take_zero, List.drop_succ_cons, List.drop_zero]
      refine wMv ?_; apply wl_is; rfl; rfl; rfl; (intro σ' hl; (apply g_nilCheck; rfl; rfl)); refine wFa ?_; refine wFa ?_; refine wLd ?_; refine wFa ?_; refine wLd ?_; refine wIx ?_; refine wLa ?_; refine wFa ?_; refine wLd ?_; apply wl_is; rfl; rfl; rfl; (intro σ' hl; (refine zK rfl rfl (zV (by kernel_rfl)) ?_; exact hen _)); refine wMv ?_; apply wl_is; rfl; rfl; rfl; (intro σ' hl; (apply g_extract; rfl; rfl)); apply wl_is; rfl; rfl; rfl; (intro σ' hl; (apply g_extract; rfl; rfl)); apply wl_is; rfl; rfl; rfl; (intro σ' hl; (apply g_assign; rfl)); apply wl_is; rfl; rfl; rfl; (intro σ' hl; (apply g_assign; rfl)); refine wl_nil ?_; refine zY ?_; refine zX (zZ ?_); refine xFa ?_; refine xLd ?_; refine xMv ?_; refine xBi ?_; intro _ _; refine zY ?_; refine q_c (fun h h_k => ?_) (fun h h_k => ?_) <;> ((try subst h_k); (have hp := h; try simp only [q_n] at hp); (try (exfalso; first | omega | (cases hp; done))));
      refine zR ?_; refine zX (zZ ?_); refine xAs ?_; refine zY ?_; refine zJ ?_; simp only [zP, zU, zT, zW, retA, ↓reduceIte, Nat.reduceEqDiff]; rotate_left
      (all_goals (repeat (rename BV _ _ => hbv; first | cases hbv | clear hbv)))
      all_goals (try (first | cases ‹true = false› | cases ‹false = true›))
      refine q_rq (σ3 := stE b B (L.eraseIdx k) :: σ) ?_
      exact fin_done .mk
end Go.Proofs.YtkhoengjdfmfaaaGreat
namespace Go.Proofs.YtkhoengjdfmfaaaGreat
set_option maxHeartbeats 8000000 in
theorem ptell_bad (b : Nat) (B : List (List Sl)) (L : List Pk) (r : Ps) (hn : B.length ≤ 8) (hbad : ¬ (0 ≤ r.a ∧ r.a < B.length ∧ 0 ≤ r.t ∧ r.t < B.length ∧ r.a ≠ r.t)) (σ : List Ent) :
    SCall Tryz.prog 49 [.ptr b 0, psV r] (stE b B L :: σ) (Is (.int .i64 1) (stE b B L :: σ)) := by
  refine scall_of Tryz.func49 rfl (by simp) ?_
  have hin : ∀ (x : Int) (σ : List Ent), SCall Tryz.prog 44 [.int .i64 x, .int .i64 0, .int .i64 ((B.length : Int) - 1)] σ (Is (.bool (decide (0 ≤ x ∧ x < B.length))) σ) := fun x σ => by
    have h0 := in_c x 0 ((B.length : Int) - 1) σ
    rwa [show inB x 0 ((B.length : Int) - 1) = decide (0 ≤ x ∧ x < B.length) by unfold inB; rw [Bool.eq_iff_iff]; simp; omega] at h0
  by_cases h1 : 0 ≤ r.a ∧ r.a < B.length
  · have hi1 := hin r.a
    rw [decide_eq_true h1] at hi1
    by_cases h2 : 0 ≤ r.t ∧ r.t < B.length
    · have hi2 := hin r.t
      rw [decide_eq_true h2] at hi2
      have heq : r.a = r.t := by omega
      clear hin hbad
      refine zX (zZ ?_); refine xBb ?_; intro _; refine xAs ?_; refine zY ?_; refine zX (zZ ?_); refine xMv ?_; apply zQ; rfl; rfl; rfl; (apply g_nilCheck; rfl; rfl); refine xFa ?_; refine xFa ?_; refine xLd ?_; refine xLn ?_; refine xSu ?_; refine xAs ?_; refine zY ?_; refine zX ?_; refine zX (zZ ?_); refine xFa ?_; refine xLd ?_; refine xMv ?_; apply exl_isB; rfl; rfl; rfl; (refine zK rfl rfl (zV (by kernel_rfl)) ?_; exact hi1 _); intro _ _; refine xNo ?_; intro _ _; refine xMv ?_; refine q_d (fun h h_k => ?_) (fun h h_k => ?_) <;> ((try subst h_k); (have hp := h; try simp only [q_n] at hp); (try (exfalso; first | omega | (cases hp; done))));
      refine xSk ?_; refine xSk ?_; refine xSk ?_; refine xSk ?_; refine xSk ?_; refine xPt ?_; refine xMv ?_; refine xSk ?_; refine xSk ?_; refine xSk ?_; refine xSk ?_; refine xSk ?_; refine xPt ?_; refine zY ?_; refine ex_cond_t rfl (by rfl) ?_; refine zX (zZ ?_); refine xAs ?_; refine zY ?_; refine zJ ?_; simp only [zP, zU, zT, zW, retA, ↓reduceIte, Nat.reduceEqDiff]; rotate_left; refine yFa ?_; refine yLd ?_; refine yMv ?_; apply exl_isBW; rfl; (rfl); rfl; rfl; (refine zK rfl rfl (zV (by kernel_rfl)) ?_; exact hi2 _); intro _ _; refine yNo ?_; intro _ _; refine xPf ?_; refine xMv ?_; refine q_d (fun h h_k => ?_) (fun h h_k => ?_) <;> ((try subst h_k); (have hp := h; try simp only [q_n] at hp); (try (exfalso; first | omega | (cases hp; done))));
      refine xSk ?_; refine xSk ?_; refine xSk ?_; refine xSk ?_; refine xSk ?_; refine xPt ?_; refine zY ?_; refine ex_cond_t rfl (by rfl) ?_; refine zX (zZ ?_); refine xAs ?_; refine zY ?_; refine zJ ?_; simp only [zP, zU, zT, zW, retA, ↓reduceIte, Nat.reduceEqDiff]; rotate_left; refine yFa ?_; refine yLd ?_; refine yFa ?_; refine yLd ?_; refine yBi ?_; intro _ _; refine xPf ?_; refine zY ?_; refine q_c (fun h h_k => ?_) (fun h h_k => ?_) <;> ((try subst h_k); (have hp := h; try simp only [q_n] at hp); (try (exfalso; first | omega | (cases hp; done))));
      refine zX (zZ ?_); refine xAs ?_; refine zY ?_; refine zJ ?_; simp only [zP, zU, zT, zW, retA, ↓reduceIte, Nat.reduceEqDiff]; rotate_left
      (all_goals (repeat (rename BV _ _ => hbv; first | cases hbv | clear hbv)))
      all_goals (try (first | cases ‹true = false› | cases ‹false = true›))
      all_goals
        refine q_rq (σ3 := stE b B L :: σ) ?_
        exact fin_done .mk
    · have hi2 := hin r.t
      rw [decide_eq_false h2] at hi2
      clear hin hbad
      refine zX (zZ ?_); refine xBb ?_; intro _; refine xAs ?_; refine zY ?_; refine zX (zZ ?_); refine xMv ?_; apply zQ; rfl; rfl; rfl; (apply g_nilCheck; rfl; rfl); refine xFa ?_; refine xFa ?_; refine xLd ?_; refine xLn ?_; refine xSu ?_; refine xAs ?_; refine zY ?_; refine zX ?_; refine zX (zZ ?_); refine xFa ?_; refine xLd ?_; refine xMv ?_; apply exl_isB; rfl; rfl; rfl; (refine zK rfl rfl (zV (by kernel_rfl)) ?_; exact hi1 _); intro _ _; refine xNo ?_; intro _ _; refine xMv ?_; refine q_d (fun h h_k => ?_) (fun h h_k => ?_) <;> ((try subst h_k); (have hp := h; try simp only [q_n] at hp); (try (exfalso; first | omega | (cases hp; done))));
      refine xSk ?_; refine xSk ?_; refine xSk ?_; refine xSk ?_; refine xSk ?_; refine xPt ?_; refine xMv ?_; refine xSk ?_; refine xSk ?_; refine xSk ?_; refine xSk ?_; refine xSk ?_; refine xPt ?_; refine zY ?_; refine ex_cond_t rfl (by rfl) ?_; refine zX (zZ ?_); refine xAs ?_; refine zY ?_; refine zJ ?_; simp only [zP, zU, zT, zW, retA, ↓reduceIte, Nat.reduceEqDiff]; rotate_left; refine yFa ?_; refine yLd ?_; refine yMv ?_; apply exl_isBW; rfl; (rfl); rfl; rfl; (refine zK rfl rfl (zV (by kernel_rfl)) ?_; exact hi2 _); intro _ _; refine yNo ?_; intro _ _; refine xPf ?_; refine xMv ?_; refine q_d (fun h h_k => ?_) (fun h h_k => ?_) <;> ((try subst h_k); (have hp := h; try simp only [q_n] at hp); (try (exfalso; first | omega | (cases hp; done))));
      refine xSk ?_; refine xSk ?_; refine xSk ?_; refine xSk ?_; refine xSk ?_; refine xPt ?_; refine zY ?_; refine ex_cond_t rfl (by rfl) ?_; refine zX (zZ ?_); refine xAs ?_; refine zY ?_; refine zJ ?_; simp only [zP, zU, zT, zW, retA, ↓reduceIte, Nat.reduceEqDiff]; rotate_left; refine yFa ?_; refine yLd ?_; refine yFa ?_; refine yLd ?_; refine yBi ?_; intro _ _; refine xPf ?_; refine zY ?_; refine q_c (fun h h_k => ?_) (fun h h_k => ?_) <;> ((try subst h_k); (have hp := h; try simp only [q_n] at hp); (try (exfalso; first | omega | (cases hp; done))));
      refine zR ?_; refine zX ?_; refine zX ?_; refine ex_drawP rfl rfl (by kernel_rfl) rfl ?_; refine ex_drawQ rfl (by kernel_rfl) rfl ?_; refine wMv ?_; apply wl_is; rfl; rfl; rfl; (intro σ' hl; (apply g_nilCheck; rfl; rfl)); refine wFa ?_; refine wFa ?_; refine wLd ?_; refine wFa ?_; refine wLd ?_; simp only [zP, zU, zT, zW, retA, ↓reduceIte, Nat.reduceEqDiff]; rotate_left
      (all_goals (repeat (rename BV _ _ => hbv; first | cases hbv | clear hbv)))
      all_goals (try (first | cases ‹true = false› | cases ‹false = true›))
      all_goals
        refine q_rq (σ3 := stE b B L :: σ) ?_
        exact fin_done .mk
  · have hi1 := hin r.a
    rw [decide_eq_false h1] at hi1
    clear hin hbad
    refine zX (zZ ?_); refine xBb ?_; intro _; refine xAs ?_; refine zY ?_; refine zX (zZ ?_); refine xMv ?_; apply zQ; rfl; rfl; rfl; (apply g_nilCheck; rfl; rfl); refine xFa ?_; refine xFa ?_; refine xLd ?_; refine xLn ?_; refine xSu ?_; refine xAs ?_; refine zY ?_; refine zX ?_; refine zX (zZ ?_); refine xFa ?_; refine xLd ?_; refine xMv ?_; apply exl_isB; rfl; rfl; rfl; (refine zK rfl rfl (zV (by kernel_rfl)) ?_; exact hi1 _); intro _ _; refine xNo ?_; intro _ _; refine xMv ?_; refine q_d (fun h h_k => ?_) (fun h h_k => ?_) <;> ((try subst h_k); (have hp := h; try simp only [q_n] at hp); (try (exfalso; first | omega | (cases hp; done))));
    refine xSk ?_; refine xSk ?_; refine xSk ?_; refine xSk ?_; refine xSk ?_; refine xPt ?_; refine xMv ?_; refine xSk ?_; refine xSk ?_; refine xSk ?_; refine xSk ?_; refine xSk ?_; refine xPt ?_; refine zY ?_; refine ex_cond_t rfl (by rfl) ?_; refine zX (zZ ?_); refine xAs ?_; refine zY ?_; refine zJ ?_; simp only [zP, zU, zT, zW, retA, ↓reduceIte, Nat.reduceEqDiff]; rotate_left; refine yFa ?_; refine yLd ?_; refine yMv ?_; rotate_left
    (all_goals (repeat (rename BV _ _ => hbv; first | cases hbv | clear hbv)))
    all_goals (try (first | cases ‹true = false› | cases ‹false = true›))
    all_goals
      refine q_rq (σ3 := stE b B L :: σ) ?_
      exact fin_done .mk
abbrev sentP (r : Ps) (s : Sl) : Pk := ⟨r.a, r.t, msgS s⟩
set_option maxHeartbeats 16000000 in
theorem ptell_ok (b k : Nat) (B : List (List Sl)) (L : List Pk) (r : Ps) (h0 : ∀ p ∈ L, OkP p) (hl0 : L.length ≤ 4096) (hn : B.length ≤ 8) (hok : 0 ≤ r.a ∧ r.a < B.length ∧ 0 ≤ r.t ∧ r.t < B.length ∧ r.a ≠ r.t) (hk : r.a = k) (l : List Sl) (hB : B[k]? = some l) (hs : ∀ s ∈ l, Sendable s) (hlen : l.length ≤ 512) (σ : List Ent) :
    SCall Tryz.prog 49 [.ptr b 0, psV r] (stE b B L :: σ) (fun v τ => (L.length + l.length ≤ 4096 ∧ v = .int .i64 0 ∧ τ = stE b B (L ++ l.map (sentP r)) :: σ) ∨ (4096 < L.length + l.length ∧ v = .int .i64 2 ∧ τ = st0 b B :: σ)) := by
  refine scall_of Tryz.func49 rfl (by simp) ?_
  have hin : ∀ (x : Int) (σ : List Ent), 0 ≤ x ∧ x < B.length → SCall Tryz.prog 44 [.int .i64 x, .int .i64 0, .int .i64 ((B.length : Int) - 1)] σ (Is (.bool true) σ) := fun x σ hx => by
    have h0 := in_c x 0 ((B.length : Int) - 1) σ
    rwa [show inB x 0 ((B.length : Int) - 1) = true by unfold inB; simp; omega] at h0
  have hi1 := fun σ => hin r.a σ ⟨hok.1, hok.2.1⟩
  have hi2 := fun σ => hin r.t σ ⟨hok.2.2.1, hok.2.2.2.1⟩
  have hg := bk_get hB
  have hkB : k < B.length := (List.getElem?_eq_some_iff.1 hB).1
  have hokP : ∀ s ∈ l, OkP (sentP r s) := fun s hsl => by
    have h5 := msg_len (hs s hsl)
    exact ⟨hok.1, hok.2.2.1, hok.2.2.2.2, by show r.a < 24; omega, by show r.t < 24; omega, by show (msgS s).length ≤ 1048576; omega⟩
  clear hin
  refine zX (zZ ?_); refine xBb ?_; intro _; refine xAs ?_; refine zY ?_; refine zX (zZ ?_); refine xMv ?_; apply zQ; rfl; rfl; rfl; (apply g_nilCheck; rfl; rfl); refine xFa ?_; refine xFa ?_; refine xLd ?_; refine xLn ?_; refine xSu ?_; refine xAs ?_; refine zY ?_; refine zX ?_; refine zX (zZ ?_); refine xFa ?_; refine xLd ?_; refine xMv ?_; apply exl_isB; rfl; rfl; rfl; (refine zK rfl rfl (zV (by kernel_rfl)) ?_; exact hi1 _); intro _ _; refine xNo ?_; intro _ _; refine xMv ?_; refine q_d (fun h h_k => ?_) (fun h h_k => ?_) <;> ((try subst h_k); (have hp := h; try simp only [q_n] at hp); (try (exfalso; first | omega | (cases hp; done))));
  refine xSk ?_; refine xSk ?_; refine xSk ?_; refine xSk ?_; refine xSk ?_; refine xPt ?_; refine xMv ?_; refine xSk ?_; refine xSk ?_; refine xSk ?_; refine xSk ?_; refine xSk ?_; refine xPt ?_; refine zY ?_; refine ex_cond_t rfl (by rfl) ?_; refine zX (zZ ?_); refine xAs ?_; refine zY ?_; refine zJ ?_; simp only [zP, zU, zT, zW, retA, ↓reduceIte, Nat.reduceEqDiff]; rotate_left; refine yFa ?_; refine yLd ?_; refine yMv ?_; apply exl_isBW; rfl; (rfl); rfl; rfl; (refine zK rfl rfl (zV (by kernel_rfl)) ?_; exact hi2 _); intro _ _; refine yNo ?_; intro _ _; refine xPf ?_; refine xMv ?_; refine q_d (fun h h_k => ?_) (fun h h_k => ?_) <;> ((try subst h_k); (have hp := h; try simp only [q_n] at hp); (try (exfalso; first | omega | (cases hp; done))));
  refine xSk ?_; refine xSk ?_; refine xSk ?_; refine xSk ?_; refine xSk ?_; refine xPt ?_; refine zY ?_; refine ex_cond_t rfl (by rfl) ?_; refine zX (zZ ?_); refine xAs ?_; refine zY ?_; refine zJ ?_; simp only [zP, zU, zT, zW, retA, ↓reduceIte, Nat.reduceEqDiff]; rotate_left; refine yFa ?_; refine yLd ?_; refine yFa ?_; refine yLd ?_; refine yBi ?_; intro _ _; refine xPf ?_; refine zY ?_; refine q_c (fun h h_k => ?_) (fun h h_k => ?_) <;> ((try subst h_k); (have hp := h; try simp only [q_n] at hp); (try (exfalso; first | omega | (cases hp; done))));
  refine zR ?_; refine zX ?_; refine zX ?_; refine ex_drawP rfl rfl (by kernel_rfl) rfl ?_; refine ex_drawQ rfl (by kernel_rfl) rfl ?_; refine wMv ?_; apply wl_is; rfl; rfl; rfl; (intro σ' hl; (apply g_nilCheck; rfl; rfl)); refine wFa ?_; refine wFa ?_; refine wLd ?_; refine wFa ?_; refine wLd ?_; refine wIx ?_; refine wFa ?_; refine wLd ?_; apply wl_is; rfl; rfl; rfl; (intro σ' hl; (apply g_len; rfl; rfl; (exact (List.length_map _).symm))); refine wMv ?_; refine wl_nil ?_; show EX _ _ _ _ _; refine zL ?_; rotate_left
  (all_goals (repeat (rename BV _ _ => hbv; first | cases hbv | clear hbv)))
  all_goals (try (first | cases ‹true = false› | cases ‹false = true›))
  rename Nat => b3; revert b3
  intro b3
  clear hi1 hi2 hg hkB hk hB
  refine ex_loop (fun (z : Nat × List Pk) => (⟨[(0, .ptr b 0), (3, .ptr b3 0), (43, sls l), (44, .int .i64 l.length), (45, .int .i64 z.1)], .cells b3 (psC r) 45 :: stE b B z.2 :: σ, [], Tryz.f49.ntmps⟩ : St)) (fun z => (z.1 ≤ l.length ∧ L.length + z.1 ≤ 4096) ∧ z.2 = L ++ (l.take z.1).map (sentP r)) (fun z => l.length - z.1) (0, L) (⟨⟨Nat.zero_le _, hl0⟩, (List.append_nil L).symm⟩) (St.le_of (by repeat (first | exact trivial | refine ⟨rfl, ?_⟩)) (by repeat (first | exact q_r | apply q_q | apply q_k))) ?_
  intro z hI
  obtain ⟨k, T0⟩ := z
  obtain ⟨⟨hI1, hI2⟩, hI3⟩ := hI
  dsimp only at hI1 hI2 hI3 ⊢
  subst hI3
  by_cases hkl : k < l.length
  · obtain ⟨s, hsk⟩ : ∃ s, l[k]? = some s := get_some hkl
    have hmem := List.mem_of_getElem? hsk
    have hmg := fun σ => message_c s (hs s hmem) σ
    have hnext : L ++ (l.take (k + 1)).map (sentP r) = (L ++ (l.take k).map (sentP r)) ++ [sentP r s] := by rw [List.take_add_one, hsk, List.map_append, List.append_assoc]; rfl
    have hTl : (L ++ (l.take k).map (sentP r)).length = L.length + k := by rw [List.length_append, List.length_map, List.length_take]; omega
    have hTok : ∀ p ∈ L ++ (l.take k).map (sentP r), OkP p := fun p hp => by
      rcases List.mem_append.1 hp with hp | hp
      · exact h0 p hp
      · obtain ⟨x, hx, rfl⟩ := List.mem_map.1 hp
        exact hokP x (List.mem_of_mem_take hx)
    have hsd := fun σ => send_c _ hTok (by omega) (sentP r s) (hokP s hmem) σ
    have hgs := sl_get hsk
    rw [hTl] at hsd
    clear h0 hs hokP hTok hTl hmem hsk
    generalize L ++ (l.take k).map (sentP r) = T at hsd hnext ⊢
    by_cases he : L.length + k = 4096
    · rw [if_pos he] at hsd
      refine zX (zZ ?_); refine xBi ?_; intro _ _; refine zY ?_; refine zX ?_; refine q_c (fun h h_k => ?_) (fun h h_k => ?_) <;> ((try subst h_k); (have hp := h; try simp only [q_n] at hp); (try (exfalso; first | omega | (cases hp; done))));
      refine zR ?_; refine zX ?_; refine zL ?_; refine zX (zZ ?_); refine xIx ?_; refine xLa ?_; refine xBa ?_; intro _; refine xSt ?_; refine zY ?_; refine zX ?_; rotate_left
      (all_goals (repeat (rename BV _ _ => hbv; first | cases hbv | clear hbv)))
      all_goals (try (first | cases ‹true = false› | cases ‹false = true›))
      rename Nat => b7; revert b7
      intro b7
      refine ex_drfT (fun x => x = .cells b3 (psC r) 45 ∨ x = .cells b7 (slC s) 43) [5, 20] 21 rfl (by kernel_rfl) rfl ?_
      refine dVl ?_; refine dMv ?_; refine dVl ?_; refine dMv ?_; refine dVl ?_; apply drv_is; rfl; rfl; (intro σ' hl; (apply g_nilCheck; rfl; rfl)); refine dVl ?_; refine dFa ?_; refine dVl ?_; refine dFa ?_; refine dVl ?_; refine dFa ?_; refine dVl ?_; refine dLd ?_; refine dVl ?_; refine dFa ?_; refine dVl ?_; refine dLd ?_; refine dVl ?_; refine dLa ?_; refine dVl ?_; apply drv_is; rfl; rfl; (intro σ' hl; (refine zK rfl rfl (zV (by kernel_rfl)) ?_; exact hmg _)); refine dVl ?_; apply drv_is; rfl; rfl; (intro σ' hl; (apply g_build; rfl; rfl; rfl; rfl)); refine drf_one rfl rfl ?_; apply drs_is; rfl; rfl; (apply g_loadAgg; rfl; decide; rfl; (exact .p (by (repeat first | exact q_h | apply q_t | assumption); done) rfl rfl)); refine dVl ?_; apply drv_is; rfl; rfl; (intro σ' hl; (refine zK rfl rfl (zV (by kernel_rfl)) ?_; exact hsd _)); refine dVl ?_; refine dMv ?_; refine dVl ?_; refine dEx ?_; refine dVl ?_; refine dEx ?_; refine dVl ?_; apply drv_is; rfl; rfl; (intro σ' hl; (apply g_nilCheck; rfl; rfl)); refine dVl ?_; refine dFa ?_; refine dVl ?_; refine dFa ?_; refine drf_one rfl rfl ?_; apply drs_do; rfl; rfl; (apply g_store'; rfl; rfl; rfl; (exact Upd.there (Upd.there (Upd.here))); (simp only [setL, q_z, AV.cells]; rfl); rfl; rfl; rfl; exact q_b rfl); (rintro _ (rfl | rfl | rfl) _ <;> exact (by (repeat first | exact q_h | apply q_t | assumption); done)); refine drf_nil rfl ?_; refine xAs ?_; refine zY ?_; refine zX (zZ ?_); refine xMv ?_; refine xBi ?_; intro _ _; refine zY ?_; refine q_c (fun h h_k => ?_) (fun h h_k => ?_) <;> ((try subst h_k); (have hp := h; try simp only [q_n] at hp); (try (exfalso; first | omega | (cases hp; done))));
      refine zX (zZ ?_); refine xMv ?_; refine xAs ?_; refine zY ?_; refine zJ ?_; simp only [zP, zU, zT, zW, retA, ↓reduceIte, Nat.reduceEqDiff]; rotate_left
      (all_goals (repeat (rename BV _ _ => hbv; first | cases hbv | clear hbv)))
      all_goals (try (first | cases ‹true = false› | cases ‹false = true›))
      refine q_rq (σ3 := st0 b B :: σ) ?_
      exact fin_done (.inr ⟨by omega, rfl, rfl⟩)
    · rw [if_neg he] at hsd
      refine zX (zZ ?_); refine xBi ?_; intro _ _; refine zY ?_; refine zX ?_; refine q_c (fun h h_k => ?_) (fun h h_k => ?_) <;> ((try subst h_k); (have hp := h; try simp only [q_n] at hp); (try (exfalso; first | omega | (cases hp; done))));
      refine zR ?_; refine zX ?_; refine zL ?_; refine zX (zZ ?_); refine xIx ?_; refine xLa ?_; refine xBa ?_; intro _; refine xSt ?_; refine zY ?_; refine zX ?_; rotate_left
      (all_goals (repeat (rename BV _ _ => hbv; first | cases hbv | clear hbv)))
      all_goals (try (first | cases ‹true = false› | cases ‹false = true›))
      rename Nat => b7; revert b7
      intro b7
      refine ex_drfT (fun x => x = .cells b3 (psC r) 45 ∨ x = .cells b7 (slC s) 43) [5, 20] 21 rfl (by kernel_rfl) rfl ?_
      refine dVl ?_; refine dMv ?_; refine dVl ?_; refine dMv ?_; refine dVl ?_; apply drv_is; rfl; rfl; (intro σ' hl; (apply g_nilCheck; rfl; rfl)); refine dVl ?_; refine dFa ?_; refine dVl ?_; refine dFa ?_; refine dVl ?_; refine dFa ?_; refine dVl ?_; refine dLd ?_; refine dVl ?_; refine dFa ?_; refine dVl ?_; refine dLd ?_; refine dVl ?_; refine dLa ?_; refine dVl ?_; apply drv_is; rfl; rfl; (intro σ' hl; (refine zK rfl rfl (zV (by kernel_rfl)) ?_; exact hmg _)); refine dVl ?_; apply drv_is; rfl; rfl; (intro σ' hl; (apply g_build; rfl; rfl; rfl; rfl)); refine drf_one rfl rfl ?_; apply drs_is; rfl; rfl; (apply g_loadAgg; rfl; decide; rfl; (exact .p (by (repeat first | exact q_h | apply q_t | assumption); done) rfl rfl)); refine dVl ?_; apply drv_is; rfl; rfl; (intro σ' hl; (refine zK rfl rfl (zV (by kernel_rfl)) ?_; exact hsd _)); refine dVl ?_; refine dMv ?_; refine dVl ?_; refine dEx ?_; refine dVl ?_; refine dEx ?_; refine dVl ?_; apply drv_is; rfl; rfl; (intro σ' hl; (apply g_nilCheck; rfl; rfl)); refine dVl ?_; refine dFa ?_; refine dVl ?_; refine dFa ?_; refine drf_one rfl rfl ?_; apply drs_do; rfl; rfl; (apply g_store'; rfl; rfl; rfl; (exact Upd.there (Upd.there (Upd.here))); (simp only [setL, q_z, AV.cells]; rfl); rfl; rfl; rfl; exact q_b rfl); (rintro _ (rfl | rfl | rfl) _ <;> exact (by (repeat first | exact q_h | apply q_t | assumption); done)); refine drf_nil rfl ?_; refine xAs ?_; refine zY ?_; refine zX (zZ ?_); refine xMv ?_; refine xBi ?_; intro _ _; refine zY ?_; refine q_c (fun h h_k => ?_) (fun h h_k => ?_) <;> ((try subst h_k); (have hp := h; try simp only [q_n] at hp); (try (exfalso; first | omega | (cases hp; done))));
      refine zR ?_; refine zZ ?_; refine xAd ?_; refine xMv ?_; refine zN ?_; simp only [zP, zU, zT, zW, retA, ↓reduceIte, Nat.reduceEqDiff]; rotate_left
      (all_goals (repeat (rename BV _ _ => hbv; first | cases hbv | clear hbv)))
      all_goals (try (first | cases ‹true = false› | cases ‹false = true›))
      refine ⟨(k + 1, T ++ [sentP r s]), ⟨⟨hkl, by dsimp only; omega⟩, hnext.symm⟩, by dsimp only; omega, ?_⟩
      exact q_le
  · have e : k = l.length := by omega
    subst e
    rw [List.take_length]
    refine zX (zZ ?_); refine xBi ?_; intro _ _; refine zY ?_; refine zX ?_; refine q_c (fun h h_k => ?_) (fun h h_k => ?_) <;> ((try subst h_k); (have hp := h; try simp only [q_n] at hp); (try (exfalso; first | omega | (cases hp; done))));
    refine ex_exit ?_; refine zX (zZ ?_); refine xAs ?_; refine zY ?_; refine zJ ?_; simp only [zP, zU, zT, zW, retA, ↓reduceIte, Nat.reduceEqDiff]; rotate_left
    (all_goals (repeat (rename BV _ _ => hbv; first | cases hbv | clear hbv)))
    all_goals (try (first | cases ‹true = false› | cases ‹false = true›))
    refine q_rq (σ3 := stE b B (L ++ l.map (sentP r)) :: σ) ?_
    exact fin_done (.inl ⟨hI2, rfl, rfl⟩)
end Go.Proofs.YtkhoengjdfmfaaaGreat
namespace Go.Proofs.YtkhoengjdfmfaaaGreat
section
variable {P : Program} {ro : Option Nat} {env : Env} {σ σ' : List Ent} {dst : Option Tmp} {ty : TypeId} {pos : String} {after : Array Edge} {guard : Option (Nat × Bool)}
theorem g_insert {t et : TypeId} {x ix y : Operand} {b n : Nat} {f f' : Int → Option AV} {k : Int} {v : AV} (ht : mapOf P t = some et) (hx : evA env x = some (.mp b)) (hi : evA env ix = some (.int .i64 k)) (hy : evA env y = some v) (hu : Upd σ (.imap b f n) (.imap b f' (if (f k).isSome then n else n + 1)) σ') (hf : updA f k v = f') :
    GOp P ro ⟨dst, .insert t x ix y, ty, pos, after, guard⟩ env σ (Is (.raw undef) σ') :=
  gop_run (by intro c h; cases h) fun X M a w hg ho => by
    have h1 := ho x (by simp [Op.operands]) _ hx
    have h2 := ho ix (by simp [Op.operands]) _ hi
    have h3 := ho y (by simp [Op.operands]) _ hy
    simp only [VRel] at h1 h2
    obtain ⟨kt, e1, e2⟩ := mapOf_spec ht
    obtain ⟨g, hg1, hg2⟩ := hg.ent _ hu.mem
    obtain ⟨w', hr, hm', hgr, hsz, _⟩ := hg1.update (P := P) e1 e2 k (a.eval y)
    refine ⟨M, undef, w', .raw undef, σ', Mem.le_refl M, ?_, by simp [VRel], .mk, .inr ⟨?_, rfl⟩⟩
    · refine hg.upd hu hgr.os hgr.tape hgr.output (fun q hq hne => hgr.block q hq (fun e => hne e.symm)) ⟨upd g k (a.eval y), ?_, fun q => ?_⟩ (.inl rfl)
      · have hk := hg2 k
        have e : (g k).isSome = (f k).isSome := by cases hf : f k <;> cases hgk : g k <;> simp only [hf, hgk] at hk <;> rfl
        rw [e] at hm'
        exact hm'
      · rw [← hf]
        unfold updA upd
        by_cases hq : q = k
        · simp only [if_pos hq]; exact h3
        · simp only [if_neg hq]; exact hg2 q
    · simp [execOp, h1, h2, Sem.run_bind, hr]
end
end Go.Proofs.YtkhoengjdfmfaaaGreat
namespace Go.Proofs.YtkhoengjdfmfaaaGreat
abbrev rnd0 : AV := .agg [.slv nilS, .slv nilS, .slv nilS]
set_option maxHeartbeats 16000000 in
theorem do_none (B : List (List Sl)) (L : List Pk) (r : Ps) (hR : Rt B L) (hk : r.k < 1 ∨ 5 < r.k) (σ : List Ent) :
    SCall Tryz.prog 20 [.agg (stC B L), psV r] σ (Is (.tup [rnd0, .int .i64 1]) σ) := by
  refine scall_of Tryz.func20 rfl (by simp) ?_
  have hr := fun σ => right_c B L hR σ
  clear hR
  have hz : ∀ v1 v2 v3 v4 v5 : AV, updA (updA (updA (updA (updA (fun _ => none) 1 v1) 2 v2) 3 v3) 4 v4) 5 v5 r.k = none := fun v1 v2 v3 v4 v5 => by
    simp only [updA]
    rw [if_neg (by omega), if_neg (by omega), if_neg (by omega), if_neg (by omega), if_neg (by omega)]
  refine zX (zZ ?_); refine xBb ?_; intro _; refine xBb ?_; intro _; refine xBa ?_; intro _; refine xAs ?_; refine zY ?_; refine zX ?_; refine zX (zZ ?_); refine xLa ?_; apply exl_isB; rfl; rfl; rfl; (refine zK rfl rfl (zV (by kernel_rfl)) ?_; exact hr _); intro _ _; refine xNo ?_; intro _ _; refine zY ?_; refine q_c (fun h h_k => ?_) (fun h h_k => ?_) <;> ((try subst h_k); (have hp := h; try simp only [q_n] at hp); (try (exfalso; first | omega | (cases hp; done))));
  refine zX (zZ ?_); refine xLa ?_; refine xSt ?_; refine xAs ?_; refine zY ?_; refine zJ ?_; simp only [zP, zU, zT, zW, retA, ↓reduceIte, Nat.reduceEqDiff]; rotate_left; refine zR ?_; refine zX (zZ ?_); refine exl_map rfl rfl rfl (by exact g_makeMap) ?_; intro _; refine exl_do rfl rfl (g_insert rfl rfl rfl rfl (by (exact Upd.here)) rfl) ?_; refine exl_do rfl rfl (g_insert rfl rfl rfl rfl (by (exact Upd.here)) rfl) ?_; refine exl_do rfl rfl (g_insert rfl rfl rfl rfl (by (exact Upd.here)) rfl) ?_; refine exl_do rfl rfl (g_insert rfl rfl rfl rfl (by (exact Upd.here)) rfl) ?_; refine exl_do rfl rfl (g_insert rfl rfl rfl rfl (by (exact Upd.here)) rfl) ?_; refine xMv ?_; refine xFa ?_; refine xLd ?_; show EXL _ _ _ ({ dst := _, op := .lookup _ _ _ true, type := _, pos := _, after := _, guard := _ } :: _) _ _; refine zQ rfl rfl rfl (g_lookupOk (v := .raw .nilFunc) (ok := false) rfl rfl (by (repeat first | exact q_h | apply q_t | assumption); done) rfl rfl (by rw [hz]; rfl) (by rw [hz]; rfl)) ?_; refine xMv ?_; refine xEx ?_; refine xEx ?_; refine xAs ?_; refine xAs ?_; refine zY ?_; refine zX ?_; refine zX (zZ ?_); refine xMv ?_; refine xNo ?_; intro _ _; refine zY ?_; refine q_c (fun h h_k => ?_) (fun h h_k => ?_) <;> ((try subst h_k); (have hp := h; try simp only [q_n] at hp); (try (exfalso; first | omega | (cases hp; done))));
  refine zX (zZ ?_); refine xLa ?_; refine xSt ?_; refine xAs ?_; refine zY ?_; refine zJ ?_; simp only [zP, zU, zT, zW, retA, ↓reduceIte, Nat.reduceEqDiff]; rotate_left
  (all_goals (repeat (rename BV _ _ => hbv; first | cases hbv | clear hbv)))
  all_goals (try (first | cases ‹true = false› | cases ‹false = true›))
  all_goals
    refine q_rq (σ3 := σ) ?_
    exact fin_done .mk
def passM : Int → Option AV := updA (updA (updA (updA (updA (fun _ => none) 1 (.fn (.func 48) [] [])) 2 (.fn (.func 49) [] [])) 3 (.fn (.func 50) [] [])) 4 (.fn (.func 51) [] [])) 5 (.fn (.func 52) [] [])
set_option maxHeartbeats 16000000 in
theorem do_ok (B : List (List Sl)) (L : List Pk) (r : Ps) (hR : Rt B L) (g : Nat) (hen : Enters Tryz.prog g) (hz : passM r.k = some (.fn (.func g) [] [])) (B1 : List (List Sl)) (L1 : List Pk)
    (hm : ∀ b σ, SCall Tryz.prog g [.ptr b 0, psV r] (stE b B L :: σ) (Is (.int .i64 0) (.cells b (stC B1 L1) 102 :: σ))) (σ : List Ent) :
    SCall Tryz.prog 20 [.agg (stC B L), psV r] σ (Is (.tup [.agg (stC B1 L1), .int .i64 0]) σ) := by
  refine scall_of Tryz.func20 rfl (by simp) ?_
  have hr := fun σ => right_c B L hR σ
  clear hR
  unfold passM at hz
  refine zX (zZ ?_); refine xBb ?_; intro _; refine xBb ?_; intro _; refine xBa ?_; intro _; refine xAs ?_; refine zY ?_; refine zX ?_; refine zX (zZ ?_); refine xLa ?_; apply exl_isB; rfl; rfl; rfl; (refine zK rfl rfl (zV (by kernel_rfl)) ?_; exact hr _); intro _ _; refine xNo ?_; intro _ _; refine zY ?_; refine q_c (fun h h_k => ?_) (fun h h_k => ?_) <;> ((try subst h_k); (have hp := h; try simp only [q_n] at hp); (try (exfalso; first | omega | (cases hp; done))));
  refine zX (zZ ?_); refine xLa ?_; refine xSt ?_; refine xAs ?_; refine zY ?_; refine zJ ?_; simp only [zP, zU, zT, zW, retA, ↓reduceIte, Nat.reduceEqDiff]; rotate_left; refine zR ?_; refine zX (zZ ?_); refine exl_map rfl rfl rfl (by exact g_makeMap) ?_; intro _; refine exl_do rfl rfl (g_insert rfl rfl rfl rfl (by (exact Upd.here)) rfl) ?_; refine exl_do rfl rfl (g_insert rfl rfl rfl rfl (by (exact Upd.here)) rfl) ?_; refine exl_do rfl rfl (g_insert rfl rfl rfl rfl (by (exact Upd.here)) rfl) ?_; refine exl_do rfl rfl (g_insert rfl rfl rfl rfl (by (exact Upd.here)) rfl) ?_; refine exl_do rfl rfl (g_insert rfl rfl rfl rfl (by (exact Upd.here)) rfl) ?_; refine xMv ?_; refine xFa ?_; refine xLd ?_; show EXL _ _ _ ({ dst := _, op := .lookup _ _ _ true, type := _, pos := _, after := _, guard := _ } :: _) _ _; refine zQ rfl rfl rfl (g_lookupOk (v := .fn (.func g) [] []) (ok := true) rfl rfl (by (repeat first | exact q_h | apply q_t | assumption); done) rfl rfl (by rw [hz]; rfl) (by rw [hz]; rfl)) ?_; refine xMv ?_; refine xEx ?_; refine xEx ?_; refine xAs ?_; refine xAs ?_; refine zY ?_; refine zX ?_; refine zX (zZ ?_); refine xMv ?_; refine xNo ?_; intro _ _; refine zY ?_; refine q_c (fun h h_k => ?_) (fun h h_k => ?_) <;> ((try subst h_k); (have hp := h; try simp only [q_n] at hp); (try (exfalso; first | omega | (cases hp; done))));
  refine zR ?_; refine zX (zZ ?_); refine xLa ?_; apply zQ; rfl; rfl; rfl; (apply g_build; rfl; rfl; rfl; rfl); refine xBa ?_; intro _; refine xSt ?_; refine zY ?_; refine zX ?_; refine zX (zZ ?_); refine xMv ?_; refine xLa ?_; refine zQ rfl rfl rfl (zK rfl rfl hen (hm _ _)) ?_; refine xAs ?_; refine zY ?_; refine zX (zZ ?_); refine xMv ?_; refine xBi ?_; intro _ _; refine zY ?_; refine q_c (fun h h_k => ?_) (fun h h_k => ?_) <;> ((try subst h_k); (have hp := h; try simp only [q_n] at hp); (try (exfalso; first | omega | (cases hp; done))));
  refine zR ?_; refine zX (zZ ?_); refine xFa ?_; refine xLa ?_; refine xSt ?_; refine xAs ?_; refine zY ?_; refine zJ ?_; simp only [zP, zU, zT, zW, retA, ↓reduceIte, Nat.reduceEqDiff]; rotate_left
  (all_goals (repeat (rename BV _ _ => hbv; first | cases hbv | clear hbv)))
  all_goals (try (first | cases ‹true = false› | cases ‹false = true›))
  all_goals
    refine q_rq (σ3 := σ) ?_
    exact fin_done .mk
set_option maxHeartbeats 16000000 in
theorem do_err (B : List (List Sl)) (L : List Pk) (r : Ps) (hR : Rt B L) (g : Nat) (hen : Enters Tryz.prog g) (hz : passM r.k = some (.fn (.func g) [] [])) (x1 x2 x3 : AV) (e : Int) (he : e ≠ 0)
    (hm : ∀ b σ, SCall Tryz.prog g [.ptr b 0, psV r] (stE b B L :: σ) (Is (.int .i64 e) (.cells b [x1, x2, x3] 102 :: σ))) (σ : List Ent) :
    SCall Tryz.prog 20 [.agg (stC B L), psV r] σ (Is (.tup [rnd0, .int .i64 e]) σ) := by
  refine scall_of Tryz.func20 rfl (by simp) ?_
  have hr := fun σ => right_c B L hR σ
  clear hR
  unfold passM at hz
  refine zX (zZ ?_); refine xBb ?_; intro _; refine xBb ?_; intro _; refine xBa ?_; intro _; refine xAs ?_; refine zY ?_; refine zX ?_; refine zX (zZ ?_); refine xLa ?_; apply exl_isB; rfl; rfl; rfl; (refine zK rfl rfl (zV (by kernel_rfl)) ?_; exact hr _); intro _ _; refine xNo ?_; intro _ _; refine zY ?_; refine q_c (fun h h_k => ?_) (fun h h_k => ?_) <;> ((try subst h_k); (have hp := h; try simp only [q_n] at hp); (try (exfalso; first | omega | (cases hp; done))));
  refine zX (zZ ?_); refine xLa ?_; refine xSt ?_; refine xAs ?_; refine zY ?_; refine zJ ?_; simp only [zP, zU, zT, zW, retA, ↓reduceIte, Nat.reduceEqDiff]; rotate_left; refine zR ?_; refine zX (zZ ?_); refine exl_map rfl rfl rfl (by exact g_makeMap) ?_; intro _; refine exl_do rfl rfl (g_insert rfl rfl rfl rfl (by (exact Upd.here)) rfl) ?_; refine exl_do rfl rfl (g_insert rfl rfl rfl rfl (by (exact Upd.here)) rfl) ?_; refine exl_do rfl rfl (g_insert rfl rfl rfl rfl (by (exact Upd.here)) rfl) ?_; refine exl_do rfl rfl (g_insert rfl rfl rfl rfl (by (exact Upd.here)) rfl) ?_; refine exl_do rfl rfl (g_insert rfl rfl rfl rfl (by (exact Upd.here)) rfl) ?_; refine xMv ?_; refine xFa ?_; refine xLd ?_; show EXL _ _ _ ({ dst := _, op := .lookup _ _ _ true, type := _, pos := _, after := _, guard := _ } :: _) _ _; refine zQ rfl rfl rfl (g_lookupOk (v := .fn (.func g) [] []) (ok := true) rfl rfl (by (repeat first | exact q_h | apply q_t | assumption); done) rfl rfl (by rw [hz]; rfl) (by rw [hz]; rfl)) ?_; refine xMv ?_; refine xEx ?_; refine xEx ?_; refine xAs ?_; refine xAs ?_; refine zY ?_; refine zX ?_; refine zX (zZ ?_); refine xMv ?_; refine xNo ?_; intro _ _; refine zY ?_; refine q_c (fun h h_k => ?_) (fun h h_k => ?_) <;> ((try subst h_k); (have hp := h; try simp only [q_n] at hp); (try (exfalso; first | omega | (cases hp; done))));
  refine zR ?_; refine zX (zZ ?_); refine xLa ?_; apply zQ; rfl; rfl; rfl; (apply g_build; rfl; rfl; rfl; rfl); refine xBa ?_; intro _; refine xSt ?_; refine zY ?_; refine zX ?_; refine zX (zZ ?_); refine xMv ?_; refine xLa ?_; refine zQ rfl rfl rfl (zK rfl rfl hen (hm _ _)) ?_; refine xAs ?_; refine zY ?_; refine zX (zZ ?_); refine xMv ?_; refine xBi ?_; intro _ _; refine zY ?_; refine q_c (fun h h_k => ?_) (fun h h_k => ?_) <;> ((try subst h_k); (have hp := h; try simp only [q_n] at hp); (try (exfalso; first | omega | (cases hp; done))));
  refine zX (zZ ?_); refine xLa ?_; refine xMv ?_; refine xSt ?_; refine xAs ?_; refine zY ?_; refine zJ ?_; simp only [zP, zU, zT, zW, retA, ↓reduceIte, Nat.reduceEqDiff]; rotate_left
  (all_goals (repeat (rename BV _ _ => hbv; first | cases hbv | clear hbv)))
  all_goals (try (first | cases ‹true = false› | cases ‹false = true›))
  all_goals
    refine q_rq (σ3 := σ) ?_
    exact fin_done .mk
end Go.Proofs.YtkhoengjdfmfaaaGreat
