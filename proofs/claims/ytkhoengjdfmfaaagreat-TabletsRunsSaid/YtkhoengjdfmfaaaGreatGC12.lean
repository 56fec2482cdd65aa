/- Parts of the proof that belong together: Tn Wf Wg Wh. -/
import Derived.Test.YtkhoengjdfmfaaaGreatGC05
import Derived.Test.YtkhoengjdfmfaaaGreatGC11
set_option maxRecDepth 10000
set_option linter.unusedSimpArgs false
set_option linter.unusedVariables false
namespace Go.Proofs.YtkhoengjdfmfaaaGreat
structure Ps where
  k : Int
  a : Int
  t : Int
  i : Int
  s : Sl
def heardS (l : List Sl) (s : Sl) : List Sl := if s.seq = (manyS l s.tab : Nat) ∧ checkS (putS l s) = 0 then putS l s else l
structure Qk where
  f : Int
  t : Int
  s : Sl
  deriving DecidableEq
structure RtQ (B : List (List Sl)) (Q : List Qk) : Prop where
  n1 : 1 ≤ B.length
  n8 : B.length ≤ 8
  ck : ∀ l ∈ B, checkS l = 0
  tab : ∀ l ∈ B, ∀ s ∈ l, s.tab < B.length
  net : ∀ q ∈ Q, 0 ≤ q.f ∧ 0 ≤ q.t ∧ q.f ≠ q.t ∧ q.f < B.length ∧ q.t < B.length ∧ Sendable q.s ∧ q.s.tab < B.length
  few : Q.length ≤ 4096
def doS (B : List (List Sl)) (Q : List Qk) (r : Ps) : Except Int (List (List Sl) × List Qk) :=
  if r.k = 1 then
    if 0 ≤ r.a ∧ r.a < B.length ∧ r.s.tab = r.a then
      (if (writeS (B.getD r.a.toNat []) r.s).2 = 0 then .ok (B.set r.a.toNat (writeS (B.getD r.a.toNat []) r.s).1, Q) else .error (writeS (B.getD r.a.toNat []) r.s).2)
    else .error 1
  else if r.k = 2 then
    if 0 ≤ r.a ∧ r.a < B.length ∧ 0 ≤ r.t ∧ r.t < B.length ∧ r.a ≠ r.t then
      (if Q.length + (B.getD r.a.toNat []).length ≤ 4096 then .ok (B, Q ++ (B.getD r.a.toNat []).map fun s => ⟨r.a, r.t, s⟩) else .error 2)
    else .error 1
  else if r.k = 3 ∨ r.k = 4 ∨ r.k = 5 then
    if r.i < 0 ∨ (Q.length : Int) ≤ r.i then .error 1
    else match Q[r.i.toNat]? with
      | none => .error 1
      | some q =>
        if r.k = 3 then .ok (B.set q.t.toNat (heardS (B.getD q.t.toNat []) q.s), Q.eraseIdx r.i.toNat)
        else if r.k = 4 then .ok (B, Q.eraseIdx r.i.toNat)
        else if Q.length = 4096 then .error 2
        else .ok (B, Q ++ [q])
  else .error 1
structure Hist (B : List (List Sl)) (Q : List Qk) (W : List (List Sl)) : Prop where
  rt : RtQ B Q
  len : W.length = B.length
  own : ∀ t : Nat, t < B.length → ofT (B.getD t []) t = W.getD t []
  pre : ∀ l ∈ B, ∀ t : Nat, t < B.length → ofT l t <+: W.getD t []
  net : ∀ q ∈ Q, ∀ t : Nat, q.s.tab = t → (W.getD t [])[q.s.seq.toNat]? = some q.s
theorem getD_set {α : Type} (B : List α) (k t : Nat) (x d : α) (hk : k < B.length) : (B.set k x).getD t d = if k = t then x else B.getD t d := by
  rw [List.getD_eq_getElem?_getD, List.getD_eq_getElem?_getD, List.getElem?_set]
  split
  · rename_i e; subst e
    first
      | rfl
      | (rw [if_pos hk]; rfl)
  · rfl
theorem getD_mem {α : Type} {B : List α} {t : Nat} {d : α} (h : t < B.length) : B.getD t d ∈ B := by
  rw [List.getD_eq_getElem?_getD, List.getElem?_eq_getElem h]; exact List.getElem_mem h
theorem pre_get {α : Type} {p w : List α} (h : p <+: w) {i : Nat} {x : α} (hx : p[i]? = some x) : w[i]? = some x := by
  obtain ⟨r, rfl⟩ := h
  rw [List.getElem?_append_left (get_lt hx)]; exact hx
theorem pre_snoc {α : Type} {p w : List α} {x : α} (h : p <+: w) (hx : w[p.length]? = some x) : p ++ [x] <+: w := by
  obtain ⟨r, rfl⟩ := h
  rw [List.getElem?_append_right (Nat.le_refl _), Nat.sub_self] at hx
  cases r with
  | nil => cases hx
  | cons y r => cases hx; exact ⟨r, by simp⟩
theorem eraseIdx_mem {α : Type} {Q : List α} {k : Nat} {x : α} (h : x ∈ Q.eraseIdx k) : x ∈ Q := (List.eraseIdx_sublist Q k).subset h
theorem hist_new {n : Nat} (h1 : 1 ≤ n) (h8 : n ≤ 8) : Hist (List.replicate n []) [] (List.replicate n []) := by
  have hm : ∀ l ∈ List.replicate n ([] : List Sl), l = [] := fun l hl => (List.mem_replicate.1 hl).2
  have hg : ∀ t : Nat, (List.replicate n ([] : List Sl)).getD t [] = [] := fun t => by
    rw [List.getD_eq_getElem?_getD, List.getElem?_replicate]; split <;> rfl
  refine ⟨⟨by simp [h1], by simp [h8], fun l hl => by rw [hm l hl]; rfl, fun l hl s hs => by rw [hm l hl] at hs; simp at hs, by simp, by simp⟩, rfl, fun t _ => by rw [hg]; rfl, fun l hl t _ => by rw [hm l hl, hg]; exact List.prefix_refl _, by simp⟩
theorem sub_of {l : List Sl} (h : BookC l) {s : Sl} (hs : s ∈ l) : (ofT l s.tab)[s.seq.toNat]? = some s := by
  obtain ⟨i, hi⟩ := List.getElem?_of_mem (ofT_mem.2 ⟨hs, rfl⟩ : s ∈ ofT l s.tab)
  have := (h.each s.tab).seq i s hi
  rw [show s.seq.toNat = i by omega]; exact hi
def wroteS (W : List (List Sl)) (r : Ps) : List (List Sl) := if r.k = 1 then W.set r.a.toNat (W.getD r.a.toNat [] ++ [{ r.s with seq := ((W.getD r.a.toNat []).length : Nat) }]) else W
structure GrewB (B B' : List (List Sl)) : Prop where
  len : B'.length = B.length
  more : ∀ i : Nat, i < B.length → (B.getD i []).length ≤ (B'.getD i []).length
theorem grew_refl (B : List (List Sl)) : GrewB B B := ⟨rfl, fun _ _ => Nat.le_refl _⟩
theorem grew_set {B : List (List Sl)} {k : Nat} {x : List Sl} (hk : k < B.length) (h : (B.getD k []).length ≤ x.length) : GrewB B (B.set k x) :=
  ⟨List.length_set, fun i hi => by rw [getD_set _ _ _ _ _ hk]; split; · rename_i e; subst e; exact h
                                   · exact Nat.le_refl _⟩
theorem hist_put {B : List (List Sl)} {Q Q' : List Qk} {W W' : List (List Sl)} {k : Nat} {s : Sl} (h : Hist B Q W) (hk : k < B.length) (hc : checkS (putS (B.getD k []) s) = 0) (hst : 0 ≤ s.tab ∧ s.tab < B.length) (hQ : ∀ q ∈ Q', q ∈ Q) (hQl : Q'.length ≤ Q.length)
    (hW : W'.length = W.length) (hWp : ∀ t : Nat, W.getD t [] <+: W'.getD t []) (hpre : ofT (B.getD k []) s.tab ++ [s] <+: W'.getD s.tab.toNat [])
    (hown : ∀ t : Nat, t < B.length → ofT ((B.set k (putS (B.getD k []) s)).getD t []) t = W'.getD t []) : Hist (B.set k (putS (B.getD k []) s)) Q' W' := by
  have hkm : B.getD k [] ∈ B := getD_mem hk
  have hb := check_book (h.rt.ck _ hkm)
  generalize B.getD k [] = l at *
  refine ⟨⟨by simp [h.rt.n1], by simp [h.rt.n8], fun l' hl' => ?_, fun l' hl' x hx => ?_, fun q hq => ?_, by have := h.rt.few; omega⟩, by rw [hW, h.len, List.length_set], fun t ht => hown t (by simpa using ht), fun l' hl' t ht => ?_, fun q hq t ht => pre_get (hWp t) (h.net q (hQ q hq) t ht)⟩
  · rcases List.mem_or_eq_of_mem_set hl' with hl' | rfl
    · exact h.rt.ck _ hl'
    · exact hc
  · rw [List.length_set]
    rcases List.mem_or_eq_of_mem_set hl' with hl' | rfl
    · exact h.rt.tab _ hl' x hx
    · rcases put_mem.1 hx with rfl | hx
      · exact hst.2
      · exact h.rt.tab _ hkm x hx
  · rw [List.length_set]; exact h.rt.net q (hQ q hq)
  · rw [List.length_set] at ht
    rcases List.mem_or_eq_of_mem_set hl' with hl' | rfl
    · exact (h.pre _ hl' t ht).trans (hWp t)
    · rw [ofT_put hb.up]
      split
      · rename_i e
        rw [show s.tab.toNat = t by omega, e] at hpre; exact hpre
      · exact (h.pre _ hkm t ht).trans (hWp t)
theorem hist_do {B : List (List Sl)} {Q : List Qk} {W : List (List Sl)} {r : Ps} {B' : List (List Sl)} {Q' : List Qk} (h : Hist B Q W) (hd : doS B Q r = .ok (B', Q')) : Hist B' Q' (wroteS W r) ∧ GrewB B B' ∧ (r.k = 1 → 0 ≤ r.a ∧ r.a < B.length) := by
  unfold doS at hd
  unfold wroteS
  by_cases k1 : r.k = 1
  · rw [if_pos k1] at hd ⊢
    by_cases hc : 0 ≤ r.a ∧ r.a < B.length ∧ r.s.tab = r.a
    · rw [if_pos hc] at hd
      obtain ⟨k, hkk⟩ : ∃ k : Nat, r.a = k := ⟨r.a.toNat, by omega⟩
      have hkB : k < B.length := by omega
      have hkm : B.getD k [] ∈ B := getD_mem hkB
      have hck := h.rt.ck _ hkm
      have hb := check_book hck
      have hown := h.own k hkB
      rw [show r.a.toNat = k by omega] at hd ⊢
      by_cases hw : (writeS (B.getD k []) r.s).2 = 0
      · rw [if_pos hw] at hd
        injection hd with hd; injection hd with e1 e2
        subst e1 e2
        have hmany : manyS (B.getD k []) r.s.tab = (W.getD k []).length := by rw [many_len, hc.2.2, hkk, hown]
        have hwr : (writeS (B.getD k []) r.s).1 = putS (B.getD k []) { r.s with seq := ((W.getD k []).length : Nat) } ∧ checkS (putS (B.getD k []) { r.s with seq := ((W.getD k []).length : Nat) }) = 0 := by
          unfold writeS at hw ⊢
          rw [if_neg (by rw [hck]; simp), hmany] at hw ⊢
          by_cases h5 : (B.getD k []).length = 512
          · rw [if_pos h5] at hw; exact absurd hw (by decide)
          · rw [if_neg h5] at hw ⊢
            cases hbk : bookB (putS (B.getD k []) { r.s with seq := ((W.getD k []).length : Nat) }) with
            | false => rw [hbk] at hw; simp at hw
            | true =>
              refine ⟨by simp, check_zero.2 ⟨?_, hbk⟩⟩
              have := (check_zero.1 hck).1
              rw [put_len]; omega
        obtain ⟨hw1, hw2⟩ := hwr
        rw [hw1]
        have hWk : k < W.length := by rw [h.len]; exact hkB
        obtain ⟨s, hs⟩ : ∃ s : Sl, s = { r.s with seq := ((W.getD k []).length : Nat) } := ⟨_, rfl⟩
        rw [← hs] at hw2 ⊢
        have hst : s.tab = k := by rw [hs]; show r.s.tab = k; omega
        refine ⟨hist_put h hkB hw2 (by omega) (fun q hq => hq) (Nat.le_refl _) List.length_set (fun t => ?_) ?_ (fun t ht => ?_), grew_set hkB (by rw [put_len]; omega), fun _ => ⟨hc.1, hc.2.1⟩⟩
        · rw [getD_set _ _ _ _ _ hWk]
          split
          · rename_i e; subst e; exact List.prefix_append _ _
          · exact List.prefix_refl _
        · rw [hst, show ((k : Int)).toNat = k by omega, getD_set _ _ _ _ _ hWk, if_pos rfl, hown]
          exact List.prefix_refl _
        · rw [getD_set _ _ _ _ _ hkB, getD_set _ _ _ _ _ hWk]
          split
          · rename_i e; subst e
            rw [ofT_put hb.up, if_pos hst, hown]
          · exact h.own t ht
      · rw [if_neg hw] at hd; cases hd
    · rw [if_neg hc] at hd; cases hd
  · rw [if_neg k1] at hd
    rw [if_neg k1]
    refine ⟨?_, ?_, fun e => absurd e k1⟩ <;> clear k1
    all_goals
      by_cases k2 : r.k = 2
      · rw [if_pos k2] at hd
        by_cases hc : 0 ≤ r.a ∧ r.a < B.length ∧ 0 ≤ r.t ∧ r.t < B.length ∧ r.a ≠ r.t
        · rw [if_pos hc] at hd
          split at hd
          · rename_i hlen
            injection hd with hd; injection hd with e1 e2
            subst e1 e2
            first
              | exact grew_refl _
              | (have hkB : r.a.toNat < B.length := by omega
                 have hkm : B.getD r.a.toNat [] ∈ B := getD_mem hkB
                 have hck := h.rt.ck _ hkm
                 have hb := check_book hck
                 refine ⟨⟨h.rt.n1, h.rt.n8, h.rt.ck, h.rt.tab, fun q hq => ?_, by simpa using hlen⟩, h.len, h.own, h.pre, fun q hq t ht => ?_⟩
                 · rcases List.mem_append.1 hq with hq | hq
                   · exact h.rt.net q hq
                   · obtain ⟨s, hs, rfl⟩ := List.mem_map.1 hq
                     exact ⟨hc.1, hc.2.2.1, hc.2.2.2.2, hc.2.1, hc.2.2.2.1, sendable_book hck hs, h.rt.tab _ hkm s hs⟩
                 · rcases List.mem_append.1 hq with hq | hq
                   · exact h.net q hq t ht
                   · obtain ⟨s, hs, rfl⟩ := List.mem_map.1 hq
                     dsimp only at ht ⊢
                     have h1 := h.rt.tab _ hkm s hs
                     have h2 := sub_of hb hs
                     rw [ht] at h2
                     exact pre_get (h.pre _ hkm t (by omega)) h2)
          · cases hd
        · rw [if_neg hc] at hd; cases hd
      · rw [if_neg k2] at hd
        by_cases k3 : r.k = 3 ∨ r.k = 4 ∨ r.k = 5
        · rw [if_pos k3] at hd
          by_cases hi : r.i < 0 ∨ (Q.length : Int) ≤ r.i
          · rw [if_pos hi] at hd; cases hd
          · rw [if_neg hi] at hd
            obtain ⟨q, hq⟩ : ∃ q, Q[r.i.toNat]? = some q := get_some (by omega)
            rw [hq] at hd
            dsimp only at hd
            have hqm := List.mem_of_getElem? hq
            obtain ⟨n1, n2, n3, n4, n5, n6, n7⟩ := h.rt.net q hqm
            have hkB : q.t.toNat < B.length := by omega
            have hkm : B.getD q.t.toNat [] ∈ B := getD_mem hkB
            have hck := h.rt.ck _ hkm
            have hb := check_book hck
            have hlose : Hist B (Q.eraseIdx r.i.toNat) W := ⟨⟨h.rt.n1, h.rt.n8, h.rt.ck, h.rt.tab, fun q hq => h.rt.net q (eraseIdx_mem hq), by have := h.rt.few; have := (List.eraseIdx_sublist Q r.i.toNat).length_le; omega⟩, h.len, h.own, h.pre, fun q hq => h.net q (eraseIdx_mem hq)⟩
            split at hd
            · injection hd with hd; injection hd with e1 e2
              subst e1 e2
              have hself : ∀ l : List Sl, l = B.getD q.t.toNat [] → B.set q.t.toNat l = B := fun l e => by
                subst e
                refine List.ext_getElem? fun j => ?_
                rw [List.getElem?_set]
                split
                · rename_i e; subst e
                  first
                    | (rw [List.getD_eq_getElem?_getD, List.getElem?_eq_getElem hkB]; rfl)
                    | (rw [if_pos hkB, List.getD_eq_getElem?_getD, List.getElem?_eq_getElem hkB]; rfl)
                · rfl
              by_cases hh : q.s.seq = (manyS (B.getD q.t.toNat []) q.s.tab : Nat) ∧ checkS (putS (B.getD q.t.toNat []) q.s) = 0
              · rw [show heardS (B.getD q.t.toNat []) q.s = putS (B.getD q.t.toNat []) q.s from if_pos hh]
                first
                  | exact grew_set hkB (by rw [put_len]; omega)
                  | (have hnt := h.net q hqm q.s.tab.toNat (by have := n6.tab; omega)
                     have h0 := n6.tab.1
                     have hmany : (ofT (B.getD q.t.toNat []) q.s.tab).length = q.s.seq.toNat := by have := hh.1; rw [many_len] at this; omega
                     refine hist_put h hkB hh.2 ⟨h0, n7⟩ (fun q hq => eraseIdx_mem hq) (List.eraseIdx_sublist Q r.i.toNat).length_le rfl (fun t => List.prefix_refl _) (pre_snoc ?_ (by rw [hmany]; exact hnt)) (fun t ht => ?_)
                     · have := h.pre _ hkm q.s.tab.toNat (by omega)
                       rwa [show ((q.s.tab.toNat : Nat) : Int) = q.s.tab by omega] at this
                     · rw [getD_set _ _ _ _ _ hkB]
                       split
                       · rename_i e
                         rw [ofT_put hb.up]
                         have ho := h.own t ht
                         split
                         · rename_i e2
                           rw [show q.s.tab.toNat = t by omega, ← ho, ← e] at hnt
                           rw [e2, ← e] at hmany
                           have := get_lt hnt
                           omega
                         · rw [e]; exact ho
                       · exact h.own t ht)
              · rw [show heardS (B.getD q.t.toNat []) q.s = B.getD q.t.toNat [] from if_neg hh, hself _ rfl]
                first
                  | exact grew_refl _
                  | exact hlose
            · split at hd
              · injection hd with hd; injection hd with e1 e2
                subst e1 e2
                first
                  | exact grew_refl _
                  | exact hlose
              · split at hd
                · cases hd
                · rename_i hfull
                  injection hd with hd; injection hd with e1 e2
                  subst e1 e2
                  first
                    | exact grew_refl _
                    | (have hfew := h.rt.few
                       refine ⟨⟨h.rt.n1, h.rt.n8, h.rt.ck, h.rt.tab, fun p hp => ?_, by simp; omega⟩, h.len, h.own, h.pre, fun p hp => ?_⟩
                       · rcases List.mem_append.1 hp with hp | hp
                         · exact h.rt.net p hp
                         · rw [List.mem_singleton] at hp; subst hp; exact h.rt.net p hqm
                       · rcases List.mem_append.1 hp with hp | hp
                         · exact h.net p hp
                         · rw [List.mem_singleton] at hp; subst hp; exact h.net p hqm)
        · rw [if_neg k3] at hd; cases hd
def Begins (n : Nat) (b : List Sl) (W : List (List Sl)) : Prop := W.length = n ∧ (∀ s ∈ b, 0 ≤ s.tab ∧ s.tab < n) ∧ ∀ t : Nat, t < n → ofT b t <+: W.getD t []
theorem hist_begins {B : List (List Sl)} {Q : List Qk} {W : List (List Sl)} (h : Hist B Q W) {b : List Sl} (hb : b ∈ B) : Begins B.length b W :=
  ⟨h.len, fun s hs => ⟨((check_book (h.rt.ck b hb)).tab s hs).1, h.rt.tab b hb s hs⟩, h.pre b hb⟩
theorem pre_two {α : Type} {p q w : List α} (hp : p <+: w) (hq : q <+: w) {i : Nat} {x y : α} (hx : p[i]? = some x) (hy : q[i]? = some y) : x = y := by
  have h1 := pre_get hp hx
  have h2 := pre_get hq hy
  rw [h1] at h2; exact Option.some.inj h2
theorem begins_agree {n : Nat} {a b : List Sl} {W : List (List Sl)} (ha : BookC a) (hb : BookC b) (h1 : Begins n a W) (h2 : Begins n b W) : Agree a b := fun x hx y hy e1 e2 => by
  have g1 := sub_of ha hx
  have g2 := sub_of hb hy
  have h3 := h1.2.1 x hx
  obtain ⟨t, ht⟩ : ∃ t : Nat, x.tab = t := ⟨x.tab.toNat, by omega⟩
  rw [← e1, ← e2, ht] at g2
  rw [ht] at g1
  exact pre_two (h1.2.2 t (by omega)) (h2.2.2 t (by omega)) g1 g2
theorem begins_merge {n : Nat} {a b : List Sl} {W : List (List Sl)} (ca : checkS a = 0) (cb : checkS b = 0) (h1 : Begins n a W) (h2 : Begins n b W) : ∃ o, mergeR a b = some o ∧ BookC o ∧ Begins n o W ∧ mergeS a b = if (512 : Int) < o.length then ([], 2) else (o, 0) := by
  have ha := check_book ca
  have hb := check_book cb
  cases hm : mergeR a b with
  | none => exact absurd (begins_agree ha hb h1 h2) (merge_none hm)
  | some o =>
    obtain ⟨g1, g2, g3⟩ := merge_some (book_lt ha) (book_lt hb) hm
    refine ⟨o, rfl, merge_book ha hb hm, ⟨h1.1, fun s hs => ?_, fun t ht => ?_⟩, ?_⟩
    · rcases (g2 s).1 hs with hs | hs
      · exact h1.2.1 s hs
      · exact h2.2.1 s hs
    · have := ofT_merge ha hb hm t
      rcases Nat.le_total (ofT a t).length (ofT b t).length with e | e
      · rw [this.1 e]; exact h2.2.2 t ht
      · rw [this.2 e]; exact h1.2.2 t ht
    · unfold mergeS
      rw [if_neg (by rw [ca]; simp), if_neg (by rw [cb]; simp), hm]
theorem begins_next {n : Nat} {b : List Sl} {W : List (List Sl)} (h : Begins n b W) {k : Nat} {s : Sl} (hs : b[k]? = some s) : ∃ t : Nat, t < n ∧ s.tab = t ∧ manyS (b.take k) t < (W.getD t []).length ∧ (W.getD t [])[manyS (b.take k) t]? = some s ∧ manyS (b.take (k + 1)) t = manyS (b.take k) t + 1 ∧ ∀ u : Int, u ≠ t → manyS (b.take (k + 1)) u = manyS (b.take k) u := by
  have hst := h.2.1 s (List.mem_of_getElem? hs)
  obtain ⟨t, ht⟩ : ∃ t : Nat, s.tab = t := ⟨s.tab.toNat, by omega⟩
  have hlt := get_lt hs
  have e : b.take (k + 1) = b.take k ++ [s] := by rw [List.take_add_one, hs]; rfl
  have hpre := h.2.2 t (by omega)
  have hsplit : ofT b t = ofT (b.take (k + 1)) t ++ ofT (b.drop (k + 1)) t := by rw [← ofT_app, List.take_append_drop]
  rw [hsplit, e, ofT_snoc, if_pos ht] at hpre
  have hget : (W.getD t [])[(ofT (b.take k) t).length]? = some s := pre_get hpre (by rw [List.append_assoc, List.getElem?_append_right (Nat.le_refl _), Nat.sub_self]; rfl)
  refine ⟨t, by omega, ht, ?_, ?_, ?_, fun u hu => ?_⟩
  · rw [many_len]; exact get_lt hget
  · rw [many_len]; exact hget
  · rw [many_len, many_len, e, ofT_snoc, if_pos ht]; simp
  · rw [many_len, many_len, e, ofT_snoc, if_neg (by omega)]
end Go.Proofs.YtkhoengjdfmfaaaGreat
namespace Go.Proofs.YtkhoengjdfmfaaaGreat
abbrev psC (r : Ps) : List AV := [.int .i64 r.k, .int .i64 r.a, .int .i64 r.t, .int .i64 r.i] ++ slC r.s
abbrev psV (r : Ps) : AV := .agg (psC r)
set_option maxHeartbeats 8000000 in
theorem pwrite_bad (b : Nat) (B : List (List Sl)) (L : List Pk) (r : Ps) (hn : B.length ≤ 8) (hbad : ¬ (0 ≤ r.a ∧ r.a < B.length ∧ r.s.tab = r.a)) (σ : List Ent) :
    SCall Tryz.prog 48 [.ptr b 0, psV r] (stE b B L :: σ) (Is (.int .i64 1) (stE b B L :: σ)) := by
  refine scall_of Tryz.func48 rfl (by simp) ?_
  have hi := fun σ => in_c r.a 0 ((B.length : Int) - 1) σ
  have hq : inB r.a 0 ((B.length : Int) - 1) = decide (0 ≤ r.a ∧ r.a < B.length) := by unfold inB; rw [Bool.eq_iff_iff]; simp; omega
  rw [hq] at hi
  refine zX (zZ ?_); refine zE rfl rfl rfl (g_box rfl rfl) ?_; intro _; refine xAs rfl rfl rfl rfl ?_; refine zY ?_; refine zX ?_; refine zX ?_; rotate_left
  (all_goals (repeat (rename BV _ _ => hbv; cases hbv)))
  all_goals (try (first | cases ‹true = false› | cases ‹false = true›))
  refine ex_drawLK anyK 19 [9] rfl (by kernel_rfl) rfl ?_
  simp only [List.take_succ_cons, List.take_zero, List.drop_succ_cons, List.drop_zero]
  apply zR; rfl; rfl; rfl; (intro σ' hl; (apply zP; rfl; rfl; rfl)); apply zR; rfl; rfl; rfl; (intro σ' hl; (apply g_load1; rfl; rfl; (exact .p (hl _ (by (exact True.intro)) (by (repeat first | exact q_h | apply q_t | assumption); done)) rfl))); apply zR; rfl; rfl; rfl; (intro σ' hl; (apply zH; rfl)); apply zR; rfl; rfl; rfl; (intro σ' hl; (apply g_nilCheck; rfl; rfl)); apply zR; rfl; rfl; rfl; (intro σ' hl; (apply zP; rfl; rfl; rfl)); apply zR; rfl; rfl; rfl; (intro σ' hl; (apply zP; rfl; rfl; rfl)); apply zR; rfl; rfl; rfl; (intro σ' hl; (apply g_load1; rfl; rfl; (exact .p (hl _ (by (exact True.intro)) (by (repeat first | exact q_h | apply q_t | assumption); done)) rfl))); apply zR; rfl; rfl; rfl; (intro σ' hl; (apply g_len; rfl; rfl; (exact (List.length_map _).symm))); apply zR; rfl; rfl; rfl; (intro σ' hl; (apply g_sub; rfl; rfl; rfl; exact ⟨by omega, by omega⟩)); refine wl_eff rfl rfl rfl (yX rfl rfl (zQ (by kernel_rfl)) (hi _)) ?_; rintro _ _ ⟨⟩; refine ⟨fun _ _ h => h, ?_⟩; apply wl_isB; rfl; rfl; rfl; (intro σ' hl; (apply g_not; rfl)); intro _ _; apply zR; rfl; rfl; rfl; (intro σ' hl; (apply zH; rfl)); refine wl_case rfl (fun h => ?_) (fun h => ?_) <;> ((first | (subst h; rename BV _ true => g; have h := g.eq; clear g) | (subst h; rename BV _ false => g; have h := g.eq; clear g) | skip); (have hp := h; try simp only [q_n] at hp); (try (exfalso; first | omega | (cases hp; done))));
  refine wl_skip rfl (by rfl) rfl rfl ?_; refine wl_skip rfl (by rfl) rfl rfl ?_; refine wl_skip rfl (by rfl) rfl rfl ?_; refine wl_skip rfl (by rfl) rfl rfl ?_; refine wl_skip rfl (by rfl) rfl rfl ?_; refine wl_skip rfl (by rfl) rfl rfl ?_; apply zR; rfl; rfl; rfl; (intro σ' hl; (apply g_pick_t; rfl; (rfl); rfl)); refine wl_nil ?_; refine zY ?_; refine ex_cond_t rfl (by rfl) ?_; refine zX (zZ ?_); refine xAs rfl rfl rfl rfl ?_; refine zY ?_; refine yV ?_; simp only [zD, zK, zJ, zT, retA, ↓reduceIte, Nat.reduceEqDiff]; rotate_left; apply wl_isW; rfl; (rfl); rfl; rfl; (intro σ' hl; (apply zP; rfl; rfl; rfl)); apply wl_isW; rfl; (rfl); rfl; rfl; (intro σ' hl; (apply zP; rfl; rfl; rfl)); apply wl_isW; rfl; (rfl); rfl; rfl; (intro σ' hl; (apply g_load1; rfl; rfl; (exact .p (hl _ (by (exact True.intro)) (by (repeat first | exact q_h | apply q_t | assumption); done)) rfl))); apply wl_isW; rfl; (rfl); rfl; rfl; (intro σ' hl; (apply zP; rfl; rfl; rfl)); apply wl_isW; rfl; (rfl); rfl; rfl; (intro σ' hl; (apply g_load1; rfl; rfl; (exact .p (hl _ (by (exact True.intro)) (by (repeat first | exact q_h | apply q_t | assumption); done)) rfl))); apply wl_isBW; rfl; (rfl); rfl; rfl; (intro σ' hl; (apply g_binInt; rfl; rfl; rfl)); intro _ _; apply zR; rfl; rfl; rfl; (intro σ' hl; (apply g_pick_f; rfl; (rfl); rfl)); refine wl_nil ?_; refine zY ?_; refine zU rfl (fun h => ?_) (fun h => ?_) <;> ((first | (subst h; rename BV _ true => g; have h := g.eq; clear g) | (subst h; rename BV _ false => g; have h := g.eq; clear g) | skip); (have hp := h; try simp only [q_n] at hp); (try (exfalso; first | omega | (cases hp; done))));
  refine zX (zZ ?_); refine xAs rfl rfl rfl rfl ?_; refine zY ?_; refine yV ?_; simp only [zD, zK, zJ, zT, retA, ↓reduceIte, Nat.reduceEqDiff]; rotate_left
  (all_goals (repeat (rename BV _ _ => hbv; cases hbv)))
  all_goals (try (first | cases ‹true = false› | cases ‹false = true›))
  all_goals
    refine ret_q (σ3 := stE b B L :: σ) .nil (.cons (.ofTmp rfl) .nil) (by repeat (first | exact q_r | apply q_q | apply q_k | exact q_a)) ?_
    exact fin_done .mk
set_option maxHeartbeats 8000000 in
theorem pwrite_ok (b k : Nat) (B : List (List Sl)) (L : List Pk) (r : Ps) (hn : B.length ≤ 8) (hk : k < B.length) (ha : r.a = k) (ht : r.s.tab = r.a) (l : List Sl) (hl : B[k]? = some l) (e : Int) (he : (writeS l r.s).2 = e) (σ : List Ent) :
    SCall Tryz.prog 48 [.ptr b 0, psV r] (stE b B L :: σ) (Is (.int .i64 e) (stE b (if e = 0 then B.set k (writeS l r.s).1 else B) L :: σ)) := by
  refine scall_of Tryz.func48 rfl (by simp) ?_
  have hi : ∀ σ, SCall Tryz.prog 44 [.int .i64 r.a, .int .i64 0, .int .i64 ((B.length : Int) - 1)] σ (Is (.bool true) σ) := fun σ => by
    have h0 := in_c r.a 0 ((B.length : Int) - 1) σ
    rwa [show inB r.a 0 ((B.length : Int) - 1) = true by unfold inB; simp; omega] at h0
  have hw := fun σ => write_c l r.s σ
  have hg := bk_get hl
  rw [he] at hw
  obtain ⟨l', hl'⟩ : ∃ l', (writeS l r.s).1 = l' := ⟨_, rfl⟩
  rw [hl'] at hw ⊢
  refine zX (zZ ?_); refine zE rfl rfl rfl (g_box rfl rfl) ?_; intro _; refine xAs rfl rfl rfl rfl ?_; refine zY ?_; refine zX ?_; refine zX ?_; rotate_left
  (all_goals (repeat (rename BV _ _ => hbv; cases hbv)))
  all_goals (try (first | cases ‹true = false› | cases ‹false = true›))
  refine ex_drawLK anyK 19 [9] rfl (by kernel_rfl) rfl ?_
  simp only [List.take_succ_cons, List.take_zero, List.drop_succ_cons, List.drop_zero]
  apply zR; rfl; rfl; rfl; (intro σ' hl; (apply zP; rfl; rfl; rfl)); apply zR; rfl; rfl; rfl; (intro σ' hl; (apply g_load1; rfl; rfl; (exact .p (hl _ (by (exact True.intro)) (by (repeat first | exact q_h | apply q_t | assumption); done)) rfl))); apply zR; rfl; rfl; rfl; (intro σ' hl; (apply zH; rfl)); apply zR; rfl; rfl; rfl; (intro σ' hl; (apply g_nilCheck; rfl; rfl)); apply zR; rfl; rfl; rfl; (intro σ' hl; (apply zP; rfl; rfl; rfl)); apply zR; rfl; rfl; rfl; (intro σ' hl; (apply zP; rfl; rfl; rfl)); apply zR; rfl; rfl; rfl; (intro σ' hl; (apply g_load1; rfl; rfl; (exact .p (hl _ (by (exact True.intro)) (by (repeat first | exact q_h | apply q_t | assumption); done)) rfl))); apply zR; rfl; rfl; rfl; (intro σ' hl; (apply g_len; rfl; rfl; (exact (List.length_map _).symm))); apply zR; rfl; rfl; rfl; (intro σ' hl; (apply g_sub; rfl; rfl; rfl; exact ⟨by omega, by omega⟩)); refine wl_eff rfl rfl rfl (yX rfl rfl (zQ (by kernel_rfl)) (hi _)) ?_; rintro _ _ ⟨⟩; refine ⟨fun _ _ h => h, ?_⟩; apply wl_isB; rfl; rfl; rfl; (intro σ' hl; (apply g_not; rfl)); intro _ _; apply zR; rfl; rfl; rfl; (intro σ' hl; (apply zH; rfl)); refine wl_case rfl (fun h => ?_) (fun h => ?_) <;> ((first | (subst h; rename BV _ true => g; have h := g.eq; clear g) | (subst h; rename BV _ false => g; have h := g.eq; clear g) | skip); (have hp := h; try simp only [q_n] at hp); (try (exfalso; first | omega | (cases hp; done))));
  apply wl_isW; rfl; (rfl); rfl; rfl; (intro σ' hl; (apply zP; rfl; rfl; rfl)); apply wl_isW; rfl; (rfl); rfl; rfl; (intro σ' hl; (apply zP; rfl; rfl; rfl)); apply wl_isW; rfl; (rfl); rfl; rfl; (intro σ' hl; (apply g_load1; rfl; rfl; (exact .p (hl _ (by (exact True.intro)) (by (repeat first | exact q_h | apply q_t | assumption); done)) rfl))); apply wl_isW; rfl; (rfl); rfl; rfl; (intro σ' hl; (apply zP; rfl; rfl; rfl)); apply wl_isW; rfl; (rfl); rfl; rfl; (intro σ' hl; (apply g_load1; rfl; rfl; (exact .p (hl _ (by (exact True.intro)) (by (repeat first | exact q_h | apply q_t | assumption); done)) rfl))); apply wl_isBW; rfl; (rfl); rfl; rfl; (intro σ' hl; (apply g_binInt; rfl; rfl; rfl)); intro _ _; apply zR; rfl; rfl; rfl; (intro σ' hl; (apply g_pick_f; rfl; (rfl); rfl)); refine wl_nil ?_; refine zY ?_; refine zU rfl (fun h => ?_) (fun h => ?_) <;> ((first | (subst h; rename BV _ true => g; have h := g.eq; clear g) | (subst h; rename BV _ false => g; have h := g.eq; clear g) | skip); (have hp := h; try simp only [q_n] at hp); (try (exfalso; first | omega | (cases hp; done))));
  refine zG ?_; refine zX ?_; rotate_left
  (all_goals (repeat (rename BV _ _ => hbv; cases hbv)))
  all_goals (try (first | cases ‹true = false› | cases ‹false = true›))
  rename Nat => b3; revert b3
  intro b3
  have hput : ∀ {σ σ' : List Ent}, Upd σ (stE b B L) (stE b (B.set k l') L) σ' → SCall Tryz.prog 82 [.ptr b 0, .int .i64 r.a, .agg (bkC l')] σ (Is (.tup []) σ') := fun h => by rw [ha]; exact put_c hk hn h
  by_cases he0 : e = 0
  · subst he0
    rw [if_pos rfl]
    refine ex_drfT (fun x => x = stE b B L ∨ x = .cells b3 (psC r) 45) [15, 16] 17 rfl (by kernel_rfl) rfl ?_
    refine zN rfl rfl (by kernel_rfl) ?_; apply zF; rfl; rfl; (intro σ' hl; (apply zH; rfl)); refine zN rfl rfl (by kernel_rfl) ?_; apply zF; rfl; rfl; (intro σ' hl; (apply g_nilCheck; rfl; rfl)); refine zN rfl rfl (by kernel_rfl) ?_; apply zF; rfl; rfl; (intro σ' hl; (apply zP; rfl; rfl; rfl)); refine zN rfl rfl (by kernel_rfl) ?_; apply zF; rfl; rfl; (intro σ' hl; (apply zP; rfl; rfl; rfl)); refine zN rfl rfl (by kernel_rfl) ?_; apply zF; rfl; rfl; (intro σ' hl; (apply g_load1; rfl; rfl; (exact .p (hl _ (by (exact .inl rfl)) (by (repeat first | exact q_h | apply q_t | assumption); done)) rfl))); refine zN rfl rfl (by kernel_rfl) ?_; apply zF; rfl; rfl; (intro σ' hl; (apply zP; rfl; rfl; rfl)); refine zN rfl rfl (by kernel_rfl) ?_; apply zF; rfl; rfl; (intro σ' hl; (apply g_load1; rfl; rfl; (exact .p (hl _ (by (exact .inr rfl)) (by (repeat first | exact q_h | apply q_t | assumption); done)) rfl))); refine zN rfl rfl (by kernel_rfl) ?_; apply zF; rfl; rfl; (intro σ' hl; (apply g_indexDl; rfl; rfl; rfl; (assumption); (assumption))); refine zN rfl rfl (by kernel_rfl) ?_; apply zF; rfl; rfl; (intro σ' hl; (apply zB; rfl; decide; rfl; (exact .e rfl rfl))); refine zN rfl rfl (by kernel_rfl) ?_; apply zF; rfl; rfl; (intro σ' hl; (apply zP; rfl; rfl; rfl)); refine zN rfl rfl (by kernel_rfl) ?_; apply zF; rfl; rfl; (intro σ' hl; (apply zB; rfl; decide; rfl; (exact .p (hl _ (by (exact .inr rfl)) (by (repeat first | exact q_h | apply q_t | assumption); done)) rfl rfl))); refine zN rfl rfl (by kernel_rfl) ?_; apply zF; rfl; rfl; (intro σ' hl; (refine yX rfl rfl (zQ (by kernel_rfl)) ?_; exact hw _)); refine zN rfl rfl (by kernel_rfl) ?_; apply zF; rfl; rfl; (intro σ' hl; (apply zH; rfl)); refine zN rfl rfl (by kernel_rfl) ?_; apply zF; rfl; rfl; (intro σ' hl; (apply yW; rfl; rfl)); refine zN rfl rfl (by kernel_rfl) ?_; apply zF; rfl; rfl; (intro σ' hl; (apply yW; rfl; rfl)); refine drf_one rfl rfl ?_; refine drs_box rfl rfl (g_alloc rfl) ?_; intro _; refine drf_one rfl rfl ?_; apply drs_do; rfl; rfl; (apply zL; rfl; rfl; rfl; (exact Upd.here); (simp only [setL, q_z, AV.cells]; rfl); rfl; rfl; rfl; exact q_b rfl); (rintro _ (rfl | rfl | rfl) _ <;> exact (by (repeat first | exact q_h | apply q_t | assumption); done)); refine drf_nil rfl ?_; refine xAs rfl rfl rfl rfl ?_; refine zY ?_; refine zX ?_; refine zX (zZ ?_); refine xMv rfl rfl rfl rfl ?_; refine xBi rfl rfl rfl rfl rfl rfl ?_; intro _ _; refine zY ?_; refine zU rfl (fun h => ?_) (fun h => ?_) <;> ((first | (subst h; rename BV _ true => g; have h := g.eq; clear g) | (subst h; rename BV _ false => g; have h := g.eq; clear g) | skip); (have hp := h; try simp only [q_n] at hp); (try (exfalso; first | omega | (cases hp; done))));
    refine zZ ?_; refine xMv rfl rfl rfl rfl ?_; refine xFa rfl rfl rfl rfl rfl rfl ?_; refine xLd rfl rfl rfl rfl rfl (.p (by (repeat first | exact q_h | apply q_t | assumption); done) rfl) ?_; refine xLa rfl rfl rfl rfl (by decide) rfl (.p (by (repeat first | exact q_h | apply q_t | assumption); done) rfl rfl) ?_; apply zV; rfl; rfl; rfl; (refine yX rfl rfl (zQ (by kernel_rfl)) ?_; exact hput (by (exact Upd.there (Upd.there (Upd.here))))); refine zY ?_; refine zX (zZ ?_); refine xMv rfl rfl rfl rfl ?_; refine xAs rfl rfl rfl rfl ?_; refine zY ?_; refine yV ?_; simp only [zD, zK, zJ, zT, retA, ↓reduceIte, Nat.reduceEqDiff]; rotate_left
    (all_goals (repeat (rename BV _ _ => hbv; cases hbv)))
    all_goals (try (first | cases ‹true = false› | cases ‹false = true›))
    refine ret_q (σ3 := stE b (B.set k l') L :: σ) .nil (.cons (.ofTmp rfl) .nil) (by repeat (first | exact q_r | apply q_q | apply q_k | exact q_a)) ?_
    exact fin_done .mk
  · rw [if_neg he0]
    refine ex_drfT (fun x => x = stE b B L ∨ x = .cells b3 (psC r) 45) [15, 16] 17 rfl (by kernel_rfl) rfl ?_
    refine zN rfl rfl (by kernel_rfl) ?_; apply zF; rfl; rfl; (intro σ' hl; (apply zH; rfl)); refine zN rfl rfl (by kernel_rfl) ?_; apply zF; rfl; rfl; (intro σ' hl; (apply g_nilCheck; rfl; rfl)); refine zN rfl rfl (by kernel_rfl) ?_; apply zF; rfl; rfl; (intro σ' hl; (apply zP; rfl; rfl; rfl)); refine zN rfl rfl (by kernel_rfl) ?_; apply zF; rfl; rfl; (intro σ' hl; (apply zP; rfl; rfl; rfl)); refine zN rfl rfl (by kernel_rfl) ?_; apply zF; rfl; rfl; (intro σ' hl; (apply g_load1; rfl; rfl; (exact .p (hl _ (by (exact .inl rfl)) (by (repeat first | exact q_h | apply q_t | assumption); done)) rfl))); refine zN rfl rfl (by kernel_rfl) ?_; apply zF; rfl; rfl; (intro σ' hl; (apply zP; rfl; rfl; rfl)); refine zN rfl rfl (by kernel_rfl) ?_; apply zF; rfl; rfl; (intro σ' hl; (apply g_load1; rfl; rfl; (exact .p (hl _ (by (exact .inr rfl)) (by (repeat first | exact q_h | apply q_t | assumption); done)) rfl))); refine zN rfl rfl (by kernel_rfl) ?_; apply zF; rfl; rfl; (intro σ' hl; (apply g_indexDl; rfl; rfl; rfl; (assumption); (assumption))); refine zN rfl rfl (by kernel_rfl) ?_; apply zF; rfl; rfl; (intro σ' hl; (apply zB; rfl; decide; rfl; (exact .e rfl rfl))); refine zN rfl rfl (by kernel_rfl) ?_; apply zF; rfl; rfl; (intro σ' hl; (apply zP; rfl; rfl; rfl)); refine zN rfl rfl (by kernel_rfl) ?_; apply zF; rfl; rfl; (intro σ' hl; (apply zB; rfl; decide; rfl; (exact .p (hl _ (by (exact .inr rfl)) (by (repeat first | exact q_h | apply q_t | assumption); done)) rfl rfl))); refine zN rfl rfl (by kernel_rfl) ?_; apply zF; rfl; rfl; (intro σ' hl; (refine yX rfl rfl (zQ (by kernel_rfl)) ?_; exact hw _)); refine zN rfl rfl (by kernel_rfl) ?_; apply zF; rfl; rfl; (intro σ' hl; (apply zH; rfl)); refine zN rfl rfl (by kernel_rfl) ?_; apply zF; rfl; rfl; (intro σ' hl; (apply yW; rfl; rfl)); refine zN rfl rfl (by kernel_rfl) ?_; apply zF; rfl; rfl; (intro σ' hl; (apply yW; rfl; rfl)); refine drf_one rfl rfl ?_; refine drs_box rfl rfl (g_alloc rfl) ?_; intro _; refine drf_one rfl rfl ?_; apply drs_do; rfl; rfl; (apply zL; rfl; rfl; rfl; (exact Upd.here); (simp only [setL, q_z, AV.cells]; rfl); rfl; rfl; rfl; exact q_b rfl); (rintro _ (rfl | rfl | rfl) _ <;> exact (by (repeat first | exact q_h | apply q_t | assumption); done)); refine drf_nil rfl ?_; refine xAs rfl rfl rfl rfl ?_; refine zY ?_; refine zX ?_; refine zX (zZ ?_); refine xMv rfl rfl rfl rfl ?_; refine xBi rfl rfl rfl rfl rfl rfl ?_; intro _ _; refine zY ?_; refine zU rfl (fun h => ?_) (fun h => ?_) <;> ((first | (subst h; rename BV _ true => g; have h := g.eq; clear g) | (subst h; rename BV _ false => g; have h := g.eq; clear g) | skip); (have hp := h; try simp only [q_n] at hp); (try (exfalso; first | omega | (cases hp; done))));
    refine zG ?_; refine zX (zZ ?_); refine xMv rfl rfl rfl rfl ?_; refine xAs rfl rfl rfl rfl ?_; refine zY ?_; refine yV ?_; simp only [zD, zK, zJ, zT, retA, ↓reduceIte, Nat.reduceEqDiff]; rotate_left
    (all_goals (repeat (rename BV _ _ => hbv; cases hbv)))
    all_goals (try (first | cases ‹true = false› | cases ‹false = true›))
    refine ret_q (σ3 := stE b B L :: σ) .nil (.cons (.ofTmp rfl) .nil) (by repeat (first | exact q_r | apply q_q | apply q_k | exact q_a)) ?_
    exact fin_done .mk
end Go.Proofs.YtkhoengjdfmfaaaGreat
namespace Go.Proofs.YtkhoengjdfmfaaaGreat
abbrev st0 (b : Nat) (B : List (List Sl)) : Ent := .cells b [bks B, .slv nilS, .slv nilS] 102
set_option maxHeartbeats 8000000 in
theorem plose_out (b : Nat) (B : List (List Sl)) (L : List Pk) (r : Ps) (h0 : ∀ p ∈ L, OkP p) (hl : L.length ≤ 4096) (ho : r.i < 0 ∨ (L.length : Int) ≤ r.i) (σ : List Ent) :
    SCall Tryz.prog 51 [.ptr b 0, psV r] (stE b B L :: σ) (Is (.int .i64 1) (st0 b B :: σ)) := by
  refine scall_of Tryz.func51 rfl (by simp) ?_
  have hc := fun σ => lose_out L h0 hl r.i ho σ
  clear h0 ho
  refine zX (zZ ?_); refine zE rfl rfl rfl (g_box rfl rfl) ?_; intro _; refine xAs rfl rfl rfl rfl ?_; refine zY ?_; refine zX ?_; rotate_left
  (all_goals (repeat (rename BV _ _ => hbv; cases hbv)))
  all_goals (try (first | cases ‹true = false› | cases ‹false = true›))
  rename Nat => b3; revert b3
  intro b3
  refine ex_drfT (fun x => x = .cells b3 (psC r) 45) [5, 15] 16 rfl (by kernel_rfl) rfl ?_
  refine zN rfl rfl (by kernel_rfl) ?_; apply zF; rfl; rfl; (intro σ' hl; (apply zH; rfl)); refine zN rfl rfl (by kernel_rfl) ?_; apply zF; rfl; rfl; (intro σ' hl; (apply zH; rfl)); refine zN rfl rfl (by kernel_rfl) ?_; apply zF; rfl; rfl; (intro σ' hl; (apply g_nilCheck; rfl; rfl)); refine zN rfl rfl (by kernel_rfl) ?_; apply zF; rfl; rfl; (intro σ' hl; (apply zP; rfl; rfl; rfl)); refine zN rfl rfl (by kernel_rfl) ?_; apply zF; rfl; rfl; (intro σ' hl; (apply zP; rfl; rfl; rfl)); refine zN rfl rfl (by kernel_rfl) ?_; apply zF; rfl; rfl; (intro σ' hl; (apply zP; rfl; rfl; rfl)); refine zN rfl rfl (by kernel_rfl) ?_; apply zF; rfl; rfl; (intro σ' hl; (apply g_load1; rfl; rfl; (exact .p (hl _ (by (rfl)) (by (repeat first | exact q_h | apply q_t | assumption); done)) rfl))); refine drf_one rfl rfl ?_; apply drs_is; rfl; rfl; (apply zB; rfl; decide; rfl; (exact .p (by (repeat first | exact q_h | apply q_t | assumption); done) rfl rfl)); refine zN rfl rfl (by kernel_rfl) ?_; apply zF; rfl; rfl; (intro σ' hl; (refine yX rfl rfl (zQ (by kernel_rfl)) ?_; exact hc _)); refine zN rfl rfl (by kernel_rfl) ?_; apply zF; rfl; rfl; (intro σ' hl; (apply zH; rfl)); refine zN rfl rfl (by kernel_rfl) ?_; apply zF; rfl; rfl; (intro σ' hl; (apply yW; rfl; rfl)); refine zN rfl rfl (by kernel_rfl) ?_; apply zF; rfl; rfl; (intro σ' hl; (apply yW; rfl; rfl)); refine zN rfl rfl (by kernel_rfl) ?_; apply zF; rfl; rfl; (intro σ' hl; (apply g_nilCheck; rfl; rfl)); refine zN rfl rfl (by kernel_rfl) ?_; apply zF; rfl; rfl; (intro σ' hl; (apply zP; rfl; rfl; rfl)); refine zN rfl rfl (by kernel_rfl) ?_; apply zF; rfl; rfl; (intro σ' hl; (apply zP; rfl; rfl; rfl)); refine drf_one rfl rfl ?_; apply drs_do; rfl; rfl; (apply zL; rfl; rfl; rfl; (exact Upd.there (Upd.here)); (simp only [setL, q_z, AV.cells]; rfl); rfl; rfl; rfl; exact q_b rfl); (rintro _ (rfl | rfl | rfl) _ <;> exact (by (repeat first | exact q_h | apply q_t | assumption); done)); refine drf_nil rfl ?_; refine xAs rfl rfl rfl rfl ?_; refine zY ?_; refine zX (zZ ?_); refine xMv rfl rfl rfl rfl ?_; refine xAs rfl rfl rfl rfl ?_; refine zY ?_; refine yV ?_; simp only [zD, zK, zJ, zT, retA, ↓reduceIte, Nat.reduceEqDiff]; rotate_left
  (all_goals (repeat (rename BV _ _ => hbv; cases hbv)))
  all_goals (try (first | cases ‹true = false› | cases ‹false = true›))
  all_goals
    refine ret_q (σ3 := st0 b B :: σ) .nil (.cons (.ofTmp rfl) .nil) (by repeat (first | exact q_r | apply q_q | apply q_k | exact q_a)) ?_
    exact fin_done .mk
set_option maxHeartbeats 8000000 in
theorem plose_in (b : Nat) (B : List (List Sl)) (L : List Pk) (r : Ps) (h0 : ∀ p ∈ L, OkP p) (hl : L.length ≤ 4096) (k : Nat) (p : Pk) (hk : L[k]? = some p) (hi : r.i = k) (σ : List Ent) :
    SCall Tryz.prog 51 [.ptr b 0, psV r] (stE b B L :: σ) (Is (.int .i64 0) (stE b B (L.eraseIdx k) :: σ)) := by
  refine scall_of Tryz.func51 rfl (by simp) ?_
  have hc := fun σ => lose_in L h0 hl k p hk σ
  rw [← hi] at hc
  clear h0 hk
  refine zX (zZ ?_); refine zE rfl rfl rfl (g_box rfl rfl) ?_; intro _; refine xAs rfl rfl rfl rfl ?_; refine zY ?_; refine zX ?_; rotate_left
  (all_goals (repeat (rename BV _ _ => hbv; cases hbv)))
  all_goals (try (first | cases ‹true = false› | cases ‹false = true›))
  rename Nat => b3; revert b3
  intro b3
  refine ex_drfT (fun x => x = .cells b3 (psC r) 45) [5, 15] 16 rfl (by kernel_rfl) rfl ?_
  refine zN rfl rfl (by kernel_rfl) ?_; apply zF; rfl; rfl; (intro σ' hl; (apply zH; rfl)); refine zN rfl rfl (by kernel_rfl) ?_; apply zF; rfl; rfl; (intro σ' hl; (apply zH; rfl)); refine zN rfl rfl (by kernel_rfl) ?_; apply zF; rfl; rfl; (intro σ' hl; (apply g_nilCheck; rfl; rfl)); refine zN rfl rfl (by kernel_rfl) ?_; apply zF; rfl; rfl; (intro σ' hl; (apply zP; rfl; rfl; rfl)); refine zN rfl rfl (by kernel_rfl) ?_; apply zF; rfl; rfl; (intro σ' hl; (apply zP; rfl; rfl; rfl)); refine zN rfl rfl (by kernel_rfl) ?_; apply zF; rfl; rfl; (intro σ' hl; (apply zP; rfl; rfl; rfl)); refine zN rfl rfl (by kernel_rfl) ?_; apply zF; rfl; rfl; (intro σ' hl; (apply g_load1; rfl; rfl; (exact .p (hl _ (by (rfl)) (by (repeat first | exact q_h | apply q_t | assumption); done)) rfl))); refine drf_one rfl rfl ?_; apply drs_is; rfl; rfl; (apply zB; rfl; decide; rfl; (exact .p (by (repeat first | exact q_h | apply q_t | assumption); done) rfl rfl)); refine zN rfl rfl (by kernel_rfl) ?_; apply zF; rfl; rfl; (intro σ' hl; (refine yX rfl rfl (zQ (by kernel_rfl)) ?_; exact hc _)); refine zN rfl rfl (by kernel_rfl) ?_; apply zF; rfl; rfl; (intro σ' hl; (apply zH; rfl)); refine zN rfl rfl (by kernel_rfl) ?_; apply zF; rfl; rfl; (intro σ' hl; (apply yW; rfl; rfl)); refine zN rfl rfl (by kernel_rfl) ?_; apply zF; rfl; rfl; (intro σ' hl; (apply yW; rfl; rfl)); refine zN rfl rfl (by kernel_rfl) ?_; apply zF; rfl; rfl; (intro σ' hl; (apply g_nilCheck; rfl; rfl)); refine zN rfl rfl (by kernel_rfl) ?_; apply zF; rfl; rfl; (intro σ' hl; (apply zP; rfl; rfl; rfl)); refine zN rfl rfl (by kernel_rfl) ?_; apply zF; rfl; rfl; (intro σ' hl; (apply zP; rfl; rfl; rfl)); refine drf_one rfl rfl ?_; apply drs_do; rfl; rfl; (apply zL; rfl; rfl; rfl; (exact Upd.there (Upd.here)); (simp only [setL, q_z, AV.cells]; rfl); rfl; rfl; rfl; exact q_b rfl); (rintro _ (rfl | rfl | rfl) _ <;> exact (by (repeat first | exact q_h | apply q_t | assumption); done)); refine drf_nil rfl ?_; refine xAs rfl rfl rfl rfl ?_; refine zY ?_; refine zX (zZ ?_); refine xMv rfl rfl rfl rfl ?_; refine xAs rfl rfl rfl rfl ?_; refine zY ?_; refine yV ?_; simp only [zD, zK, zJ, zT, retA, ↓reduceIte, Nat.reduceEqDiff]; rotate_left
  (all_goals (repeat (rename BV _ _ => hbv; cases hbv)))
  all_goals (try (first | cases ‹true = false› | cases ‹false = true›))
  all_goals
    refine ret_q (σ3 := stE b B (L.eraseIdx k) :: σ) .nil (.cons (.ofTmp rfl) .nil) (by repeat (first | exact q_r | apply q_q | apply q_k | exact q_a)) ?_
    exact fin_done .mk
set_option maxHeartbeats 8000000 in
theorem prepeat_out (b : Nat) (B : List (List Sl)) (L : List Pk) (r : Ps) (h0 : ∀ p ∈ L, OkP p) (hl : L.length ≤ 4096) (ho : r.i < 0 ∨ (L.length : Int) ≤ r.i) (σ : List Ent) :
    SCall Tryz.prog 52 [.ptr b 0, psV r] (stE b B L :: σ) (Is (.int .i64 1) (st0 b B :: σ)) := by
  refine scall_of Tryz.func52 rfl (by simp) ?_
  have hc := fun σ => repeat_out L h0 hl r.i ho σ
  clear h0 ho
  refine zX (zZ ?_); refine zE rfl rfl rfl (g_box rfl rfl) ?_; intro _; refine xAs rfl rfl rfl rfl ?_; refine zY ?_; refine zX ?_; rotate_left
  (all_goals (repeat (rename BV _ _ => hbv; cases hbv)))
  all_goals (try (first | cases ‹true = false› | cases ‹false = true›))
  rename Nat => b3; revert b3
  intro b3
  refine ex_drfT (fun x => x = .cells b3 (psC r) 45) [5, 15] 16 rfl (by kernel_rfl) rfl ?_
  refine zN rfl rfl (by kernel_rfl) ?_; apply zF; rfl; rfl; (intro σ' hl; (apply zH; rfl)); refine zN rfl rfl (by kernel_rfl) ?_; apply zF; rfl; rfl; (intro σ' hl; (apply zH; rfl)); refine zN rfl rfl (by kernel_rfl) ?_; apply zF; rfl; rfl; (intro σ' hl; (apply g_nilCheck; rfl; rfl)); refine zN rfl rfl (by kernel_rfl) ?_; apply zF; rfl; rfl; (intro σ' hl; (apply zP; rfl; rfl; rfl)); refine zN rfl rfl (by kernel_rfl) ?_; apply zF; rfl; rfl; (intro σ' hl; (apply zP; rfl; rfl; rfl)); refine zN rfl rfl (by kernel_rfl) ?_; apply zF; rfl; rfl; (intro σ' hl; (apply zP; rfl; rfl; rfl)); refine zN rfl rfl (by kernel_rfl) ?_; apply zF; rfl; rfl; (intro σ' hl; (apply g_load1; rfl; rfl; (exact .p (hl _ (by (rfl)) (by (repeat first | exact q_h | apply q_t | assumption); done)) rfl))); refine drf_one rfl rfl ?_; apply drs_is; rfl; rfl; (apply zB; rfl; decide; rfl; (exact .p (by (repeat first | exact q_h | apply q_t | assumption); done) rfl rfl)); refine zN rfl rfl (by kernel_rfl) ?_; apply zF; rfl; rfl; (intro σ' hl; (refine yX rfl rfl (zQ (by kernel_rfl)) ?_; exact hc _)); refine zN rfl rfl (by kernel_rfl) ?_; apply zF; rfl; rfl; (intro σ' hl; (apply zH; rfl)); refine zN rfl rfl (by kernel_rfl) ?_; apply zF; rfl; rfl; (intro σ' hl; (apply yW; rfl; rfl)); refine zN rfl rfl (by kernel_rfl) ?_; apply zF; rfl; rfl; (intro σ' hl; (apply yW; rfl; rfl)); refine zN rfl rfl (by kernel_rfl) ?_; apply zF; rfl; rfl; (intro σ' hl; (apply g_nilCheck; rfl; rfl)); refine zN rfl rfl (by kernel_rfl) ?_; apply zF; rfl; rfl; (intro σ' hl; (apply zP; rfl; rfl; rfl)); refine zN rfl rfl (by kernel_rfl) ?_; apply zF; rfl; rfl; (intro σ' hl; (apply zP; rfl; rfl; rfl)); refine drf_one rfl rfl ?_; apply drs_do; rfl; rfl; (apply zL; rfl; rfl; rfl; (exact Upd.there (Upd.here)); (simp only [setL, q_z, AV.cells]; rfl); rfl; rfl; rfl; exact q_b rfl); (rintro _ (rfl | rfl | rfl) _ <;> exact (by (repeat first | exact q_h | apply q_t | assumption); done)); refine drf_nil rfl ?_; refine xAs rfl rfl rfl rfl ?_; refine zY ?_; refine zX (zZ ?_); refine xMv rfl rfl rfl rfl ?_; refine xAs rfl rfl rfl rfl ?_; refine zY ?_; refine yV ?_; simp only [zD, zK, zJ, zT, retA, ↓reduceIte, Nat.reduceEqDiff]; rotate_left
  (all_goals (repeat (rename BV _ _ => hbv; cases hbv)))
  all_goals (try (first | cases ‹true = false› | cases ‹false = true›))
  all_goals
    refine ret_q (σ3 := st0 b B :: σ) .nil (.cons (.ofTmp rfl) .nil) (by repeat (first | exact q_r | apply q_q | apply q_k | exact q_a)) ?_
    exact fin_done .mk
set_option maxHeartbeats 8000000 in
theorem prepeat_full (b : Nat) (B : List (List Sl)) (L : List Pk) (r : Ps) (h0 : ∀ p ∈ L, OkP p) (hl : L.length ≤ 4096) (k : Nat) (p : Pk) (hk : L[k]? = some p) (hi : r.i = k) (he : L.length = 4096) (σ : List Ent) :
    SCall Tryz.prog 52 [.ptr b 0, psV r] (stE b B L :: σ) (Is (.int .i64 2) (st0 b B :: σ)) := by
  refine scall_of Tryz.func52 rfl (by simp) ?_
  have hc := fun σ => repeat_in L h0 hl k p hk σ
  unfold sendR at hc
  rw [← hi, if_pos he] at hc
  clear h0 hk
  refine zX (zZ ?_); refine zE rfl rfl rfl (g_box rfl rfl) ?_; intro _; refine xAs rfl rfl rfl rfl ?_; refine zY ?_; refine zX ?_; rotate_left
  (all_goals (repeat (rename BV _ _ => hbv; cases hbv)))
  all_goals (try (first | cases ‹true = false› | cases ‹false = true›))
  rename Nat => b3; revert b3
  intro b3
  refine ex_drfT (fun x => x = .cells b3 (psC r) 45) [5, 15] 16 rfl (by kernel_rfl) rfl ?_
  refine zN rfl rfl (by kernel_rfl) ?_; apply zF; rfl; rfl; (intro σ' hl; (apply zH; rfl)); refine zN rfl rfl (by kernel_rfl) ?_; apply zF; rfl; rfl; (intro σ' hl; (apply zH; rfl)); refine zN rfl rfl (by kernel_rfl) ?_; apply zF; rfl; rfl; (intro σ' hl; (apply g_nilCheck; rfl; rfl)); refine zN rfl rfl (by kernel_rfl) ?_; apply zF; rfl; rfl; (intro σ' hl; (apply zP; rfl; rfl; rfl)); refine zN rfl rfl (by kernel_rfl) ?_; apply zF; rfl; rfl; (intro σ' hl; (apply zP; rfl; rfl; rfl)); refine zN rfl rfl (by kernel_rfl) ?_; apply zF; rfl; rfl; (intro σ' hl; (apply zP; rfl; rfl; rfl)); refine zN rfl rfl (by kernel_rfl) ?_; apply zF; rfl; rfl; (intro σ' hl; (apply g_load1; rfl; rfl; (exact .p (hl _ (by (rfl)) (by (repeat first | exact q_h | apply q_t | assumption); done)) rfl))); refine drf_one rfl rfl ?_; apply drs_is; rfl; rfl; (apply zB; rfl; decide; rfl; (exact .p (by (repeat first | exact q_h | apply q_t | assumption); done) rfl rfl)); refine zN rfl rfl (by kernel_rfl) ?_; apply zF; rfl; rfl; (intro σ' hl; (refine yX rfl rfl (zQ (by kernel_rfl)) ?_; exact hc _)); refine zN rfl rfl (by kernel_rfl) ?_; apply zF; rfl; rfl; (intro σ' hl; (apply zH; rfl)); refine zN rfl rfl (by kernel_rfl) ?_; apply zF; rfl; rfl; (intro σ' hl; (apply yW; rfl; rfl)); refine zN rfl rfl (by kernel_rfl) ?_; apply zF; rfl; rfl; (intro σ' hl; (apply yW; rfl; rfl)); refine zN rfl rfl (by kernel_rfl) ?_; apply zF; rfl; rfl; (intro σ' hl; (apply g_nilCheck; rfl; rfl)); refine zN rfl rfl (by kernel_rfl) ?_; apply zF; rfl; rfl; (intro σ' hl; (apply zP; rfl; rfl; rfl)); refine zN rfl rfl (by kernel_rfl) ?_; apply zF; rfl; rfl; (intro σ' hl; (apply zP; rfl; rfl; rfl)); refine drf_one rfl rfl ?_; apply drs_do; rfl; rfl; (apply zL; rfl; rfl; rfl; (exact Upd.there (Upd.here)); (simp only [setL, q_z, AV.cells]; rfl); rfl; rfl; rfl; exact q_b rfl); (rintro _ (rfl | rfl | rfl) _ <;> exact (by (repeat first | exact q_h | apply q_t | assumption); done)); refine drf_nil rfl ?_; refine xAs rfl rfl rfl rfl ?_; refine zY ?_; refine zX (zZ ?_); refine xMv rfl rfl rfl rfl ?_; refine xAs rfl rfl rfl rfl ?_; refine zY ?_; refine yV ?_; simp only [zD, zK, zJ, zT, retA, ↓reduceIte, Nat.reduceEqDiff]; rotate_left
  (all_goals (repeat (rename BV _ _ => hbv; cases hbv)))
  all_goals (try (first | cases ‹true = false› | cases ‹false = true›))
  all_goals
    refine ret_q (σ3 := st0 b B :: σ) .nil (.cons (.ofTmp rfl) .nil) (by repeat (first | exact q_r | apply q_q | apply q_k | exact q_a)) ?_
    exact fin_done .mk
set_option maxHeartbeats 8000000 in
theorem prepeat_in (b : Nat) (B : List (List Sl)) (L : List Pk) (r : Ps) (h0 : ∀ p ∈ L, OkP p) (hl : L.length ≤ 4096) (k : Nat) (p : Pk) (hk : L[k]? = some p) (hi : r.i = k) (he : ¬ L.length = 4096) (σ : List Ent) :
    SCall Tryz.prog 52 [.ptr b 0, psV r] (stE b B L :: σ) (Is (.int .i64 0) (stE b B (L ++ [p]) :: σ)) := by
  refine scall_of Tryz.func52 rfl (by simp) ?_
  have hc := fun σ => repeat_in L h0 hl k p hk σ
  unfold sendR at hc
  rw [← hi, if_neg he] at hc
  clear h0 hk
  refine zX (zZ ?_); refine zE rfl rfl rfl (g_box rfl rfl) ?_; intro _; refine xAs rfl rfl rfl rfl ?_; refine zY ?_; refine zX ?_; rotate_left
  (all_goals (repeat (rename BV _ _ => hbv; cases hbv)))
  all_goals (try (first | cases ‹true = false› | cases ‹false = true›))
  rename Nat => b3; revert b3
  intro b3
  refine ex_drfT (fun x => x = .cells b3 (psC r) 45) [5, 15] 16 rfl (by kernel_rfl) rfl ?_
  refine zN rfl rfl (by kernel_rfl) ?_; apply zF; rfl; rfl; (intro σ' hl; (apply zH; rfl)); refine zN rfl rfl (by kernel_rfl) ?_; apply zF; rfl; rfl; (intro σ' hl; (apply zH; rfl)); refine zN rfl rfl (by kernel_rfl) ?_; apply zF; rfl; rfl; (intro σ' hl; (apply g_nilCheck; rfl; rfl)); refine zN rfl rfl (by kernel_rfl) ?_; apply zF; rfl; rfl; (intro σ' hl; (apply zP; rfl; rfl; rfl)); refine zN rfl rfl (by kernel_rfl) ?_; apply zF; rfl; rfl; (intro σ' hl; (apply zP; rfl; rfl; rfl)); refine zN rfl rfl (by kernel_rfl) ?_; apply zF; rfl; rfl; (intro σ' hl; (apply zP; rfl; rfl; rfl)); refine zN rfl rfl (by kernel_rfl) ?_; apply zF; rfl; rfl; (intro σ' hl; (apply g_load1; rfl; rfl; (exact .p (hl _ (by (rfl)) (by (repeat first | exact q_h | apply q_t | assumption); done)) rfl))); refine drf_one rfl rfl ?_; apply drs_is; rfl; rfl; (apply zB; rfl; decide; rfl; (exact .p (by (repeat first | exact q_h | apply q_t | assumption); done) rfl rfl)); refine zN rfl rfl (by kernel_rfl) ?_; apply zF; rfl; rfl; (intro σ' hl; (refine yX rfl rfl (zQ (by kernel_rfl)) ?_; exact hc _)); refine zN rfl rfl (by kernel_rfl) ?_; apply zF; rfl; rfl; (intro σ' hl; (apply zH; rfl)); refine zN rfl rfl (by kernel_rfl) ?_; apply zF; rfl; rfl; (intro σ' hl; (apply yW; rfl; rfl)); refine zN rfl rfl (by kernel_rfl) ?_; apply zF; rfl; rfl; (intro σ' hl; (apply yW; rfl; rfl)); refine zN rfl rfl (by kernel_rfl) ?_; apply zF; rfl; rfl; (intro σ' hl; (apply g_nilCheck; rfl; rfl)); refine zN rfl rfl (by kernel_rfl) ?_; apply zF; rfl; rfl; (intro σ' hl; (apply zP; rfl; rfl; rfl)); refine zN rfl rfl (by kernel_rfl) ?_; apply zF; rfl; rfl; (intro σ' hl; (apply zP; rfl; rfl; rfl)); refine drf_one rfl rfl ?_; apply drs_do; rfl; rfl; (apply zL; rfl; rfl; rfl; (exact Upd.there (Upd.here)); (simp only [setL, q_z, AV.cells]; rfl); rfl; rfl; rfl; exact q_b rfl); (rintro _ (rfl | rfl | rfl) _ <;> exact (by (repeat first | exact q_h | apply q_t | assumption); done)); refine drf_nil rfl ?_; refine xAs rfl rfl rfl rfl ?_; refine zY ?_; refine zX (zZ ?_); refine xMv rfl rfl rfl rfl ?_; refine xAs rfl rfl rfl rfl ?_; refine zY ?_; refine yV ?_; simp only [zD, zK, zJ, zT, retA, ↓reduceIte, Nat.reduceEqDiff]; rotate_left
  (all_goals (repeat (rename BV _ _ => hbv; cases hbv)))
  all_goals (try (first | cases ‹true = false› | cases ‹false = true›))
  all_goals
    refine ret_q (σ3 := stE b B (L ++ [p]) :: σ) .nil (.cons (.ofTmp rfl) .nil) (by repeat (first | exact q_r | apply q_q | apply q_k | exact q_a)) ?_
    exact fin_done .mk
end Go.Proofs.YtkhoengjdfmfaaaGreat
namespace Go.Proofs.YtkhoengjdfmfaaaGreat
set_option maxHeartbeats 8000000 in
theorem pdeliver_out (b : Nat) (B : List (List Sl)) (L : List Pk) (r : Ps) (h0 : ∀ p ∈ L, OkP p) (hl : L.length ≤ 4096) (ho : r.i < 0 ∨ (L.length : Int) ≤ r.i) (σ : List Ent) :
    SCall Tryz.prog 50 [.ptr b 0, psV r] (stE b B L :: σ) (Is (.int .i64 1) (stE b B L :: σ)) := by
  refine scall_of Tryz.func50 rfl (by simp) ?_
  have hc := fun σ => deliver_out L h0 hl r.i ho σ
  clear h0 ho
  refine zX (zZ ?_); refine zE rfl rfl rfl (g_box rfl rfl) ?_; intro _; refine xAs rfl rfl rfl rfl ?_; refine zY ?_; refine zX ?_; rotate_left
  (all_goals (repeat (rename BV _ _ => hbv; cases hbv)))
  all_goals (try (first | cases ‹true = false› | cases ‹false = true›))
  rename Nat => b3; revert b3
  intro b3
  refine ex_joinT (fun (z : Nat × Nat) => (⟨[(0, .ptr b 0), (3, .ptr b3 0), (4, .int .i64 1)], stE b B L :: σ, [], Tryz.f50.ntmps⟩ : St)) ?_ ?_
  · refine ex_drfT (fun x => x = stE b B L ∨ x = .cells b3 (psC r) 45) [12, 13, 14, 15] 16 rfl (by kernel_rfl) rfl ?_
    refine zN rfl rfl (by kernel_rfl) ?_; apply zF; rfl; rfl; (intro σ' hl; (apply zH; rfl)); refine zN rfl rfl (by kernel_rfl) ?_; apply zF; rfl; rfl; (intro σ' hl; (apply g_nilCheck; rfl; rfl)); refine zN rfl rfl (by kernel_rfl) ?_; apply zF; rfl; rfl; (intro σ' hl; (apply zP; rfl; rfl; rfl)); refine zN rfl rfl (by kernel_rfl) ?_; apply zF; rfl; rfl; (intro σ' hl; (apply zP; rfl; rfl; rfl)); refine zN rfl rfl (by kernel_rfl) ?_; apply zF; rfl; rfl; (intro σ' hl; (apply zB; rfl; decide; rfl; (exact .p (hl _ (by (exact .inl rfl)) (by (repeat first | exact q_h | apply q_t | assumption); done)) rfl rfl))); refine zN rfl rfl (by kernel_rfl) ?_; apply zF; rfl; rfl; (intro σ' hl; (apply zP; rfl; rfl; rfl)); refine zN rfl rfl (by kernel_rfl) ?_; apply zF; rfl; rfl; (intro σ' hl; (apply g_load1; rfl; rfl; (exact .p (hl _ (by (exact .inr rfl)) (by (repeat first | exact q_h | apply q_t | assumption); done)) rfl))); refine zN rfl rfl (by kernel_rfl) ?_; apply zF; rfl; rfl; (intro σ' hl; (refine yX rfl rfl (zQ (by kernel_rfl)) ?_; exact hc _)); refine zN rfl rfl (by kernel_rfl) ?_; apply zF; rfl; rfl; (intro σ' hl; (apply zH; rfl)); refine zN rfl rfl (by kernel_rfl) ?_; apply zF; rfl; rfl; (intro σ' hl; (apply yW; rfl; rfl)); refine zN rfl rfl (by kernel_rfl) ?_; apply zF; rfl; rfl; (intro σ' hl; (apply yW; rfl; rfl)); refine zN rfl rfl (by kernel_rfl) ?_; apply zF; rfl; rfl; (intro σ' hl; (apply yW; rfl; rfl)); refine drf_two rfl rfl rfl ?_ ?_; refine drs_box rfl rfl (g_alloc rfl) ?_; intro _; refine drf_one rfl rfl ?_; refine drs_box rfl rfl (g_alloc rfl) ?_; intro _; refine drf_one rfl rfl ?_; apply drs_do; rfl; rfl; (apply zL; rfl; rfl; rfl; (exact Upd.there (Upd.here)); (simp only [setL, q_z, AV.cells]; rfl); rfl; rfl; rfl; exact q_b rfl); (rintro _ (rfl | rfl | rfl) _ <;> exact (by (repeat first | exact q_h | apply q_t | assumption); done)); refine drf_one rfl rfl ?_; apply drs_do; rfl; rfl; (apply zL; rfl; rfl; rfl; (exact Upd.here); (simp only [setL, q_z, AV.cells]; rfl); rfl; rfl; rfl; exact q_b rfl); (rintro _ (rfl | rfl | rfl) _ <;> exact (by (repeat first | exact q_h | apply q_t | assumption); done)); refine drf_nil rfl ?_; refine xAs rfl rfl rfl rfl ?_; refine zC ?_; simp only [zD, zK, zJ, zT, retA, ↓reduceIte, Nat.reduceEqDiff]; rotate_left; refine drs_box rfl rfl (g_alloc rfl) ?_; intro _; refine drf_one rfl rfl ?_; refine drs_box rfl rfl (g_alloc rfl) ?_; intro _; refine drf_one rfl rfl ?_; apply drs_do; rfl; rfl; (apply zL; rfl; rfl; rfl; (exact Upd.here); (simp only [setL, q_z, AV.cells]; rfl); rfl; rfl; rfl; exact q_b rfl); (rintro _ (rfl | rfl | rfl) _ <;> exact (by (repeat first | exact q_h | apply q_t | assumption); done)); refine drf_one rfl rfl ?_; apply drs_do; rfl; rfl; (apply zL; rfl; rfl; rfl; (exact Upd.there (Upd.here)); (simp only [setL, q_z, AV.cells]; rfl); rfl; rfl; rfl; exact q_b rfl); (rintro _ (rfl | rfl | rfl) _ <;> exact (by (repeat first | exact q_h | apply q_t | assumption); done)); refine drf_nil rfl ?_; refine xAs rfl rfl rfl rfl ?_; refine zC ?_; simp only [zD, zK, zJ, zT, retA, ↓reduceIte, Nat.reduceEqDiff]; rotate_left
    (all_goals (repeat (rename BV _ _ => hbv; cases hbv)))
    all_goals (try (first | cases ‹true = false› | cases ‹false = true›))
    all_goals exact ⟨(0, 0), _, List.Perm.refl _, (St.le_of (by repeat (first | exact trivial | refine ⟨rfl, ?_⟩)) (by repeat (first | exact q_r | apply q_q | apply q_k | exact q_a)))⟩
  · rintro ⟨_, _⟩
    refine zX ?_; refine zX (zZ ?_); refine xMv rfl rfl rfl rfl ?_; refine xBi rfl rfl rfl rfl rfl rfl ?_; intro _ _; refine zY ?_; refine zU rfl (fun h => ?_) (fun h => ?_) <;> ((first | (subst h; rename BV _ true => g; have h := g.eq; clear g) | (subst h; rename BV _ false => g; have h := g.eq; clear g) | skip); (have hp := h; try simp only [q_n] at hp); (try (exfalso; first | omega | (cases hp; done))));
    refine zX (zZ ?_); refine xMv rfl rfl rfl rfl ?_; refine xAs rfl rfl rfl rfl ?_; refine zY ?_; refine yV ?_; simp only [zD, zK, zJ, zT, retA, ↓reduceIte, Nat.reduceEqDiff]; rotate_left
    (all_goals (repeat (rename BV _ _ => hbv; cases hbv)))
    all_goals (try (first | cases ‹true = false› | cases ‹false = true›))
    refine ret_q (σ3 := stE b B L :: σ) .nil (.cons (.ofTmp rfl) .nil) (by repeat (first | exact q_r | apply q_q | apply q_k | exact q_a)) ?_
    exact fin_done .mk
set_option maxHeartbeats 16000000 in
theorem pdeliver_in (b : Nat) (B : List (List Sl)) (L : List Pk) (r : Ps) (h0 : ∀ p ∈ L, OkP p) (hl : L.length ≤ 4096) (hn : B.length ≤ 8) (k t : Nat) (p : Pk) (hk : L[k]? = some p) (hi : r.i = k) (s : Sl) (hs : Sendable s) (hd : p.d = msgS s) (ht : p.t = (t : Int)) (l : List Sl) (hB : B[t]? = some l) (hlen : l.length ≤ 512) (σ : List Ent) :
    SCall Tryz.prog 50 [.ptr b 0, psV r] (stE b B L :: σ) (Is (.int .i64 0) (stE b (B.set t (heardS l s)) (L.eraseIdx k) :: σ)) := by
  refine scall_of Tryz.func50 rfl (by simp) ?_
  have hc := fun σ => deliver_in L h0 hl k p hk σ
  rw [← hi] at hc
  have hrd : ∀ σ, SCall Tryz.prog 81 [bys p.d] σ (Is (.tup [slV s, .bool true]) σ) := fun σ => by rw [hd]; exact read_c s hs σ
  have hen := fun σ => end_c l s.tab σ
  have had := fun σ => added_c l s (by omega) σ
  have hck := fun σ => check_c (putS l s) σ
  have htB : t < B.length := (List.getElem?_eq_some_iff.1 hB).1
  have hg := bk_get hB
  have hput : ∀ {σ σ' : List Ent}, Upd σ (stE b B (L.eraseIdx k)) (stE b (B.set t (putS l s)) (L.eraseIdx k)) σ' → SCall Tryz.prog 82 [.ptr b 0, .int .i64 p.t, .agg (bkC (putS l s))] σ (Is (.tup []) σ') := fun h => by rw [ht]; exact put_c htB hn h
  have hkeep : B.set t l = B := by
    refine List.ext_getElem? fun j => ?_
    rw [List.getElem?_set]
    split
    · rename_i e; subst e; rw [hB]
    · rfl
  clear h0 hk hs
  refine zX (zZ ?_); refine zE rfl rfl rfl (g_box rfl rfl) ?_; intro _; refine xAs rfl rfl rfl rfl ?_; refine zY ?_; refine zX ?_; rotate_left
  (all_goals (repeat (rename BV _ _ => hbv; cases hbv)))
  all_goals (try (first | cases ‹true = false› | cases ‹false = true›))
  rename Nat => b3; revert b3
  intro b3
  refine ex_joinT (fun (z : Nat × Nat) => (⟨[(0, .ptr b 0), (3, .ptr b3 0), (4, .int .i64 0), (5, .ptr z.1 0), (6, .ptr z.2 0)], .cells z.2 (netC (L.eraseIdx k)) 39 :: .cells z.1 (pkC p) 93 :: .cells b3 (psC r) 45 :: stE b B L :: σ, [], Tryz.f50.ntmps⟩ : St)) ?_ ?_
  · refine ex_drfT (fun x => x = stE b B L ∨ x = .cells b3 (psC r) 45) [12, 13, 14, 15] 16 rfl (by kernel_rfl) rfl ?_
    refine zN rfl rfl (by kernel_rfl) ?_; apply zF; rfl; rfl; (intro σ' hl; (apply zH; rfl)); refine zN rfl rfl (by kernel_rfl) ?_; apply zF; rfl; rfl; (intro σ' hl; (apply g_nilCheck; rfl; rfl)); refine zN rfl rfl (by kernel_rfl) ?_; apply zF; rfl; rfl; (intro σ' hl; (apply zP; rfl; rfl; rfl)); refine zN rfl rfl (by kernel_rfl) ?_; apply zF; rfl; rfl; (intro σ' hl; (apply zP; rfl; rfl; rfl)); refine zN rfl rfl (by kernel_rfl) ?_; apply zF; rfl; rfl; (intro σ' hl; (apply zB; rfl; decide; rfl; (exact .p (hl _ (by (exact .inl rfl)) (by (repeat first | exact q_h | apply q_t | assumption); done)) rfl rfl))); refine zN rfl rfl (by kernel_rfl) ?_; apply zF; rfl; rfl; (intro σ' hl; (apply zP; rfl; rfl; rfl)); refine zN rfl rfl (by kernel_rfl) ?_; apply zF; rfl; rfl; (intro σ' hl; (apply g_load1; rfl; rfl; (exact .p (hl _ (by (exact .inr rfl)) (by (repeat first | exact q_h | apply q_t | assumption); done)) rfl))); refine zN rfl rfl (by kernel_rfl) ?_; apply zF; rfl; rfl; (intro σ' hl; (refine yX rfl rfl (zQ (by kernel_rfl)) ?_; exact hc _)); refine zN rfl rfl (by kernel_rfl) ?_; apply zF; rfl; rfl; (intro σ' hl; (apply zH; rfl)); refine zN rfl rfl (by kernel_rfl) ?_; apply zF; rfl; rfl; (intro σ' hl; (apply yW; rfl; rfl)); refine zN rfl rfl (by kernel_rfl) ?_; apply zF; rfl; rfl; (intro σ' hl; (apply yW; rfl; rfl)); refine zN rfl rfl (by kernel_rfl) ?_; apply zF; rfl; rfl; (intro σ' hl; (apply yW; rfl; rfl)); refine drf_two rfl rfl rfl ?_ ?_; refine drs_box rfl rfl (g_alloc rfl) ?_; intro _; refine drf_one rfl rfl ?_; refine drs_box rfl rfl (g_alloc rfl) ?_; intro _; refine drf_one rfl rfl ?_; apply drs_do; rfl; rfl; (apply zL; rfl; rfl; rfl; (exact Upd.there (Upd.here)); (simp only [setL, q_z, AV.cells]; rfl); rfl; rfl; rfl; exact q_b rfl); (rintro _ (rfl | rfl | rfl) _ <;> exact (by (repeat first | exact q_h | apply q_t | assumption); done)); refine drf_one rfl rfl ?_; apply drs_do; rfl; rfl; (apply zL; rfl; rfl; rfl; (exact Upd.here); (simp only [setL, q_z, AV.cells]; rfl); rfl; rfl; rfl; exact q_b rfl); (rintro _ (rfl | rfl | rfl) _ <;> exact (by (repeat first | exact q_h | apply q_t | assumption); done)); refine drf_nil rfl ?_; refine xAs rfl rfl rfl rfl ?_; refine zC ?_; simp only [zD, zK, zJ, zT, retA, ↓reduceIte, Nat.reduceEqDiff]; rotate_left; refine drs_box rfl rfl (g_alloc rfl) ?_; intro _; refine drf_one rfl rfl ?_; refine drs_box rfl rfl (g_alloc rfl) ?_; intro _; refine drf_one rfl rfl ?_; apply drs_do; rfl; rfl; (apply zL; rfl; rfl; rfl; (exact Upd.here); (simp only [setL, q_z, AV.cells]; rfl); rfl; rfl; rfl; exact q_b rfl); (rintro _ (rfl | rfl | rfl) _ <;> exact (by (repeat first | exact q_h | apply q_t | assumption); done)); refine drf_one rfl rfl ?_; apply drs_do; rfl; rfl; (apply zL; rfl; rfl; rfl; (exact Upd.there (Upd.here)); (simp only [setL, q_z, AV.cells]; rfl); rfl; rfl; rfl; exact q_b rfl); (rintro _ (rfl | rfl | rfl) _ <;> exact (by (repeat first | exact q_h | apply q_t | assumption); done)); refine drf_nil rfl ?_; refine xAs rfl rfl rfl rfl ?_; refine zC ?_; simp only [zD, zK, zJ, zT, retA, ↓reduceIte, Nat.reduceEqDiff]; rotate_left
    (all_goals (repeat (rename BV _ _ => hbv; cases hbv)))
    all_goals (try (first | cases ‹true = false› | cases ‹false = true›))
    · exact ⟨(_, _), _, List.Perm.refl _, (St.le_of (by repeat (first | exact trivial | refine ⟨rfl, ?_⟩)) (by repeat (first | exact q_r | apply q_q | apply q_k | exact q_a)))⟩
    · exact ⟨(_, _), _, .swap _ _ _, (St.le_of (by repeat (first | exact trivial | refine ⟨rfl, ?_⟩)) (by repeat (first | exact q_r | apply q_q | apply q_k | exact q_a)))⟩
  · rintro ⟨b5, b6⟩
    dsimp only
    clear hc
    refine zX ?_; refine zX (zZ ?_); refine xMv rfl rfl rfl rfl ?_; refine xBi rfl rfl rfl rfl rfl rfl ?_; intro _ _; refine zY ?_; refine zU rfl (fun h => ?_) (fun h => ?_) <;> ((first | (subst h; rename BV _ true => g; have h := g.eq; clear g) | (subst h; rename BV _ false => g; have h := g.eq; clear g) | skip); (have hp := h; try simp only [q_n] at hp); (try (exfalso; first | omega | (cases hp; done))));
    refine zG ?_; refine zX (zZ ?_); refine xMv rfl rfl rfl rfl ?_; refine xLa rfl rfl rfl rfl (by decide) rfl (.p (by (repeat first | exact q_h | apply q_t | assumption); done) rfl rfl) ?_; apply zV; rfl; rfl; rfl; (apply g_nilCheck; rfl; rfl); refine xFa rfl rfl rfl rfl rfl rfl ?_; refine xFa rfl rfl rfl rfl rfl rfl ?_; apply yY; rfl; rfl; (apply zL; rfl; rfl; rfl; (exact Upd.there (Upd.there (Upd.there (Upd.here)))); (simp only [setL, q_z, AV.cells]; rfl); rfl; rfl; rfl; exact q_b rfl); refine zY ?_; refine zX (zZ ?_); refine xFa rfl rfl rfl rfl rfl rfl ?_; refine xLd rfl rfl rfl rfl rfl (.p (by (repeat first | exact q_h | apply q_t | assumption); done) rfl) ?_; apply zV; rfl; rfl; rfl; (refine yX rfl rfl (zQ (by kernel_rfl)) ?_; exact hrd _); refine xMv rfl rfl rfl rfl ?_; apply zV; rfl; rfl; rfl; (apply yW; rfl; rfl); apply zV; rfl; rfl; rfl; (apply yW; rfl; rfl); refine zE rfl rfl rfl (g_alloc rfl) ?_; intro _; apply yY; rfl; rfl; (apply zL; rfl; rfl; rfl; (exact Upd.here); (simp only [setL, q_z, AV.cells]; rfl); rfl; rfl; rfl; exact q_b rfl); refine xAs rfl rfl rfl rfl ?_; refine zY ?_; refine zX ?_; refine zX (zZ ?_); refine xMv rfl rfl rfl rfl ?_; apply exl_isB; rfl; rfl; rfl; (apply g_not; rfl); intro _ _; refine zY ?_; refine zU rfl (fun h => ?_) (fun h => ?_) <;> ((first | (subst h; rename BV _ true => g; have h := g.eq; clear g) | (subst h; rename BV _ false => g; have h := g.eq; clear g) | skip); (have hp := h; try simp only [q_n] at hp); (try (exfalso; first | omega | (cases hp; done))));
    refine zG ?_; refine zX ?_; refine zX ?_; rotate_left
    (all_goals (repeat (rename BV _ _ => hbv; cases hbv)))
    all_goals (try (first | cases ‹true = false› | cases ‹false = true›))
    rename Nat => b7; revert b7
    intro b7
    refine ex_weaken (s' := ⟨[(0, .ptr b 0), (3, .ptr b3 0), (4, .int .i64 0), (5, .ptr b5 0), (7, .ptr b7 0)], .cells b7 (slC s) 43 :: .cells b5 (pkC p) 93 :: stE b B (L.eraseIdx k) :: σ, [], Tryz.f50.ntmps⟩) (St.le_of (by repeat (first | exact trivial | refine ⟨rfl, ?_⟩)) (by repeat (first | exact q_r | apply q_q | apply q_k))) ?_
    clear hrd
    by_cases hq : s.seq = (manyS l s.tab : Nat)
    · by_cases hz : checkS (putS l s) = 0
      · rw [show heardS l s = putS l s from if_pos ⟨hq, hz⟩]
        rw [hz] at hck
        clear hkeep
        generalize putS l s = l' at had hck hput
        refine ex_drawLK anyK 17 [] rfl (by kernel_rfl) rfl ?_
        simp only [List.take_succ_cons, List.take_zero, List.drop_succ_cons, List.drop_zero]
        apply zR; rfl; rfl; rfl; (intro σ' hl; (apply zH; rfl)); apply zR; rfl; rfl; rfl; (intro σ' hl; (apply g_nilCheck; rfl; rfl)); apply zR; rfl; rfl; rfl; (intro σ' hl; (apply zP; rfl; rfl; rfl)); apply zR; rfl; rfl; rfl; (intro σ' hl; (apply zP; rfl; rfl; rfl)); apply zR; rfl; rfl; rfl; (intro σ' hl; (apply g_load1; rfl; rfl; (exact .p (hl _ (by (exact True.intro)) (by (repeat first | exact q_h | apply q_t | assumption); done)) rfl))); apply zR; rfl; rfl; rfl; (intro σ' hl; (apply zP; rfl; rfl; rfl)); apply zR; rfl; rfl; rfl; (intro σ' hl; (apply g_load1; rfl; rfl; (exact .p (hl _ (by (exact True.intro)) (by (repeat first | exact q_h | apply q_t | assumption); done)) rfl))); apply zR; rfl; rfl; rfl; (intro σ' hl; (apply g_indexDl; rfl; rfl; rfl; (assumption); (assumption))); apply zR; rfl; rfl; rfl; (intro σ' hl; (apply zB; rfl; decide; rfl; (exact .e rfl rfl))); apply zR; rfl; rfl; rfl; (intro σ' hl; (apply zP; rfl; rfl; rfl)); apply zR; rfl; rfl; rfl; (intro σ' hl; (apply g_load1; rfl; rfl; (exact .p (hl _ (by (exact True.intro)) (by (repeat first | exact q_h | apply q_t | assumption); done)) rfl))); apply zR; rfl; rfl; rfl; (intro σ' hl; (refine yX rfl rfl (zQ (by kernel_rfl)) ?_; exact hen _)); apply zR; rfl; rfl; rfl; (intro σ' hl; (apply zH; rfl)); apply zR; rfl; rfl; rfl; (intro σ' hl; (apply yW; rfl; rfl)); apply zR; rfl; rfl; rfl; (intro σ' hl; (apply yW; rfl; rfl)); apply zR; rfl; rfl; rfl; (intro σ' hl; (apply g_assign; rfl)); apply zR; rfl; rfl; rfl; (intro σ' hl; (apply g_assign; rfl)); refine wl_nil ?_; refine zY ?_; refine zX (zZ ?_); refine xFa rfl rfl rfl rfl rfl rfl ?_; refine xLd rfl rfl rfl rfl rfl (.p (by (repeat first | exact q_h | apply q_t | assumption); done) rfl) ?_; refine xMv rfl rfl rfl rfl ?_; refine xBi rfl rfl rfl rfl rfl rfl ?_; intro _ _; refine zY ?_; refine zU rfl (fun h => ?_) (fun h => ?_) <;> ((first | (subst h; rename BV _ true => g; have h := g.eq; clear g) | (subst h; rename BV _ false => g; have h := g.eq; clear g) | skip); (have hp := h; try simp only [q_n] at hp); (try (exfalso; first | omega | (cases hp; done))));
        refine zX ?_; rotate_left
        (all_goals (repeat (rename BV _ _ => hbv; cases hbv)))
        all_goals (try (first | cases ‹true = false› | cases ‹false = true›))
        refine ex_drfT (fun x => x = stE b B (L.eraseIdx k) ∨ x = .cells b5 (pkC p) 93 ∨ x = .cells b7 (slC s) 43) [11, 12] 13 rfl (by kernel_rfl) rfl ?_
        refine zN rfl rfl (by kernel_rfl) ?_; apply zF; rfl; rfl; (intro σ' hl; (apply zH; rfl)); refine zN rfl rfl (by kernel_rfl) ?_; apply zF; rfl; rfl; (intro σ' hl; (apply g_nilCheck; rfl; rfl)); refine zN rfl rfl (by kernel_rfl) ?_; apply zF; rfl; rfl; (intro σ' hl; (apply zP; rfl; rfl; rfl)); refine zN rfl rfl (by kernel_rfl) ?_; apply zF; rfl; rfl; (intro σ' hl; (apply zP; rfl; rfl; rfl)); refine zN rfl rfl (by kernel_rfl) ?_; apply zF; rfl; rfl; (intro σ' hl; (apply g_load1; rfl; rfl; (exact .p (hl _ (by (exact .inl rfl)) (by (repeat first | exact q_h | apply q_t | assumption); done)) rfl))); refine zN rfl rfl (by kernel_rfl) ?_; apply zF; rfl; rfl; (intro σ' hl; (apply zP; rfl; rfl; rfl)); refine zN rfl rfl (by kernel_rfl) ?_; apply zF; rfl; rfl; (intro σ' hl; (apply g_load1; rfl; rfl; (exact .p (hl _ (by (exact .inr (.inl rfl))) (by (repeat first | exact q_h | apply q_t | assumption); done)) rfl))); refine zN rfl rfl (by kernel_rfl) ?_; apply zF; rfl; rfl; (intro σ' hl; (apply g_indexDl; rfl; rfl; rfl; (assumption); (assumption))); refine zN rfl rfl (by kernel_rfl) ?_; apply zF; rfl; rfl; (intro σ' hl; (apply zB; rfl; decide; rfl; (exact .e rfl rfl))); refine zN rfl rfl (by kernel_rfl) ?_; apply zF; rfl; rfl; (intro σ' hl; (apply zB; rfl; decide; rfl; (exact .p (hl _ (by (exact .inr (.inr rfl))) (by (repeat first | exact q_h | apply q_t | assumption); done)) rfl rfl))); refine zN rfl rfl (by kernel_rfl) ?_; apply zF; rfl; rfl; (intro σ' hl; (refine yX rfl rfl (zQ (by kernel_rfl)) ?_; exact had _)); refine drf_one rfl rfl ?_; refine drs_box rfl rfl (g_alloc rfl) ?_; intro _; refine drf_one rfl rfl ?_; apply drs_do; rfl; rfl; (apply zL; rfl; rfl; rfl; (exact Upd.here); (simp only [setL, q_z, AV.cells]; rfl); rfl; rfl; rfl; exact q_b rfl); (rintro _ (rfl | rfl | rfl) _ <;> exact (by (repeat first | exact q_h | apply q_t | assumption); done)); refine drf_nil rfl ?_; refine zY ?_; refine zX (zZ ?_); refine xLa rfl rfl rfl rfl (by decide) rfl (.p (by (repeat first | exact q_h | apply q_t | assumption); done) rfl rfl) ?_; apply zV; rfl; rfl; rfl; (refine yX rfl rfl (zQ (by kernel_rfl)) ?_; exact hck _); refine xBi rfl rfl rfl rfl rfl rfl ?_; intro _ _; refine zY ?_; refine zU rfl (fun h => ?_) (fun h => ?_) <;> ((first | (subst h; rename BV _ true => g; have h := g.eq; clear g) | (subst h; rename BV _ false => g; have h := g.eq; clear g) | skip); (have hp := h; try simp only [q_n] at hp); (try (exfalso; first | omega | (cases hp; done))));
        refine zZ ?_; refine xMv rfl rfl rfl rfl ?_; refine xFa rfl rfl rfl rfl rfl rfl ?_; refine xLd rfl rfl rfl rfl rfl (.p (by (repeat first | exact q_h | apply q_t | assumption); done) rfl) ?_; refine xLa rfl rfl rfl rfl (by decide) rfl (.p (by (repeat first | exact q_h | apply q_t | assumption); done) rfl rfl) ?_; apply zV; rfl; rfl; rfl; (refine yX rfl rfl (zQ (by kernel_rfl)) ?_; exact hput (by (exact Upd.there (Upd.there (Upd.there (Upd.here)))))); refine zY ?_; refine zX (zZ ?_); refine xAs rfl rfl rfl rfl ?_; refine zY ?_; refine yV ?_; simp only [zD, zK, zJ, zT, retA, ↓reduceIte, Nat.reduceEqDiff]; rotate_left
        (all_goals (repeat (rename BV _ _ => hbv; cases hbv)))
        all_goals (try (first | cases ‹true = false› | cases ‹false = true›))
        refine ret_q (σ3 := stE b (B.set t l') (L.eraseIdx k) :: σ) .nil (.cons (.ofTmp rfl) .nil) (by repeat (first | exact q_r | apply q_q | apply q_k | exact q_a)) ?_
        exact fin_done .mk
      · rw [show heardS l s = l from if_neg (fun h => hz h.2), hkeep]
        clear hkeep hput
        generalize putS l s = l' at had hck hz
        generalize checkS l' = e at hck hz
        refine ex_drawLK anyK 17 [] rfl (by kernel_rfl) rfl ?_
        simp only [List.take_succ_cons, List.take_zero, List.drop_succ_cons, List.drop_zero]
        apply zR; rfl; rfl; rfl; (intro σ' hl; (apply zH; rfl)); apply zR; rfl; rfl; rfl; (intro σ' hl; (apply g_nilCheck; rfl; rfl)); apply zR; rfl; rfl; rfl; (intro σ' hl; (apply zP; rfl; rfl; rfl)); apply zR; rfl; rfl; rfl; (intro σ' hl; (apply zP; rfl; rfl; rfl)); apply zR; rfl; rfl; rfl; (intro σ' hl; (apply g_load1; rfl; rfl; (exact .p (hl _ (by (exact True.intro)) (by (repeat first | exact q_h | apply q_t | assumption); done)) rfl))); apply zR; rfl; rfl; rfl; (intro σ' hl; (apply zP; rfl; rfl; rfl)); apply zR; rfl; rfl; rfl; (intro σ' hl; (apply g_load1; rfl; rfl; (exact .p (hl _ (by (exact True.intro)) (by (repeat first | exact q_h | apply q_t | assumption); done)) rfl))); apply zR; rfl; rfl; rfl; (intro σ' hl; (apply g_indexDl; rfl; rfl; rfl; (assumption); (assumption))); apply zR; rfl; rfl; rfl; (intro σ' hl; (apply zB; rfl; decide; rfl; (exact .e rfl rfl))); apply zR; rfl; rfl; rfl; (intro σ' hl; (apply zP; rfl; rfl; rfl)); apply zR; rfl; rfl; rfl; (intro σ' hl; (apply g_load1; rfl; rfl; (exact .p (hl _ (by (exact True.intro)) (by (repeat first | exact q_h | apply q_t | assumption); done)) rfl))); apply zR; rfl; rfl; rfl; (intro σ' hl; (refine yX rfl rfl (zQ (by kernel_rfl)) ?_; exact hen _)); apply zR; rfl; rfl; rfl; (intro σ' hl; (apply zH; rfl)); apply zR; rfl; rfl; rfl; (intro σ' hl; (apply yW; rfl; rfl)); apply zR; rfl; rfl; rfl; (intro σ' hl; (apply yW; rfl; rfl)); apply zR; rfl; rfl; rfl; (intro σ' hl; (apply g_assign; rfl)); apply zR; rfl; rfl; rfl; (intro σ' hl; (apply g_assign; rfl)); refine wl_nil ?_; refine zY ?_; refine zX (zZ ?_); refine xFa rfl rfl rfl rfl rfl rfl ?_; refine xLd rfl rfl rfl rfl rfl (.p (by (repeat first | exact q_h | apply q_t | assumption); done) rfl) ?_; refine xMv rfl rfl rfl rfl ?_; refine xBi rfl rfl rfl rfl rfl rfl ?_; intro _ _; refine zY ?_; refine zU rfl (fun h => ?_) (fun h => ?_) <;> ((first | (subst h; rename BV _ true => g; have h := g.eq; clear g) | (subst h; rename BV _ false => g; have h := g.eq; clear g) | skip); (have hp := h; try simp only [q_n] at hp); (try (exfalso; first | omega | (cases hp; done))));
        refine zX ?_; rotate_left
        (all_goals (repeat (rename BV _ _ => hbv; cases hbv)))
        all_goals (try (first | cases ‹true = false› | cases ‹false = true›))
        refine ex_drfT (fun x => x = stE b B (L.eraseIdx k) ∨ x = .cells b5 (pkC p) 93 ∨ x = .cells b7 (slC s) 43) [11, 12] 13 rfl (by kernel_rfl) rfl ?_
        refine zN rfl rfl (by kernel_rfl) ?_; apply zF; rfl; rfl; (intro σ' hl; (apply zH; rfl)); refine zN rfl rfl (by kernel_rfl) ?_; apply zF; rfl; rfl; (intro σ' hl; (apply g_nilCheck; rfl; rfl)); refine zN rfl rfl (by kernel_rfl) ?_; apply zF; rfl; rfl; (intro σ' hl; (apply zP; rfl; rfl; rfl)); refine zN rfl rfl (by kernel_rfl) ?_; apply zF; rfl; rfl; (intro σ' hl; (apply zP; rfl; rfl; rfl)); refine zN rfl rfl (by kernel_rfl) ?_; apply zF; rfl; rfl; (intro σ' hl; (apply g_load1; rfl; rfl; (exact .p (hl _ (by (exact .inl rfl)) (by (repeat first | exact q_h | apply q_t | assumption); done)) rfl))); refine zN rfl rfl (by kernel_rfl) ?_; apply zF; rfl; rfl; (intro σ' hl; (apply zP; rfl; rfl; rfl)); refine zN rfl rfl (by kernel_rfl) ?_; apply zF; rfl; rfl; (intro σ' hl; (apply g_load1; rfl; rfl; (exact .p (hl _ (by (exact .inr (.inl rfl))) (by (repeat first | exact q_h | apply q_t | assumption); done)) rfl))); refine zN rfl rfl (by kernel_rfl) ?_; apply zF; rfl; rfl; (intro σ' hl; (apply g_indexDl; rfl; rfl; rfl; (assumption); (assumption))); refine zN rfl rfl (by kernel_rfl) ?_; apply zF; rfl; rfl; (intro σ' hl; (apply zB; rfl; decide; rfl; (exact .e rfl rfl))); refine zN rfl rfl (by kernel_rfl) ?_; apply zF; rfl; rfl; (intro σ' hl; (apply zB; rfl; decide; rfl; (exact .p (hl _ (by (exact .inr (.inr rfl))) (by (repeat first | exact q_h | apply q_t | assumption); done)) rfl rfl))); refine zN rfl rfl (by kernel_rfl) ?_; apply zF; rfl; rfl; (intro σ' hl; (refine yX rfl rfl (zQ (by kernel_rfl)) ?_; exact had _)); refine drf_one rfl rfl ?_; refine drs_box rfl rfl (g_alloc rfl) ?_; intro _; refine drf_one rfl rfl ?_; apply drs_do; rfl; rfl; (apply zL; rfl; rfl; rfl; (exact Upd.here); (simp only [setL, q_z, AV.cells]; rfl); rfl; rfl; rfl; exact q_b rfl); (rintro _ (rfl | rfl | rfl) _ <;> exact (by (repeat first | exact q_h | apply q_t | assumption); done)); refine drf_nil rfl ?_; refine zY ?_; refine zX (zZ ?_); refine xLa rfl rfl rfl rfl (by decide) rfl (.p (by (repeat first | exact q_h | apply q_t | assumption); done) rfl rfl) ?_; apply zV; rfl; rfl; rfl; (refine yX rfl rfl (zQ (by kernel_rfl)) ?_; exact hck _); refine xBi rfl rfl rfl rfl rfl rfl ?_; intro _ _; refine zY ?_; refine zU rfl (fun h => ?_) (fun h => ?_) <;> ((first | (subst h; rename BV _ true => g; have h := g.eq; clear g) | (subst h; rename BV _ false => g; have h := g.eq; clear g) | skip); (have hp := h; try simp only [q_n] at hp); (try (exfalso; first | omega | (cases hp; done))));
        refine zG ?_; refine zX (zZ ?_); refine xAs rfl rfl rfl rfl ?_; refine zY ?_; refine yV ?_; simp only [zD, zK, zJ, zT, retA, ↓reduceIte, Nat.reduceEqDiff]; rotate_left
        (all_goals (repeat (rename BV _ _ => hbv; cases hbv)))
        all_goals (try (first | cases ‹true = false› | cases ‹false = true›))
        refine ret_q (σ3 := stE b B (L.eraseIdx k) :: σ) .nil (.cons (.ofTmp rfl) .nil) (by repeat (first | exact q_r | apply q_q | apply q_k | exact q_a)) ?_
        exact fin_done .mk
    · rw [show heardS l s = l from if_neg (fun h => hq h.1), hkeep]
      clear hkeep hput had hck
      refine ex_drawLK anyK 17 [] rfl (by kernel_rfl) rfl ?_
      simp only [List.take_succ_cons, List.take_zero, List.drop_succ_cons, List.drop_zero]
      apply zR; rfl; rfl; rfl; (intro σ' hl; (apply zH; rfl)); apply zR; rfl; rfl; rfl; (intro σ' hl; (apply g_nilCheck; rfl; rfl)); apply zR; rfl; rfl; rfl; (intro σ' hl; (apply zP; rfl; rfl; rfl)); apply zR; rfl; rfl; rfl; (intro σ' hl; (apply zP; rfl; rfl; rfl)); apply zR; rfl; rfl; rfl; (intro σ' hl; (apply g_load1; rfl; rfl; (exact .p (hl _ (by (exact True.intro)) (by (repeat first | exact q_h | apply q_t | assumption); done)) rfl))); apply zR; rfl; rfl; rfl; (intro σ' hl; (apply zP; rfl; rfl; rfl)); apply zR; rfl; rfl; rfl; (intro σ' hl; (apply g_load1; rfl; rfl; (exact .p (hl _ (by (exact True.intro)) (by (repeat first | exact q_h | apply q_t | assumption); done)) rfl))); apply zR; rfl; rfl; rfl; (intro σ' hl; (apply g_indexDl; rfl; rfl; rfl; (assumption); (assumption))); apply zR; rfl; rfl; rfl; (intro σ' hl; (apply zB; rfl; decide; rfl; (exact .e rfl rfl))); apply zR; rfl; rfl; rfl; (intro σ' hl; (apply zP; rfl; rfl; rfl)); apply zR; rfl; rfl; rfl; (intro σ' hl; (apply g_load1; rfl; rfl; (exact .p (hl _ (by (exact True.intro)) (by (repeat first | exact q_h | apply q_t | assumption); done)) rfl))); apply zR; rfl; rfl; rfl; (intro σ' hl; (refine yX rfl rfl (zQ (by kernel_rfl)) ?_; exact hen _)); apply zR; rfl; rfl; rfl; (intro σ' hl; (apply zH; rfl)); apply zR; rfl; rfl; rfl; (intro σ' hl; (apply yW; rfl; rfl)); apply zR; rfl; rfl; rfl; (intro σ' hl; (apply yW; rfl; rfl)); apply zR; rfl; rfl; rfl; (intro σ' hl; (apply g_assign; rfl)); apply zR; rfl; rfl; rfl; (intro σ' hl; (apply g_assign; rfl)); refine wl_nil ?_; refine zY ?_; refine zX (zZ ?_); refine xFa rfl rfl rfl rfl rfl rfl ?_; refine xLd rfl rfl rfl rfl rfl (.p (by (repeat first | exact q_h | apply q_t | assumption); done) rfl) ?_; refine xMv rfl rfl rfl rfl ?_; refine xBi rfl rfl rfl rfl rfl rfl ?_; intro _ _; refine zY ?_; refine zU rfl (fun h => ?_) (fun h => ?_) <;> ((first | (subst h; rename BV _ true => g; have h := g.eq; clear g) | (subst h; rename BV _ false => g; have h := g.eq; clear g) | skip); (have hp := h; try simp only [q_n] at hp); (try (exfalso; first | omega | (cases hp; done))));
      refine zG ?_; refine zX (zZ ?_); refine xAs rfl rfl rfl rfl ?_; refine zY ?_; refine yV ?_; simp only [zD, zK, zJ, zT, retA, ↓reduceIte, Nat.reduceEqDiff]; rotate_left
      (all_goals (repeat (rename BV _ _ => hbv; cases hbv)))
      all_goals (try (first | cases ‹true = false› | cases ‹false = true›))
      refine ret_q (σ3 := stE b B (L.eraseIdx k) :: σ) .nil (.cons (.ofTmp rfl) .nil) (by repeat (first | exact q_r | apply q_q | apply q_k | exact q_a)) ?_
      exact fin_done .mk
end Go.Proofs.YtkhoengjdfmfaaaGreat
