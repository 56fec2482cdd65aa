/- Clocks: Parts. -/
import Derived.Test.YtobcnochlkdpaaaKm
namespace Go.Proofs.Ytobcnochlkdpaaa
set_option linter.unusedSimpArgs false
set_option linter.unusedVariables false
theorem hours_up : ∀ (lo : Int) (n : Nat), (hours lo n).Pairwise (· < ·)
  | _, 0 => .nil
  | lo, n + 1 => List.pairwise_cons.2 ⟨fun h hh => by have := hours_mem.1 hh; omega, hours_up (lo + 1) n⟩
theorem starts_plain (l : List Fc) (key lo hi : Int) (hlh : lo ≤ hi) : ∃ K, Starts l key lo hi K ∧ K.length ≤ 2 * l.length + 1 := by
  have hu : ((hours lo (hi + 1 - lo).toNat).filter fun h => (begL key lo hi l).contains h).Pairwise (· < ·) := (hours_up _ _).sublist List.filter_sublist
  refine ⟨(hours lo (hi + 1 - lo).toNat).filter fun h => (begL key lo hi l).contains h, starts_of hu fun q => ?_, ?_⟩
  · rw [List.mem_filter]
    refine ⟨fun h => h.2, fun h => ⟨?_, h⟩⟩
    rw [List.contains_iff_mem] at h
    unfold begL at h
    rw [hours_mem]
    rcases List.mem_append.1 h with h | h
    · rw [List.mem_singleton] at h; omega
    · obtain ⟨x, _, h1⟩ := List.mem_flatMap.1 h
      have := (begX_mem.1 h1).1
      omega
  · refine Nat.le_trans (int_len (m := begL key lo hi l) (hu.imp fun h => by omega) fun x hx => ?_) (begL_len key lo hi l)
    have := (List.mem_filter.1 hx).2
    simpa using this
theorem hist_few {l : List Fc} {key known : Int} {r : Rg} (hle : r.lo ≤ r.hi) : (histH l key known r).length ≤ 2 * l.length + 1 := by
  obtain ⟨K, hK, hl⟩ := starts_plain l key r.lo r.hi hle
  have h := hist_parts (known := known) hK hle
  unfold histH
  rw [← h]
  have := erasP_len (fun h => sayL l key h known) (partsL K r.hi) []
  rw [parts_len, List.length_nil] at this
  omega
/-- What the law asks of a history. -/
structure PO (l : List Fc) (key known : Int) (r : Rg) (S : List Er) : Prop where
  pos : ∃ m, S.length = m + 1
  few : S.length ≤ 2 * l.length + 1
  fst : ∀ y, S[0]? = some y → y.r.lo = r.lo
  lst : ∀ y m, S.length = m + 1 → S[m]? = some y → y.r.hi = r.hi
  each : ∀ (i : Nat) y, S[i]? = some y → ((-1073741824 ≤ y.v ∧ y.v ≤ 1073741824) ∧ 0 ≤ y.r.lo ∧ y.r.lo ≤ y.r.hi ∧ y.r.hi ≤ 4096) ∧ (y.k = false → y.v = 0) ∧ atF l key y.r.lo known = (y.v, y.k, 0) ∧ atF l key y.r.hi known = (y.v, y.k, 0)
  two : ∀ (i : Nat) y z, S[i]? = some y → S[i + 1]? = some z → z.r.lo = y.r.hi + 1 ∧ ¬ (z.v = y.v ∧ z.k = y.k)
theorem at_ok {l : List Fc} {key known h : Int} {r : Rg} (ha : askF l key [known] r = 0) (h0 : 0 ≤ h) (h1 : h ≤ 4096) : atF l key h known = ((sayL l key h known).v, (sayL l key h known).k, 0) := by
  obtain ⟨hch, hrk, _⟩ := ask_zero.1 ha
  have hk := rightK_iff.1 hrk
  unfold atF
  rw [if_neg (by rw [hch]; simp), if_pos]
  rw [rightK_iff]
  refine ⟨hk.1, fun x hx => ?_⟩
  rcases List.mem_cons.1 hx with rfl | hx
  · exact ⟨h0, h1⟩
  · exact hk.2 x hx
theorem parts_ok {l : List Fc} {key known : Int} {r : Rg} (ha : askF l key [known] r = 0) : ∃ S, histF l key known r = (S, 0) ∧ totF l key known r = (sumE S, 0) ∧ PO l key known r S := by
  obtain ⟨hch, hrk, hlo, hhi, hle⟩ := ask_zero.1 ha
  have hz := check_zero.1 hch
  have hr : ∀ x ∈ l, rightF x = true := fun x hx => ((okF_iff.1 hz.2).1 x hx).2
  obtain ⟨h1, h2, h3⟩ := hist_sum (key := key) (known := known) hr hlo.1 hle hhi.2
  have hf := hist_few (l := l) (key := key) (known := known) hle
  refine ⟨histH l key known r, ?_, ?_, ?_⟩
  · unfold histF; rw [if_neg (by rw [ha]; simp)]
  · unfold totF; rw [if_neg (by rw [ha]; simp), h1]
  obtain ⟨n, hn⟩ : ∃ n : Nat, r.hi = r.lo + (n : Int) := ⟨(r.hi - r.lo).toNat, by omega⟩
  have hh : hoursR r = hours r.lo (n + 1) := by unfold hoursR; rw [hn]; congr 1; omega
  obtain ⟨q, x, he, hw⟩ := eras_says (fun h => sayL l key h known) r.lo n
  have hS : histH l key known r = q ++ [x] := by unfold histH; rw [hh]; exact he
  rw [hS] at h2 hf ⊢
  refine ⟨⟨q.length, by simp⟩, hf, fun y hy => hw.fst y hy, fun y m hm hy => ?_, fun i y hy => ?_, hw.two⟩
  · have e : m = q.length := by simp at hm; omega
    rw [e, get_snoc_self] at hy
    cases hy
    rw [hw.lst, hn]
  · have hb := h2 y (List.mem_of_getElem? hy)
    have he := hw.each i y hy
    have e1 := he.2.2.2 y.r.lo (Int.le_refl _) he.1
    have e2 := he.2.2.2 y.r.hi he.1 (Int.le_refl _)
    have hv := (say_bound hr key y.r.lo known).2
    rw [e1] at hv
    refine ⟨hb, hv, ?_, ?_⟩
    · rw [at_ok ha hb.2.1 (by omega), e1]
    · rw [at_ok ha (by omega) hb.2.2.2, e2]
end Go.Proofs.Ytobcnochlkdpaaa
