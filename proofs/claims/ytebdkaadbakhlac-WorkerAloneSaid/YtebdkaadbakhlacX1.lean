/- Ytebdkaadbakhlac: part X1 of this seat's own texts. -/
import Derived.Test.YtebdkaadbakhlacWL
set_option linter.unusedVariables false
set_option linter.unusedSimpArgs false

set_option maxRecDepth 100000
namespace Go.SL
open Go Go.Proofs Go.SL
/-! ## a round, as its picks say: the plain law -/
theorem InvR.kind {s : List Int} {r : RoundL} {X : Nat → WkL} {T : TabL} (h : InvR s r X T) {k : Nat} (hk : k < r.length) :
    ((stepW (X k) T).1.1 = 2 → ∃ j : Nat, (stepW (X k) T).1.2 = j ∧ j < k ∧ (X j).ov = false) ∧ ((stepW (X k) T).1.1 ≠ 2 → (stepW (X k) T).1.2 = -1) := by
  rcases step_kind (X k) T with ⟨_, e⟩ | ⟨_, x', _, _, _, _, _, e⟩ | ⟨_, c, e⟩ | ⟨_, kk, _, h0, e⟩
  · rw [e]; exact ⟨fun h => (by cases h), fun _ => rfl⟩
  · rw [e]; exact ⟨fun h => (by cases h), fun _ => rfl⟩
  · rw [e]; exact ⟨fun h => (by cases h), fun _ => rfl⟩
  · rw [e]; exact ⟨fun _ => h.who hk h0, fun h => absurd rfl h⟩
/-- the first one that is left goes on -/
theorem InvR.goes {s : List Int} {r : RoundL} {X : Nat → WkL} {T : TabL} (h : InvR s r X T) {k : Nat} (hk : k < r.length) (hlo : ∀ j, j < k → (X j).ov = true) (ho : (X k).ov = false) :
    ((stepW (X k) T).1 = (1, -1) ∧ (stepW (X k) T).2.1.ov = false ∨ (stepW (X k) T).1 = (3, -1) ∧ (stepW (X k) T).2.1.ov = true) ∧ muW (stepW (X k) T).2.1 < muW (X k) := by
  rcases step_kind (X k) T with ⟨h1, e⟩ | ⟨_, x', h2, _, hm, _, _, e⟩ | ⟨_, c, e⟩ | ⟨_, kk, _, h0, e⟩
  · rw [ho] at h1; cases h1
  · rw [e]; exact ⟨.inl ⟨rfl, h2⟩, hm⟩
  · rw [e]; exact ⟨.inr ⟨rfl, rfl⟩, mu_end _ _ ho⟩
  · obtain ⟨j, _, hj, hjo⟩ := h.who hk h0
    rw [hlo j hj] at hjo
    cases hjo
theorem mu_pos {x : WkL} (h : x.ov = false) : 0 < muW x := by
  unfold muW; rw [if_neg (by simp [h])]; omega
theorem mu_most (x : WkL) : muW x ≤ x.d.length + 1 := by
  unfold muW; split <;> omega
theorem ptr_at {n k : Nat} {f : Nat → Nat} (h : k < n) : (ptrs n f)[((k : Nat) : Int).toNat * 1]? = some (ptrV (f k)) := by rw [Int.toNat_natCast, Nat.mul_one]; exact ptrs_get h
/-! ### a pick -/
def pickR (n : Nat) (P : RunS) (k : Int) : (Int × Int) × RunS := if 0 ≤ k ∧ k < n then ((stepW (P.1 k.toNat) P.2).1, runP P k.toNat) else ((0, -1), P)
theorem pick_nat {n : Nat} {P : RunS} {k : Nat} (h : k < n) : pickR n P k = ((stepW (P.1 k) P.2).1, runP P k) := by
  unfold pickR; rw [if_pos ⟨by omega, by omega⟩, Int.toNat_natCast]
theorem InvR.pick {s : List Int} {r : RoundL} {P : RunS} (h : InvR s r P.1 P.2) (k : Int) : InvR s r (pickR r.length P k).2.1 (pickR r.length P k).2.2 := by
  unfold pickR
  split
  · exact h.run (by omega)
  · exact h
/-- all of them are over -/
def AllO (n : Nat) (X : Nat → WkL) : Prop := ∀ i, i < n → (X i).ov = true
theorem pick_over {n : Nat} {P : RunS} (h : AllO n P.1) (k : Int) : (pickR n P k).2 = P := by
  unfold pickR
  split
  · have : (P.1 k.toNat).ov = true := h _ (by omega)
    show runP P k.toNat = P
    unfold runP
    rw [step_over this, upd_self]
  · rfl
theorem InvR.res {s : List Int} {r : RoundL} {X : Nat → WkL} {T : TabL} (h : InvR s r X T) {i : Nat} (ho : (X i).ov = true) : ((X i).rc, (X i).rg) = rsAt s r i := ((h.w i).fin ho).1
theorem InvR.zero {s : List Int} {r : RoundL} {X : Nat → WkL} {T : TabL} (h : InvR s r X T) {i : Nat} (ho : (X i).ov = false) : ((X i).rc, (X i).rg) = (0, zero4) := by
  obtain ⟨h1, h2, _⟩ := (h.w i).run ho
  rw [h1, h2]
def resX (n : Nat) (X : Nat → WkL) : ResL := tab n fun i => ((X i).rc, (X i).rg)
theorem resX_len {n : Nat} {X : Nat → WkL} : (resX n X).length = n := tab_len
theorem resX_succ {n : Nat} {X : Nat → WkL} : resX (n + 1) X = resX n X ++ [((X n).rc, (X n).rg)] := tab_succ ..
theorem InvR.resRegs {s : List Int} {r : RoundL} {X : Nat → WkL} {T : TabL} (h : InvR s r X T) (n : Nat) : ∀ x ∈ resX n X, x.2.length = 4 := fun x hx => by
  obtain ⟨i, _, rfl⟩ := tab_mem.1 hx
  exact (h.w i).rlen
theorem InvR.resX {s : List Int} {r : RoundL} {X : Nat → WkL} {T : TabL} (h : InvR s r X T) (ho : AllO r.length X) : resX r.length X = resAll s r := by
  unfold SL.resX resAll tab
  exact List.map_congr_left fun i hi => h.res (ho i (List.mem_range.1 hi))
/-! ### those that are left -/
def leftX (n : Nat) (X : Nat → WkL) : List Int := ((List.range n).filter fun i => !(X i).ov).map fun i : Nat => (i : Int)
theorem left_succ {n : Nat} {X : Nat → WkL} : leftX (n + 1) X = leftX n X ++ (if (X n).ov = true then [] else [(n : Int)]) := by
  unfold leftX
  rw [List.range_succ, List.filter_append, List.map_append]
  congr 1
  by_cases h : (X n).ov = true
  · rw [if_pos h]; simp [h]
  · rw [if_neg h]; simp [h]
theorem left_len {n : Nat} {X : Nat → WkL} : (leftX n X).length ≤ n := by
  unfold leftX
  rw [List.length_map]
  have := List.length_filter_le (fun i => !(X i).ov) (List.range n)
  rwa [List.length_range] at this
theorem left_none {n : Nat} {X : Nat → WkL} : leftX n X = [] ↔ AllO n X := by
  induction n with
  | zero => exact ⟨fun _ i hi => by omega, fun _ => rfl⟩
  | succ n ih =>
    rw [left_succ, List.append_eq_nil_iff, ih]
    constructor
    · rintro ⟨h1, h2⟩ i hi
      by_cases hin : i < n
      · exact h1 i hin
      · have : i = n := by omega
        subst this
        by_cases h : (X i).ov = true
        · exact h
        · rw [if_neg h] at h2; cases h2
    · intro h
      exact ⟨fun i hi => h i (by omega), by rw [if_pos (h n (by omega))]⟩
theorem left_first {n : Nat} {X : Nat → WkL} {q : Int} {l : List Int} (h : leftX n X = q :: l) : ∃ k : Nat, q = k ∧ k < n ∧ (X k).ov = false ∧ ∀ j, j < k → (X j).ov = true := by
  induction n generalizing l with
  | zero => cases h
  | succ n ih =>
    rw [left_succ] at h
    cases hl : leftX n X with
    | nil =>
      rw [hl, List.nil_append] at h
      by_cases ho : (X n).ov = true
      · rw [if_pos ho] at h; cases h
      · rw [if_neg ho] at h
        exact ⟨n, (List.cons.inj h).1.symm, by omega, by simpa using ho, left_none.1 hl⟩
    | cons a b =>
      rw [hl, List.cons_append] at h
      obtain ⟨rfl, _⟩ := List.cons.inj h
      obtain ⟨k, h1, h2, h3⟩ := ih hl
      exact ⟨k, h1, by omega, h3⟩
/-! ### how far all of them are -/
def muA (X : Nat → WkL) : Nat → Nat
  | 0 => 0
  | n + 1 => muA X n + muW (X n)
theorem muA_upd {X : Nat → WkL} {k : Nat} {x : WkL} (hm : muW x < muW (X k)) : ∀ n, muA (upd X k x) n ≤ muA X n ∧ (k < n → muA (upd X k x) n < muA X n)
  | 0 => ⟨Nat.le_refl _, fun h => by omega⟩
  | n + 1 => by
    obtain ⟨h1, h2⟩ := muA_upd (X := X) hm n
    simp only [muA]
    by_cases h : n = k
    · subst h; rw [upd_same]; exact ⟨by omega, fun _ => by omega⟩
    · rw [upd_other h]; exact ⟨by omega, fun hk => by have := h2 (by omega); omega⟩
def mostR (r : RoundL) : Nat → Nat
  | 0 => 0
  | n + 1 => mostR r n + ((r.getD n []).length + 1)
theorem InvR.most {s : List Int} {r : RoundL} {X : Nat → WkL} {T : TabL} (h : InvR s r X T) : ∀ n, muA X n ≤ mostR r n
  | 0 => Nat.le_refl _
  | n + 1 => by
    have := h.most n
    have h2 := mu_most (X n)
    rw [(h.w n).d] at h2
    simp only [muA, mostR]
    omega
/-! ### the slots of a key, when all is told -/
theorem InvR.told {s : List Int} {r : RoundL} {X : Nat → WkL} {T : TabL} (h : InvR s r X T) (ho : AllO r.length X) (k : Nat) : ∀ x ∈ T k, x.opn = false := by
  intro x hx
  rw [h.t] at hx
  rcases List.mem_cons.1 hx with rfl | hx
  · rfl
  · obtain ⟨i, hi, rfl, _⟩ := rowsG_mem hx
    unfold slotX
    rw [if_pos (ho i hi)]
    exact endSlot_opn _ _ _
theorem InvR.head {s : List Int} {r : RoundL} {X : Nat → WkL} {T : TabL} (h : InvR s r X T) (k : Nat) : ∃ l, T k = slot0 s k :: l := ⟨_, by rw [h.t]; rfl⟩
end Go.SL

