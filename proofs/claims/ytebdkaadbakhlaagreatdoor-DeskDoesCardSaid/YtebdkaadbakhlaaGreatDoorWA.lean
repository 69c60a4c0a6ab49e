/- YtebdkaadbakhlaaGreatDoor: part WA of this seat's own texts. -/
import Derived.Test.YtebdkaadbakhlaaGreatDoorW4
import Derived.Test.YtebdkaadbakhlaaGreatDoorP4
import Derived.Test.YtebdkaadbakhlaaGreatDoorW7
import Derived.Test.YtebdkaadbakhlaaGreatDoorW8
set_option linter.unusedVariables false
set_option linter.unusedSimpArgs false
section
open Go Go.Proofs Go.SL
set_option maxRecDepth 100000
namespace Go.SL
theorem in64_byte (x : UInt8) : In64 (x.toNat : Int) := by have := x.toNat_lt; unfold In64; omega
theorem in64_wrap (m : Int) : In64 (IntKind.i64.wrap m) := by have := w64_range m; unfold In64; omega
theorem getOp_in : ∀ {b b' : List UInt8} {o : OpL}, getOp b = some (o, b') → OpIn o
 | [], _, _, h => by simp [getOp] at h
 | k :: b, b', o, h => by
  simp only [getOp] at h
  by_cases hk : k = 1
  ·subst hk
   simp only [if_true] at h
   split at h
   ·simp only [Option.some.injEq, Prod.mk.injEq] at h
    obtain ⟨rfl, rfl⟩ := h
    exact ⟨by unfold In64; dsimp only; omega, in64_byte _, by unfold In64; dsimp only; omega, by unfold In64; dsimp only; omega, in64_wrap _⟩
   ·cases h
  ·rw [if_neg hk] at h
   split at h
   ·rename_i x c rest
    simp only [Option.some.injEq, Prod.mk.injEq] at h
    obtain ⟨rfl, rfl⟩ := h
    have := x.toNat_lt
    exact ⟨in64_byte _, by unfold In64; dsimp only; omega, by unfold In64; dsimp only; omega, in64_byte _, by unfold In64; dsimp only; omega⟩
   ·cases h
theorem getOps_in : ∀ {n : Nat} {b b' : List UInt8} {d : DeedL}, getOps n b = some (d, b') → ∀ o ∈ d, OpIn o
 | 0, b, b', d, h => by
  simp only [getOps, Option.some.injEq, Prod.mk.injEq] at h
  obtain ⟨rfl, rfl⟩ := h
  intro o ho; simp at ho
 | n + 1, b, b', d, h => by
  simp only [getOps] at h
  cases h1 : getOp b with
  | none => rw [h1] at h; cases h
  | some p =>
   obtain ⟨o, b1⟩ := p
   rw [h1] at h
   dsimp only at h
   cases h2 : getOps n b1 with
   | none => rw [h2] at h; cases h
   | some p =>
    obtain ⟨d', b2⟩ := p
    rw [h2] at h
    simp only [Option.some.injEq, Prod.mk.injEq] at h
    obtain ⟨rfl, rfl⟩ := h
    intro o' ho'
    rcases List.mem_cons.1 ho' with rfl | ho'
    ·exact getOp_in h1
    ·exact getOps_in h2 o' ho'
theorem getDeeds_in : ∀ {n : Nat} {b b' : List UInt8} {r : RoundL}, getDeeds n b = some (r, b') → ∀ d ∈ r, ∀ o ∈ d, OpIn o
 | 0, b, b', d, h => by
  simp only [getDeeds, Option.some.injEq, Prod.mk.injEq] at h
  obtain ⟨rfl, rfl⟩ := h
  intro o ho; simp at ho
 | n + 1, b, b', d, h => by
  simp only [getDeeds] at h
  cases h1 : getDeed b with
  | none => rw [h1] at h; cases h
  | some p =>
   obtain ⟨o, b1⟩ := p
   rw [h1] at h
   dsimp only at h
   cases h2 : getDeeds n b1 with
   | none => rw [h2] at h; cases h
   | some p =>
    obtain ⟨d', b2⟩ := p
    rw [h2] at h
    simp only [Option.some.injEq, Prod.mk.injEq] at h
    obtain ⟨rfl, rfl⟩ := h
    intro o' ho'
    rcases List.mem_cons.1 ho' with rfl | ho'
    ·cases b with
     | nil => cases h1
     | cons x b => exact getOps_in h1
    ·exact getDeeds_in h2 o' ho'
theorem getRound_in {b b' : List UInt8} {r : RoundL} (h : getRound b = some (r, b')) : ∀ d ∈ r, ∀ o ∈ d, OpIn o := by
 cases b with
 | nil => cases h
 | cons x b => exact getDeeds_in h
theorem decL_in (bs : List UInt8) : ∀ d ∈ (decL roundFaultL bs).1, ∀ o ∈ d, OpIn o := by
 have hB : ∀ b : List UInt8, ∀ d ∈ (bodyL roundFaultL b).1, ∀ o ∈ d, OpIn o := by
  intro b
  unfold bodyL
  cases h : getRound b with
  | none => intro d hd; simp at hd
  | some p =>
   obtain ⟨r, rest⟩ := p
   dsimp only
   by_cases h1 : rest ≠ []
   ·rw [if_pos h1]; intro d hd; simp at hd
   ·rw [if_neg h1]
    by_cases h2 : roundFaultL r ≠ 0
    ·rw [if_pos h2]; intro d hd; simp at hd
    ·rw [if_neg h2]; exact getRound_in h
 unfold decL
 by_cases h1 : bs.length < 2
 ·rw [if_pos h1]; intro d hd; simp at hd
 ·rw [if_neg h1]
  by_cases h2 : bs.length < headN bs
  ·rw [if_pos h2]; intro d hd; simp at hd
  ·rw [if_neg h2]
   by_cases h3 : (bodyL roundFaultL ((bs.take (headN bs)).drop 2)).2 ≠ 0
   ·rw [if_pos h3]; intro d hd; simp at hd
   ·rw [if_neg h3]; exact hB _
theorem u64_rem' (x : Int) {m : Nat} (hm : 0 < m) : ∃ k : Nat, k < m ∧ (IntKind.u64.wrap x).tmod m = k := by
 have h0 := u64_nonneg x
 have h1 := Int.tmod_nonneg (m : Int) h0
 have h2 := Int.tmod_lt_of_pos (IntKind.u64.wrap x) (show (0 : Int) < m by omega)
 exact ⟨((IntKind.u64.wrap x).tmod m).toNat, by omega, by omega⟩
end Go.SL
end
section
open Go Go.Proofs Go.SL
set_option maxRecDepth 100000
namespace Go.SL
def openF : Nat → List UInt8 → List RoundL → List RoundL
 | 0, _, L => L
 | n + 1, b, L => if (decL roundFaultL b).2.2 ≠ 0 then L else if (putL L (decL roundFaultL b).1).2.2 ≠ 0 then L else openF n (b.drop (encL (decL roundFaultL b).1).length) (putL L (decL roundFaultL b).1).1
def openL (b : List UInt8) : List RoundL := openF 26 b []
theorem openF_go {n : Nat} {b : List UInt8} {L : List RoundL} (h : ¬ (decL roundFaultL b).2.2 ≠ 0) (h2 : putL L (decL roundFaultL b).1 = (L ++ [(decL roundFaultL b).1], (L.length : Int), 0)) : openF (n + 1) b L = openF n (b.drop (encL (decL roundFaultL b).1).length) (L ++ [(decL roundFaultL b).1]) := by
 simp only [openF]
 rw [if_neg h, h2, if_neg (by simp)]
structure OpenAt (b : List UInt8) (L : List RoundL) : Prop where
 ok : LogOk L 0
 le : (bytesOf L).length ≤ b.length
 pre : b.take (bytesOf L).length = bytesOf L
 rel : openF (26 - L.length) (b.drop (bytesOf L).length) L = openL b
theorem OpenAt.start (b : List UInt8) : OpenAt b [] := ⟨lbOk0, by simp [bytesOf], by simp [bytesOf], by simp [bytesOf, openL]⟩
theorem OpenAt.next {b : List UInt8} {L : List RoundL} (h : OpenAt b L) (hd : ¬ (decL roundFaultL (b.drop (bytesOf L).length)).2.2 ≠ 0) (hp : putL L (decL roundFaultL (b.drop (bytesOf L).length)).1 = (L ++ [(decL roundFaultL (b.drop (bytesOf L).length)).1], (L.length : Int), 0)) :
  OpenAt b (L ++ [(decL roundFaultL (b.drop (bytesOf L).length)).1]) ∧ (decL roundFaultL (b.drop (bytesOf L).length)).2.1 = (encL (decL roundFaultL (b.drop (bytesOf L).length)).1).length := by
 have hin := decL_in (b.drop (bytesOf L).length)
 have h1 := h.rel
 have h25 := h.ok.len
 have hok := putL_logOk h.ok hin
 rw [hp] at hok
 have hlen : L.length ≤ 24 := by have := hok.len; simp at this; omega
 rw [show 26 - L.length = (25 - L.length) + 1 from by omega, openF_go hd hp] at h1
 have h0 : decL roundFaultL (b.drop (bytesOf L).length) = ((decL roundFaultL (b.drop (bytesOf L).length)).1, (decL roundFaultL (b.drop (bytesOf L).length)).2.1, 0) := by
  simp only [ne_eq, Decidable.not_not] at hd
  rw [← hd]
 obtain ⟨_, h3, h4, h5⟩ := enc_dec roundFaultL h0
 generalize (decL roundFaultL (b.drop (bytesOf L).length)).1 = z at *
 have e2 : (bytesOf (L ++ [z])).length = (bytesOf L).length + (encL z).length := by rw [bytesOf_app, bytesOf_one, List.length_append]
 have hle := h.le
 rw [List.length_drop] at h4
 refine ⟨⟨hok, by omega, ?_, ?_⟩, h3⟩
 ·rw [e2, List.take_add, h.pre, bytesOf_app, bytesOf_one, ← h5]
 ·rw [e2, ← List.drop_drop, show 26 - (L ++ [z]).length = 25 - L.length from by simp]
  exact h1
end Go.SL
end
section
open Go Go.Proofs Go.SL
set_option maxRecDepth 100000
namespace Go.SL
end Go.SL
end
section
open Go Go.Proofs Go.SL
set_option maxRecDepth 100000
namespace Go.SL
theorem Res.keep0 {w w' : World} {mc : Hp} (p : View → Prop) (hp : ∀ c, p c) (h : Res w mc [] w') : Res w mc [Keep (feet []) p] w' := by
 refine ⟨h.chg, ?_, by simp, ?_⟩
 ·intro c hc
  simp only [List.mem_singleton] at hc
  subst hc
  exact ⟨fun b ⟨c, hc, _⟩ => (by cases hc), hp _⟩
 ·intro c hc b hb
  simp only [List.mem_singleton] at hc
  subst hc
  obtain ⟨c, hc, _⟩ := hb
  cases hc
theorem Rounds.at {vs : List Value} {L : List RoundL} {c : View} (h : Rounds vs L c) {i : Nat} (hi : i < L.length) {u : Value} (hu : vs[i]? = some u) : IsRound c u L[i] := by
 obtain ⟨u', h1, h2⟩ := h.2 i hi
 rw [hu] at h1
 injection h1 with h1
 subst h1
 exact h2
theorem g_rounds {C : Cx} {l : Fr} {m : Hp} {Φ : Act → World → Prop} {G0 : Nat → Prop} {vs : List Value} {L : List RoundL} (i : Nat) (hm : m[i]? = some (Keep G0 (Rounds vs L))) (h : vs.length = L.length → G C l m Φ) : G C l m Φ := fun a w ha hw => h (hw.mem hm).2.1 a w ha hw
end Go.SL
end
