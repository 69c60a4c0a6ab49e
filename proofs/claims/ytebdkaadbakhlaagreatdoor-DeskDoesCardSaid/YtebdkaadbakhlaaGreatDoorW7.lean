/- YtebdkaadbakhlaaGreatDoor: part W7 of this seat's own texts. -/
import Derived.Test.YtebdkaadbakhlaaGreatDoorW6
import Derived.Test.YtebdkaadbakhlaaGreatDoorP4
import Derived.Test.YtebdkaadbakhlaaGreatDoorP3
set_option linter.unusedVariables false
set_option linter.unusedSimpArgs false
section
open Go Go.Proofs Go.SL
set_option maxRecDepth 100000
namespace Go.SL
theorem putL_logOk {L : List RoundL} {k : Nat} {r : RoundL} (h : LogOk L k) (hin : ∀ d ∈ r, ∀ o ∈ d, OpIn o) : LogOk (putL L r).1 k := by
 by_cases hf : roundFaultL r ≠ 0
 ·rw [putL_bad hf]; exact h
 ·by_cases h2 : L.length = 25 ∨ 4000 < (bytesOf L).length + (encL r).length
  ·rw [putL_full hf h2]; exact h
  ·rw [putL_ok hf h2]
   have := h.len
   refine ⟨by simp; omega, by rw [bytesOf_app, bytesOf_one, List.length_append]; omega, by have := h.sure; simp; omega, fun q hq => ?_⟩
   rcases List.mem_append.1 hq with hq | hq
   ·exact h.all q hq
   ·simp only [List.mem_singleton] at hq
    subst hq
    exact ⟨by omega, hin⟩
theorem takeL_logOk {L : List RoundL} {k n : Nat} (h : LogOk L k) (hn : n ≤ L.length) : LogOk (L.take n) n := by
 refine ⟨by have := h.len; simp; omega, ?_, by simp; omega, fun q hq => h.all q (List.mem_of_mem_take hq)⟩
 have h1 := endAt_le_all hn
 have h2 : (bytesOf (L.take n)).length = endAt L n := rfl
 have := h.bytes
 omega
end Go.SL
end
section
open Go Go.Proofs Go.SL
set_option maxRecDepth 100000
namespace Go.SL
theorem lb2 : putL [[[]]] [] = ([[[]], []], 1, 0) := by decide +kernel
theorem lbOk0 : LogOk [] 0 := ⟨by decide, by decide, by decide, fun r hr => by simp at hr⟩
end Go.SL
end
section
open Go Go.Proofs Go.SL
set_option maxRecDepth 100000
namespace Go.SL
theorem LgV.at {w0 w : World} {F : Nat → Prop} {m : Hp} {p : Nat} {bv ev : Value} {L : List RoundL} {k : Nat} (hw : St w0 F m w) (i : Nat) (h0 : m[i]? = some (lgB p bv ev L k)) (h1 : m[i + 1]? = some (Rw bv 5 1 (bytesOf L).length (byteCells (bytesOf L)))) (h2 : m[i + 2]? = some (Rw ev 3 1 L.length (intCells (endsOf L)))) : LgV w.cell? p bv ev L k :=
 LgV.of fun c hc => by
  simp only [lgH, List.mem_cons, List.not_mem_nil, or_false] at hc
  rcases hc with rfl | rfl | rfl
  ·exact hw.mem h0
  ·exact hw.mem h1
  ·exact hw.mem h2
end Go.SL
end
