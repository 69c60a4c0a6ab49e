/- Ytebdkaadbakhlac: part MA of this seat's own texts. -/
import Derived.Test.YtebdkaadbakhlacM7
set_option linter.unusedVariables false
set_option linter.unusedSimpArgs false

open Go Go.Proofs Go.SL
set_option maxRecDepth 100000
set_option maxHeartbeats 4000000
namespace Go.SL
theorem get_getD {L : List RoundL} {i : Nat} (h : i < L.length) : L[i]? = some (L.getD i []) := by
  rw [List.getElem?_eq_getElem h]
  simp [List.getD, h]
/-- what was done is ahead in the log behind a step, too -/
theorem stays_take {q : QL} (h : q.Ok) (x : SStepL) {W : List RoundL} (hok : (doQ q x).1.Ok) (hW : W = q.L.take W.length) (hn : W.length ≤ q.dn) : W = (doQ q x).1.L.take W.length ∧ W.length ≤ (doQ q x).1.dn := by
  obtain ⟨h1, h2⟩ := doQ_stays h x
  have h3 := h.len
  have h4 := hok.len
  refine ⟨?_, by omega⟩
  refine hW.trans (List.ext_getElem? fun j => ?_)
  by_cases hj : j < W.length
  · rw [List.getElem?_take_of_lt hj, List.getElem?_take_of_lt hj, get_getD (by omega), get_getD (by omega), h2 j (by omega)]
  · rw [List.getElem?_eq_none (by rw [List.length_take]; omega), List.getElem?_eq_none (by rw [List.length_take]; omega)]
theorem take_snoc {L W : List RoundL} {n : Nat} (hW : W = L.take W.length) (hn : n = W.length) (hl : n < L.length) : W ++ [L.getD n []] = L.take (W ++ [L.getD n []]).length := by
  have e : (W ++ [L.getD n []]).length = n + 1 := by rw [List.length_append, ← hn]; rfl
  rw [e, List.take_add_one, get_getD hl, hn, ← hW]
  rfl
theorem take_at {L W : List RoundL} {n : Nat} (hW : W = L.take W.length) (hn : n < W.length) : W[n] = L.getD n [] := by
  have h2 : n < L.length := by
    have : W.length = (L.take W.length).length := congrArg List.length hW
    rw [List.length_take] at this
    omega
  have h3 : (L.take W.length)[n]? = some W[n] := by rw [← hW]; exact List.getElem?_eq_getElem hn
  rw [List.getElem?_take_of_lt hn, get_getD h2] at h3
  injection h3 with h3
  exact h3.symm
end Go.SL

