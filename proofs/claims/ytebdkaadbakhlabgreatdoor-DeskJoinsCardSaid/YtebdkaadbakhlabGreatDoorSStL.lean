/- YtebdkaadbakhlabGreatDoor: part SStL of this seat's own texts. -/
import Derived.Test.YtebdkaadbakhlabGreatDoorP3
import Derived.Test.YtebdkaadbakhlabGreatDoorP5
set_option linter.unusedVariables false
set_option linter.unusedSimpArgs false
namespace Go.SL
open Go.RowKit
/-- a step of a store's script -/
structure SStepL where
  kind : Int
  keep : Int
  round : RoundL
  picks : List Int
instance : Inhabited SStepL := ⟨⟨0, 0, [], []⟩⟩
def sstC (x : SStepL) (u p : Value) : List Value := [.int .i64 x.kind, u, p, .int .i64 x.keep]
def sstV (x : SStepL) (u p : Value) : Value := .agg #[.int .i64 x.kind, u, p, .int .i64 x.keep]
def IsSSteps (c : View) (v : Value) (l : List SStepL) : Prop := ∃ A k, v = .slice A l.length k ∧ l.length ≤ k ∧ ∀ i (hi : i < l.length), ∃ ad u p, A = some ad ∧ Cells c (ad.add (i * 4)) (sstC l[i] u p) ∧ IsRound c u l[i].round ∧ IsInts c p l[i].picks
theorem IsSSteps.mono {c c' : View} (hl : Le c c') {v : Value} {l : List SStepL} (h : IsSSteps c v l) : IsSSteps c' v l := by
  obtain ⟨A, k, h1, h2, h3⟩ := h
  exact ⟨A, k, h1, h2, fun i hi => let ⟨ad, u, p, h4, h5, h6, h7⟩ := h3 i hi; ⟨ad, u, p, h4, h5.mono hl, h6.mono hl, Rds.mono hl h7⟩⟩
/-- rows of integers -/
def IsIntss (c : View) (v : Value) (l : List (List Int)) : Prop := ∃ A k, v = .slice A l.length k ∧ l.length ≤ k ∧ ∀ i (hi : i < l.length), ∃ ad u, A = some ad ∧ c (ad.add (((i : Nat) : Int).toNat * 1)) = some u ∧ IsInts c u l[i]
theorem IsIntss.mono {c c' : View} (hl : Le c c') {v : Value} {l : List (List Int)} (h : IsIntss c v l) : IsIntss c' v l := by
  obtain ⟨A, k, h1, h2, h3⟩ := h
  exact ⟨A, k, h1, h2, fun i hi => let ⟨ad, u, h4, h5, h6⟩ := h3 i hi; ⟨ad, u, h4, hl _ _ h5, Rds.mono hl h6⟩⟩
end Go.SL

