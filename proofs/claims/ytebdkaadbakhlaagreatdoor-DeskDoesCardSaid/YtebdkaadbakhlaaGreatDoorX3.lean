/- YtebdkaadbakhlaaGreatDoor: part X3 of this seat's own texts. -/
import Derived.Test.YtebdkaadbakhlaaGreatDoorX2
import Derived.Test.YtebdkaadbakhlaaGreatDoorU2
import Derived.Test.YtebdkaadbakhlaaGreatDoorP3
import Derived.Test.YtebdkaadbakhlaaGreatDoorP5
import Derived.Test.YtebdkaadbakhlaaGreatDoorWM
import Derived.Test.YtebdkaadbakhlaaGreatDoorW7
set_option linter.unusedVariables false
set_option linter.unusedSimpArgs false
section
open Go Go.Proofs Go.SL
set_option maxRecDepth 100000
set_option maxHeartbeats 4000000
namespace Go.SL
end Go.SL
end
section
namespace Go.SL
open Go.RowKit
structure SStepL where
 kind : Int
 keep : Int
 round : RoundL
 picks : List Int
instance : Inhabited SStepL := ⟨⟨0, 0, [], []⟩⟩
def sstC (x : SStepL) (u p : Value) : List Value := [.int .i64 x.kind, u, p, .int .i64 x.keep]
def sstV (x : SStepL) (u p : Value) : Value := .agg #[.int .i64 x.kind, u, p, .int .i64 x.keep]
def IsSSteps (c : View) (v : Value) (l : List SStepL) : Prop := ∃ A k, v = .slice A l.length k ∧ l.length ≤ k ∧ ∀ i (hi : i < l.length), ∃ ad u p, A = some ad ∧ Cells c (ad.add (i * 4)) (sstC l[i] u p) ∧ IsRound c u l[i].round ∧ IsInts c p l[i].picks
theorem IsSSteps.mono {c c' : View} (hl : Le c c') {v : Value} {l : List SStepL} (h : IsSSteps c v l) : IsSSteps c' v l := by
 obtain ⟨A, k, h1, h2, h3⟩ := h
 exact ⟨A, k, h1, h2, fun i hi => let ⟨ad, u, p, h4, h5, h6, h7⟩ := h3 i hi; ⟨ad, u, p, h4, h5.mono hl, h6.mono hl, Rds.mono hl h7⟩⟩
def IsIntss (c : View) (v : Value) (l : List (List Int)) : Prop := ∃ A k, v = .slice A l.length k ∧ l.length ≤ k ∧ ∀ i (hi : i < l.length), ∃ ad u, A = some ad ∧ c (ad.add (((i : Nat) : Int).toNat * 1)) = some u ∧ IsInts c u l[i]
theorem IsIntss.mono {c c' : View} (hl : Le c c') {v : Value} {l : List (List Int)} (h : IsIntss c v l) : IsIntss c' v l := by
 obtain ⟨A, k, h1, h2, h3⟩ := h
 exact ⟨A, k, h1, h2, fun i hi => let ⟨ad, u, h4, h5, h6⟩ := h3 i hi; ⟨ad, u, h4, hl _ _ h5, Rds.mono hl h6⟩⟩
end Go.SL
end
section
set_option maxRecDepth 100000
namespace Go.SL
open Go Go.Proofs Go.SL
def stL (L : List RoundL) : Nat → List Int
 | 0 => zero10
 | n + 1 => stAt (stL L n) (L.getD n []) (L.getD n []).length
def lastL (L : List RoundL) : Nat → ResL
 | 0 => []
 | n + 1 => resAll (stL L n) (L.getD n [])
theorem stL_len (L : List RoundL) : ∀ n, (stL L n).length = 10
 | 0 => rfl
 | n + 1 => stAt_len (stL_len L n) _
theorem lastL_regs (L : List RoundL) : ∀ n, ∀ x ∈ lastL L n, x.2.length = 4
 | 0, _, h => by cases h
 | n + 1, x, h => resAll_regs (stL_len L n) _ x h
theorem stL_pre {L M : List RoundL} : ∀ n, (∀ i, i < n → L.getD i [] = M.getD i []) → stL L n = stL M n
 | 0, _ => rfl
 | n + 1, h => by
  simp only [stL]
  rw [stL_pre n (fun i hi => h i (by omega)), h n (by omega)]
theorem lastL_pre {L M : List RoundL} : ∀ n, (∀ i, i < n → L.getD i [] = M.getD i []) → lastL L n = lastL M n
 | 0, _ => rfl
 | n + 1, h => by
  simp only [lastL]
  rw [stL_pre n (fun i hi => h i (by omega)), h n (by omega)]
theorem getD_app {L : List RoundL} {r : RoundL} {i : Nat} (h : i < L.length) : (L ++ [r]).getD i [] = L.getD i [] := by
 simp [List.getD, List.getElem?_append_left h]
structure QL where
 L : List RoundL
 k : Nat
 dn : Nat
structure QL.Ok (q : QL) : Prop where
 log : LogOk q.L q.k
 dn : q.dn ≤ q.k
theorem QL.Ok.len {q : QL} (h : q.Ok) : q.dn ≤ q.L.length := Nat.le_trans h.dn h.log.sure
theorem QL.Ok.fault {q : QL} (h : q.Ok) {i : Nat} (hi : i < q.L.length) : roundFaultL (q.L.getD i []) = 0 := by
 have : q.L.getD i [] = q.L[i] := by simp [List.getD, hi]
 rw [this]
 exact (h.log.all _ (List.getElem_mem hi)).1
theorem QL.Ok.last8 {q : QL} (h : q.Ok) {n : Nat} (hn : n ≤ q.L.length) : (lastL q.L n).length ≤ 8 := by
 cases n with
 | zero => exact Nat.zero_le _
 | succ n =>
  simp only [lastL]
  rw [resAll_len]
  exact (roundFault_ok (h.fault (i := n) (by omega))).1
def runQ (q : QL) (np : Nat) : QL × Int := if q.dn < q.k then (if 300 < np then (q, 4) else (⟨q.L, q.k, q.dn + 1⟩, 0)) else (q, 7)
def crashQ (q : QL) (keep : Int) : QL := ⟨q.L.take (crashL q.L q.k keep), crashL q.L q.k keep, crashL q.L q.k keep⟩
def doQ (q : QL) (x : SStepL) : QL × Int :=
 if x.kind = 1 then (⟨(putL q.L x.round).1, q.k, q.dn⟩, (putL q.L x.round).2.2)
 else if x.kind = 2 then (⟨q.L, q.L.length, q.dn⟩, 0)
 else if x.kind = 3 then runQ q x.picks.length
 else if x.kind = 4 then (crashQ q x.keep, 0)
 else (q, 2)
theorem runQ_ok {q : QL} (h : q.Ok) (np : Nat) : (runQ q np).1.Ok := by
 unfold runQ
 split
 ·split
  ·exact h
  ·rename_i h1 _; exact ⟨h.log, h1⟩
 ·exact h
theorem crashQ_ok {q : QL} (h : q.Ok) (keep : Int) : (crashQ q keep).Ok :=
 ⟨takeL_logOk h.log (crashL_spec h.log.sure h.log.bytes).2.1, Nat.le_refl _⟩
theorem put_pre {L : List RoundL} {r : RoundL} : (putL L r).1 = L ∨ (putL L r).1 = L ++ [r] := by
 by_cases hf : roundFaultL r ≠ 0
 ·rw [putL_bad hf]; exact .inl rfl
 ·by_cases h2 : L.length = 25 ∨ 4000 < (bytesOf L).length + (encL r).length
  ·rw [putL_full hf h2]; exact .inl rfl
  ·rw [putL_ok hf h2]; exact .inr rfl
theorem put_getD {L : List RoundL} {r : RoundL} {i : Nat} (h : i < L.length) : (putL L r).1.getD i [] = L.getD i [] := by
 rcases put_pre (L := L) (r := r) with e | e
 ·rw [e]
 ·rw [e]; exact getD_app h
theorem doQ_ok {q : QL} (h : q.Ok) {x : SStepL} (hin : ∀ d ∈ x.round, ∀ o ∈ d, OpIn o) : (doQ q x).1.Ok := by
 unfold doQ
 split
 ·exact ⟨putL_logOk h.log hin, h.dn⟩
 ·split
  ·exact ⟨⟨h.log.len, h.log.bytes, Nat.le_refl _, h.log.all⟩, h.len⟩
  ·split
   ·exact runQ_ok h _
   ·split
    ·exact crashQ_ok h _
    ·exact h
theorem q0_ok : QL.Ok ⟨[], 0, 0⟩ := ⟨⟨by simp, by simp [bytesOf], Nat.le_refl _, fun r hr => by cases hr⟩, Nat.le_refl _⟩
theorem put_st {L : List RoundL} {r : RoundL} {n : Nat} (h : n ≤ L.length) : stL (putL L r).1 n = stL L n ∧ lastL (putL L r).1 n = lastL L n :=
 ⟨stL_pre n fun _ hi => put_getD (by omega), lastL_pre n fun _ hi => put_getD (by omega)⟩
end Go.SL
end
