/- YtebdkaadbakhlaaGreatDoor: part WK of this seat's own texts. -/
import Derived.Test.YtebdkaadbakhlaaGreatDoorWJ
set_option linter.unusedVariables false
set_option linter.unusedSimpArgs false
section
open Go Go.Proofs Go.SL
set_option maxRecDepth 100000
namespace Go.SL
def hdC (x : WkL) (dv sv : Value) : List Value := [dv, .int .i64 (x.by_ : Int), .int .i64 (x.at_ : Int)] ++ (intCells x.g ++ (sv :: .bool x.ov :: resCells x.rc x.rg))
section
variable {x : WkL} {dv sv : Value}
theorem hd_split : hdC x dv sv = ([dv, .int .i64 (x.by_ : Int), .int .i64 (x.at_ : Int)] ++ intCells x.g) ++ (sv :: .bool x.ov :: resCells x.rc x.rg) := by unfold hdC; rw [List.append_assoc]
theorem hd_ov (hg : x.g.length = 4) : (hdC x dv sv)[0 + 8]? = some (.bool x.ov) := by rw [hd_split, at_app (j := 1) (by simp [intCells, hg])]; rfl
theorem hd_split2 : hdC x dv sv = ([dv, .int .i64 (x.by_ : Int), .int .i64 (x.at_ : Int)] ++ intCells x.g ++ [sv, .bool x.ov]) ++ resCells x.rc x.rg := by unfold hdC; simp only [List.append_assoc, List.cons_append, List.nil_append]
structure HdV (c : View) (p : Nat) (x : WkL) : Prop where
 ov : c ⟨p, 0 + 8, none⟩ = some (.bool x.ov)
 res : Cells c ⟨p, 0 + 9, none⟩ (resCells x.rc x.rg)
theorem HdV.of {c : View} {p : Nat} (h : Cells c ⟨p, 0, none⟩ (hdC x dv sv)) (hg : x.g.length = 4) : HdV c p x := by
 refine ⟨?_, fun j v hj => ?_⟩
 ·have := h (0 + 8) _ (hd_ov hg)
  rwa [add_mk] at this
 ·have h2 := h (0 + 9 + j) v (by rw [hd_split2, at_app (j := j) (by simp [intCells, hg])]; exact hj)
  rw [add_mk] at h2 ⊢
  rwa [show 0 + (0 + 9 + j) = 0 + 9 + j from by omega] at h2
theorem HdV.mono {c c' : View} {p : Nat} (hl : Le c c') (h : HdV c p x) : HdV c' p x := ⟨hl _ _ h.ov, h.res.mono hl⟩
end
def putF (st : DeedL) (k : Int) : Int × Bool := st.foldl (fun acc o => if o.a = k then (o.n, true) else acc) (0, false)
theorem putF_snoc (st : DeedL) (o : OpL) (k : Int) : putF (st ++ [o]) k = if o.a = k then (o.n, true) else putF st k := by simp [putF, List.foldl_append]
structure StOk (x : WkL) (st : DeedL) : Prop where
 put : ∀ k : Nat, putF st k = (if x.put k = true then x.has k else 0, x.put k)
 len : st.length ≤ x.at_
end Go.SL
end
section
open Go Go.Proofs Go.SL
set_option maxRecDepth 100000
set_option maxHeartbeats 1000000
namespace Go.SL
end Go.SL
end
section
open Go Go.Proofs Go.SL
set_option maxRecDepth 100000
set_option maxHeartbeats 1000000
namespace Go.SL
theorem StOk.store {x : WkL} {sl : DeedL} {a n : Int} (h : StOk x sl) (h0 : 0 ≤ a) : StOk { x with put := upd x.put a.toNat true, has := upd x.has a.toNat n, at_ := x.at_ + 1 } (sl ++ [⟨0, a, 0, 0, n⟩]) := by
 refine ⟨fun k => ?_, ?_⟩
 ·rw [putF_snoc]
  unfold upd
  by_cases hk : a = k
  ·subst hk
   simp
  ·have : k ≠ a.toNat := by omega
   simp only [if_neg hk, if_neg this]
   exact h.put k
 ·have := h.len
  simp only [List.length_append, List.length_singleton]
  omega
theorem StOk.next {x x' : WkL} {sl : DeedL} (h : StOk x sl) (hp : x'.put = x.put) (hh : x'.has = x.has) (ha : x.at_ ≤ x'.at_) : StOk x' sl := ⟨fun k => by rw [hp, hh]; exact h.put k, Nat.le_trans h.len ha⟩
end Go.SL
end
