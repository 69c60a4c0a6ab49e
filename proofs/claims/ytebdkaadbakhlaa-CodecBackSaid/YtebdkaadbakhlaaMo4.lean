/- Ytebdkaadbakhlaa: part Mo4 of this seat's own texts. -/
import Derived.Test.YtebdkaadbakhlaaMo3
set_option linter.unusedVariables false
set_option linter.unusedSimpArgs false
namespace Go.SL
open Go.RowKit
theorem keep_part {F G : Nat → Prop} {p : View → Prop} (hp : Up p) {w : World} (h : (Keep F p).holds w) (hF : ∀ b, F b → G b) : p (cutTo w G).cell? := hp _ _ (cutTo_mono hF) h.2
theorem own_part {v : Value} {e size n : Nat} {xs : List Value} {G : Nat → Prop} {w : World} (h : (Own v e size n xs).holds w) (hF : ∀ b, v.ownBlock = some b → G b) : Rds (cutTo w G).cell? v size n xs := own_rds (Chunk.cutTo h hF)
theorem feet_mem {m : Hp} {c : Chunk} (h : c ∈ m) : ∀ b, c.foot b → feet m b := fun _ hb => ⟨c, h, hb⟩
/-- the deeds of a round, by their headers -/
def Deeds (vs : List Value) (r : RoundL) (c : View) : Prop := vs.length = r.length ∧ ∀ i (h : i < r.length), ∃ u, vs[i]? = some u ∧ IsDeed c u r[i]
theorem Deeds.up (vs : List Value) (r : RoundL) : Up (Deeds vs r) := fun _ _ hl h => ⟨h.1, fun i hi => let ⟨u, h1, h2⟩ := h.2 i hi; ⟨u, h1, h2.mono hl⟩⟩
theorem Deeds.nil (c : View) : Deeds [] [] c := ⟨rfl, fun i hi => by simp at hi⟩
theorem Deeds.snoc {vs : List Value} {r : RoundL} {c : View} {u : Value} {d : DeedL} (h : Deeds vs r c) (hd : IsDeed c u d) : Deeds (vs ++ [u]) (r ++ [d]) c := by
  refine ⟨by simp [h.1], fun i hi => ?_⟩
  simp only [List.length_append, List.length_cons, List.length_nil] at hi
  by_cases hlt : i < r.length
  · obtain ⟨u', h1, h2⟩ := h.2 i hlt
    have hv : i < vs.length := by rw [h.1]; exact hlt
    exact ⟨u', by rw [List.getElem?_append_left hv]; exact h1, by rw [List.getElem_append_left hlt]; exact h2⟩
  · have e : i = r.length := by omega
    subst e
    refine ⟨u, ?_, ?_⟩
    · rw [← h.1]; simp
    · simpa using hd
theorem Deeds.round {vs : List Value} {r : RoundL} {c : View} {v : Value} (h : Deeds vs r c) (hv : Rds c v 1 r.length vs) : IsRound c v r := ⟨vs, hv, h.2⟩
theorem IsRound.up (v : Value) (r : RoundL) : Up (fun c => IsRound c v r) := fun _ _ hl h => h.mono hl
theorem deedCells_snoc (d : DeedL) (o : OpL) : deedCells (d ++ [o]) = deedCells d ++ opCells o := by simp [deedCells]
/-- a deed's row joins the others -/
theorem St.deedIn {w0 w : World} {F G : Nat → Prop} {v : Value} {e n : Nat} {d : DeedL} {vs : List Value} {r : RoundL} {m : Hp} (hn : n = d.length) (h : St w0 F (Own v e 5 n (deedCells d) :: Keep G (Deeds vs r) :: m) w) :
    St w0 F (Keep (feet [Own v e 5 n (deedCells d), Keep G (Deeds vs r)]) (Deeds (vs ++ [v]) (r ++ [d])) :: m) w := by
  subst hn
  refine St.keep (mc := [Own v e 5 d.length (deedCells d), Keep G (Deeds vs r)]) (Deeds (vs ++ [v]) (r ++ [d])) h fun hh => ?_
  have h1 := hh _ (List.mem_cons_self ..)
  have h2 := hh _ (List.mem_cons_of_mem _ (List.mem_cons_self ..))
  exact (keep_part (Deeds.up _ _) h2 (fun b hb => ⟨_, List.mem_cons_of_mem _ (List.mem_cons_self ..), hb⟩)).snoc (own_part h1 (feet_mem (c := Own v e 5 d.length (deedCells d)) (by simp)))
theorem St.roundIn {w0 w : World} {F G : Nat → Prop} {v : Value} {e n : Nat} {vs : List Value} {r : RoundL} {m : Hp} (hn : n = r.length) (h : St w0 F (Own v e 1 n vs :: Keep G (Deeds vs r) :: m) w) :
    St w0 F (Keep (feet [Own v e 1 n vs, Keep G (Deeds vs r)]) (fun c => IsRound c v r) :: m) w := by
  subst hn
  refine St.keep (mc := [Own v e 1 r.length vs, Keep G (Deeds vs r)]) (fun c => IsRound c v r) h fun hh => ?_
  have h1 := hh _ (List.mem_cons_self ..)
  have h2 := hh _ (List.mem_cons_of_mem _ (List.mem_cons_self ..))
  exact (keep_part (Deeds.up _ _) h2 (fun b hb => ⟨_, List.mem_cons_of_mem _ (List.mem_cons_self ..), hb⟩)).round (own_part h1 (feet_mem (c := Own v e 1 r.length vs) (by simp)))
theorem St.keep0 {w0 w : World} {F : Nat → Prop} {m : Hp} (p : View → Prop) (hp : ∀ c, p c) (h : St w0 F m w) : St w0 F (Keep (feet []) p :: m) w := St.keep (mc := []) p h fun _ => hp _
/-! the parts of the reader's loops -/
theorem getOps_step {m j : Nat} (hj : j < m) {rest rest' : List UInt8} {o : OpL} (h : getOp rest = some (o, rest')) (d : DeedL) : (getOps (m - j) rest).map (fun p => (d ++ p.1, p.2)) = (getOps (m - (j + 1)) rest').map (fun p => (d ++ [o] ++ p.1, p.2)) := by
  have e : m - j = (m - (j + 1)) + 1 := by omega
  rw [e]
  simp only [getOps, h]
  cases getOps (m - (j + 1)) rest' with
  | none => rfl
  | some p => simp
theorem getOps_none {m j : Nat} (hj : j < m) {rest : List UInt8} (h : getOp rest = none) : getOps (m - j) rest = none := by
  have e : m - j = (m - (j + 1)) + 1 := by omega
  rw [e]
  simp only [getOps, h]
theorem getDeeds_step {m j : Nat} (hj : j < m) {rest rest' : List UInt8} {o : DeedL} (h : getDeed rest = some (o, rest')) (d : RoundL) : (getDeeds (m - j) rest).map (fun p => (d ++ p.1, p.2)) = (getDeeds (m - (j + 1)) rest').map (fun p => (d ++ [o] ++ p.1, p.2)) := by
  have e : m - j = (m - (j + 1)) + 1 := by omega
  rw [e]
  simp only [getDeeds, h]
  cases getDeeds (m - (j + 1)) rest' with
  | none => rfl
  | some p => simp
theorem getDeeds_none {m j : Nat} (hj : j < m) {rest : List UInt8} (h : getDeed rest = none) : getDeeds (m - j) rest = none := by
  have e : m - j = (m - (j + 1)) + 1 := by omega
  rw [e]
  simp only [getDeeds, h]
end Go.SL
