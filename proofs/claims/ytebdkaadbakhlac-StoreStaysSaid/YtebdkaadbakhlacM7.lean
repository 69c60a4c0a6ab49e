/- Ytebdkaadbakhlac: part M7 of this seat's own texts. -/
import Derived.Test.YtebdkaadbakhlacM5
set_option linter.unusedVariables false
set_option linter.unusedSimpArgs false

open Go Go.Proofs Go.SL
set_option maxRecDepth 100000
set_option maxHeartbeats 4000000
namespace Go.SL
/-- the states behind the first rounds of a log, one behind the other -/
def thC (L : List RoundL) (n : Nat) : List Value := (List.range n).flatMap fun j => intCells (stL L j)
theorem thC_succ (L : List RoundL) (n : Nat) : thC L (n + 1) = thC L n ++ intCells (stL L n) := by simp [thC, List.range_succ]
theorem thC_len (L : List RoundL) : ∀ n, (thC L n).length = n * 10
  | 0 => rfl
  | n + 1 => by rw [thC_succ, List.length_append, thC_len L n, intCells, List.length_map, stL_len]; omega
theorem thC_at (L : List RoundL) {i : Nat} : ∀ {n}, i < n → ((thC L n).drop (i * 10)).take 10 = intCells (stL L i)
  | 0, h => by omega
  | n + 1, h => by
    have hz : (intCells (stL L i)).length = 10 := by rw [intCells, List.length_map, stL_len]
    rw [thC_succ]
    rcases Nat.lt_or_ge i n with hi | hi
    · rw [List.drop_append_of_le_length (by rw [thC_len]; omega), List.take_append_of_le_length (by rw [List.length_drop, thC_len]; omega)]
      exact thC_at L hi
    · have e : i = n := by omega
      subst e
      rw [List.drop_left' (thC_len L i), List.take_of_length_le (by omega)]
theorem then_in {L : List RoundL} {n : Nat} (h : n ≤ L.length) : thenL L (n : Int) = (stL L n, true) := by
  unfold thenL
  rw [if_neg (by omega), Int.toNat_natCast]
theorem doQ_crash (q : QL) (keep : Int) : doQ q ⟨4, keep, [], []⟩ = (crashQ q keep, 0) := by
  unfold doQ
  rw [if_neg (show ¬ ((4 : Int) = 1) by decide), if_neg (show ¬ ((4 : Int) = 2) by decide), if_neg (show ¬ ((4 : Int) = 3) by decide), if_pos rfl]
theorem crash_facts {q : QL} (h : q.Ok) (keep : Int) : ∃ L' m, doQ q ⟨4, keep, [], []⟩ = (⟨L', m, m⟩, 0) ∧ QL.Ok ⟨L', m, m⟩ ∧ q.k ≤ m ∧ m ≤ q.L.length ∧ L'.length = m ∧ stL L' m = stL q.L m ∧ doQ ⟨L', m, m⟩ ⟨4, -1, [], []⟩ = (⟨L', m, m⟩, 0) := by
  obtain ⟨h1, h2, _⟩ := crashL_spec (keep := keep) h.log.sure h.log.bytes
  have h3 := crashQ_again h keep (-1)
  have h4 := crashQ_ok h keep
  refine ⟨_, _, doQ_crash q keep, h4, h1, h2, ?_, stL_take (Nat.le_refl _), ?_⟩
  · rw [List.length_take]; omega
  · rw [doQ_crash]
    show (crashQ (crashQ q keep) (-1), _) = _
    rw [h3]
    rfl
section
variable {C : Cx} {l : Fr} {m : Hp} {ty : TypeId} {pos : String} {after : Array Edge} {dst : Option Nat} {gd : Option (Nat × Bool)}
/-- a load of some cells from a row, at its place -/
theorem v_loadWN {x : Operand} {g t e size n k o : Nat} {xs cs : List Value} {u : TypeDesc} (i : Nat) (hm : m[i]? = some (Own (.slice (some ⟨g, 0, none⟩) n k) e size n xs)) (h0 : 0 < n) (hc : (xs.drop o).take cs.length = cs)
    (hx : rd l x = some (.pointer (some ⟨g, o, none⟩))) (ht : C.P.underlying t = some u) (hu : (match u with | .struct _ | .array _ _ => true | _ => false) = true) (hi : C.P.info? t ≠ none) (hn : C.P.cellsOf t = cs.length) : OpV C l m ⟨dst, .load t x, ty, pos, after, gd⟩ (.agg cs.toArray) :=
  v_loadN ht hu hi hn hx fun w hw => by
    obtain ⟨A, k', h1, _, _, h3⟩ := own_rds (hw.mem hm)
    obtain ⟨ad', h4, h5⟩ := h3 h0
    injection h1 with e1 e2 e3
    rw [h4] at e1
    injection e1 with e1
    subst e1
    intro j v hj
    have hlt := (List.getElem?_eq_some_iff.1 hj).1
    rw [← hc, List.getElem?_take_of_lt hlt, List.getElem?_drop] at hj
    have := h5 _ _ hj
    rw [add_mk] at this ⊢
    rwa [show 0 + (o + j) = o + j from Nat.zero_add _] at this
end
end Go.SL

