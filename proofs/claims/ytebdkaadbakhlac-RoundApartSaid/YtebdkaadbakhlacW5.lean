/- Ytebdkaadbakhlac: part W5 of this seat's own texts. -/
import Derived.Test.YtebdkaadbakhlacW4
import Derived.Test.YtebdkaadbakhlacP3
set_option linter.unusedVariables false
set_option linter.unusedSimpArgs false
section

open Go Go.Proofs Go.SL
set_option maxRecDepth 100000
namespace Go.SL
abbrev lgB (p : Nat) (bv ev : Value) (L : List RoundL) (k : Nat) : Chunk := .blk p 155 [bv, ev, .int .i64 (endAt L k : Int)]
/-- a log in memory -/
abbrev lgH (p : Nat) (bv ev : Value) (L : List RoundL) (k : Nat) : Hp := [lgB p bv ev L k, Rw bv 5 1 (bytesOf L).length (byteCells (bytesOf L)), Rw ev 3 1 L.length (intCells (endsOf L))]
/-- a log, as it is read -/
structure LgV (c : View) (p : Nat) (bv ev : Value) (L : List RoundL) (k : Nat) : Prop where
  cells : Cells c ⟨p, 0, none⟩ [bv, ev, .int .i64 (endAt L k : Int)]
  by_ : IsBytes c bv (bytesOf L)
  en : Rds c ev 1 L.length (intCells (endsOf L))
theorem LgV.mono {c c' : View} (hl : Le c c') {p : Nat} {bv ev : Value} {L : List RoundL} {k : Nat} (h : LgV c p bv ev L k) : LgV c' p bv ev L k := ⟨h.cells.mono hl, h.by_.mono hl, h.en.mono hl⟩
theorem LgV.of {p : Nat} {bv ev : Value} {L : List RoundL} {k : Nat} {w : World} (h : ∀ c ∈ lgH p bv ev L k, c.holds w) : LgV w.cell? p bv ev L k :=
  ⟨blk_cells (h _ (List.mem_cons_self ..)) 0 (fun j v hj => by simpa using hj), row_rds (h _ (List.mem_cons_of_mem _ (List.mem_cons_self ..))), row_rds (h _ (List.mem_cons_of_mem _ (List.mem_cons_of_mem _ (List.mem_cons_self ..))))⟩
theorem LgV.c0 {c : View} {p : Nat} {bv ev : Value} {L : List RoundL} {k : Nat} (h : LgV c p bv ev L k) : c ⟨p, 0, none⟩ = some bv := by have := h.cells 0 _ rfl; rwa [add_mk] at this
theorem LgV.c1 {c : View} {p : Nat} {bv ev : Value} {L : List RoundL} {k : Nat} (h : LgV c p bv ev L k) : c ⟨p, 0 + 1, none⟩ = some ev := by have := h.cells 1 _ rfl; rwa [add_mk] at this
theorem LgV.c2 {c : View} {p : Nat} {bv ev : Value} {L : List RoundL} {k : Nat} (h : LgV c p bv ev L k) : c ⟨p, 0 + 2, none⟩ = some (.int .i64 (endAt L k : Int)) := by have := h.cells 2 _ rfl; rwa [add_mk] at this
end Go.SL
end
section

open Go Go.Proofs Go.SL
set_option maxRecDepth 100000
namespace Go.SL
end Go.SL
end
section

open Go Go.Proofs Go.SL
set_option maxRecDepth 100000
namespace Go.SL
end Go.SL
end
section

open Go Go.Proofs Go.SL
set_option maxRecDepth 100000
namespace Go.SL
end Go.SL
end
