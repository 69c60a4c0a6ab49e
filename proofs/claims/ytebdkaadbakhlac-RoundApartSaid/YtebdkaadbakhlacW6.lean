/- Ytebdkaadbakhlac: part W6 of this seat's own texts. -/
import Derived.Test.YtebdkaadbakhlacW5
import Derived.Test.YtebdkaadbakhlacP3
set_option linter.unusedVariables false
set_option linter.unusedSimpArgs false
section

open Go Go.Proofs Go.SL
set_option maxRecDepth 100000
namespace Go.SL
abbrev scB (s : Nat) (lv : Value) (k : Nat) : Chunk := .blk s 95 [lv, .int .i64 (k : Int)]
/-- a scroll in memory -/
abbrev scH (s : Nat) (lv : Value) (L : List RoundL) (k : Nat) (vs : List Value) (G : Nat → Prop) : Hp := [scB s lv k, Rw lv 38 1 L.length vs, Keep G (Rounds vs L)]
structure ScV (c : View) (s : Nat) (lv : Value) (L : List RoundL) (k : Nat) (vs : List Value) : Prop where
  cells : Cells c ⟨s, 0, none⟩ [lv, .int .i64 (k : Int)]
  row : Rds c lv 1 L.length vs
  rounds : Rounds vs L c
theorem ScV.mono {c c' : View} (hl : Le c c') {s : Nat} {lv : Value} {L : List RoundL} {k : Nat} {vs : List Value} (h : ScV c s lv L k vs) : ScV c' s lv L k vs := ⟨h.cells.mono hl, h.row.mono hl, Rounds.up _ _ _ _ hl h.rounds⟩
theorem ScV.of {s : Nat} {lv : Value} {L : List RoundL} {k : Nat} {vs : List Value} {G : Nat → Prop} {w : World} (h : ∀ c ∈ scH s lv L k vs G, c.holds w) : ScV w.cell? s lv L k vs :=
  ⟨blk_cells (h _ (List.mem_cons_self ..)) 0 (fun j v hj => by simpa using hj), row_rds (h _ (List.mem_cons_of_mem _ (List.mem_cons_self ..))), keep_all (Rounds.up _ _) (h _ (List.mem_cons_of_mem _ (List.mem_cons_of_mem _ (List.mem_cons_self ..))))⟩
theorem ScV.c0 {c : View} {s : Nat} {lv : Value} {L : List RoundL} {k : Nat} {vs : List Value} (h : ScV c s lv L k vs) : c ⟨s, 0, none⟩ = some lv := by have := h.cells 0 _ rfl; rwa [add_mk] at this
theorem ScV.c1 {c : View} {s : Nat} {lv : Value} {L : List RoundL} {k : Nat} {vs : List Value} (h : ScV c s lv L k vs) : c ⟨s, 0 + 1, none⟩ = some (.int .i64 (k : Int)) := by have := h.cells 1 _ rfl; rwa [add_mk] at this
end Go.SL
end
section

open Go Go.Proofs Go.SL
set_option maxRecDepth 100000
namespace Go.SL
end Go.SL
end
section

open Go Go.Proofs Go.SL
set_option maxRecDepth 100000
namespace Go.SL
end Go.SL
end
section

open Go Go.Proofs Go.SL
set_option maxRecDepth 100000
namespace Go.SL
-- left out: caracole/caracolelaw.greatLog
end Go.SL
end
