/- YtebdkaadbakhlaaGreatDoor: part W6 of this seat's own texts. -/
import Derived.Test.YtebdkaadbakhlaaGreatDoorW5
import Derived.Test.YtebdkaadbakhlaaGreatDoorP3
set_option linter.unusedVariables false
set_option linter.unusedSimpArgs false
section
open Go Go.Proofs Go.SL
set_option maxRecDepth 100000
namespace Go.SL
abbrev scB (s : Nat) (lv : Value) (k : Nat) : Chunk := .blk s 30 [lv, .int .i64 (k : Int)]
abbrev scH (s : Nat) (lv : Value) (L : List RoundL) (k : Nat) (vs : List Value) (G : Nat → Prop) : Hp := [scB s lv k, Rw lv 37 1 L.length vs, Keep G (Rounds vs L)]
structure ScV (c : View) (s : Nat) (lv : Value) (L : List RoundL) (k : Nat) (vs : List Value) : Prop where
 cells : Cells c ⟨s, 0, none⟩ [lv, .int .i64 (k : Int)]
 row : Rds c lv 1 L.length vs
 rounds : Rounds vs L c
theorem ScV.mono {c c' : View} (hl : Le c c') {s : Nat} {lv : Value} {L : List RoundL} {k : Nat} {vs : List Value} (h : ScV c s lv L k vs) : ScV c' s lv L k vs := ⟨h.cells.mono hl, h.row.mono hl, Rounds.up _ _ _ _ hl h.rounds⟩
theorem ScV.of {s : Nat} {lv : Value} {L : List RoundL} {k : Nat} {vs : List Value} {G : Nat → Prop} {w : World} (h : ∀ c ∈ scH s lv L k vs G, c.holds w) : ScV w.cell? s lv L k vs :=
 ⟨blk_cells (h _ (List.mem_cons_self ..)) 0 (fun j v hj => by simpa using hj), row_rds (h _ (List.mem_cons_of_mem _ (List.mem_cons_self ..))), keep_all (Rounds.up _ _) (h _ (List.mem_cons_of_mem _ (List.mem_cons_of_mem _ (List.mem_cons_self ..))))⟩
theorem ScV.c0 {c : View} {s : Nat} {lv : Value} {L : List RoundL} {k : Nat} {vs : List Value} (h : ScV c s lv L k vs) : c ⟨s, 0, none⟩ = some lv := by have := h.cells 0 _ rfl; rwa [add_mk] at this
theorem ScV.c1 {c : View} {s : Nat} {lv : Value} {L : List RoundL} {k : Nat} {vs : List Value} (h : ScV c s lv L k vs) : c ⟨s, 0 + 1, none⟩ = some (.int .i64 (k : Int)) := by have := h.cells 1 _ rfl; rwa [add_mk] at this
theorem own_shape {P : Program} {f : FuncId} {args : Array Value} {w : World} {e n : Nat} {xs : List Value} (h : Calls P f args w fun en w' => ∃ sl, True ∧ en = .returned sl ∧ Res w [] [Own sl e 1 n xs] w') :
  Calls P f args w fun en w' => ∃ s : Option Addr × Nat, True ∧ en = .returned (.slice s.1 n s.2) ∧ Res w [] [Own (.slice s.1 n s.2) e 1 n xs] w' := by
 refine h.mono ?_
 rintro en w' ⟨sl, _, rfl, hr⟩
 obtain ⟨A, k, rfl, _⟩ := own_rds (hr.hold _ (List.mem_singleton.2 rfl))
 exact ⟨(A, k), trivial, rfl, hr⟩
theorem refOwn_spec' (v : Value) (r : RoundL) (w : World) (h : IsRound w.cell? v r) (hr60 : r.length ≤ 60) (hb : ∀ d ∈ r, d.length ≤ 500) : Calls Tryz.prog 101 #[v] w
  fun e w' => ∃ s : Option Addr × Nat × (Nat → Prop), True ∧ e = .returned (.slice s.1 r.length s.2.1) ∧ Res w [] [Keep s.2.2 (fun c => IsRound c (.slice s.1 r.length s.2.1) r)] w' := by
 refine (refOwn_spec v r w h hr60 hb).mono ?_
 rintro e w' ⟨⟨sl, G⟩, _, rfl, hr⟩
 obtain ⟨A, k, hsl⟩ := keep_shape (hr.hold _ (List.mem_singleton.2 rfl))
 dsimp only at hsl hr ⊢
 subst hsl
 exact ⟨(A, k, G), trivial, rfl, hr⟩
end Go.SL
end
section
open Go Go.Proofs Go.SL
set_option maxRecDepth 100000
namespace Go.SL
end Go.SL
end
section
open Go Go.Proofs Go.SL
set_option maxRecDepth 100000
namespace Go.SL
end Go.SL
end
section
open Go Go.Proofs Go.SL
set_option maxRecDepth 100000
namespace Go.SL
end Go.SL
end
section
open Go Go.Proofs Go.SL
set_option maxRecDepth 100000
namespace Go.SL
abbrev scX (s e0 : Nat) (tl : List Value) (lv : Value) (k : Nat) : Chunk := .blk s e0 (lv :: .int .i64 (k : Int) :: tl)
abbrev scHX (s e0 : Nat) (tl : List Value) (lv : Value) (L : List RoundL) (k : Nat) (vs : List Value) (G : Nat → Prop) : Hp := [scX s e0 tl lv k, Rw lv 37 1 L.length vs, Keep G (Rounds vs L)]
theorem ScV.ofX {s e0 : Nat} {tl : List Value} {lv : Value} {L : List RoundL} {k : Nat} {vs : List Value} {G : Nat → Prop} {w : World} (h : ∀ c ∈ scHX s e0 tl lv L k vs G, c.holds w) : ScV w.cell? s lv L k vs :=
 ⟨blk_cells (h _ (List.mem_cons_self ..)) 0 (fun j v hj => by
  match j with
  | 0 => simpa using hj
  | 1 => simpa using hj
  | j + 2 => simp at hj), row_rds (h _ (List.mem_cons_of_mem _ (List.mem_cons_self ..))), keep_all (Rounds.up _ _) (h _ (List.mem_cons_of_mem _ (List.mem_cons_of_mem _ (List.mem_cons_self ..))))⟩
end Go.SL
end
