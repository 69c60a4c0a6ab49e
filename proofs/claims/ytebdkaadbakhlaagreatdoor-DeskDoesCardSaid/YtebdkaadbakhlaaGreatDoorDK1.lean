/- YtebdkaadbakhlaaGreatDoor: part DK1 of this seat's own texts. -/
import Derived.Test.YtebdkaadbakhlaaGreatDoorZ4
import Derived.Test.YtebdkaadbakhlaaGreatDoorZ5
import Derived.Test.YtebdkaadbakhlaaGreatDoorMM2
import Derived.Test.YtebdkaadbakhlaaGreatDoorZ7
set_option linter.unusedVariables false
set_option linter.unusedSimpArgs false
section
open Go Go.Proofs Go.SL Go.RowKit
set_option maxRecDepth 100000
namespace Go.SL
theorem w64_in (n : Int) : In64 (w64 n) := by unfold w64; have := w64_range n; unfold In64; omega
theorem arith_in (k a b : Int) : In64 (arithL k a b) := by
 unfold arithL
 split
 ·exact w64_in _
 ·split
  ·exact w64_in _
  ·split
   ·exact w64_in _
   ·split <;> simp [In64]
theorem gt_in {l : List Int} (h : ∀ x ∈ l, In64 x) (i : Int) : In64 (gt l i) := by
 unfold gt List.getD
 cases hl : l[i.toNat]? with
 | none => simp [In64]
 | some x => exact h x (List.mem_of_getElem? hl)
theorem st_in {l : List Int} (h : ∀ x ∈ l, In64 x) (i : Int) {x : Int} (hx : In64 x) : ∀ y ∈ st l i x, In64 y := fun y hy => by
 rcases List.mem_or_eq_of_mem_set hy with h1 | rfl
 ·exact h y h1
 ·exact hx
theorem stepL_in {o : OpL} {g s g' s' : List Int} {k : Nat} (ho : OpIn o) (hg : ∀ x ∈ g, In64 x) (hs : ∀ x ∈ s, In64 x) (h : stepL arithL o g s = some (g', s', k)) : (∀ x ∈ g', In64 x) ∧ ∀ x ∈ s', In64 x := by
 unfold stepL at h
 split at h
 ·simp only [Option.some.injEq, Prod.mk.injEq] at h; obtain ⟨rfl, rfl, _⟩ := h; exact ⟨st_in hg _ ho.n, hs⟩
 ·split at h
  ·simp only [Option.some.injEq, Prod.mk.injEq] at h; obtain ⟨rfl, rfl, _⟩ := h; exact ⟨st_in hg _ (gt_in hs _), hs⟩
  ·split at h
   ·simp only [Option.some.injEq, Prod.mk.injEq] at h; obtain ⟨rfl, rfl, _⟩ := h; exact ⟨hg, st_in hs _ (gt_in hg _)⟩
   ·split at h
    ·split at h
     ·cases h
     ·simp only [Option.some.injEq, Prod.mk.injEq] at h; obtain ⟨rfl, rfl, _⟩ := h; exact ⟨hg, hs⟩
    ·split at h
     ·split at h <;> (simp only [Option.some.injEq, Prod.mk.injEq] at h; obtain ⟨rfl, rfl, _⟩ := h; exact ⟨hg, hs⟩)
     ·simp only [Option.some.injEq, Prod.mk.injEq] at h; obtain ⟨rfl, rfl, _⟩ := h; exact ⟨st_in hg _ (arith_in _ _ _), hs⟩
theorem runF_in : ∀ (n : Nat) (d : DeedL) (g s : List Int), (∀ o ∈ d, OpIn o) → (∀ x ∈ g, In64 x) → (∀ x ∈ s, In64 x) → (∀ x ∈ (runF arithL n d g s).2.1, In64 x) ∧ ∀ x ∈ (runF arithL n d g s).2.2, In64 x
 | 0, _, _, _, _, hg, hs => ⟨hg, hs⟩
 | _ + 1, [], _, _, _, hg, hs => ⟨hg, hs⟩
 | n + 1, o :: rest, g, s, hd, hg, hs => by
  simp only [runF]
  split
  ·exact ⟨hg, hs⟩
  ·rename_i g' s' k hst
   obtain ⟨h1, h2⟩ := stepL_in (hd o List.mem_cons_self) hg hs hst
   exact runF_in n _ g' s' (fun o ho => hd o (List.mem_cons_of_mem _ (List.mem_of_mem_drop ho))) h1 h2
theorem doL_in {s : List Int} {d : DeedL} (hd : ∀ o ∈ d, OpIn o) (hs : ∀ x ∈ s, In64 x) : (∀ x ∈ (doL arithL s d).1, In64 x) ∧ ((doL arithL s d).2.1 = 0 ∨ (doL arithL s d).2.1 = 9) ∧ ∀ x ∈ (doL arithL s d).2.2, In64 x := by
 have h : (∀ x ∈ (runL arithL d zero4 s).2.1, In64 x) ∧ ∀ x ∈ (runL arithL d zero4 s).2.2, In64 x := runF_in d.length d zero4 s hd (by intro x hx; simp [zero4] at hx; subst hx; simp [In64]) hs
 simp only [doL]
 generalize runL arithL d zero4 s = R at h
 by_cases hb : R.1 = true
 ·rw [if_pos hb]; exact ⟨hs, .inr rfl, h.1⟩
 ·rw [if_neg hb]; exact ⟨h.2, .inl rfl, h.1⟩
theorem getD_inR {r : RoundL} (hr : ∀ d ∈ r, ∀ o ∈ d, OpIn o) (m : Nat) : ∀ o ∈ r.getD m [], OpIn o := by
 unfold List.getD
 cases hl : r[m]? with
 | none => intro o ho; cases ho
 | some x => exact hr x (List.mem_of_getElem? hl)
theorem stAt_in {s : List Int} {r : RoundL} (hr : ∀ d ∈ r, ∀ o ∈ d, OpIn o) (hs : ∀ x ∈ s, In64 x) : ∀ m, ∀ x ∈ stAt s r m, In64 x
 | 0 => hs
 | m + 1 => (doL_in (getD_inR hr m) (stAt_in hr hs m)).1
theorem resAll_in {s : List Int} {r : RoundL} (hr : ∀ d ∈ r, ∀ o ∈ d, OpIn o) (hs : ∀ x ∈ s, In64 x) : ∀ x ∈ resAll s r, In64 x.1 ∧ ∀ y ∈ x.2, In64 y := fun x hx => by
 obtain ⟨i, _, rfl⟩ := List.mem_map.1 hx
 obtain ⟨_, h2, h3⟩ := doL_in (getD_inR hr i) (stAt_in hr hs i)
 exact ⟨by unfold rsAt; rcases h2 with h | h <;> rw [h] <;> simp [In64], h3⟩
theorem zero10_in : ∀ x ∈ zero10, In64 x := by intro x hx; simp [zero10] at hx; subst hx; simp [In64]
theorem getD_inL {L : List RoundL} (hL : ∀ r ∈ L, ∀ d ∈ r, ∀ o ∈ d, OpIn o) (n : Nat) : ∀ d ∈ L.getD n [], ∀ o ∈ d, OpIn o := by
 unfold List.getD
 cases hl : L[n]? with
 | none => intro d hd; cases hd
 | some x => exact hL x (List.mem_of_getElem? hl)
theorem stL_in {L : List RoundL} (hL : ∀ r ∈ L, ∀ d ∈ r, ∀ o ∈ d, OpIn o) : ∀ n, ∀ x ∈ stL L n, In64 x
 | 0 => zero10_in
 | n + 1 => stAt_in (getD_inL hL n) (stL_in hL n) _
theorem lastL_in {L : List RoundL} (hL : ∀ r ∈ L, ∀ d ∈ r, ∀ o ∈ d, OpIn o) : ∀ n, ∀ x ∈ lastL L n, In64 x.1 ∧ ∀ y ∈ x.2, In64 y
 | 0 => fun _ h => by cases h
 | n + 1 => resAll_in (getD_inL hL n) (stL_in hL n)
theorem QL.Ok.inn {q : QL} (h : q.Ok) : ∀ r ∈ q.L, ∀ d ∈ r, ∀ o ∈ d, OpIn o := fun r hr => (h.log.all r hr).2
theorem thenL_in {L : List RoundL} (hL : ∀ r ∈ L, ∀ d ∈ r, ∀ o ∈ d, OpIn o) (n : Int) : ∀ x ∈ (thenL L n).1, In64 x := by
 unfold thenL
 split
 ·exact zero10_in
 ·exact stL_in hL _
theorem thenL_len (L : List RoundL) (n : Int) : (thenL L n).1.length = 10 := by
 unfold thenL
 split
 ·rfl
 ·exact stL_len _ _
structure DkL where
 q : QL
 r : RoundL
def longsL (l : List Int) : List UInt8 := l.flatMap fun x => 32 :: Lib.itoa x
def tellCode (c : Int) : List UInt8 := (if c ≠ 0 then [110, 111, 32] ++ Lib.itoa c else [111, 107]) ++ [10]
def tellState (z : List Int) : List UInt8 := ([115, 116, 97, 116, 101] ++ longsL z) ++ [10]
def tellRes (x : Int × List Int) : List UInt8 := (([99, 97, 109, 101, 32] ++ Lib.itoa x.1) ++ longsL x.2) ++ [10]
def tellEnd : List UInt8 := [101, 110, 100, 10]
def tellDeed (d : DeedL) : List UInt8 := ([100, 101, 101, 100, 32] ++ (printS d).1) ++ [10]
def tellThen (L : List RoundL) (n : Int) : List UInt8 := if (thenL L n).2 = true then tellState (thenL L n).1 else tellCode 7
def tellRound (L : List RoundL) (n : Int) : List UInt8 := if n < 0 ∨ (L.length : Int) ≤ n then tellCode 7 else (L.getD n.toNat []).flatMap tellDeed ++ tellEnd
def tellMany (q : QL) : List UInt8 := (((((([109, 97, 110, 121, 32] ++ Lib.itoa (q.L.length : Int)) ++ [32]) ++ Lib.itoa (q.k : Int)) ++ [32]) ++ Lib.itoa (q.dn : Int))) ++ [10]
def tellWhat : List UInt8 := [119, 104, 97, 116, 10]
def tellNo (f : Int × Int) : List UInt8 := ((([110, 111, 32] ++ Lib.itoa f.1) ++ [32]) ++ Lib.itoa f.2) ++ [10]
def askL (d : DkL) (w : List UInt8) (n : List Int) : Option (DkL × List UInt8) :=
 if w = [112, 117, 116] ∧ n.length = 0 then some (⟨(doQ d.q ⟨1, 0, d.r, []⟩).1, []⟩, tellCode (doQ d.q ⟨1, 0, d.r, []⟩).2)
 else if w = [115, 121, 110, 99] ∧ n.length = 0 then some (⟨(doQ d.q ⟨2, 0, [], []⟩).1, d.r⟩, tellCode (doQ d.q ⟨2, 0, [], []⟩).2)
 else if w = [114, 117, 110] then some (⟨(doQ d.q ⟨3, 0, [], n⟩).1, d.r⟩, tellCode (doQ d.q ⟨3, 0, [], n⟩).2)
 else if w = [99, 114, 97, 115, 104] ∧ n.length = 1 then some (⟨(doQ d.q ⟨4, n.headD 0, [], []⟩).1, d.r⟩, tellCode (doQ d.q ⟨4, n.headD 0, [], []⟩).2)
 else if w = [115, 116, 97, 116, 101] ∧ n.length = 0 then some (d, tellState (stL d.q.L d.q.dn))
 else if w = [108, 97, 115, 116] ∧ n.length = 0 then some (d, (lastL d.q.L d.q.dn).flatMap tellRes ++ tellEnd)
 else if w = [116, 104, 101, 110] ∧ n.length = 1 then some (d, tellThen d.q.L (n.headD 0))
 else if w = [114, 111, 117, 110, 100] ∧ n.length = 1 then some (d, tellRound d.q.L (n.headD 0))
 else if w = [109, 97, 110, 121] ∧ n.length = 0 then some (d, tellMany d.q)
 else none
def deedL (d : DkL) (s : List UInt8) : DkL × List UInt8 := if (parseL s).2.1 ≠ 0 then (d, tellNo (parseL s).2) else (⟨d.q, d.r ++ [(parseL s).1]⟩, [])
def wordsD (d : DkL) : List (List UInt8) → DkL × List UInt8
 | [] => (d, [])
 | w :: ws => match numsL ws with
  | none => (d, tellWhat)
  | some n => (askL d w n).getD (d, tellWhat)
theorem wordsD_none {d : DkL} {w : List UInt8} {ws : List (List UInt8)} (h : numsL ws = none) : wordsD d (w :: ws) = (d, tellWhat) := by simp only [wordsD, h]
theorem wordsD_some {d : DkL} {w : List UInt8} {ws : List (List UInt8)} {n : List Int} (h : numsL ws = some n) : wordsD d (w :: ws) = (askL d w n).getD (d, tellWhat) := by simp only [wordsD, h]
def lineL (d : DkL) (s : List UInt8) : DkL × List UInt8 := if Lib.hasPrefix s [100, 101, 101, 100, 32] = true then deedL d (s.drop 5) else wordsD d (wordsL s)
def linesL (d : DkL) : List (List UInt8) → DkL × List UInt8
 | [] => (d, [])
 | s :: r => ((linesL (lineL d s).1 r).1, (lineL d s).2 ++ (linesL (lineL d s).1 r).2)
theorem linesL_app (d : DkL) : ∀ a b : List (List UInt8), linesL d (a ++ b) = ((linesL (linesL d a).1 b).1, (linesL d a).2 ++ (linesL (linesL d a).1 b).2)
 | [], b => rfl
 | s :: r, b => by simp only [List.cons_append, linesL, linesL_app (lineL d s).1 r b, List.append_assoc]
theorem linesL_snoc (d : DkL) (a : List (List UInt8)) (s : List UInt8) : linesL d (a ++ [s]) = ((lineL (linesL d a).1 s).1, (linesL d a).2 ++ (lineL (linesL d a).1 s).2) := by
 rw [linesL_app]; simp [linesL]
def nlAt (i : Nat) : List (List UInt8) → Int × Int
 | [] => (0, 0)
 | s :: r => if 10 ∈ s then (11, (i : Int)) else nlAt (i + 1) r
def faultLs (l : List (List UInt8)) : Int × Int := if 150 < l.length then (4, -1) else nlAt 0 l
theorem nlAt_pair : ∀ (l : List (List UInt8)) (i : Nat), (nlAt i l).1 = 0 → nlAt i l = (0, 0)
 | [], _, _ => rfl
 | s :: r, i, h => by
  unfold nlAt at h ⊢
  split
  ·rename_i hs; rw [if_pos hs] at h; simp at h
  ·rename_i hs; rw [if_neg hs] at h; exact nlAt_pair r (i + 1) h
structure DkL.Ok (d : DkL) (N : Nat) : Prop where
 q : d.q.Ok
 inn : ∀ x ∈ d.r, ∀ o ∈ x, OpIn o
 len : d.r.length ≤ N
theorem DkL.Ok.mono {d : DkL} {N M : Nat} (h : d.Ok N) (hl : N ≤ M) : d.Ok M := ⟨h.q, h.inn, Nat.le_trans h.len hl⟩
theorem ask_ok {d : DkL} {N : Nat} (h : d.Ok N) {w : List UInt8} {n : List Int} {x : DkL × List UInt8} (hx : askL d w n = some x) : x.1.Ok N := by
 have nil : ∀ y ∈ ([] : RoundL), ∀ o ∈ y, OpIn o := fun y hy => by cases hy
 unfold askL at hx
 split at hx
 ·injection hx with hx; subst hx; exact ⟨doQ_ok h.q h.inn, nil, Nat.zero_le _⟩
 ·split at hx
  ·injection hx with hx; subst hx; exact ⟨doQ_ok h.q nil, h.inn, h.len⟩
  ·split at hx
   ·injection hx with hx; subst hx; exact ⟨doQ_ok h.q nil, h.inn, h.len⟩
   ·split at hx
    ·injection hx with hx; subst hx; exact ⟨doQ_ok h.q nil, h.inn, h.len⟩
    ·split at hx
     ·injection hx with hx; subst hx; exact h
     ·split at hx
      ·injection hx with hx; subst hx; exact h
      ·split at hx
       ·injection hx with hx; subst hx; exact h
       ·split at hx
        ·injection hx with hx; subst hx; exact h
        ·split at hx
         ·injection hx with hx; subst hx; exact h
         ·cases hx
theorem line_ok {d : DkL} {N : Nat} (h : d.Ok N) (s : List UInt8) : (lineL d s).1.Ok (N + 1) := by
 unfold lineL
 split
 ·unfold deedL
  split
  ·exact h.mono (Nat.le_succ _)
  ·refine ⟨h.q, fun x hx => ?_, ?_⟩
   ·rcases List.mem_append.1 hx with hx | hx
    ·exact h.inn x hx
    ·rw [List.mem_singleton.1 hx]; exact (parse_out _).2.2
   ·have := h.len; simp only [lnA]; omega
 ·cases hw : wordsL s with
  | nil => exact h.mono (Nat.le_succ _)
  | cons w ws =>
   cases hn : numsL ws with
   | none => rw [wordsD_none hn]; exact h.mono (Nat.le_succ _)
   | some n =>
    rw [wordsD_some hn]
    cases ha : askL d w n with
    | none => exact h.mono (Nat.le_succ _)
    | some x => exact (ask_ok h ha).mono (Nat.le_succ _)
theorem lines_ok : ∀ (l : List (List UInt8)) {d : DkL} {N : Nat}, d.Ok N → (linesL d l).1.Ok (N + l.length)
 | [], _, _, h => h
 | s :: r, d, N, h => by
  have := lines_ok r (line_ok h s)
  simp only [linesL, List.length_cons]
  rwa [Nat.add_assoc, Nat.add_comm 1] at this
theorem longs_len {l : List Int} (h : ∀ x ∈ l, In64 x) : (longsL l).length ≤ 22 * l.length := by
 induction l with
 | nil => simp [longsL]
 | cons x r ih =>
  have h1 := itoa_len (h x List.mem_cons_self)
  have h2 := ih fun y hy => h y (List.mem_cons_of_mem _ hy)
  have e : longsL (x :: r) = (32 :: Lib.itoa x) ++ longsL r := rfl
  rw [e, List.length_append, List.length_cons, List.length_cons]
  omega
theorem flat_len {α : Type} {f : α → List UInt8} {m : Nat} : ∀ {l : List α}, (∀ x ∈ l, (f x).length ≤ m) → (l.flatMap f).length ≤ m * l.length
 | [], _ => by simp
 | x :: r, h => by
  have h1 := h x List.mem_cons_self
  have h2 := flat_len (l := r) fun y hy => h y (List.mem_cons_of_mem _ hy)
  rw [List.flatMap_cons, List.length_append, List.length_cons, Nat.mul_succ]
  omega
theorem tellCode_len {c : Int} (h : In64 c) : (tellCode c).length ≤ 30 := by
 have := itoa_len h
 unfold tellCode
 split <;> simp <;> omega
theorem tellState_len {z : List Int} (hz : z.length = 10) (h : ∀ x ∈ z, In64 x) : (tellState z).length ≤ 240 := by
 have := longs_len h
 unfold tellState
 simp only [lnA]; omega
theorem tellRes_len {x : Int × List Int} (h4 : x.2.length = 4) (h1 : In64 x.1) (h : ∀ y ∈ x.2, In64 y) : (tellRes x).length ≤ 120 := by
 have := longs_len h
 have := itoa_len h1
 unfold tellRes
 simp only [lnA]; omega
theorem printS_len {d : DeedL} (h : ∀ o ∈ d, OpIn o) : (printS d).1.length ≤ 1428 := by
 unfold printS
 split
 ·simp
 ·exact printL_len (checked (by omega)).1 h
theorem tellDeed_len {d : DeedL} (h : ∀ o ∈ d, OpIn o) : (tellDeed d).length ≤ 1440 := by
 have := printS_len h
 unfold tellDeed
 simp only [lnA]; omega
theorem opCheck_in (total i : Nat) (st : Bool) (o : OpL) : In64 (opCheckL total i st o) := by
 have hb : ∀ x m, badL x m = 0 ∨ badL x m = 1 ∨ badL x m = 3 := fun x m => by unfold badL; split <;> split <;> simp
 have hf : 0 ≤ opFaultL o ∧ opFaultL o ≤ 3 := by
  have h1 := hb o.a ((limL o.kind).getD 0 0)
  have h2 := hb o.b ((limL o.kind).getD 1 0)
  have h3 := hb o.c ((limL o.kind).getD 2 0)
  unfold opFaultL
  repeat (first | split | omega)
 unfold opCheckL In64
 repeat (first | split | omega)
theorem checkFrom_in (total : Nat) : ∀ (d : DeedL) (i : Nat) (st : Bool), i + d.length ≤ 100 → In64 (checkFrom total i st d).1 ∧ In64 (checkFrom total i st d).2
 | [], _, _, _ => by simp [checkFrom, In64]
 | o :: r, i, st, h => by
  unfold checkFrom
  simp only [List.length_cons] at h
  split
  ·exact ⟨opCheck_in _ _ _ _, by unfold In64; dsimp only; omega⟩
  ·exact checkFrom_in total r (i + 1) _ (by omega)
theorem check_in (d : DeedL) : In64 (checkL d).1 ∧ In64 (checkL d).2 := by
 unfold checkL
 split
 ·simp [In64]
 ·exact checkFrom_in _ d 0 _ (by omega)
theorem roundFrom_in : ∀ r : RoundL, In64 (roundFrom r)
 | [] => by simp [roundFrom, In64]
 | d :: r => by
  unfold roundFrom
  split
  ·exact (check_in d).1
  ·exact roundFrom_in r
theorem roundFault_in (r : RoundL) : In64 (roundFaultL r) := by
 unfold roundFaultL
 split
 ·simp [In64]
 ·exact roundFrom_in r
theorem parseFrom_flt : ∀ (ps : List (List UInt8)) (i : Nat) (acc : DeedL), i + ps.length ≤ 1000000 → In64 (parseFrom i acc ps).2.1 ∧ In64 (parseFrom i acc ps).2.2
 | [], i, acc, _ => by
  unfold parseFrom
  split
  ·exact check_in acc
  ·simp [In64]
 | p :: ps, i, acc, h => by
  unfold parseFrom
  simp only [List.length_cons] at h
  split
  ·exact ⟨by simp [In64], by unfold In64; dsimp only; omega⟩
  ·exact parseFrom_flt ps (i + 1) _ (by omega)
theorem parse_flt {s : List UInt8} (h : s.length ≤ 100000) : In64 (parseL s).2.1 ∧ In64 (parseL s).2.2 := by
 have := splitL_count 59 s
 unfold parseL
 split
 ·simp [In64]
 ·exact parseFrom_flt _ 0 [] (by omega)
theorem tellNo_len {f : Int × Int} (h1 : In64 f.1) (h2 : In64 f.2) : (tellNo f).length ≤ 60 := by
 have := itoa_len h1
 have := itoa_len h2
 unfold tellNo
 simp only [lnA]; omega
theorem code_in {q : QL} (x : SStepL) : In64 (doQ q x).2 := by
 have hp : ∀ (L : List RoundL) (r : RoundL), In64 (putL L r).2.2 := fun L r => by
  by_cases hf : roundFaultL r ≠ 0
  ·rw [putL_bad hf]; exact roundFault_in r
  ·by_cases h2 : L.length = 25 ∨ 4000 < (bytesOf L).length + (encL r).length
   ·rw [putL_full hf h2]; simp [In64]
   ·rw [putL_ok hf h2]; simp [In64]
 unfold doQ runQ
 split
 ·exact hp _ _
 ·split
  ·simp [In64]
  ·split
   ·split
    ·split <;> simp [In64]
    ·simp [In64]
   ·split <;> simp [In64]
end Go.SL
end
section
open Go Go.Proofs Go.SL Go.RowKit Go.Sort
set_option maxRecDepth 100000
set_option maxHeartbeats 4000000
namespace Go.SL
theorem contains_spec (s : List UInt8) (w : World) : Calls Tryz.prog 11 #[strV s, strV [10]] w fun e w' => e = .returned (.bool (decide (10 ∈ s))) ∧ Res w [] [] w' :=
 (Any.strings_Contains_one Tryz.laysHas ⟨s.toArray⟩ 10 w).mono fun e w' ⟨he, hw⟩ => ⟨by rw [he, index_mem], hw ▸ res_below (Below.refl _ _)⟩
theorem cut_spec (s : List UInt8) (w : World) : Calls Tryz.prog 19 #[strV s, strV [100, 101, 101, 100, 32]] w fun e w' => e = .returned (.tuple #[strV (Lib.trimPrefix s [100, 101, 101, 100, 32]), .bool (Lib.hasPrefix s [100, 101, 101, 100, 32])]) ∧ Res w [] [] w' :=
 (Any.strings_CutPrefix Tryz.laysCut ⟨s.toArray⟩ ⟨#[100, 101, 101, 100, 32]⟩ w).mono fun e w' ⟨he, hw⟩ => ⟨he, hw ▸ res_below (Below.refl _ _)⟩
theorem trim_cut {s : List UInt8} (h : Lib.hasPrefix s [100, 101, 101, 100, 32] = true) : Lib.trimPrefix s [100, 101, 101, 100, 32] = s.drop 5 := by unfold Lib.trimPrefix; rw [if_pos h]; rfl
theorem atoi_spec (s : List UInt8) (w : World) (hs : s.length ≤ 4000000) (hL : LaidD w) : Calls Tryz.prog 24 #[strV s] w fun e w' => ∃ x : Int × Value, ((∃ v, Lib.parseIntB 64 s = .ok v ∧ x = (v, .nilIface)) ∨ ((∀ v, Lib.parseIntB 64 s ≠ .ok v) ∧ ∃ tp p, x.2 = .iface tp p)) ∧ e = .returned (.tuple #[.int .i64 x.1, x.2]) ∧ Res w [] [] w' := by
 rw [Lib.parseIntB_64]
 cases h : Lib.atoiAll s with
 | ok v =>
  refine (Any.strconv_Atoi_ok Tryz.laysAtoi ⟨s.toArray⟩ (by rw [bytesS]; omega) v h w).mono fun e w' ⟨he, hw⟩ => ⟨(v, .nilIface), .inl ⟨v, rfl, rfl⟩, he, ?_⟩
  rcases hw with rfl | ⟨t, rfl⟩
  ·exact res_below (Below.refl _ _)
  ·exact res_below (bytes_below _ _ _)
 | range =>
  obtain ⟨tp, p, hv⟩ := hL.rng
  exact (Any.strconv_Atoi_range_var Tryz.laysAtoi ⟨s.toArray⟩ (by rw [bytesS]; omega) h tp p w hv).mono fun e w' ⟨N, he, _, _, hb⟩ => ⟨(_, _), .inr ⟨(fun v hv => by cases hv), _, _, rfl⟩, he, res_below hb⟩
 | _ =>
  obtain ⟨tp, p, hv⟩ := hL.syn
  exact (Any.strconv_Atoi_syntax_var Tryz.laysAtoi ⟨s.toArray⟩ (by rw [bytesS]; omega) h tp p w hv).mono fun e w' ⟨N, he, _, _, hb⟩ => ⟨(_, _), .inr ⟨(fun v hv => by cases hv), _, _, rfl⟩, he, res_below hb⟩
theorem splitB_spec (s : List UInt8) (w : World) (hs : s.length ≤ 4000000) (hL : LaidD w) : Calls Tryz.prog 22 #[strV s, strV [32]] w fun e w' => ∃ b : Nat, True ∧ e = .returned (.slice (some ⟨b, 0, none⟩) (splitL 32 s).length (splitL 32 s).length) ∧ Res w [] [.blk b 9 (strC (splitL 32 s))] w' := by
 obtain ⟨m, hm⟩ := hL.top
 refine (Any.strings_Split Tryz.laysSplit (by kernel_rfl) ⟨s.toArray⟩ ⟨#[32]⟩ m w (by rw [bytesS]; omega) hm (by decide)).mono fun e w' ⟨he, hw⟩ => ⟨w.heap.size, trivial, ?_, ?_⟩
 ·rw [he, split_count]
 ·rw [split_strs] at hw
  exact res_blk hw
theorem empty_pred (x : List UInt8) (W : World) : Calls Tryz.prog 23 #[strV x] W fun e w' => e = .returned (.bool (x == [])) ∧ w' = W := by
 go_enter Tryz.func23, Tryz.ntmps23
 go_wp2
 go_ret
 exact ⟨by simp, rfl⟩
theorem del_spec (b : Nat) (ps : List (List UInt8)) (w : World) (h : (Chunk.blk b 9 (strC ps)).holds w) (hl : ps.length ≤ 4000000) :
  Calls Tryz.prog 21 #[.slice (some ⟨b, 0, none⟩) ps.length ps.length, .func (.func 23) #[] #[]] w fun e w' => ∃ _ : Unit, True ∧ e = .returned (.slice (some ⟨b, 0, none⟩) (ps.filter fun x => !(x == [])).length ps.length) ∧
   Res w [.blk b 9 (strC ps)] [.blk b 9 (strC ((ps.filter fun x => !(x == [])) ++ List.replicate (ps.length - (ps.filter fun x => !(x == [])).length) []))] w' := by
 have hp : ∀ (W : World) (x : List UInt8), FnGives Tryz.prog 23 #[] #[strV x] (.bool (x == [])) W := fun W x => (empty_pred x W).mono fun e w' ⟨he, hw⟩ => ⟨he, 0, hw⟩
 have hz : (ps.toArray.size : Nat) = ps.length := by simp
 have := AnyE.slices_DeleteFunc Tryz.laysDel strV (fun _ => rfl) (fun x => x == []) 23 #[] (fun args w => Tryz.call23 args w) [] (fun w => Tryz.zeroValue9 w) b 0 ps.length ps.toArray w (fun W x _ => hp W x) (fun n os dk x _ => hp _ x) (del_holds h) (by rw [hz]; omega) (by rw [hz]; exact Nat.le_refl _)
 rw [hz] at this
 refine this.mono ?_
 rintro e w' ⟨rfl, q, rfl⟩
 exact ⟨(), trivial, rfl, del_res h (by
  have := List.length_filter_le (fun x : List UInt8 => !(x == [])) ps
  rw [List.length_append, List.length_replicate]; omega)⟩
theorem joinB_spec (xs : List (List UInt8)) (v : Value) (e : Nat) (w : World) (h : (Own v e 1 xs.length (strC xs)).holds w) (hlen : (Lib.join xs [32]).length ≤ 140737488355328) (hN : xs.length ≤ 1000000) :
  Calls Tryz.prog 48 #[v, strV [32]] w fun e w' => e = .returned (strV (Lib.join xs [32])) ∧ Res w [] [] w' := by
 have hrow : w.ownsRow 0 e 1 v xs.length (strC xs) := h
 obtain ⟨h1, ⟨rfl, h2⟩ | ⟨g, cap, cur, rfl, h3, h4, h5, h6, h7, h8⟩⟩ := id hrow
 ·have : xs = [] := List.length_eq_zero_iff.1 h2
  subst this
  exact (Any.strings_Join_none Tryz.laysJoin joinX none 0 ⟨#[32]⟩ w).mono fun e w' ⟨he, hw⟩ => ⟨he, hw ▸ res_below (Below.refl _ _)⟩
 ·have hmap : (xs.map fun l => (ByteArray.mk l.toArray)).map (·.data.toList) = xs := by
   rw [List.map_map]
   exact List.map_id'' (fun _ => rfl) xs
  have hc := hrow.cells rfl
  have := Any.strings_Join Tryz.laysJoin joinX g 0 cap (xs.map fun l => ByteArray.mk l.toArray) ⟨#[32]⟩ w (fun j x hx => by
   rw [List.getElem?_map, Option.map_eq_some_iff] at hx
   obtain ⟨l, hl, rfl⟩ := hx
   have := hc j _ (strC_at hl)
   rwa [add_mk] at this) (by
    have := (Array.getElem?_eq_some_iff.1 h4).1
    exact this) (by rw [List.length_map]; omega) (by rw [List.length_map]; exact h5) (by rw [hmap]; exact hlen)
  rw [List.length_map, hmap] at this
  exact this.mono fun e w' ⟨he, hb⟩ => ⟨he, res_below hb⟩
end Go.SL
end
section
open Go Go.Proofs Go.SL Go.RowKit
set_option maxRecDepth 100000
set_option maxHeartbeats 4000000
namespace Go.SL
abbrev dkB (p : Nat) (A : Option Addr) (bv cv rv : Value) : Chunk := .blk p 55 [.pointer A, bv, cv, rv]
abbrev dkO (bv : Value) (told : List UInt8) : Chunk := Own bv 5 1 told.length (byteCells told)
abbrev dkT (p : Nat) (A : Option Addr) (bv cv rv : Value) (told : List UInt8) : Hp := [dkB p A bv cv rv, dkO bv told]
def AdOk (p : Nat) (A : Option Addr) : Prop := A = none ∨ A = some ⟨p, 0, none⟩
theorem copyCheck_spec (p : Nat) (A : Option Addr) (bv cv rv : Value) (w : World) (hA : AdOk p A) (h : (dkB p A bv cv rv).holds w) :
  Calls Tryz.prog 84 #[.pointer (some ⟨p, 0, none⟩)] w fun e w' => ∃ _ : Unit, True ∧ e = .returned (.tuple #[]) ∧ Res w [dkB p A bv cv rv] [dkB p (some ⟨p, 0, none⟩) bv cv rv] w' := by
 refine enter (mc := [dkB p A bv cv rv]) (N := 20) Tryz.func84 rfl rfl rfl ?_ ?_ ?_
 ·intro c hc; rw [List.mem_singleton] at hc; subst hc; exact h
 ·exact List.pairwise_singleton ..
 rcases hA with rfl | rfl
 ·refine esr <| wm rfl rfl <| wn rfl rfl <| w_val (v_fieldAddrB (o := 0) uT53 rfl rfl Tryz.nz50 rfl) rfl <| w_val (v_loadB 0 rfl uT50 rfl rfl rfl) rfl ?_
  refine w_val (v_is (v' := .bool true) (v_eqlPtr uT50 rfl rfl) (by rfl)) rfl ?_
  refine w_nil <| e_condT rfl <| e_region <| wm rfl rfl <| wm rfl rfl ?_
  refine w_val (v_toUnsafe (n := 2) 0 rfl uT50 uT172 (by kernel_rfl) (by decide) rfl (by simp)) rfl ?_
  refine w_val (v_callExt rfl rfl (by intro w; rw [run_callFunc_extern Tryz.func122 (by kernel_rfl) (by kernel_rfl) (by kernel_rfl) (e := Extern.AbiNoEscape.same) (by kernel_rfl), Lib.run_noEscape]; rfl)) rfl ?_
  refine w_val (v_fromUnsafe (n := 2) 0 rfl uT172 uT50 (by kernel_rfl) rfl (by kernel_rfl)) rfl ?_
  refine wn rfl rfl <| w_val (v_fieldAddrB (o := 0) uT53 rfl rfl Tryz.nz50 rfl) rfl <| w_op rfl ?_
  refine x_store1 0 rfl rfl rfl Tryz.hi50 Tryz.cz50 rfl (by first | (simp; done) | (simp [intCells_len]; omega) | exact Nat.zero_lt_succ _) rfl ?_
  refine w_nil ?_
  refine e_endQ (q_ret0 rfl ?_)
  exact fun w' hw' => ⟨(), trivial, rfl, hw'.res⟩
 ·refine esr <| wm rfl rfl <| wn rfl rfl <| w_val (v_fieldAddrB (o := 0) uT53 rfl rfl Tryz.nz50 rfl) rfl <| w_val (v_loadB 0 rfl uT50 rfl rfl rfl) rfl ?_
  refine w_val (v_is (v' := .bool false) (v_eqlPtr uT50 rfl rfl) (by rfl)) rfl ?_
  refine w_nil <| e_condF rfl <| esr <| wm rfl rfl <| wn rfl rfl <| w_val (v_fieldAddrB (o := 0) uT53 rfl rfl Tryz.nz50 rfl) rfl <| w_val (v_loadB 0 rfl uT50 rfl rfl rfl) rfl <| wm rfl rfl ?_
  refine w_val (v_neqPtrSame (n := 2) uT50 (by kernel_rfl) rfl rfl) rfl ?_
  refine w_nil <| e_condF rfl <| e_skip ?_
  refine e_endQ (q_ret0 rfl ?_)
  exact fun w' hw' => ⟨(), trivial, rfl, hw'.res⟩
theorem write_spec (p : Nat) (A : Option Addr) (bv cv rv : Value) (told s : List UInt8) (w : World) (hA : AdOk p A) (h : ∀ c ∈ dkT p A bv cv rv told, c.holds w) (hsep : (dkT p A bv cv rv told).Pairwise Disj) (hlen : told.length + s.length ≤ 140737488355328) :
  Calls Tryz.prog 47 #[.pointer (some ⟨p, 0, none⟩), strV s] w fun e w' => ∃ b' : Value, True ∧ e = .returned (.tuple #[.int .i64 (s.length : Int), .nilIface]) ∧ Res w (dkT p A bv cv rv told) (dkT p (some ⟨p, 0, none⟩) b' cv rv (told ++ s)) w' := by
 refine enter (mc := dkT p A bv cv rv told) (N := 19) Tryz.func47 rfl rfl rfl ?_ ?_ ?_
 ·exact h
 ·exact hsep
 refine esr <| wa rfl rfl <| wa rfl rfl <| wsr <| wm rfl rfl <| w_op rfl ?_
 refine x_call (dst := some 7) (mc := [dkB p A bv cv rv]) (mr := [dkO bv told]) (σ := Unit) (fun _ => True) (fun _ => .tuple #[]) (fun _ => [dkB p (some ⟨p, 0, none⟩) bv cv rv]) rfl rfl rfl Tryz.call84 (fun w hw => copyCheck_spec p A bv cv rv w hA (hw.mem (i := 0) rfl)) rfl (fun _ _ => ?_); refine g_heap (m' := dkT p (some ⟨p, 0, none⟩) bv cv rv told) (fun _ hw => hw) ?_
 refine wsr <| wm rfl rfl <| wm rfl rfl <| wn rfl rfl <| w_val (v_fieldAddrB (o := 1) uT53 rfl rfl Tryz.nz51 rfl) rfl <| w_val (v_loadB 0 rfl uT51 rfl rfl rfl) rfl <| wm rfl rfl <| w_op rfl ?_
 refine x_appendStr 1 rfl rfl rfl uT51 uT9 (by kernel_rfl) hlen rfl (fun A14 k14 => ?_)
 refine wn rfl rfl <| w_val (v_fieldAddrB (o := 1) uT53 rfl rfl Tryz.nz51 rfl) rfl <| w_op rfl ?_
 refine x_store1 0 rfl rfl rfl Tryz.hi51 Tryz.cz51 rfl (by first | (simp; done) | (simp [intCells_len]; omega) | exact Nat.zero_lt_succ _) rfl ?_
 refine wsr <| wm rfl rfl <| w_val (v_strLen uT9 rfl) rfl <| wa rfl rfl <| wa rfl rfl <| w_nil ?_
 refine e_retQ (q_ret2 rfl (.tmp rfl) (.tmp rfl) ?_)
 refine fun w' hw' => ⟨.slice A14 (told.length + s.length) k14, trivial, rfl, ?_⟩
 have e1 : (told ++ s).length = told.length + s.length := List.length_append ..
 have e2 : byteCells (told ++ s) = byteCells told ++ byteCells s := byteCells_app _ _
 show Res _ _ [dkB p (some ⟨p, 0, none⟩) (.slice A14 (told.length + s.length) k14) cv rv, Own (.slice A14 (told.length + s.length) k14) 5 1 (told ++ s).length (byteCells (told ++ s))] _
 rw [e1, e2]
 exact hw'.res
theorem reset_spec (p : Nat) (A : Option Addr) (bv cv rv : Value) (w : World) (h : (dkB p A bv cv rv).holds w) :
  Calls Tryz.prog 12 #[.pointer (some ⟨p, 0, none⟩)] w fun e w' => ∃ _ : Unit, True ∧ e = .returned (.tuple #[]) ∧ Res w [dkB p A bv cv rv] [dkB p none (.slice none 0 0) cv rv] w' := by
 refine enter (mc := [dkB p A bv cv rv]) (N := 8) Tryz.func12 rfl rfl rfl ?_ ?_ ?_
 ·intro c hc; rw [List.mem_singleton] at hc; subst hc; exact h
 ·exact List.pairwise_singleton ..
 refine esr <| wm rfl rfl <| wn rfl rfl <| w_val (v_fieldAddrB (o := 0) uT53 rfl rfl Tryz.nz50 rfl) rfl <| w_op rfl ?_
 refine x_store1 0 rfl rfl rfl Tryz.hi50 Tryz.cz50 rfl (by first | (simp; done) | (simp [intCells_len]; omega) | exact Nat.zero_lt_succ _) rfl ?_
 refine wre <| wm rfl rfl <| wn rfl rfl <| w_val (v_fieldAddrB (o := 1) uT53 rfl rfl Tryz.nz51 rfl) rfl <| w_op rfl ?_
 refine x_store1 0 rfl rfl rfl Tryz.hi51 Tryz.cz51 rfl (by first | (simp; done) | (simp [intCells_len]; omega) | exact Nat.zero_lt_succ _) rfl ?_
 refine w_nil ?_
 refine e_endQ (q_ret0 rfl ?_)
 exact fun w' hw' => ⟨(), trivial, rfl, hw'.res⟩
theorem string_spec (p : Nat) (A : Option Addr) (bv cv rv : Value) (told : List UInt8) (w : World) (h : ∀ c ∈ dkT p A bv cv rv told, c.holds w) (hsep : (dkT p A bv cv rv told).Pairwise Disj) :
  Calls Tryz.prog 14 #[.pointer (some ⟨p, 0, none⟩)] w fun e w' => ∃ _ : Unit, True ∧ e = .returned (strV told) ∧ Res w (dkT p A bv cv rv told) [dkB p A bv cv rv] w' := by
 refine enter (mc := dkT p A bv cv rv told) (N := 14) Tryz.func14 rfl rfl rfl ?_ ?_ ?_
 ·exact h
 ·exact hsep
 by_cases h0 : told = []
 ·subst h0
  refine g_shape0 1 rfl (fun hb => ?_) (fun g cap hb => ?_)
  ·subst hb
   refine esr <| wa rfl rfl <| w_nil <| e_seq <| e_draw ([dkB p A (.slice none 0 0) cv rv]) Tryz.mixed <| tk 0 rfl (v_move rfl) rfl <| tk 1 rfl (v_nilCheck rfl) rfl <| tk 2 rfl (v_fieldAddrB (o := 1) uT53 rfl rfl Tryz.nz51 rfl) rfl <| tk 3 rfl (v_loadB 0 rfl uT51 rfl rfl rfl) rfl <| tk 4 rfl (v_sliceDataNil rfl) rfl <| tk 5 rfl (v_move rfl) rfl <| tk 6 rfl (v_nilCheck rfl) rfl <| tk 7 rfl (v_fieldAddrB (o := 1) uT53 rfl rfl Tryz.nz51 rfl) rfl <| tk 8 rfl (v_loadB 0 rfl uT51 rfl rfl rfl) rfl <| tk 9 rfl (v_lenS uT51 rfl) rfl <| tk 10 rfl (v_unsafeStringNil rfl rfl) rfl <| tk 11 rfl (v_assign rfl) rfl ?_
   refine td ?_
   refine e_retQ (q_ret1 rfl (.tmp rfl) ?_)
   exact fun w' hw' => ⟨(), trivial, rfl, (hw'.sub (.cons_cons _ (.cons _ (List.Sublist.refl _)))).res⟩
  ·subst hb
   by_cases hc : cap = 0
   ·subst hc
    refine esr <| wa rfl rfl <| w_nil <| e_seq <| e_draw ([dkB p A (.slice (some ⟨g, 0, none⟩) 0 0) cv rv]) Tryz.mixed <| tk 0 rfl (v_move rfl) rfl <| tk 1 rfl (v_nilCheck rfl) rfl <| tk 2 rfl (v_fieldAddrB (o := 1) uT53 rfl rfl Tryz.nz51 rfl) rfl <| tk 3 rfl (v_loadB 0 rfl uT51 rfl rfl rfl) rfl <| tk 5 rfl (v_move rfl) rfl <| tk 6 rfl (v_nilCheck rfl) rfl <| tk 7 rfl (v_fieldAddrB (o := 1) uT53 rfl rfl Tryz.nz51 rfl) rfl <| tk 8 rfl (v_loadB 0 rfl uT51 rfl rfl rfl) rfl <| tk 9 rfl (v_lenS uT51 rfl) rfl <| t1 4 rfl rfl ?_
    refine x_sliceDataZero 1 rfl rfl uT78 rfl (fun b7 => ?_)
    refine tn <| tk 10 rfl (v_unsafeStringNil rfl rfl) rfl <| tk 11 rfl (v_assign rfl) rfl <| td ?_
    refine e_retQ (q_ret1 rfl (.tmp rfl) ?_)
    exact fun w' hw' => ⟨(), trivial, rfl, (hw'.sub (.cons_cons _ (.cons _ (List.Sublist.refl _)))).res⟩
   ·refine esr <| wa rfl rfl <| w_nil <| e_seq <| e_draw ([dkB p A (.slice (some ⟨g, 0, none⟩) 0 cap) cv rv]) Tryz.mixed <| tk 0 rfl (v_move rfl) rfl <| tk 1 rfl (v_nilCheck rfl) rfl <| tk 2 rfl (v_fieldAddrB (o := 1) uT53 rfl rfl Tryz.nz51 rfl) rfl <| tk 3 rfl (v_loadB 0 rfl uT51 rfl rfl rfl) rfl <| tk 4 rfl (v_sliceData rfl hc) rfl <| tk 5 rfl (v_move rfl) rfl <| tk 6 rfl (v_nilCheck rfl) rfl <| tk 7 rfl (v_fieldAddrB (o := 1) uT53 rfl rfl Tryz.nz51 rfl) rfl <| tk 8 rfl (v_loadB 0 rfl uT51 rfl rfl rfl) rfl <| tk 9 rfl (v_lenS uT51 rfl) rfl <| tk 10 rfl (v_unsafeStringNil rfl rfl) rfl <| tk 11 rfl (v_assign rfl) rfl ?_
    refine td ?_
    refine e_retQ (q_ret1 rfl (.tmp rfl) ?_)
    exact fun w' hw' => ⟨(), trivial, rfl, (hw'.sub (.cons_cons _ (.cons _ (List.Sublist.refl _)))).res⟩
 ·have hlt : 0 < told.length := by cases told with | nil => exact absurd rfl h0 | cons x r => simp
  refine g_shapeW 1 rfl hlt fun g kk hv hk => ?_
  subst hv
  refine esr <| wa rfl rfl <| w_nil <| e_seq <| e_draw ([dkB p A (.slice (some ⟨g, 0, none⟩) told.length kk) cv rv]) Tryz.mixed <| tk 0 rfl (v_move rfl) rfl <| tk 1 rfl (v_nilCheck rfl) rfl <| tk 2 rfl (v_fieldAddrB (o := 1) uT53 rfl rfl Tryz.nz51 rfl) rfl <| tk 3 rfl (v_loadB 0 rfl uT51 rfl rfl rfl) rfl ?_
  refine tk 4 rfl (v_sliceData rfl (by omega)) rfl ?_
  refine tk 5 rfl (v_move rfl) rfl <| tk 6 rfl (v_nilCheck rfl) rfl <| tk 7 rfl (v_fieldAddrB (o := 1) uT53 rfl rfl Tryz.nz51 rfl) rfl <| tk 8 rfl (v_loadB 0 rfl uT51 rfl rfl rfl) rfl <| tk 9 rfl (v_lenS uT51 rfl) rfl <| t1 10 rfl rfl <| x_unsafeString 1 rfl rfl rfl rfl h0 uT78 Tryz.cz5 rfl <| tn <| tk 11 rfl (v_assign rfl) rfl <| td ?_
  refine e_retQ (q_ret1 rfl (.tmp rfl) ?_)
  exact fun w' hw' => ⟨(), trivial, rfl, hw'.res⟩
theorem dkNum_spec (n : Int) (w : World) (h : In64 n) (hL : LaidD w) : Calls Tryz.prog 25 #[.int .i64 n] w fun e w' => e = .returned (strV (Lib.itoa n)) ∧ Res w [] [] w' := by
 refine enter0 (N := 5) Tryz.func25 rfl rfl rfl <| esr <| wa rfl rfl <| wsr <| wm rfl rfl <| w_op rfl ?_
 refine x_call0 (v := strV (Lib.itoa n)) rfl rfl rfl Tryz.call46 rfl (fun w hw => itoa_spec n w h (hL.chg hw.chg)) ?_
 refine wa rfl rfl <| w_nil ?_
 refine e_retQ (q_ret1 rfl (.tmp rfl) ?_)
 exact fun w' hw' => ⟨rfl, hw'.res.nil⟩
end Go.SL
end
