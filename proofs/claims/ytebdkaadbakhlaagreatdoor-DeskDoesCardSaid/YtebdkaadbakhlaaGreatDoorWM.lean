/- YtebdkaadbakhlaaGreatDoor: part WM of this seat's own texts. -/
import Derived.Test.YtebdkaadbakhlaaGreatDoorWI
import Derived.Test.YtebdkaadbakhlaaGreatDoorU2
import Derived.Test.YtebdkaadbakhlaaGreatDoorWH
set_option linter.unusedVariables false
set_option linter.unusedSimpArgs false
section
set_option maxRecDepth 100000
namespace Go.SL
open Go Go.Proofs Go.SL
theorem allL_from {s : List Int} {r : RoundL} : ∀ (n k : Nat), k + n = r.length → allL (stAt s r k) (r.drop k) = (stAt s r r.length, (List.range n).map fun j => rsAt s r (k + j))
 | 0, k, h => by
  rw [List.drop_eq_nil_of_le (by omega), show k = r.length from by omega]; rfl
 | n + 1, k, h => by
  have hk : k < r.length := by omega
  have hr : r.getD k [] = r[k] := by simp [List.getD, hk]
  have ih := allL_from (s := s) (r := r) n (k + 1) (by omega)
  have h1 : (doL arithL (stAt s r k) r[k]).1 = stAt s r (k + 1) := by rw [← hr]; rfl
  have h2 : (doL arithL (stAt s r k) r[k]).2 = rsAt s r k := by rw [← hr]; rfl
  rw [allL_at hk, h1, h2, ih]
  simp only [List.range_succ_eq_map, List.map_cons, List.map_map, Nat.add_zero]
  congr 2
  refine List.map_congr_left fun j _ => ?_
  simp only [Function.comp_apply]
  congr 1
  omega
def resAll (s : List Int) (r : RoundL) : ResL := (List.range r.length).map (rsAt s r)
theorem allL_is (s : List Int) (r : RoundL) : allL s r = (stAt s r r.length, resAll s r) := by
 have := allL_from (s := s) (r := r) r.length 0 (by omega)
 simp only [List.drop_zero, Nat.zero_add] at this
 exact this
theorem resAll_len (s : List Int) (r : RoundL) : (resAll s r).length = r.length := by simp [resAll]
theorem resAll_regs {s : List Int} (hs : s.length = 10) (r : RoundL) : ∀ x ∈ resAll s r, x.2.length = 4 := fun x hx => by
 obtain ⟨i, _, rfl⟩ := List.mem_map.1 hx
 exact (do_len (stAt_len hs i)).2
end Go.SL
end
section
open Go Go.Proofs Go.SL
set_option maxRecDepth 100000
namespace Go.SL
def boolCells (l : List Bool) : List Value := l.map Value.bool
def wkC (x : WkL) (dv : Value) : List Value := [dv, .int .i64 (x.by_ : Int), .int .i64 (x.at_ : Int)] ++ (intCells x.g ++ (.bool x.ov :: (resCells x.rc x.rg ++ (boolCells (tab 10 x.put) ++ intCells (tab 10 x.has)))))
theorem wkC_len {x : WkL} {dv : Value} (hg : x.g.length = 4) (hr : x.rg.length = 4) : (wkC x dv).length = 33 := by
 simp [wkC, intCells, resCells, boolCells, tab_len, hg, hr]
theorem at_app {a b : List Value} {i j : Nat} (h : i = a.length + j) : (a ++ b)[i]? = b[j]? := by
 subst h; rw [List.getElem?_append_right (by omega)]; congr 1; omega
theorem set_app {a b : List Value} {i j : Nat} {v : Value} (h : i = a.length + j) : (a ++ b).set i v = a ++ b.set j v := by
 subst h; rw [List.set_append_right _ _ (by omega)]; congr 2; omega
section
variable {x : WkL} {dv : Value}
theorem wk_split (hg : x.g.length = 4) : wkC x dv = ([dv, .int .i64 (x.by_ : Int), .int .i64 (x.at_ : Int)] ++ intCells x.g) ++ (.bool x.ov :: (resCells x.rc x.rg ++ (boolCells (tab 10 x.put) ++ intCells (tab 10 x.has)))) := by
 unfold wkC; rw [List.append_assoc]
theorem wk_split2 : wkC x dv = (([dv, .int .i64 (x.by_ : Int), .int .i64 (x.at_ : Int)] ++ intCells x.g) ++ (.bool x.ov :: resCells x.rc x.rg)) ++ (boolCells (tab 10 x.put) ++ intCells (tab 10 x.has)) := by
 unfold wkC; simp only [List.append_assoc, List.cons_append]
theorem wk_split3 : wkC x dv = ((([dv, .int .i64 (x.by_ : Int), .int .i64 (x.at_ : Int)] ++ intCells x.g) ++ (.bool x.ov :: resCells x.rc x.rg)) ++ boolCells (tab 10 x.put)) ++ intCells (tab 10 x.has) := by
 unfold wkC; simp only [List.append_assoc, List.cons_append]
theorem wk_g (hg : x.g.length = 4) {a : Int} (h0 : 0 ≤ a) (h4 : a < 4) : (wkC x dv)[0 + 3 + a.toNat * 1]? = some (.int .i64 (gt x.g a)) := by
 unfold wkC
 rw [at_app (j := a.toNat) (by simp), List.getElem?_append_left (by simp [intCells, hg]; omega)]
 have : a.toNat < x.g.length := by omega
 simp [intCells, gt, List.getD, this]
theorem wk_g_set (hg : x.g.length = 4) {a : Int} (n : Int) (h0 : 0 ≤ a) (h4 : a < 4) : (wkC x dv).set (0 + 3 + a.toNat * 1) (.int .i64 n) = wkC { x with g := st x.g a n } dv := by
 unfold wkC
 rw [set_app (j := a.toNat) (by simp), List.set_append_left _ _ (by simp [intCells, hg]; omega)]
 simp [intCells, st, List.map_set]
theorem wk_ov (hg : x.g.length = 4) : (wkC x dv)[0 + 7]? = some (.bool x.ov) := by
 rw [wk_split hg, at_app (j := 0) (by simp [intCells, hg])]; rfl
theorem wk_ov_set (hg : x.g.length = 4) (b : Bool) : (wkC x dv).set (0 + 7) (.bool b) = wkC { x with ov := b } dv := by
 rw [wk_split hg, set_app (j := 0) (by simp [intCells, hg]), wk_split (x := { x with ov := b }) hg]; rfl
theorem wk_put (hg : x.g.length = 4) (hr : x.rg.length = 4) {k : Int} (h0 : 0 ≤ k) (h4 : k < 10) : (wkC x dv)[0 + 13 + k.toNat * 1]? = some (.bool (x.put k.toNat)) := by
 rw [wk_split2, at_app (j := k.toNat) (by simp [intCells, resCells, hg, hr]), List.getElem?_append_left (by simp [boolCells, tab_len]; omega)]
 simp [boolCells, tab_get (show k.toNat < 10 by omega)]
theorem wk_put_set (hg : x.g.length = 4) (hr : x.rg.length = 4) {k : Int} (b : Bool) (h0 : 0 ≤ k) (h4 : k < 10) : (wkC x dv).set (0 + 13 + k.toNat * 1) (.bool b) = wkC { x with put := upd x.put k.toNat b } dv := by
 rw [wk_split2, set_app (j := k.toNat) (by simp [intCells, resCells, hg, hr]), List.set_append_left _ _ (by simp [boolCells, tab_len]; omega), wk_split2]
 simp only [boolCells]
 rw [← tab_set, List.map_set]
theorem wk_has (hg : x.g.length = 4) (hr : x.rg.length = 4) {k : Int} (h0 : 0 ≤ k) (h4 : k < 10) : (wkC x dv)[0 + 23 + k.toNat * 1]? = some (.int .i64 (x.has k.toNat)) := by
 rw [wk_split3, at_app (j := k.toNat) (by simp [intCells, resCells, boolCells, tab_len, hg, hr])]
 simp [intCells, tab_get (show k.toNat < 10 by omega)]
theorem wk_has_set (hg : x.g.length = 4) (hr : x.rg.length = 4) {k : Int} (n : Int) (h0 : 0 ≤ k) (h4 : k < 10) : (wkC x dv).set (0 + 23 + k.toNat * 1) (.int .i64 n) = wkC { x with has := upd x.has k.toNat n } dv := by
 rw [wk_split3, set_app (j := k.toNat) (by simp [intCells, resCells, boolCells, tab_len, hg, hr]), wk_split3]
 simp only [intCells]
 rw [← tab_set, List.map_set]
theorem wk_regs (hg : x.g.length = 4) : ((wkC x dv).drop (0 + 3)).take 4 = intCells x.g := by
 unfold wkC
 rw [List.drop_left' (by rfl), List.take_left' (by simp [intCells, hg])]
theorem wk_res (hg : x.g.length = 4) (hr : x.rg.length = 4) : ((wkC x dv).drop (0 + 8)).take 5 = resCells x.rc x.rg := by
 have : wkC x dv = (([dv, .int .i64 (x.by_ : Int), .int .i64 (x.at_ : Int)] ++ intCells x.g) ++ [.bool x.ov]) ++ (resCells x.rc x.rg ++ (boolCells (tab 10 x.put) ++ intCells (tab 10 x.has))) := by
  unfold wkC; simp only [List.append_assoc, List.cons_append, List.nil_append]
 rw [this, List.drop_left' (by simp [intCells, hg]), List.take_left' (by simp [intCells, resCells, hr])]
theorem wk_res_set (hg : x.g.length = 4) (hr : x.rg.length = 4) (c : Int) {l : List Int} (hl : l.length = 4) : (wkC x dv).take (0 + 8) ++ resCells c l ++ (wkC x dv).drop (0 + 8 + 5) = wkC { x with rc := c, rg := l } dv := by
 have e : ∀ (c : Int) (l : List Int), wkC { x with rc := c, rg := l } dv = (([dv, .int .i64 (x.by_ : Int), .int .i64 (x.at_ : Int)] ++ intCells x.g) ++ [.bool x.ov]) ++ (resCells c l ++ (boolCells (tab 10 x.put) ++ intCells (tab 10 x.has))) := fun c l => by
  unfold wkC; simp only [List.append_assoc, List.cons_append, List.nil_append]
 have e1 := e x.rc x.rg
 have hx : ({ x with rc := x.rc, rg := x.rg } : WkL) = x := rfl
 rw [hx] at e1
 rw [e1, e c l, List.take_left' (by simp [intCells, hg]), ← List.append_assoc _ (resCells x.rc x.rg), List.drop_left' (by simp [intCells, resCells, hg, hr]), List.append_assoc]
structure WkV (c : View) (p : Nat) (x : WkL) : Prop where
 ov : c ⟨p, 0 + 7, none⟩ = some (.bool x.ov)
 res : Cells c ⟨p, 0 + 8, none⟩ (resCells x.rc x.rg)
theorem WkV.of {c : View} {p : Nat} (h : Cells c ⟨p, 0, none⟩ (wkC x dv)) (hg : x.g.length = 4) (hr : x.rg.length = 4) : WkV c p x := by
 refine ⟨?_, fun j v hj => ?_⟩
 ·have := h (0 + 7) _ (wk_ov hg)
  rwa [add_mk] at this
 ·have hlt := (List.getElem?_eq_some_iff.1 hj).1
  have h2 := h (0 + 8 + j) v (by
   have h3 := wk_res (dv := dv) hg hr
   rw [← h3, List.getElem?_take] at hj
   split at hj
   ·rwa [List.getElem?_drop] at hj
   ·cases hj)
  rw [add_mk] at h2 ⊢
  rwa [show 0 + (0 + 8 + j) = 0 + 8 + j from by omega] at h2
theorem WkV.mono {c c' : View} {p : Nat} (hl : Le c c') (h : WkV c p x) : WkV c' p x := ⟨hl _ _ h.ov, h.res.mono hl⟩
end
abbrev wkB (p : Nat) (dv : Value) (x : WkL) : Chunk := .blk p 243 (wkC x dv)
abbrev wkH (p : Nat) (dv : Value) (x : WkL) : Hp := [wkB p dv x, Own dv 109 5 x.d.length (deedCells x.d)]
theorem wkB_cells {w : World} {p : Nat} {dv : Value} {x : WkL} (h : (wkB p dv x).holds w) : Cells w.cell? ⟨p, 0, none⟩ (wkC x dv) := blk_cells h 0 (fun j v hv => by simpa using hv)
def endTo (x : WkL) (c : Int) (T : TabL) (K : List Int) : TabL := fun k => if k < 10 ∧ (k : Int) ∈ K then chgL (T k) x.by_ (endSlot x c k) else T k
theorem endTo_nil {x : WkL} {c : Int} {T : TabL} : endTo x c T [] = T := by
 funext k; unfold endTo; rw [if_neg (by simp)]
theorem endTo_all {x : WkL} {c : Int} {T : TabL} : endTo x c T (keysL x.d) = endT x c T := by
 funext k; unfold endTo endT; simp only [keysL_mem]
theorem endTo_step {x : WkL} {c : Int} {T : TabL} {K : List Int} {k : Nat} (hk : k < 10) (hn : (k : Int) ∉ K) : chgT (endTo x c T K) k x.by_ (endSlot x c k) = endTo x c T (K ++ [(k : Int)]) := by
 rw [chgT_nat hk]
 funext j
 unfold upd
 by_cases hj : j = k
 ·subst hj
  rw [if_pos rfl]
  unfold endTo
  rw [if_neg (fun h => hn h.2), if_pos ⟨hk, by simp⟩]
 ·rw [if_neg hj]
  unfold endTo
  have : ((j : Int) ∈ K ++ [(k : Int)]) ↔ (j : Int) ∈ K := by
   rw [List.mem_append, List.mem_singleton]
   constructor
   ·rintro (h | h)
    ·exact h
    ·omega
   ·exact .inl
  simp only [this]
theorem endTo_len {x : WkL} {c : Int} {T : TabL} {K : List Int} {k : Nat} : (endTo x c T K k).length = (T k).length := by
 unfold endTo
 split
 ·exact chgL_len
 ·rfl
theorem endSlot_opn (x : WkL) (c : Int) (k : Nat) : (endSlot x c k).opn = false := by unfold endSlot; split <;> rfl
theorem endTo_good {x : WkL} {c : Int} {T : TabL} {K : List Int} (h : GoodT T) : GoodT (endTo x c T K) := by
 intro k hk s hs ho
 unfold endTo at hs
 split at hs
 ·rcases chgL_mem hs with hs | rfl
  ·exact h k hk s hs ho
  ·rw [endSlot_opn] at ho; cases ho
 ·exact h k hk s hs ho
end Go.SL
end
section
open Go Go.Proofs Go.SL
set_option maxRecDepth 100000
namespace Go.SL
theorem wkResult_spec (p : Nat) (x : WkL) (w : World) (h : WkV w.cell? p x) (hr : x.rg.length = 4) :
  Calls Tryz.prog 167 #[.pointer (some ⟨p, 0, none⟩)] w fun e w' => e = .returned (.tuple #[.agg (resCells x.rc x.rg).toArray, .bool x.ov]) ∧ Res w [] [] w' := by
 rw [← off_none w] at h
 have hov := h.ov
 have hrs := h.res
 have hl5 : (resCells x.rc x.rg).length = 5 := by simp [resCells, intCells, hr]
 refine enter0 (N := 12) Tryz.func167 rfl rfl rfl <| esr <| w_op rfl ?_
 refine x_alloc (z := .agg #[.int .i64 0, .int .i64 0, .int .i64 0, .int .i64 0, .int .i64 0]) (by intro w; exact Tryz.zeroValue96 w) rfl (fun b2 => ?_)
 refine wa rfl rfl <| w_nil <| e_seq <| e_draw ([]) Tryz.mixed <| tk 0 rfl (v_move rfl) rfl <| tk 1 rfl (v_nilCheck rfl) rfl <| tk 2 rfl (v_fieldAddrB (o := 8) uT243 rfl rfl Tryz.nz96 rfl) rfl <| tk 3 rfl (v_loadON uT96 rfl Tryz.hi96 rfl hrs (Tryz.cz96.trans hl5.symm)) rfl <| tk 4 rfl (v_move rfl) rfl <| tk 5 rfl (v_nilCheck rfl) rfl <| tk 6 rfl (v_fieldAddrB (o := 7) uT243 rfl rfl Tryz.nz4 rfl) rfl <| tk 7 rfl (v_loadO uT4 rfl rfl (hov)) rfl <| t1 8 rfl rfl ?_
 refine x_storeA 0 rfl rfl rfl Tryz.hi96 (Tryz.cz96.trans (by simp [Value.cells, intsV, resCells, intCells, hr])) (by simp [Value.cells, intsV, resCells, intCells, hr]) (by first | exact one_intCells _ | exact one_resCells _ _) ?_
 refine tn <| tk 9 rfl (v_assign rfl) rfl <| td ?_
 refine e_retQ (q_ret2 rfl (ResV.agg 0 rfl rfl (by rw [isAggD, uT96]; rfl) (Tryz.cz96.trans (by simp [resCells, intCells, hr])) Tryz.hi96) (.tmp rfl) ?_)
 exact fun w' hw' => ⟨rfl, hw'.res.nil⟩
theorem wkNew_spec (v : Value) (d : DeedL) (by_ : Int) (w : World) (h : IsDeed w.cell? v d) :
  Calls Tryz.prog 164 #[v, .int .i64 by_] w fun e w' => (¬ ((checkL d).1 = 0 ∧ 0 ≤ by_ ∧ by_ < 8) ∧ e = .returned (.pointer none) ∧ Res w [] [] w') ∨
   (((checkL d).1 = 0 ∧ 0 ≤ by_ ∧ by_ < 8) ∧ ∃ x : Nat × Value, e = .returned (.pointer (some ⟨x.1, 0, none⟩)) ∧ Res w [] (wkH x.1 x.2 (wk0 d by_.toNat)) w') := by
 have h0 := h
 rw [← off_none w] at h h0
 refine enter0 (N := 31) Tryz.func164 rfl rfl rfl <| esr <| wa rfl rfl <| w_nil <| e_seq <| esr <| wm rfl rfl <| w_op rfl ?_
 refine x_call0 (v := faultV (checkL d)) rfl rfl rfl Tryz.call75 rfl (fun w hw => check_spec _ d w (h.mono hw.off)) ?_
 by_cases hck : (checkL d).1 = 0
 ·by_cases hlo : by_ < 0
  ·refine w_val (v_field uT42 rfl (by kernel_rfl) rfl rfl) rfl ?_
   refine w_val (v_is (v' := .bool false) (v_neq rfl rfl) (by rw [decide_eq_false (fun h => h hck)])) rfl ?_
   refine wm rfl rfl <| w_want rfl rfl <| wm rfl rfl <| w_want rfl rfl ?_
   refine w_val (v_is (v' := .bool true) (v_lss rfl rfl) (by rw [decide_eq_true hlo])) rfl ?_
   refine w_val (v_pickF rfl rfl) rfl <| wm rfl rfl <| w_skip rfl rfl rfl rfl <| w_skip rfl rfl rfl rfl <| w_val (v_pickT rfl rfl) rfl <| w_nil <| e_condT rfl <| esr <| wa rfl rfl <| w_nil ?_
   refine e_retQ (q_ret1 rfl (.tmp rfl) ?_)
   exact fun w' hw' => .inl ⟨fun h => by omega, rfl, hw'.res.nil⟩
  ·by_cases hhi : 8 ≤ by_
   ·refine w_val (v_field uT42 rfl (by kernel_rfl) rfl rfl) rfl ?_
    refine w_val (v_is (v' := .bool false) (v_neq rfl rfl) (by rw [decide_eq_false (fun h => h hck)])) rfl ?_
    refine wm rfl rfl <| w_want rfl rfl <| wm rfl rfl <| w_want rfl rfl ?_
    refine w_val (v_is (v' := .bool false) (v_lss rfl rfl) (by rw [decide_eq_false hlo])) rfl ?_
    refine w_val (v_pickF rfl rfl) rfl <| wm rfl rfl <| w_want rfl rfl <| wm rfl rfl <| w_want rfl rfl ?_
    refine w_val (v_is (v' := .bool true) (v_geq rfl rfl) (by rw [decide_eq_true hhi])) rfl ?_
    refine w_val (v_pickF rfl rfl) rfl <| w_nil <| e_condT rfl <| esr <| wa rfl rfl <| w_nil ?_
    refine e_retQ (q_ret1 rfl (.tmp rfl) ?_)
    exact fun w' hw' => .inl ⟨fun h => by omega, rfl, hw'.res.nil⟩
   ·obtain ⟨i, rfl⟩ : ∃ i : Nat, by_ = i := ⟨by_.toNat, by omega⟩
    rw [Int.toNat_natCast]
    have hd14 := (checked hck).1
    refine w_val (v_field uT42 rfl (by kernel_rfl) rfl rfl) rfl ?_
    refine w_val (v_is (v' := .bool false) (v_neq rfl rfl) (by rw [decide_eq_false (fun h => h hck)])) rfl ?_
    refine wm rfl rfl <| w_want rfl rfl <| wm rfl rfl <| w_want rfl rfl ?_
    refine w_val (v_is (v' := .bool false) (v_lss rfl rfl) (by rw [decide_eq_false hlo])) rfl ?_
    refine w_val (v_pickF rfl rfl) rfl <| wm rfl rfl <| w_want rfl rfl <| wm rfl rfl <| w_want rfl rfl ?_
    refine w_val (v_is (v' := .bool false) (v_geq rfl rfl) (by rw [decide_eq_false hhi])) rfl ?_
    refine w_val (v_pickF rfl rfl) rfl <| w_nil <| e_condF rfl <| e_skip <| esr <| wm rfl rfl ?_
    refine w_val (v_build (v := .agg (wkC (wk0 d i) (.slice none 0 0)).toArray) _ rfl (by intro _; simp [Instr.build, Instr.fill, Tryz.zeroValue243, go_sem]; rfl)) rfl ?_
    refine w_op rfl ?_
    refine x_box rfl rfl (fun b20 => ?_); refine w_heap (m' := [wkB b20 (.slice none 0 0) (wk0 d i)]) (fun _ hw => hw) ?_
    refine wa rfl rfl <| wsr <| wm rfl rfl <| wm rfl rfl <| wn rfl rfl <| w_val (v_fieldAddrB (o := 0) uT243 rfl rfl Tryz.nz80 rfl) rfl <| w_val (v_loadB 0 rfl uT80 rfl rfl rfl) rfl <| wm rfl rfl ?_
    refine w_heap (fun _ hw => (hw.ownNil 109 5).perm (.swap _ _ _)) ?_
    refine w_op rfl ?_
    refine x_appendIS (z := .agg #[.int .i64 0, .int .i64 0, .int .i64 0, .int .i64 0, .int .i64 0]) (n := 0) (xs := []) (size := 5) (bytes := 40) (k := d.length) (news := deedCells d) 1 rfl rfl rfl uT80 (by kernel_rfl) rfl (by decide) (fun w hw => h0.mono hw.off) (one_deedCells d) (by omega) (by simp only [maxLen]; omega) rfl (fun A kp _ => ?_)
    refine wn rfl rfl <| w_val (v_fieldAddrB (o := 0) uT243 rfl rfl Tryz.nz80 rfl) rfl <| w_op rfl ?_
    refine x_store1 0 rfl rfl rfl Tryz.hi80 Tryz.cz80 rfl (by rw [wkC_len rfl rfl]; decide) rfl ?_
    refine wsr <| wm rfl rfl <| wa rfl rfl <| w_nil ?_
    refine e_retQ (q_ret1 rfl (.tmp rfl) ?_)
    refine fun w' hw' => .inr ⟨by omega, (b20, .slice A d.length kp), rfl, ?_⟩
    have := hw'.res
    simp only [List.set_cons_zero, List.set_cons_succ, List.nil_append, Nat.zero_add] at this
    exact this
 ·refine w_val (v_field uT42 rfl (by kernel_rfl) rfl rfl) rfl ?_
  refine w_val (v_is (v' := .bool true) (v_neq rfl rfl) (by rw [decide_eq_true hck])) rfl ?_
  refine wm rfl rfl <| w_skip rfl rfl rfl rfl <| w_skip rfl rfl rfl rfl <| w_val (v_pickT rfl rfl) rfl <| wm rfl rfl <| w_skip rfl rfl rfl rfl <| w_skip rfl rfl rfl rfl <| w_val (v_pickT rfl rfl) rfl <| w_nil <| e_condT rfl <| esr <| wa rfl rfl <| w_nil ?_
  refine e_retQ (q_ret1 rfl (.tmp rfl) ?_)
  exact fun w' hw' => .inl ⟨fun h => hck h.1, rfl, hw'.res.nil⟩
end Go.SL
end
