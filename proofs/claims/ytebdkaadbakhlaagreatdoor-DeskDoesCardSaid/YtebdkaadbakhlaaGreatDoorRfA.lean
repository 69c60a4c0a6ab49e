/- YtebdkaadbakhlaaGreatDoor: part RfA of this seat's own texts: WHATEVER THE INPUT, the law fA returns true and leaves what was there; no condition. -/
import Derived.Test.YtebdkaadbakhlaaGreatDoorRC
import Derived.Test.YtebdkaadbakhlaaGreatDoorReD
import Derived.Test.YtebdkaadbakhlaaGreatDoorDK4
set_option linter.unusedVariables false
set_option linter.unusedSimpArgs false
open Go Go.Proofs Go.SL Go.RowKit
set_option maxRecDepth 100000
set_option maxHeartbeats 4000000
namespace Go.SL
section
variable {C : Cx} {l : Fr} {m : Hp} {ty : TypeId} {pos : String} {after : Array Edge} {dst : Option Nat} {g : Option (Nat × Bool)} {x : Operand} {t : TypeId} {p : List UInt8}
theorem v_strTo {hi : Operand} {k : IntKind} {j : Int} (ht : C.P.underlying t = some .string) (hx : rd l x = some (strV p)) (hhi : rd l hi = some (.int k j)) (h : 0 ≤ j ∧ j ≤ p.length) :
  OpV C l m ⟨dst, .slice t x none (some hi) none, ty, pos, after, g⟩ (strV (p.take j.toNat)) :=
 fun a w ha _ => by
  have h1 := run_slice_string_h (P := C.P) (w := w) (t := t) (s := ⟨p.toArray⟩) ht k j h.1 (by rw [bytesS]; exact h.2)
  rw [ByteArray.extract_mk] at h1
  have h2 := (run_sliceAt_string (P := C.P) w t (.string ⟨p.toArray⟩) none (some (.int k j)) none ht).trans h1
  have h3 : (p.drop 0).take (j.toNat - 0) = p.take j.toNat := by simp
  rw [h3] at h2
  simp [execOp, rd_eval ha.knows hx, rd_eval ha.knows hhi, h2]
theorem v_strFrom {lo : Operand} {k : IntKind} {i : Int} (ht : C.P.underlying t = some .string) (hx : rd l x = some (strV p)) (hlo : rd l lo = some (.int k i)) (h : 0 ≤ i ∧ i ≤ p.length) :
  OpV C l m ⟨dst, .slice t x (some lo) none none, ty, pos, after, g⟩ (strV (p.drop i.toNat)) :=
 fun a w ha _ => by
  have h1 := run_slice_string_l (P := C.P) (w := w) (t := t) (s := ⟨p.toArray⟩) ht k i h.1 (by rw [bytesS]; exact h.2)
  rw [ByteArray.extract_mk] at h1
  have h2 := (run_sliceAt_string (P := C.P) w t (.string ⟨p.toArray⟩) (some (.int k i)) none none ht).trans h1
  have h3 : (p.drop i.toNat).take ((ByteArray.mk p.toArray).size - i.toNat) = p.drop i.toNat := List.take_of_length_le (by rw [List.length_drop, bytesS]; exact Nat.le_refl _)
  rw [h3] at h2
  simp [execOp, rd_eval ha.knows hx, rd_eval ha.knows hlo, h2]
end
theorem rsay_spec (s : Nat) (told t : List UInt8) (tl : List Value) (w : World) (h : (Chunk.blk s 39 (strV told :: tl)).holds w) (ht : told.length + t.length ≤ 1000000000) :
  Calls Tryz.prog 29 #[.pointer (some ⟨s, 0, none⟩), strV t] w fun e w' => ∃ _ : Unit, True ∧ e = .returned (.tuple #[]) ∧ Res w [.blk s 39 (strV told :: tl)] [.blk s 39 (strV (told ++ (t ++ [10])) :: tl)] w' := by
 refine enter (mc := [.blk s 39 (strV told :: tl)]) (N := 13) Tryz.func29 rfl rfl rfl ?_ ?_ ?_
 ·intro c hc; rw [List.mem_singleton] at hc; subst hc; exact h
 ·exact List.pairwise_singleton ..
 refine e_region <| wm rfl rfl <| wn rfl rfl <| w_val (v_fieldAddrB (o := 0) uT39 rfl rfl Tryz.nz9 rfl) rfl <| w_val (v_loadB 0 rfl uT9 rfl rfl rfl) rfl <| wm rfl rfl ?_
 refine w_val (v_is (v' := strV (t ++ [10])) (v_strAdd rfl rfl (by simp only [List.length_cons, List.length_nil]; omega)) rfl) rfl ?_
 refine w_val (v_strAdd rfl rfl (by simp only [lnA]; omega)) rfl ?_
 refine wn rfl rfl <| w_val (v_fieldAddrB (o := 0) uT39 rfl rfl Tryz.nz9 rfl) rfl <| w_op rfl ?_
 refine x_store1 0 rfl rfl rfl Tryz.hi9 Tryz.cz9 rfl (by simp) rfl ?_
 refine w_nil ?_
 refine e_endQ (q_ret0 rfl ?_)
 exact fun w' hw' => ⟨(), trivial, rfl, hw'.res⟩
theorem rcode_spec (s : Nat) (told : List UInt8) (c : Int) (tl : List Value) (w : World) (h : (Chunk.blk s 39 (strV told :: tl)).holds w) (hL : LF w (feet [.blk s 39 (strV told :: tl)])) (hc : In64 c) (ht : told.length ≤ 100000000) :
  Calls Tryz.prog 34 #[.pointer (some ⟨s, 0, none⟩), .int .i64 c] w fun e w' => ∃ _ : Unit, True ∧ e = .returned (.tuple #[]) ∧ Res w [.blk s 39 (strV told :: tl)] [.blk s 39 (strV (told ++ tellCode c) :: tl)] w' := by
 have hi := itoa_len hc
 refine enter (mc := [.blk s 39 (strV told :: tl)]) (N := 13) Tryz.func34 rfl rfl rfl ?_ ?_ ?_
 ·intro c hc; rw [List.mem_singleton] at hc; subst hc; exact h
 ·exact List.pairwise_singleton ..
 refine esr <| wm rfl rfl <| w_val (v_neq rfl rfl) rfl <| w_nil ?_
 refine e_condD rfl (fun hne => ?_) (fun hne => ?_)
 ·have e : tellCode c = ([110, 111, 32] ++ Lib.itoa c) ++ [10] := by unfold tellCode; rw [if_pos hne]
  rw [e]
  refine e_region <| wm rfl rfl <| wm rfl rfl <| w_op rfl ?_
  refine x_call0 (v := strV (Lib.itoa c)) rfl rfl rfl Tryz.call30 rfl (fun w hw => refNum_spec c w hc (hL.lai hw)) ?_
  refine w_val (v_is (v' := strV ([110, 111, 32] ++ Lib.itoa c)) (v_strAdd rfl rfl (by simp only [List.length_cons, List.length_nil]; omega)) rfl) rfl ?_
  refine w_op rfl ?_
  refine g_heap (m' := [Chunk.blk s 39 (strV told :: tl)] ++ []) (fun _ hw => hw) ?_; refine x_call (dst := some 10) (mc := [Chunk.blk s 39 (strV told :: tl)]) (mr := []) (σ := Unit) (fun _ => True) (fun _ => .tuple #[]) (fun _ => [Chunk.blk s 39 (strV (told ++ (([110, 111, 32] ++ Lib.itoa c) ++ [10])) :: tl)]) rfl rfl rfl Tryz.call29 (fun w hw => rsay_spec s told _ tl w (hw.mem (i := 0) rfl) (by simp only [lnA]; omega)) rfl (fun _ _ => ?_)
  refine w_nil ?_
  refine e_endQ (q_ret0 rfl ?_)
  exact fun w' hw' => ⟨(), trivial, rfl, hw'.res⟩
 ·have e : tellCode c = [111, 107] ++ [10] := by unfold tellCode; rw [if_neg hne]
  rw [e]
  refine e_region <| wm rfl rfl <| w_op rfl ?_
  refine g_heap (m' := [Chunk.blk s 39 (strV told :: tl)] ++ []) (fun _ hw => hw) ?_; refine x_call (dst := some 12) (mc := [Chunk.blk s 39 (strV told :: tl)]) (mr := []) (σ := Unit) (fun _ => True) (fun _ => .tuple #[]) (fun _ => [Chunk.blk s 39 (strV (told ++ ([111, 107] ++ [10])) :: tl)]) rfl rfl rfl Tryz.call29 (fun w hw => rsay_spec s told [111, 107] tl w (hw.mem (i := 0) rfl) (by simp only [List.length_cons, List.length_nil]; omega)) rfl (fun _ _ => ?_)
  refine w_nil ?_
  refine e_endQ (q_ret0 rfl ?_)
  exact fun w' hw' => ⟨(), trivial, rfl, hw'.res⟩
theorem rlongs_spec (v : Value) (l : List Int) (w : World) (h : Rds w.cell? v 1 l.length (intCells l)) (hin : ∀ x ∈ l, In64 x) (hl : l.length ≤ 100) (hL : LaidD w) :
  Calls Tryz.prog 36 #[v] w fun e w' => e = .returned (strV (longsL l)) ∧ Res w [] [] w' := by
 rw [← off_none w] at h
 obtain ⟨Al, kl, rfl, hkl, _, hc⟩ := h
 refine enter0 (N := 20) Tryz.func36 rfl rfl rfl <| esr <| wa rfl rfl <| wsr <| wa rfl rfl <| w_nil <| e_seq <| esr <| wa rfl rfl <| w_nil <| e_block ?_
 refine e_loopK (σ := Nat) [0] (.cons rfl .nil) (fun i => [(4, .int .i64 (i : Int)), (3, strV (longsL (l.take i)))]) (fun i => i ≤ l.length) (fun i => l.length - i) 0 (Nat.zero_le _) (by repeat first | exact .nil _ | refine .cons rfl ?_) ?_
 rintro i hi
 dsimp only at hi ⊢
 refine e_seq <| esr <| wm rfl rfl <| wm rfl rfl <| w_val (v_lenS uT92 rfl) rfl <| w_val (v_lss rfl rfl) rfl <| w_nil ?_
 refine e_condD rfl (fun hlt => ?_) (fun hlt => ?_)
 ·have hi' : i < l.length := by omega
  obtain ⟨ad, rfl, hcl⟩ := hc (by omega)
  have hcell : SL.off w (feet []) (ad.add (((i : Int)).toNat * 1)) = some (.int .i64 l[i]) := hcl _ _ (by rw [Int.toNat_natCast, Nat.mul_one]; simp [intCells, hi'])
  have hxi := hin _ (List.getElem_mem hi')
  have hix := itoa_len hxi
  have hsn := longs_snoc (l.take i) l[i]
  rw [← List.take_succ_eq_append_getElem hi'] at hsn
  have hpl := longs_len (l := l.take i) (fun x hx => hin x (List.mem_of_mem_take hx))
  rw [List.length_take] at hpl
  generalize longsL (l.take i) = pre at *
  generalize l[i] = x at *
  refine e_skip <| e_seq <| e_block <| e_region <| wm rfl rfl <| wm rfl rfl <| wm rfl rfl ?_
  refine w_val (v_indexS uT92 Tryz.hi2 Tryz.cz2 rfl rfl (by first | omega | decide)) rfl ?_
  refine w_val (v_loadO uT2 rfl rfl (hcell)) rfl <| w_op rfl ?_
  refine x_call0 (v := strV (Lib.itoa x)) rfl rfl rfl Tryz.call61 rfl (fun w hw => fmt_spec x w hxi (hL.chg hw.chg)) ?_
  refine w_val (v_is (v' := strV ([32] ++ Lib.itoa x)) (v_strAdd rfl rfl (by simp only [List.length_cons, List.length_nil]; omega)) rfl) rfl ?_
  refine w_val (v_is (v' := strV (longsL (l.take (i + 1)))) (v_strAdd rfl rfl (by simp only [lnA]; omega)) (by rw [hsn])) rfl ?_
  refine wa rfl rfl <| w_nil <| e_blk <| e_region <| wm rfl rfl ?_
  refine w_val (v_add rfl rfl (by omega)) rfl ?_
  refine wa rfl rfl <| w_nil ?_
  exact e_round (i + 1) (by omega) (by omega) (by repeat first | exact .nil _ | refine .cons rfl ?_) (fun _ hw => hw)
 ·have e : i = l.length := by omega
  subst e
  rw [List.take_length]
  refine e_exit rfl <| esr <| wm rfl rfl <| wa rfl rfl <| w_nil ?_
  refine e_retQ (q_ret1 rfl (.tmp rfl) ?_)
  exact fun w' hw' => ⟨rfl, hw'.res.nil⟩
theorem ris_spec (b6 b7 : Nat) (wd u : List UInt8) (many n K kn : Nat) (A : Option Addr) (gw W : Nat) (w : World) (hW : 0 < W) (h6 : w.cell? ⟨b6, 0, none⟩ = some (.slice (some ⟨gw, 0, none⟩) W K)) (h1 : w.cell? ⟨gw, 0, none⟩ = some (strV u)) (h7 : w.cell? ⟨b7, 0, none⟩ = some (.slice A n kn)) :
  Calls Tryz.prog 33 #[strV wd, .int .i64 (many : Int), .pointer (some ⟨b6, 0, none⟩), .pointer (some ⟨b7, 0, none⟩)] w fun e w' => e = .returned (.bool (decide (u = wd ∧ n = many))) ∧ Res w [] [] w' := by
 rw [← off_none w] at h6 h1 h7
 refine enter0 (N := 18) Tryz.func33 rfl rfl rfl <| esr <| wa rfl rfl <| w_nil <| e_seq ?_
 by_cases hu : u = wd
 ·refine e_region <| w_val (v_loadO uT22 rfl rfl (h6)) rfl ?_
  refine w_val (v_indexSB uT22 Tryz.hi9 Tryz.cz9 rfl rfl (by first | omega | decide)) rfl ?_
  refine w_val (v_loadO uT9 rfl rfl (h1)) rfl <| wm rfl rfl ?_
  refine w_val (v_is (v' := .bool true) (v_strEql rfl rfl) (by rw [decide_eq_true hu])) rfl ?_
  refine wm rfl rfl <| w_want rfl rfl <| w_val (v_loadO uT70 rfl rfl (h7)) rfl <| w_want rfl rfl <| w_val (v_lenS uT70 rfl) rfl <| w_want rfl rfl <| wm rfl rfl <| w_want rfl rfl <| w_val (v_eql rfl rfl) rfl <| w_val (v_pickT rfl rfl) rfl <| wa rfl rfl <| w_nil ?_
  refine e_retQ (q_ret1 rfl (.tmp rfl) ?_)
  exact fun w' hw' => ⟨by simp [hu, Int.natCast_inj], hw'.res.nil⟩
 ·refine e_region <| w_val (v_loadO uT22 rfl rfl (h6)) rfl ?_
  refine w_val (v_indexSB uT22 Tryz.hi9 Tryz.cz9 rfl rfl (by first | omega | decide)) rfl ?_
  refine w_val (v_loadO uT9 rfl rfl (h1)) rfl <| wm rfl rfl ?_
  refine w_val (v_is (v' := .bool false) (v_strEql rfl rfl) (by rw [decide_eq_false hu])) rfl ?_
  refine wm rfl rfl <| w_skip rfl rfl rfl rfl <| w_skip rfl rfl rfl rfl <| w_skip rfl rfl rfl rfl <| w_skip rfl rfl rfl rfl <| w_val (v_pickF rfl rfl) rfl <| wa rfl rfl <| w_nil ?_
  refine e_retQ (q_ret1 rfl (.tmp rfl) ?_)
  exact fun w' hw' => ⟨by simp [hu, Int.natCast_inj], hw'.res.nil⟩
theorem own_first {w : World} {gw n k e : Nat} {xs : List Value} {v : Value} (h : (Own (.slice (some ⟨gw, 0, none⟩) n k) e 1 n xs).holds w) (hn : 0 < n) (hx : xs[0]? = some v) : w.cell? ⟨gw, 0, none⟩ = some v := by
 obtain ⟨A, k', he, _, _, hc⟩ := own_rds h
 injection he with e1
 subst e1
 obtain ⟨ad, h1, h2⟩ := hc hn
 injection h1 with h1
 subst h1
 have := h2 0 v hx
 rwa [add_mk] at this
theorem pre_five (t : List UInt8) : Lib.hasPrefix t [100, 101, 101, 100, 32] = true ↔ 5 ≤ t.length ∧ t.take 5 = [100, 101, 101, 100, 32] := by
 unfold Lib.hasPrefix
 rw [List.isPrefixOf_iff_prefix, List.prefix_iff_eq_take]
 constructor
 ·intro h
  have h1 := congrArg List.length h
  rw [List.length_take] at h1
  simp only [List.length_cons, List.length_nil] at h1
  exact ⟨by omega, h.symm⟩
 ·exact fun h => h.2.symm
theorem chRd_at {tv rv lv lw : Value} {k dn : Nat} {z : List Int} {j : Nat} {v : Value} (h : (intCells z)[j]? = some v) : (chRd tv rv lv k dn z lw)[0 + 1 + 3 + j]? = some v := by
 rw [show 0 + 1 + 3 + j = j + 4 from by omega]
 show (intCells z ++ [lw, rv])[j]? = some v
 obtain ⟨hj, _⟩ := List.getElem?_eq_some_iff.1 h
 rw [List.getElem?_append_left hj]
 exact h
structure RdS where
 rv : Value
 rvs : List Value
 rG : Nat → Prop
 lv : Value
 vs : List Value
 G : Nat → Prop
 lw : Value
abbrev rdH (s : Nat) (x : RdS) (d : DkL) (told : List UInt8) : Hp := chHd ⟨s, strV told, x.rv, x.lv, x.vs, x.G, x.lw⟩ d.q ++ rH x.rv x.rvs x.rG d.r
section
variable {C : Cx} {l : Fr} {m : Hp}
theorem g_roundsV {Φ : Act → World → Prop} {vs : List Value} {L : List RoundL} {F : Nat → Prop} {n : Nat} {r : RoundL} (i : Nat) (hm : m[i]? = some (Keep F (Rounds vs L))) (hn : n < L.length) (hr : L[n] = r)
  (h : ∀ A k dvs, vs[n]? = some (.slice A r.length k) → r.length ≤ k → (0 < r.length → ∃ ad, A = some ad) → dvs.length = r.length → (∀ j (hj : j < r.length), ∃ A' k', dvs[j]? = some (.slice A' r[j].length k')) → G C l (m.set i (Keep F (fun c => Rounds vs L c ∧ RoundV (.slice A r.length k) dvs r c))) Φ) : G C l m Φ := fun a w ha hw => by
 obtain ⟨h1, h2⟩ := hw.mem hm
 obtain ⟨u, hu, dvs, h3, h4⟩ := h2.2 n hn
 rw [hr] at h3 h4
 have h5 : dvs.length = r.length := by obtain ⟨_, _, _, _, h, _⟩ := h3; simpa using h
 obtain ⟨A, k, rfl, hk, hl, hc⟩ := id h3
 refine h A k dvs hu hk (fun h0 => let ⟨ad, e, _⟩ := hc h0; ⟨ad, e⟩) h5 (fun j hj => ?_) a w ha (hw.impAt i hm (fun _ hb => hb) (fun _ => ⟨h1, h2, h3, h5, h4⟩))
 obtain ⟨u, h6, A', k', rfl, _⟩ := h4 j hj
 exact ⟨A', k', h6⟩
theorem RV.up (vs : List Value) (L : List RoundL) (v : Value) (dvs : List Value) (r : RoundL) : Up (fun c => Rounds vs L c ∧ RoundV v dvs r c) := fun _ _ hl h => ⟨Rounds.up _ _ _ _ hl h.1, RoundV.up _ _ _ _ _ hl h.2⟩
end
def celM (p : Nat) (lv : Value) (k dn : Nat) : Gen where
 foot := fun b => b = p
 holds := fun w => w.cell? ⟨p, 1, none⟩ = some lv ∧ w.cell? ⟨p, 2, none⟩ = some (.int .i64 (k : Int)) ∧ w.cell? ⟨p, 3, none⟩ = some (.int .i64 (dn : Int))
 lt := fun {w b} h hb => by subst hb; exact Lib.lt_of_cell h.1
 stable := fun {w w'} hs h => by
  have e := hs p rfl
  exact ⟨by rw [World.cell?_of_block (w := w) (w' := w') (a := ⟨p, 1, none⟩) e]; exact h.1, by rw [World.cell?_of_block (w := w) (w' := w') (a := ⟨p, 2, none⟩) e]; exact h.2.1, by rw [World.cell?_of_block (w := w) (w' := w') (a := ⟨p, 3, none⟩) e]; exact h.2.2⟩
abbrev CelM (p : Nat) (lv : Value) (k dn : Nat) : Chunk := .gen (celM p lv k dn)
theorem St.celM {w0 w : World} {F : Nat → Prop} {m m' : Hp} {y : ChPd} {q : QL} (h : St w0 F m w) (i : Nat) (hm : m[i]? = some (chBd y q)) (hs : m'.Sublist (m.eraseIdx i)) : St w0 F (CelM y.c y.lv q.k q.dn :: m') w := by
 have h1 : St w0 F (chBd y q :: m') w := (h.front hm).sub (hs.cons_cons _)
 exact h1.impAt (c := chBd y q) (c' := CelM y.c y.lv q.k q.dn) 0 rfl (fun b hb => hb) (fun hb => ⟨by rw [blk_cell hb]; rfl, by rw [blk_cell hb]; rfl, by rw [blk_cell hb]; rfl⟩)
section
variable {C : Cx} {l : Fr} {m : Hp} {ty : TypeId} {pos : String} {after : Array Edge} {dst : Option Nat} {g : Option (Nat × Bool)}
theorem v_celM1 {x : Operand} {t : TypeId} {u : TypeDesc} {p k dn : Nat} {lv : Value} (i : Nat) (hm : m[i]? = some (CelM p lv k dn)) (ht : C.P.underlying t = some u) (hu : (match u with | .struct _ | .array _ _ => true | _ => false) = false) (hx : rd l x = some (.pointer (some ⟨p, 1, none⟩))) : OpV C l m ⟨dst, .load t x, ty, pos, after, g⟩ lv :=
 v_load1 ht hu hx fun _ hw => (hw.mem hm).1
theorem v_celM2 {x : Operand} {t : TypeId} {u : TypeDesc} {p k dn : Nat} {lv : Value} (i : Nat) (hm : m[i]? = some (CelM p lv k dn)) (ht : C.P.underlying t = some u) (hu : (match u with | .struct _ | .array _ _ => true | _ => false) = false) (hx : rd l x = some (.pointer (some ⟨p, 2, none⟩))) : OpV C l m ⟨dst, .load t x, ty, pos, after, g⟩ (.int .i64 (k : Int)) :=
 v_load1 ht hu hx fun _ hw => (hw.mem hm).2.1
theorem v_celM3 {x : Operand} {t : TypeId} {u : TypeDesc} {p k dn : Nat} {lv : Value} (i : Nat) (hm : m[i]? = some (CelM p lv k dn)) (ht : C.P.underlying t = some u) (hu : (match u with | .struct _ | .array _ _ => true | _ => false) = false) (hx : rd l x = some (.pointer (some ⟨p, 3, none⟩))) : OpV C l m ⟨dst, .load t x, ty, pos, after, g⟩ (.int .i64 (dn : Int)) :=
 v_load1 ht hu hx fun _ hw => (hw.mem hm).2.2
end
theorem tellCode7 : tellCode 7 = ([110, 111, 32] ++ Lib.itoa 7) ++ [10] := by unfold tellCode; rw [if_pos (by decide)]
end Go.SL
