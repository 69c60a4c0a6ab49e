/- YtebdkaadbakhlaaGreatDoor: part X1 of this seat's own texts. -/
import Derived.Test.YtebdkaadbakhlaaGreatDoorWL
import Derived.Test.YtebdkaadbakhlaaGreatDoorP5
set_option linter.unusedVariables false
set_option linter.unusedSimpArgs false
section
set_option maxRecDepth 100000
namespace Go.SL
open Go Go.Proofs Go.SL
theorem InvR.kind {s : List Int} {r : RoundL} {X : Nat → WkL} {T : TabL} (h : InvR s r X T) {k : Nat} (hk : k < r.length) :
  ((stepW (X k) T).1.1 = 2 → ∃ j : Nat, (stepW (X k) T).1.2 = j ∧ j < k ∧ (X j).ov = false) ∧ ((stepW (X k) T).1.1 ≠ 2 → (stepW (X k) T).1.2 = -1) := by
 rcases step_kind (X k) T with ⟨_, e⟩ | ⟨_, x', _, _, _, _, _, e⟩ | ⟨_, c, e⟩ | ⟨_, kk, _, h0, e⟩
 ·rw [e]; exact ⟨fun h => (by cases h), fun _ => rfl⟩
 ·rw [e]; exact ⟨fun h => (by cases h), fun _ => rfl⟩
 ·rw [e]; exact ⟨fun h => (by cases h), fun _ => rfl⟩
 ·rw [e]; exact ⟨fun _ => h.who hk h0, fun h => absurd rfl h⟩
theorem InvR.goes {s : List Int} {r : RoundL} {X : Nat → WkL} {T : TabL} (h : InvR s r X T) {k : Nat} (hk : k < r.length) (hlo : ∀ j, j < k → (X j).ov = true) (ho : (X k).ov = false) :
  ((stepW (X k) T).1 = (1, -1) ∧ (stepW (X k) T).2.1.ov = false ∨ (stepW (X k) T).1 = (3, -1) ∧ (stepW (X k) T).2.1.ov = true) ∧ muW (stepW (X k) T).2.1 < muW (X k) := by
 rcases step_kind (X k) T with ⟨h1, e⟩ | ⟨_, x', h2, _, hm, _, _, e⟩ | ⟨_, c, e⟩ | ⟨_, kk, _, h0, e⟩
 ·rw [ho] at h1; cases h1
 ·rw [e]; exact ⟨.inl ⟨rfl, h2⟩, hm⟩
 ·rw [e]; exact ⟨.inr ⟨rfl, rfl⟩, mu_end _ _ ho⟩
 ·obtain ⟨j, _, hj, hjo⟩ := h.who hk h0
  rw [hlo j hj] at hjo
  cases hjo
theorem mu_most (x : WkL) : muW x ≤ x.d.length + 1 := by
 unfold muW; split <;> omega
theorem ptr_at {n k : Nat} {f : Nat → Nat} (h : k < n) : (ptrs n f)[((k : Nat) : Int).toNat * 1]? = some (ptrV (f k)) := by rw [Int.toNat_natCast, Nat.mul_one]; exact ptrs_get h
def pickR (n : Nat) (P : RunS) (k : Int) : (Int × Int) × RunS := if 0 ≤ k ∧ k < n then ((stepW (P.1 k.toNat) P.2).1, runP P k.toNat) else ((0, -1), P)
theorem pick_nat {n : Nat} {P : RunS} {k : Nat} (h : k < n) : pickR n P k = ((stepW (P.1 k) P.2).1, runP P k) := by
 unfold pickR; rw [if_pos ⟨by omega, by omega⟩, Int.toNat_natCast]
theorem InvR.pick {s : List Int} {r : RoundL} {P : RunS} (h : InvR s r P.1 P.2) (k : Int) : InvR s r (pickR r.length P k).2.1 (pickR r.length P k).2.2 := by
 unfold pickR
 split
 ·exact h.run (by omega)
 ·exact h
def AllO (n : Nat) (X : Nat → WkL) : Prop := ∀ i, i < n → (X i).ov = true
theorem InvR.res {s : List Int} {r : RoundL} {X : Nat → WkL} {T : TabL} (h : InvR s r X T) {i : Nat} (ho : (X i).ov = true) : ((X i).rc, (X i).rg) = rsAt s r i := ((h.w i).fin ho).1
theorem InvR.zero {s : List Int} {r : RoundL} {X : Nat → WkL} {T : TabL} (h : InvR s r X T) {i : Nat} (ho : (X i).ov = false) : ((X i).rc, (X i).rg) = (0, zero4) := by
 obtain ⟨h1, h2, _⟩ := (h.w i).run ho
 rw [h1, h2]
def resX (n : Nat) (X : Nat → WkL) : ResL := tab n fun i => ((X i).rc, (X i).rg)
theorem resX_succ {n : Nat} {X : Nat → WkL} : resX (n + 1) X = resX n X ++ [((X n).rc, (X n).rg)] := tab_succ ..
theorem InvR.resX {s : List Int} {r : RoundL} {X : Nat → WkL} {T : TabL} (h : InvR s r X T) (ho : AllO r.length X) : resX r.length X = resAll s r := by
 unfold SL.resX resAll tab
 exact List.map_congr_left fun i hi => h.res (ho i (List.mem_range.1 hi))
def muA (X : Nat → WkL) : Nat → Nat
 | 0 => 0
 | n + 1 => muA X n + muW (X n)
def mostR (r : RoundL) : Nat → Nat
 | 0 => 0
 | n + 1 => mostR r n + ((r.getD n []).length + 1)
theorem InvR.most {s : List Int} {r : RoundL} {X : Nat → WkL} {T : TabL} (h : InvR s r X T) : ∀ n, muA X n ≤ mostR r n
 | 0 => Nat.le_refl _
 | n + 1 => by
  have := h.most n
  have h2 := mu_most (X n)
  rw [(h.w n).d] at h2
  simp only [muA, mostR]
  omega
theorem InvR.told {s : List Int} {r : RoundL} {X : Nat → WkL} {T : TabL} (h : InvR s r X T) (ho : AllO r.length X) (k : Nat) : ∀ x ∈ T k, x.opn = false := by
 intro x hx
 rw [h.t] at hx
 rcases List.mem_cons.1 hx with rfl | hx
 ·rfl
 ·obtain ⟨i, hi, rfl, _⟩ := rowsG_mem hx
  unfold slotX
  rw [if_pos (ho i hi)]
  exact endSlot_opn _ _ _
end Go.SL
end
section
open Go Go.Proofs Go.SL
set_option maxRecDepth 100000
set_option maxHeartbeats 1000000
namespace Go.SL
structure RdV (c : View) (pr n : Nat) (X : Nat → WkL) : Prop where
 form : ∃ (pw : Nat → Nat) (A : Option Addr) (k : Nat), c ⟨pr, 0 + 1, none⟩ = some (.slice A n k) ∧ n ≤ k ∧ (0 < n → ∃ ad, A = some ad) ∧ (∀ i, i < n → ∀ ad, A = some ad → c (ad.add (((i : Nat) : Int).toNat * 1)) = some (ptrV (pw i))) ∧ ∀ i, i < n → WkV c (pw i) (X i)
 rl : ∀ i, i < n → (X i).rg.length = 4
theorem RdV.mono {c c' : View} {pr n : Nat} {X : Nat → WkL} (hl : Le c c') (h : RdV c pr n X) : RdV c' pr n X := by
 obtain ⟨pw, A, k, h1, h2, h3, h4, h5⟩ := h.form
 exact ⟨⟨pw, A, k, hl _ _ h1, h2, h3, fun i hi ad ha => hl _ _ (h4 i hi ad ha), fun i hi => (h5 i hi).mono hl⟩, h.rl⟩
structure RdP where
 pr : Nat
 pt : Nat
 ht : Nat → Value
 pw : Nat → Nat
 dvw : Nat → Value
 wv : Value
abbrev rnB (y : RdP) : Chunk := .blk y.pr 206 [ptrV y.pt, y.wv]
abbrev rnH (y : RdP) (n : Nat) (P : RunS) : Hp := Wks n y.pw y.dvw P.1 :: (tbH y.pt 228 y.ht P.2 ++ [rnB y, Own y.wv 222 1 n (ptrs n y.pw)])
theorem rnH_v {s : List Int} {r : RoundL} {X : Nat → WkL} {T : TabL} (hi : InvR s r X T) {w0 w : World} {F : Nat → Prop} {m : Hp} {y : RdP} {n : Nat} (h : St w0 F m w) (h1 : Wks n y.pw y.dvw X ∈ m) (h2 : rnB y ∈ m) (h3 : Own y.wv 222 1 n (ptrs n y.pw) ∈ m) : RdV w.cell? y.pr n X := by
 obtain ⟨A, k, hv, hk, hA, hc⟩ := own_rds (h.hold _ h3)
 refine ⟨⟨y.pw, A, k, ?_, hk, fun h0 => ?_, fun i hi ad ha => ?_, fun i hi2 => hi.wkV h h1 hi2⟩, fun i _ => (hi.w i).rlen⟩
 ·have := blk_cells (h.hold _ h2) 0 (fun j v hv => by simpa using hv) 1 y.wv rfl
  rw [add_mk] at this
  rw [← hv]; exact this
 ·obtain ⟨ad, h, _⟩ := hc h0
  exact ⟨ad, h⟩
 ·obtain ⟨ad', h', hcells⟩ := hc (by omega)
  rw [ha] at h'
  injection h' with h'
  subst h'
  exact hcells _ _ (ptr_at hi)
def doneX (n : Nat) (X : Nat → WkL) (k : Int) : Bool := decide (0 ≤ k ∧ k < n) && (X k.toNat).ov
theorem doneX_at {n k : Nat} {X : Nat → WkL} (h : k < n) : doneX n X k = (X k).ov := by
 unfold doneX
 rw [decide_eq_true ⟨by omega, by omega⟩, Bool.true_and, Int.toNat_natCast]
theorem rdLen_spec (pr n : Nat) (X : Nat → WkL) (w : World) (h : RdV w.cell? pr n X) : Calls Tryz.prog 148 #[.pointer (some ⟨pr, 0, none⟩)] w fun e w' => e = .returned (.int .i64 (n : Int)) ∧ Res w [] [] w' := by
 rw [← off_none w] at h
 obtain ⟨pw, A, k, h1, hk, _, _, _⟩ := h.form
 refine enter0 (N := 8) Tryz.func148 rfl rfl rfl <| esr <| wa rfl rfl <| wsr <| wm rfl rfl <| wn rfl rfl <| w_val (v_fieldAddrB (o := 1) uT206 rfl rfl Tryz.nz204 rfl) rfl <| w_val (v_loadO uT204 rfl rfl (h1)) rfl <| w_val (v_lenS uT204 rfl) rfl <| wa rfl rfl <| w_nil ?_
 refine e_retQ (q_ret1 rfl (.tmp rfl) ?_)
 exact fun w' hw' => ⟨rfl, hw'.res.nil⟩
theorem rdDone_spec (pr n : Nat) (X : Nat → WkL) (k : Int) (w : World) (h : RdV w.cell? pr n X) (hn : n ≤ 1000) : Calls Tryz.prog 166 #[.pointer (some ⟨pr, 0, none⟩), .int .i64 k] w fun e w' => e = .returned (.bool (doneX n X k)) ∧ Res w [] [] w' := by
 have hrl := h.rl
 rw [← off_none w] at h
 obtain ⟨pw, A, c, h1, hk, hA, hcell, hwk⟩ := h.form
 refine enter0 (N := 30) Tryz.func166 rfl rfl rfl ?_
 by_cases h0 : k < 0
 ·have e : doneX n X k = false := by unfold doneX; rw [decide_eq_false (by omega), Bool.false_and]
  rw [e]
  refine esr <| wa rfl rfl <| w_nil <| e_seq <| e_seq <| e_region <| wm rfl rfl ?_
  refine w_val (v_is (v' := .bool true) (v_lss rfl rfl) (by rw [decide_eq_true h0])) rfl ?_
  refine wm rfl rfl <| w_skip rfl rfl rfl rfl <| w_skip rfl rfl rfl rfl <| w_skip rfl rfl rfl rfl <| w_skip rfl rfl rfl rfl <| w_skip rfl rfl rfl rfl <| w_skip rfl rfl rfl rfl <| w_skip rfl rfl rfl rfl <| w_val (v_pickT rfl rfl) rfl <| w_nil <| e_condT rfl <| esr <| wa rfl rfl <| w_nil ?_
  refine e_retQ (q_ret1 rfl (.tmp rfl) ?_)
  exact fun w' hw' => ⟨rfl, hw'.res.nil⟩
 ·by_cases h2 : (n : Int) ≤ k
  ·have e : doneX n X k = false := by unfold doneX; rw [decide_eq_false (by omega), Bool.false_and]
   rw [e]
   refine esr <| wa rfl rfl <| w_nil <| e_seq <| e_seq <| e_region <| wm rfl rfl ?_
   refine w_val (v_is (v' := .bool false) (v_lss rfl rfl) (by rw [decide_eq_false h0])) rfl ?_
   refine wm rfl rfl <| w_want rfl rfl <| wm rfl rfl <| w_want rfl rfl <| wm rfl rfl <| w_want rfl rfl <| wn rfl rfl <| w_want rfl rfl <| w_val (v_fieldAddrB (o := 1) uT206 rfl rfl Tryz.nz204 rfl) rfl <| w_want rfl rfl <| w_val (v_loadO uT204 rfl rfl (h1)) rfl <| w_want rfl rfl <| w_val (v_lenS uT204 rfl) rfl <| w_want rfl rfl ?_
   refine w_val (v_is (v' := .bool true) (v_geq rfl rfl) (by rw [decide_eq_true h2])) rfl ?_
   refine w_val (v_pickF rfl rfl) rfl <| w_nil <| e_condT rfl <| esr <| wa rfl rfl <| w_nil ?_
   refine e_retQ (q_ret1 rfl (.tmp rfl) ?_)
   exact fun w' hw' => ⟨rfl, hw'.res.nil⟩
  ·obtain ⟨i, rfl⟩ : ∃ i : Nat, k = i := ⟨k.toNat, by omega⟩
   have hi : i < n := by omega
   rw [doneX_at hi]
   obtain ⟨ad, rfl⟩ := hA (by omega)
   have hc := hcell i hi ad rfl
   have hw := hwk i hi
   have hrl := hrl i hi
   obtain ⟨g0, g1, g2, g3, hg⟩ := list4 hrl
   refine esr <| wa rfl rfl <| w_nil <| e_seq <| e_seq <| e_region <| wm rfl rfl ?_
   refine w_val (v_is (v' := .bool false) (v_lss rfl rfl) (by rw [decide_eq_false h0])) rfl ?_
   refine wm rfl rfl <| w_want rfl rfl <| wm rfl rfl <| w_want rfl rfl <| wm rfl rfl <| w_want rfl rfl <| wn rfl rfl <| w_want rfl rfl <| w_val (v_fieldAddrB (o := 1) uT206 rfl rfl Tryz.nz204 rfl) rfl <| w_want rfl rfl <| w_val (v_loadO uT204 rfl rfl (h1)) rfl <| w_want rfl rfl <| w_val (v_lenS uT204 rfl) rfl <| w_want rfl rfl ?_
   refine w_val (v_is (v' := .bool false) (v_geq rfl rfl) (by rw [decide_eq_false h2])) rfl ?_
   refine w_val (v_pickF rfl rfl) rfl <| w_nil <| e_condF rfl <| e_skip <| esr <| wm rfl rfl <| wn rfl rfl <| w_val (v_fieldAddrB (o := 1) uT206 rfl rfl Tryz.nz204 rfl) rfl <| w_val (v_loadO uT204 rfl rfl (h1)) rfl <| wm rfl rfl ?_
   refine w_val (v_indexS uT204 Tryz.hi222 Tryz.cz222 rfl rfl (by first | omega | decide)) rfl ?_
   refine w_val (v_loadO uT222 rfl rfl (hc)) rfl <| w_op rfl ?_
   refine x_call0 (v := .tuple #[.agg (resCells (X i).rc [g0, g1, g2, g3]).toArray, .bool (X i).ov]) rfl rfl rfl Tryz.call167 rfl (fun w hw2 => by have := wkResult_spec (pw i) (X i) w (hw.mono hw2.off) hrl; rwa [hg] at this) ?_
   refine wm rfl rfl <| w_val (v_extract rfl rfl) rfl <| w_val (v_extract rfl rfl) rfl <| w_op rfl ?_
   refine x_alloc (z := .agg #[.int .i64 0, .int .i64 0, .int .i64 0, .int .i64 0, .int .i64 0]) (by intro w; exact Tryz.zeroValue96 w) rfl (fun b5 => ?_)
   refine w_op rfl ?_
   refine x_storeA 0 rfl rfl rfl Tryz.hi96 Tryz.cz96 rfl (by first | (simp [Value.oneCell', opCells]; done) | assumption | exact one_ints _ | exact one_resCells _ _ | exact one_slotC _) ?_
   refine wa rfl rfl <| wsr <| wm rfl rfl <| wa rfl rfl <| w_nil ?_
   refine e_retQ (q_ret1 rfl (.tmp rfl) ?_)
   exact fun w' hw' => ⟨rfl, hw'.res.nil⟩
theorem clipRes_spec (A : Option Addr) (n k : Nat) (w : World) (hk : n ≤ k) (hn : n ≤ 1000) : Calls Tryz.prog 168 #[.slice A n k] w fun e w' => e = .returned (.slice A n n) ∧ Res w [] [] w' := by
 refine enter0 (N := 9) Tryz.func168 rfl rfl rfl <| esr <| wa rfl rfl <| wsr <| wm rfl rfl <| wm rfl rfl <| w_val (v_lenS uT33 rfl) rfl <| wm rfl rfl <| w_val (v_lenS uT33 rfl) rfl ?_
 refine w_val (v_is (v' := .slice A n n) (v_sliceHM uT33 Tryz.hi96 Tryz.cz96 rfl rfl rfl (by omega)) (by rw [Int.toNat_natCast, slV_0'])) rfl ?_
 refine wa rfl rfl <| w_nil ?_
 refine e_retQ (q_ret1 rfl (.tmp rfl) ?_)
 exact fun w' hw' => ⟨rfl, hw'.res.nil⟩
end Go.SL
end
section
open Go Go.Proofs Go.SL
set_option maxRecDepth 100000
set_option maxHeartbeats 1000000
namespace Go.SL
theorem rds_clip {c : View} {A : Option Addr} {n k s : Nat} {xs : List Value} (h : Rds c (.slice A n k) s n xs) : Rds c (.slice A n n) s n xs := by
 obtain ⟨A', k', he, hk, hl, hc⟩ := h
 injection he with e1 e2 e3
 subst e1
 exact ⟨A, n, rfl, Nat.le_refl _, hl, hc⟩
theorem rdResults_spec (pr n : Nat) (X : Nat → WkL) (w : World) (h : RdV w.cell? pr n X) (hn : n ≤ 1000) : Calls Tryz.prog 152 #[.pointer (some ⟨pr, 0, none⟩)] w fun e w' => ∃ x : Option Addr × Nat, n ≤ x.2 ∧ e = .returned (.slice x.1 n n) ∧ Res w [] [Own (.slice x.1 n x.2) 96 5 n (resL (resX n X))] w' := by
 have hrl := h.rl
 rw [← off_none w] at h
 obtain ⟨pw, A, c, h1, hk, hA, hcell, hwk⟩ := h.form
 refine enter0 (N := 29) Tryz.func152 rfl rfl rfl <| esr <| wa rfl rfl <| wsr <| wa rfl rfl <| w_nil <| e_seq <| esr <| wm rfl rfl <| wn rfl rfl <| w_val (v_fieldAddrB (o := 1) uT206 rfl rfl Tryz.nz204 rfl) rfl <| w_val (v_loadO uT204 rfl rfl (h1)) rfl <| w_val (v_lenS uT204 rfl) rfl <| wm rfl rfl <| w_nil <| e_block ?_
 refine e_loopH (σ := Nat × Value) [2, 11, 12] (.cons rfl (.cons rfl (.cons rfl .nil))) (fun x => [(13, .int .i64 (x.1 : Int)), (3, x.2)]) (fun x => [Own x.2 96 5 x.1 (resL (resX x.1 X))]) (fun x => x.1 ≤ n) (fun x => n - x.1) (0, .slice none 0 0) (Nat.zero_le _) (by repeat first | exact .nil _ | refine .cons rfl ?_) (fun _ hw => hw.ownNil 96 5) ?_
 rintro ⟨i, sl⟩ hi
 dsimp only at hi ⊢
 refine esr <| w_val (v_lss rfl rfl) rfl <| w_nil <| e_seq ?_
 refine e_condD rfl (fun hlt => ?_) (fun hlt => ?_)
 ·have hi' : i < n := by omega
  obtain ⟨ad, rfl⟩ := hA (by omega)
  have hc := hcell i hi' ad rfl
  have hw := hwk i hi'
  have hrl := hrl i hi'
  have hrs := resX_succ (n := i) (X := X)
  obtain ⟨g0, g1, g2, g3, hg⟩ := list4 hrl
  rw [hg] at hrs
  refine e_skip <| e_seq <| e_block <| esr ?_
  refine w_val (v_indexS uT204 Tryz.hi222 Tryz.cz222 rfl rfl (by first | omega | decide)) rfl ?_
  refine w_val (v_loadO uT222 rfl rfl (hc)) rfl <| wa rfl rfl <| wsr <| wm rfl rfl <| w_op rfl ?_
  refine x_call0 (v := .tuple #[.agg (resCells (X i).rc [g0, g1, g2, g3]).toArray, .bool (X i).ov]) rfl rfl rfl Tryz.call167 rfl (fun w hw2 => by have := wkResult_spec (pw i) (X i) w (hw.mono hw2.off) hrl; rwa [hg] at this) ?_
  refine wm rfl rfl <| w_val (v_extract rfl rfl) rfl <| w_val (v_extract rfl rfl) rfl <| w_op rfl ?_
  refine x_alloc (z := .agg #[.int .i64 0, .int .i64 0, .int .i64 0, .int .i64 0, .int .i64 0]) (by intro w; exact Tryz.zeroValue96 w) rfl (fun b6 => ?_)
  refine w_op rfl ?_
  refine x_storeA 0 rfl rfl rfl Tryz.hi96 Tryz.cz96 rfl (by first | (simp [Value.oneCell', opCells]; done) | assumption | exact one_ints _ | exact one_resCells _ _ | exact one_slotC _) ?_
  refine wa rfl rfl <| wre <| wm rfl rfl <| w_val (v_loadBN 0 rfl uT96 rfl Tryz.hi96 Tryz.cz96 rfl (cs' := resCells (X i).rc [g0, g1, g2, g3]) rfl rfl) rfl <| w_op rfl ?_
  refine x_buildSlice _ (resCells (X i).rc [g0, g1, g2, g3]) rfl (run_buildSlice uT33 Tryz.hi96 Tryz.cz96 Tryz.zeroValue96 rfl (by kernel_rfl)) rfl (fun b24 => ?_)
  refine w_op rfl ?_
  refine x_appendIS (z := .agg #[.int .i64 0, .int .i64 0, .int .i64 0, .int .i64 0, .int .i64 0]) (n := i) (xs := resL (resX i X)) (size := 5) (bytes := 40) (k := 1) (news := resCells (X i).rc [g0, g1, g2, g3]) 2 rfl rfl rfl uT33 (by kernel_rfl) rfl (by decide) (fun w hw => blk_rds (hw.hold _ (List.mem_cons_self ..)) rfl) (by intro u hu; exact one_resCells (X i).rc [g0, g1, g2, g3] u (by simpa using hu)) (by omega) (by simp only [maxLen]; omega) rfl (fun A4 cap4 _ => ?_)
  refine wa rfl rfl <| w_nil <| e_blk <| e_region ?_
  refine w_val (v_add rfl rfl (by omega)) rfl ?_
  refine wm rfl rfl <| w_nil ?_
  exact e_round ((i + 1, .slice A4 (i + 1) cap4)) (by dsimp only; omega) (by dsimp only; omega) (by repeat first | exact .nil _ | refine .cons rfl ?_) (fun _ hw => by dsimp only; rw [hrs, resL_app, resL_one]; exact hw.sub (.cons _ (.cons _ (List.Sublist.refl _))))
 ·have e : i = n := by omega
  subst e
  refine g_shape2 0 rfl fun A1 k1 hv1 hk1 hA1 => ?_
  subst hv1
  refine e_exit rfl <| esr <| wm rfl rfl <| w_op rfl ?_
  refine x_call0 (v := .slice A1 i i) rfl rfl rfl Tryz.call168 rfl (fun w _ => clipRes_spec A1 i k1 w hk1 hn) ?_
  refine wa rfl rfl <| w_nil ?_
  refine e_retQ (q_ret1 rfl (.tmp rfl) ?_)
  exact fun w' hw' => ⟨(A1, k1), hk1, rfl, hw'.res⟩
theorem rdPick_spec (s : List Int) (r : RoundL) (y : RdP) (P : RunS) (k : Int) (w : World) (h : ∀ c ∈ rnH y r.length P, c.holds w) (hsep : (rnH y r.length P).Pairwise Disj) (hinv : InvR s r P.1 P.2) :
  Calls Tryz.prog 149 #[.pointer (some ⟨y.pr, 0, none⟩), .int .i64 k] w fun e w' => ∃ _ : Unit, True ∧ e = .returned (.tuple #[.int .i64 (pickR r.length P k).1.1, .int .i64 (pickR r.length P k).1.2]) ∧ Res w (rnH y r.length P) (rnH y r.length (pickR r.length P k).2) w' := by
 obtain ⟨pr, pt, ht, pw, dvw, wv⟩ := y
 obtain ⟨X, T⟩ := P
 have h8 := (roundFault_ok hinv.ok).1
 dsimp only at *
 refine enter (mc := rnH ⟨pr, pt, ht, pw, dvw, wv⟩ r.length (X, T)) (N := 31) Tryz.func149 rfl rfl rfl ?_ ?_ ?_
 ·exact h
 ·exact hsep
 refine g_shape2 4 rfl fun Aw kw hvw hkw hAw => ?_
 subst hvw
 by_cases h0 : k < 0
 ·have e : pickR r.length (X, T) k = ((0, -1), (X, T)) := by unfold pickR; rw [if_neg (by omega)]
  rw [e]
  refine esr <| wa rfl rfl <| wa rfl rfl <| w_nil <| e_seq <| e_seq <| e_region <| wm rfl rfl ?_
  refine w_val (v_is (v' := .bool true) (v_lss rfl rfl) (by rw [decide_eq_true h0])) rfl ?_
  refine wm rfl rfl <| w_skip rfl rfl rfl rfl <| w_skip rfl rfl rfl rfl <| w_skip rfl rfl rfl rfl <| w_skip rfl rfl rfl rfl <| w_skip rfl rfl rfl rfl <| w_skip rfl rfl rfl rfl <| w_skip rfl rfl rfl rfl <| w_val (v_pickT rfl rfl) rfl <| w_nil <| e_condT rfl <| esr <| wa rfl rfl <| wa rfl rfl <| w_nil ?_
  refine e_retQ (q_ret2 rfl (.tmp rfl) (.tmp rfl) ?_)
  exact fun w' hw' => ⟨(), trivial, rfl, hw'.res⟩
 ·by_cases h2 : (r.length : Int) ≤ k
  ·have e : pickR r.length (X, T) k = ((0, -1), (X, T)) := by unfold pickR; rw [if_neg (by omega)]
   rw [e]
   refine esr <| wa rfl rfl <| wa rfl rfl <| w_nil <| e_seq <| e_seq <| e_region <| wm rfl rfl ?_
   refine w_val (v_is (v' := .bool false) (v_lss rfl rfl) (by rw [decide_eq_false h0])) rfl ?_
   refine wm rfl rfl <| w_want rfl rfl <| wm rfl rfl <| w_want rfl rfl <| wm rfl rfl <| w_want rfl rfl <| wn rfl rfl <| w_want rfl rfl <| w_val (v_fieldAddrB (o := 1) uT206 rfl rfl Tryz.nz204 rfl) rfl <| w_want rfl rfl <| w_val (v_loadB 3 rfl uT204 rfl rfl rfl) rfl <| w_want rfl rfl <| w_val (v_lenS uT204 rfl) rfl <| w_want rfl rfl ?_
   refine w_val (v_is (v' := .bool true) (v_geq rfl rfl) (by rw [decide_eq_true h2])) rfl ?_
   refine w_val (v_pickF rfl rfl) rfl <| w_nil <| e_condT rfl <| esr <| wa rfl rfl <| wa rfl rfl <| w_nil ?_
   refine e_retQ (q_ret2 rfl (.tmp rfl) (.tmp rfl) ?_)
   exact fun w' hw' => ⟨(), trivial, rfl, hw'.res⟩
  ·obtain ⟨i, rfl⟩ : ∃ i : Nat, k = i := ⟨k.toNat, by omega⟩
   have hi : i < r.length := by omega
   rw [pick_nat hi]
   obtain ⟨adw, rfl⟩ := hAw (by omega)
   unfold runP
   dsimp only
   refine esr <| wa rfl rfl <| wa rfl rfl <| w_nil <| e_seq <| e_seq <| e_region <| wm rfl rfl ?_
   refine w_val (v_is (v' := .bool false) (v_lss rfl rfl) (by rw [decide_eq_false h0])) rfl ?_
   refine wm rfl rfl <| w_want rfl rfl <| wm rfl rfl <| w_want rfl rfl <| wm rfl rfl <| w_want rfl rfl <| wn rfl rfl <| w_want rfl rfl <| w_val (v_fieldAddrB (o := 1) uT206 rfl rfl Tryz.nz204 rfl) rfl <| w_want rfl rfl <| w_val (v_loadB 3 rfl uT204 rfl rfl rfl) rfl <| w_want rfl rfl <| w_val (v_lenS uT204 rfl) rfl <| w_want rfl rfl ?_
   refine w_val (v_is (v' := .bool false) (v_geq rfl rfl) (by rw [decide_eq_false h2])) rfl ?_
   refine w_val (v_pickF rfl rfl) rfl <| w_nil <| e_condF rfl ?_
   generalize hP : stepW (X i) T = P at *
   obtain ⟨⟨a, who⟩, x', T'⟩ := P
   dsimp only
   refine e_skip <| e_seq <| e_draw ([.blk pr 206 [ptrV pt, .slice (some adw) r.length kw], Own (.slice (some adw) r.length kw) 222 1 r.length (ptrs r.length pw)]) Tryz.mixed <| tk 0 rfl (v_move rfl) rfl <| tk 1 rfl (v_nilCheck rfl) rfl <| tk 2 rfl (v_fieldAddrB (o := 1) uT206 rfl rfl Tryz.nz204 rfl) rfl <| tk 3 rfl (v_loadB 0 rfl uT204 rfl rfl rfl) rfl <| tk 4 rfl (v_move rfl) rfl ?_
   refine tk 5 rfl (v_indexS uT204 Tryz.hi222 Tryz.cz222 rfl rfl (by first | omega | decide)) rfl ?_
   refine tk 6 rfl (v_loadW 1 rfl (by omega) (ptr_at hi) uT222 rfl rfl) rfl ?_
   refine tk 7 rfl (v_move rfl) rfl <| tk 8 rfl (v_nilCheck rfl) rfl <| tk 9 rfl (v_fieldAddrB (o := 0) uT206 rfl rfl Tryz.nz203 rfl) rfl <| tk 10 rfl (v_loadB 0 rfl uT203 rfl rfl rfl) rfl <| t1 11 rfl rfl ?_
   refine x_wkStep hinv hi (fun _ hw => hw) rfl rfl rfl ?_; rw [hP]; dsimp only
   refine tn <| tk 12 rfl (v_is (v' := .int .i64 a) (v_extract rfl rfl) rfl) rfl <| tk 13 rfl (v_is (v' := .int .i64 who) (v_extract rfl rfl) rfl) rfl <| tk 14 rfl (v_assign rfl) rfl <| tk 15 rfl (v_assign rfl) rfl <| td ?_
   refine e_retQ (q_ret2 rfl (.tmp rfl) (.tmp rfl) ?_)
   exact fun w' hw' => ⟨(), trivial, rfl, hw'.res⟩
theorem rdFinish_spec (s : List Int) (r : RoundL) (y : RdP) (P : RunS) (w : World) (h : ∀ c ∈ rnH y r.length P, c.holds w) (hsep : (rnH y r.length P).Pairwise Disj) (hinv : InvR s r P.1 P.2) :
  Calls Tryz.prog 150 #[.pointer (some ⟨y.pr, 0, none⟩)] w fun e w' => ∃ P' : RunS, (InvR s r P'.1 P'.2 ∧ AllO r.length P'.1) ∧ e = .returned (.tuple #[]) ∧ Res w (rnH y r.length P) (rnH y r.length P') w' := by
 obtain ⟨pr, pt, ht, pw, dvw, wv⟩ := y
 have h8 := (roundFault_ok hinv.ok).1
 dsimp only at *
 refine enter (mc := rnH ⟨pr, pt, ht, pw, dvw, wv⟩ r.length P) (N := 19) Tryz.func150 rfl rfl rfl ?_ ?_ ?_
 ·exact h
 ·exact hsep
 refine g_shape2 4 rfl fun Aw kw hvw hkw hAw => ?_
 subst hvw
 refine esr <| wm rfl rfl <| wn rfl rfl <| w_val (v_fieldAddrB (o := 1) uT206 rfl rfl Tryz.nz204 rfl) rfl <| w_val (v_loadB 3 rfl uT204 rfl rfl rfl) rfl <| w_val (v_lenS uT204 rfl) rfl <| wm rfl rfl <| w_nil <| e_block ?_
 refine e_loopH (σ := Nat × RunS) [0, 7] (.cons rfl (.cons rfl .nil)) (fun x => [(8, .int .i64 (x.1 : Int))]) (fun x => rnH ⟨pr, pt, ht, pw, dvw, .slice Aw r.length kw⟩ r.length x.2) (fun x => x.1 ≤ r.length ∧ InvR s r x.2.1 x.2.2 ∧ ∀ j, j < x.1 → (x.2.1 j).ov = true) (fun x => r.length - x.1) (0, P) ⟨Nat.zero_le _, hinv, fun j hj => by omega⟩ (by repeat first | exact .nil _ | refine .cons rfl ?_) (fun _ hw => hw) ?_
 rintro ⟨i, P1⟩ ⟨hi, hinv1, hlo⟩
 dsimp only at hi hinv1 hlo ⊢
 refine esr <| w_val (v_lss rfl rfl) rfl <| w_nil <| e_seq ?_
 refine e_condD rfl (fun hlt => ?_) (fun hlt => ?_)
 ·have hi' : i < r.length := by omega
  refine e_skip <| e_seq <| e_block <| esr <| wm rfl rfl <| wa rfl rfl <| w_nil <| e_block ?_
  refine e_loopH (σ := RunS) [0, 2, 7, 8] (.cons rfl (.cons rfl (.cons rfl (.cons rfl .nil)))) (fun x => []) (fun x => rnH ⟨pr, pt, ht, pw, dvw, .slice Aw r.length kw⟩ r.length x) (fun x => InvR s r x.1 x.2 ∧ ∀ j, j < i → (x.1 j).ov = true) (fun x => muW (x.1 i)) P1 ⟨hinv1, hlo⟩ (by repeat first | exact .nil _ | refine .cons rfl ?_) (fun _ hw => hw) ?_
  rintro P2 ⟨hinv2, hlo2⟩
  dsimp only at hinv2 hlo2 ⊢
  cases ho : (P2.1 i).ov with
  | true =>
   have hlo3 : ∀ j, j < i + 1 → (P2.1 j).ov = true := fun j hj => by
    by_cases e : j = i
    ·subst e; exact ho
    ·exact hlo2 j (by omega)
   refine e_seq <| esr <| wm rfl rfl <| wm rfl rfl <| w_op rfl ?_
   refine x_call0 (v := .bool true) rfl rfl rfl Tryz.call166 rfl (fun w hw => by have := rdDone_spec pr r.length P2.1 i w (rnH_v (y := ⟨pr, pt, ht, pw, dvw, .slice Aw r.length kw⟩) hinv2 hw (by simp) (by simp) (by simp)) (by omega); rwa [doneX_at hi', ho] at this) ?_
   refine w_val (v_not rfl) rfl <| w_nil <| e_condF rfl <| e_exit rfl <| e_blk <| e_region ?_
   refine w_val (v_add rfl rfl (by omega)) rfl ?_
   refine wm rfl rfl <| w_nil ?_
   exact e_round ((i + 1, P2)) (⟨by dsimp only; omega, hinv2, hlo3⟩) (by dsimp only; omega) (by repeat first | exact .nil _ | refine .cons rfl ?_) (fun _ hw => hw)
  | false =>
   have hg := hinv2.goes hi' hlo2 ho
   have hn := pick_nat (P := P2) hi'
   refine e_seq <| esr <| wm rfl rfl <| wm rfl rfl <| w_op rfl ?_
   refine x_call0 (v := .bool false) rfl rfl rfl Tryz.call166 rfl (fun w hw => by have := rdDone_spec pr r.length P2.1 i w (rnH_v (y := ⟨pr, pt, ht, pw, dvw, .slice Aw r.length kw⟩) hinv2 hw (by simp) (by simp) (by simp)) (by omega); rwa [doneX_at hi', ho] at this) ?_
   refine w_val (v_not rfl) rfl <| w_nil <| e_condT rfl <| e_skip <| e_block <| e_region <| wm rfl rfl <| wm rfl rfl <| w_op rfl ?_
   refine x_call (dst := some 17) (mc := rnH ⟨pr, pt, ht, pw, dvw, .slice Aw r.length kw⟩ r.length P2) (mr := []) (σ := Unit) (fun _ => True) (fun _ => .tuple #[.int .i64 (stepW (P2.1 i) P2.2).1.1, .int .i64 (stepW (P2.1 i) P2.2).1.2]) (fun _ => rnH ⟨pr, pt, ht, pw, dvw, .slice Aw r.length kw⟩ r.length (runP P2 i)) rfl rfl rfl Tryz.call149 (fun w hw => by have := rdPick_spec s r ⟨pr, pt, ht, pw, dvw, .slice Aw r.length kw⟩ P2 i w (res_part hw).1 (res_part hw).2 hinv2; rwa [hn] at this) rfl (fun _ _ => ?_)
   refine w_nil <| e_blk ?_
   exact e_round (runP P2 i) (⟨hinv2.run hi', fun j hj => by (dsimp only [runP]; rw [upd_other (by omega)]; exact hlo2 j hj)⟩) (by (dsimp only [runP]; rw [upd_same]; exact hg.2)) (by repeat first | exact .nil _ | refine .cons rfl ?_) (fun _ hw => hw)
 ·have e : i = r.length := by omega
  subst e
  refine e_exit rfl ?_
  refine e_endQ (q_ret0 rfl ?_)
  exact fun w' hw' => ⟨P1, ⟨hinv1, hlo⟩, rfl, hw'.res⟩
end Go.SL
end
