/- YtebdkaadbakhlaaGreatDoor: part WG of this seat's own texts. -/
import Derived.Test.YtebdkaadbakhlaaGreatDoorWF
set_option linter.unusedVariables false
set_option linter.unusedSimpArgs false
section
open Go Go.Proofs Go.SL
set_option maxRecDepth 100000
namespace Go.SL
theorem intTab_set {N k : Nat} {g : Nat → Int} {x : Int} : (intCells (tab N g)).set k (.int .i64 x) = intCells (tab N (upd g k x)) := by
 rw [← tab_set, intCells, intCells, List.map_set]
theorem intTab_len {N : Nat} {g : Nat → Int} : (intCells (tab N g)).length = N := by rw [intCells, List.length_map, tab_len]
structure Filled (T : TabL) (k i : Nat) (g : Nat → Int) : Prop where
 lo : ∀ j, j < k → g j = valL (T j)
 at_ : g k = valL ((T k).take i)
 hi : ∀ j, k < j → g j = 0
theorem Filled.next {T : TabL} {k : Nat} {g : Nat → Int} (h : Filled T k (T k).length g) : Filled T (k + 1) 0 g := by
 refine ⟨fun j hj => ?_, ?_, fun j hj => h.hi j (by omega)⟩
 ·by_cases e : j = k
  ·rw [e, h.at_, List.take_length]
  ·exact h.lo j (by omega)
 ·rw [h.hi _ (by omega)]; rfl
theorem Filled.step {T : TabL} {k i : Nat} {g : Nat → Int} (h : Filled T k i g) (hi : i < (T k).length) : (((T k)[i].opn = false ∧ (T k)[i].vd = false) → Filled T k (i + 1) (upd g k (T k)[i].n)) ∧ (¬ ((T k)[i].opn = false ∧ (T k)[i].vd = false) → Filled T k (i + 1) g) := by
 have hnext : (T k).take (i + 1) = (T k).take i ++ [(T k)[i]] := List.take_succ_eq_append_getElem hi
 constructor
 ·intro hv
  refine ⟨fun j hj => by rw [upd_other (by omega)]; exact h.lo j hj, ?_, fun j hj => by rw [upd_other (by omega)]; exact h.hi j hj⟩
  rw [upd_same, hnext, valL_snoc]
  unfold valStep
  rw [if_pos hv]
 ·intro hv
  refine ⟨h.lo, ?_, h.hi⟩
  rw [hnext, valL_snoc, h.at_]
  unfold valStep
  rw [if_neg hv]
theorem Filled.all {T : TabL} {i : Nat} {g : Nat → Int} (h : Filled T 10 i g) : tab 10 g = stateT T := tab_congr fun k hk => h.lo k hk
theorem stateT_len (T : TabL) : (stateT T).length = 10 := tab_len
theorem tabState_spec (p : Nat) (hs : Nat → Value) (T : TabL) (w : World) (h : TbV w.cell? p hs T) (hn : ∀ k, k < 10 → (T k).length ≤ 1000) :
  Calls Tryz.prog 151 #[.pointer (some ⟨p, 0, none⟩)] w fun e w' => e = .returned (intsV (stateT T)) ∧ Res w [] [] w' := by
 rw [← off_none w] at h
 refine enter0 (N := 36) Tryz.func151 rfl rfl rfl <| esr <| w_op rfl ?_
 refine x_alloc (z := .agg #[.int .i64 0, .int .i64 0, .int .i64 0, .int .i64 0, .int .i64 0, .int .i64 0, .int .i64 0, .int .i64 0, .int .i64 0, .int .i64 0]) (by intro w; exact Tryz.zeroValue32 w) rfl (fun b2 => ?_)
 refine wsr <| w_op rfl ?_
 refine x_alloc (z := .agg #[.int .i64 0, .int .i64 0, .int .i64 0, .int .i64 0, .int .i64 0, .int .i64 0, .int .i64 0, .int .i64 0, .int .i64 0, .int .i64 0]) (by intro w; exact Tryz.zeroValue32 w) rfl (fun b3 => ?_)
 refine w_nil <| e_seq <| esr <| wm rfl rfl <| w_nil <| e_block ?_
 refine e_loopH (σ := Nat × (Nat → Int)) [0, 2, 3] (.cons rfl (.cons rfl (.cons rfl .nil))) (fun x => [(7, .int .i64 (x.1 : Int))]) (fun x => [.blk b3 32 (intCells (tab 10 x.2)), .blk b2 32 (intCells (tab 10 fun _ => 0))]) (fun x => x.1 ≤ 10 ∧ Filled T x.1 0 x.2) (fun x => 10 - x.1) (0, fun _ => 0) ⟨Nat.zero_le _, ⟨fun j hj => by omega, rfl, fun _ _ => rfl⟩⟩ (by repeat first | exact .nil _ | refine .cons rfl ?_) (fun _ hw => hw) ?_
 rintro ⟨k, g⟩ ⟨hk, hf⟩
 dsimp only at hk hf ⊢
 refine esr <| w_val (v_lss rfl rfl) rfl <| w_nil <| e_seq ?_
 refine e_condD rfl (fun hlt => ?_) (fun hlt => ?_)
 ·have hk' : k < 10 := by omega
  have hl := hn k hk'
  obtain ⟨A, cap, hhk, hle, hhdr, hrow⟩ := h.at hk'
  refine e_skip <| e_seq <| e_block <| esr <| wm rfl rfl <| wa rfl rfl <| wsr <| wm rfl rfl <| wm rfl rfl <| wn rfl rfl <| w_val (v_fieldAddrB (o := 0) uT228 rfl rfl Tryz.nz226 rfl) rfl ?_
  refine w_val (v_indexAB uT226 Tryz.hi225 Tryz.cz225 rfl rfl (by first | omega | decide)) rfl ?_
  refine w_val (v_loadO uT225 rfl rfl (hhdr)) rfl <| w_val (v_lenS uT225 rfl) rfl <| wm rfl rfl <| w_nil <| e_block ?_
  refine e_loopH (σ := Nat × (Nat → Int)) [0, 2, 3, 4, 7, 15, 16] (.cons rfl (.cons rfl (.cons rfl (.cons rfl (.cons rfl (.cons rfl (.cons rfl .nil))))))) (fun x => [(17, .int .i64 (x.1 : Int))]) (fun x => [.blk b3 32 (intCells (tab 10 x.2)), .blk b2 32 (intCells (tab 10 fun _ => 0))]) (fun x => x.1 ≤ (T k).length ∧ Filled T k x.1 x.2) (fun x => (T k).length - x.1) (0, g) ⟨Nat.zero_le _, hf⟩ (by repeat first | exact .nil _ | refine .cons rfl ?_) (fun _ hw => hw) ?_
  rintro ⟨i, g⟩ ⟨hi, hf⟩
  dsimp only at hi hf ⊢
  refine esr <| w_val (v_lss rfl rfl) rfl <| w_nil <| e_seq ?_
  refine e_condD rfl (fun hlt2 => ?_) (fun hlt2 => ?_)
  ·have hi' : i < (T k).length := by omega
   obtain ⟨ad, rfl, hcell⟩ := hrow i hi'
   have hst := hf.step hi'
   generalize (T k)[i] = s at *
   refine e_skip <| e_seq <| e_block <| esr ?_
   refine w_val (v_indexS uT225 Tryz.hi230 Tryz.cz230 rfl rfl (by first | omega | decide)) rfl ?_
   refine w_val (v_loadON uT230 rfl Tryz.hi230 rfl (hcell) Tryz.cz230) rfl <| w_op rfl ?_
   refine x_alloc (z := .agg #[.int .i64 0, .bool false, .bool false, .int .i64 0]) (by intro w; exact Tryz.zeroValue230 w) rfl (fun b6 => ?_)
   refine w_op rfl ?_
   refine x_storeA 0 rfl rfl rfl Tryz.hi230 Tryz.cz230 rfl (by first | (simp [Value.oneCell', opCells]; done) | assumption | exact one_ints _ | exact one_resCells _ _ | exact one_slotC _) ?_
   refine w_nil <| e_seq ?_
   cases ho : s.opn with
   | true =>
    have hst := hst.2 (by simp [ho])
    refine e_region <| w_val (v_fieldAddrB (o := 1) uT230 rfl rfl Tryz.nz4 rfl) rfl ?_
    refine w_val (v_is (v' := .bool true) (v_loadB 0 rfl uT4 rfl rfl rfl) (by rw [ho])) rfl ?_
    refine w_val (v_not rfl) rfl <| wm rfl rfl <| w_skip rfl rfl rfl rfl <| w_skip rfl rfl rfl rfl <| w_skip rfl rfl rfl rfl <| w_val (v_pickF rfl rfl) rfl <| w_nil <| e_condF rfl <| e_skip <| e_blk <| e_region ?_
    refine w_val (v_add rfl rfl (by omega)) rfl ?_
    refine wm rfl rfl <| w_nil ?_
    exact e_round ((i + 1, g)) (⟨by dsimp only; omega, hst⟩) (by dsimp only; omega) (by repeat first | exact .nil _ | refine .cons rfl ?_) (fun _ hw => hw.sub (List.sublist_cons_self _ _))
   | false =>
    cases hv : s.vd with
    | true =>
     have hst := hst.2 (by simp [hv])
     refine e_region <| w_val (v_fieldAddrB (o := 1) uT230 rfl rfl Tryz.nz4 rfl) rfl ?_
     refine w_val (v_is (v' := .bool false) (v_loadB 0 rfl uT4 rfl rfl rfl) (by rw [ho])) rfl ?_
     refine w_val (v_not rfl) rfl <| wm rfl rfl <| w_want rfl rfl <| w_val (v_fieldAddrB (o := 2) uT230 rfl rfl Tryz.nz4 rfl) rfl <| w_want rfl rfl ?_
     refine w_val (v_is (v' := .bool true) (v_loadB 0 rfl uT4 rfl rfl rfl) (by rw [hv])) rfl ?_
     refine w_want rfl rfl <| w_val (v_not rfl) rfl <| w_val (v_pickT rfl rfl) rfl <| w_nil <| e_condF rfl <| e_skip <| e_blk <| e_region ?_
     refine w_val (v_add rfl rfl (by omega)) rfl ?_
     refine wm rfl rfl <| w_nil ?_
     exact e_round ((i + 1, g)) (⟨by dsimp only; omega, hst⟩) (by dsimp only; omega) (by repeat first | exact .nil _ | refine .cons rfl ?_) (fun _ hw => hw.sub (List.sublist_cons_self _ _))
    | false =>
     have hst := hst.1 ⟨ho, hv⟩
     refine e_region <| w_val (v_fieldAddrB (o := 1) uT230 rfl rfl Tryz.nz4 rfl) rfl ?_
     refine w_val (v_is (v' := .bool false) (v_loadB 0 rfl uT4 rfl rfl rfl) (by rw [ho])) rfl ?_
     refine w_val (v_not rfl) rfl <| wm rfl rfl <| w_want rfl rfl <| w_val (v_fieldAddrB (o := 2) uT230 rfl rfl Tryz.nz4 rfl) rfl <| w_want rfl rfl ?_
     refine w_val (v_is (v' := .bool false) (v_loadB 0 rfl uT4 rfl rfl rfl) (by rw [hv])) rfl ?_
     refine w_want rfl rfl <| w_val (v_not rfl) rfl <| w_val (v_pickT rfl rfl) rfl <| w_nil <| e_condT rfl <| e_region <| wm rfl rfl <| w_val (v_fieldAddrB (o := 3) uT230 rfl rfl Tryz.nz2 rfl) rfl <| w_val (v_loadB 0 rfl uT2 rfl rfl rfl) rfl ?_
     refine w_val (v_indexAB uT32 Tryz.hi2 Tryz.cz2 rfl rfl (by first | omega | decide)) rfl ?_
     refine w_op rfl ?_
     refine x_store1 1 rfl rfl rfl Tryz.hi2 Tryz.cz2 rfl (by rw [intTab_len, Int.toNat_natCast]; omega) rfl ?_
     refine w_nil <| e_blk <| e_region ?_
     refine w_val (v_add rfl rfl (by omega)) rfl ?_
     refine wm rfl rfl <| w_nil ?_
     refine e_round ((i + 1, upd g k s.n)) (⟨by dsimp only; omega, hst⟩) (by dsimp only; omega) (by repeat first | exact .nil _ | refine .cons rfl ?_) (fun _ hw => ?_)
     simp only [List.set_cons_zero, List.set_cons_succ, Int.toNat_natCast, Nat.mul_one, Nat.zero_add, intTab_set] at hw
     exact hw.sub (List.sublist_cons_self _ _)
  ·have e : i = (T k).length := by omega
   subst e
   refine e_exit rfl <| e_blk <| e_region ?_
   refine w_val (v_add rfl rfl (by omega)) rfl ?_
   refine wm rfl rfl <| w_nil ?_
   exact e_round ((k + 1, g)) (⟨by dsimp only; omega, hf.next⟩) (by dsimp only; omega) (by repeat first | exact .nil _ | refine .cons rfl ?_) (fun _ hw => hw)
 ·have e : k = 10 := by omega
  subst e
  have hlen : (tab 10 g).length = 10 := tab_len
  rw [← hf.all]
  generalize tab 10 g = y at *
  obtain ⟨y0, y1, y2, y3, y4, y5, y6, y7, y8, y9, rfl⟩ := list10 hlen
  refine e_exit rfl <| esr <| w_val (v_loadBN 0 rfl uT32 rfl Tryz.hi32 Tryz.cz32 rfl (cs' := intCells [y0, y1, y2, y3, y4, y5, y6, y7, y8, y9]) rfl rfl) rfl <| w_op rfl ?_
  refine x_storeA 1 rfl rfl rfl Tryz.hi32 Tryz.cz32 rfl (by first | (simp [Value.oneCell', opCells]; done) | assumption | exact one_ints _ | exact one_resCells _ _ | exact one_slotC _) ?_
  refine w_nil ?_
  refine e_retQ (q_ret1 rfl (ResV.agg 1 rfl rfl (by rw [isAggD, uT32]; rfl) (Tryz.cz32.trans (by simp [intCells])) Tryz.hi32) ?_)
  exact fun w' hw' => ⟨rfl, hw'.res.nil⟩
end Go.SL
end
section
open Go Go.Proofs Go.SL
set_option maxRecDepth 100000
namespace Go.SL
theorem TbV.of {p e : Nat} {hs : Nat → Value} {T : TabL} {w : World} (h : ∀ c ∈ tbH p e hs T, c.holds w) : TbV w.cell? p hs T := by
 have h1 := h (.blk p e (tab 10 hs)) List.mem_cons_self
 obtain ⟨h2, _⟩ := h (Rows 230 4 10 hs (fun k => ((T k).length, slotCells (T k)))) (List.mem_cons_of_mem _ List.mem_cons_self)
 refine ⟨fun k hk => ?_, fun k hk => ?_⟩
 ·rw [blk_cell h1, Nat.zero_add, Int.toNat_natCast, Nat.mul_one]
  exact tab_get hk
 ·exact own_rds (h2 _ (List.mem_of_getElem? (tab_get hk)))
def GoodT (T : TabL) : Prop := ∀ k, k < 10 → ∀ s ∈ T k, s.opn = true → s.vd = false ∧ s.n = 0
theorem tab_hdr {hs : Nat → Value} {k : Nat} (hk : k < 10) : (tab 10 hs)[0 + ((k : Int)).toNat * 1]? = some (hs k) := by
 rw [Nat.zero_add, Int.toNat_natCast, Nat.mul_one]; exact tab_get hk
theorem hasT_true {T : TabL} {k by_ : Int} (h : hasT T k by_ = true) : ∃ n : Nat, k = n ∧ n < 10 ∧ (T n).findIdx (isO by_) < (T n).length ∧ ∃ s, (T n)[(T n).findIdx (isO by_)]? = some s ∧ s.by_ = by_ ∧ s.opn = true ∧ s ∈ T n := by
 unfold hasT at h
 obtain ⟨h1, h2⟩ := Bool.and_eq_true_iff.1 h
 have h1 := of_decide_eq_true h1
 refine ⟨k.toNat, by omega, by omega, ?_⟩
 have hlt := List.findIdx_lt_length.2 (List.any_eq_true.1 h2)
 refine ⟨hlt, (T k.toNat)[(T k.toNat).findIdx (isO by_)], List.getElem?_eq_getElem hlt, ?_⟩
 have := List.findIdx_getElem (w := hlt)
 unfold isO at this
 obtain ⟨h3, h4⟩ := Bool.and_eq_true_iff.1 this
 exact ⟨of_decide_eq_true h3, h4, List.getElem_mem hlt⟩
theorem slotP_true {hs : Nat → Value} {T : TabL} {n : Nat} {by_ : Int} (h : hasT T n by_ = true) {g len cap : Nat} (hh : hs n = .slice (some ⟨g, 0, none⟩) len cap) : slotP hs T n by_ = some ⟨g, 0 + (T n).findIdx (isO by_) * 4, none⟩ := by
 unfold slotP
 rw [if_pos h, Int.toNat_natCast, hh]
 simp only [Option.map_some, at0]
theorem chgT_nat {T : TabL} {n : Nat} {by_ : Int} {x : SlotL} (hn : n < 10) : chgT T n by_ x = upd T n (chgL (T n) by_ x) := by
 unfold chgT
 rw [if_pos (by omega), Int.toNat_natCast]
theorem tabSet_spec (p : Nat) (hs : Nat → Value) (T : TabL) (k by_ n : Int) (w : World) (h : ∀ c ∈ tbH p 228 hs T, c.holds w) (hsep : (tbH p 228 hs T).Pairwise Disj) (hn : ∀ k, k < 10 → (T k).length ≤ 1000) (hg : GoodT T) :
  Calls Tryz.prog 183 #[.pointer (some ⟨p, 0, none⟩), .int .i64 k, .int .i64 by_, .int .i64 n] w fun e w' => ∃ _ : Unit, True ∧ e = .returned (.bool (hasT T k by_)) ∧ Res w (tbH p 228 hs T) (tbH p 228 hs (chgT T k by_ ⟨by_, false, false, n⟩)) w' := by
 refine enter (mc := tbH p 228 hs T) (N := 25) Tryz.func183 rfl rfl rfl ?_ ?_ ?_
 ·exact h
 ·exact hsep
 refine esr <| wa rfl rfl <| wsr <| wm rfl rfl <| wm rfl rfl <| wm rfl rfl <| w_op rfl ?_
 refine x_call0 (v := .pointer (slotP hs T k by_)) rfl rfl rfl Tryz.call190 rfl (fun w hw => tabSlot_spec p hs T k by_ w (TbV.of hw.hold) hn) ?_
 cases hht : hasT T k by_ with
 | false =>
  have hsp : slotP hs T k by_ = none := by unfold slotP; rw [hht]; rfl
  rw [hsp, chgT_none hht]
  refine wa rfl rfl <| w_nil <| e_seq <| esr <| wm rfl rfl ?_
  refine w_val (v_is (v' := .bool false) (v_neqPtr uT259 rfl rfl) (by rfl)) rfl ?_
  refine w_nil <| e_condF rfl <| e_skip <| esr <| wm rfl rfl ?_
  refine w_val (v_is (v' := .bool false) (v_neqPtr uT259 rfl rfl) (by rfl)) rfl ?_
  refine wa rfl rfl <| w_nil ?_
  refine e_retQ (q_ret1 rfl (.tmp rfl) ?_)
  exact fun w' hw' => ⟨(), trivial, rfl, hw'.res⟩
 | true =>
  obtain ⟨k, rfl, hk, hlt, s, hs1, hs2, hs3, hs4⟩ := hasT_true hht
  obtain ⟨hvd, hn0⟩ := hg k hk s hs4 hs3
  refine w_heap (fun _ hw => hw.tbTake hk) ?_
  refine g_shapeW 0 rfl (by omega) fun g cap hhk hcap => ?_
  dsimp only at hhk
  rw [slotP_true hht hhk, hhk]
  have hsl : s = ⟨by_, true, false, 0⟩ := by cases s; simp_all
  subst hsl
  have hlen := slotCells_len (T k)
  have e1 := slot_put (l := T k) (s' := ⟨by_, false, false, 0⟩) (j := 1) (v := .bool false) hs1 rfl (by decide) rfl
  have e2 := slot_put (l := (T k).set ((T k).findIdx (isO by_)) ⟨by_, false, false, 0⟩) (i := (T k).findIdx (isO by_)) (s := ⟨by_, false, false, 0⟩) (s' := ⟨by_, false, false, n⟩) (j := 3) (v := .int .i64 n) (by rw [List.getElem?_set_self hlt]) rfl (by decide) rfl
  rw [List.set_set] at e2
  rw [chgT_nat hk]
  unfold chgL
  have hlen2 := slotCells_len ((T k).set ((T k).findIdx (isO by_)) ⟨by_, false, false, 0⟩)
  rw [List.length_set] at hlen2
  have hlen3 : ((T k).set ((T k).findIdx (isO by_)) ⟨by_, false, false, n⟩).length = (T k).length := List.length_set
  generalize hi : (T k).findIdx (isO by_) = i at *
  refine wa rfl rfl <| w_nil <| e_seq <| esr <| wm rfl rfl ?_
  refine w_val (v_is (v' := .bool true) (v_neqPtr uT259 rfl rfl) (by rfl)) rfl ?_
  refine w_nil <| e_condT rfl <| e_region <| wm rfl rfl <| wm rfl rfl <| wm rfl rfl <| wn rfl rfl <| w_val (v_fieldAddrB (o := 1) uT230 rfl rfl Tryz.nz4 rfl) rfl <| w_op rfl ?_
  refine x_storeW (o := 0 + i * 4 + 1) 0 rfl rfl rfl Tryz.hi4 Tryz.cz4 (by simp [Value.cells]; omega) (by simp [Value.cells, Value.oneCell']) _ e1 ?_
  refine wn rfl rfl <| w_val (v_fieldAddrB (o := 3) uT230 rfl rfl Tryz.nz2 rfl) rfl <| w_op rfl ?_
  refine x_storeW (o := 0 + i * 4 + 3) 0 rfl rfl rfl Tryz.hi2 Tryz.cz2 (by simp [Value.cells]; omega) (by simp [Value.cells, Value.oneCell']) _ e2 ?_
  refine wsr <| wm rfl rfl ?_
  refine w_val (v_is (v' := .bool true) (v_neqPtr uT259 rfl rfl) (by rfl)) rfl ?_
  refine wa rfl rfl <| w_nil ?_
  refine e_retQ (q_ret1 rfl (.tmp rfl) ?_)
  refine fun w' hw' => ⟨(), trivial, rfl, ?_⟩
  have h1 := St.tbPut (hs := hs) (k := k) hw'
  rw [← hhk, upd_self, rows_upd hlen3] at h1
  exact h1.res
theorem tabVoid_spec (p : Nat) (hs : Nat → Value) (T : TabL) (k by_ : Int) (w : World) (h : ∀ c ∈ tbH p 228 hs T, c.holds w) (hsep : (tbH p 228 hs T).Pairwise Disj) (hn : ∀ k, k < 10 → (T k).length ≤ 1000) (hg : GoodT T) :
  Calls Tryz.prog 184 #[.pointer (some ⟨p, 0, none⟩), .int .i64 k , .int .i64 by_] w fun e w' => ∃ _ : Unit, True ∧ e = .returned (.bool (hasT T k by_)) ∧ Res w (tbH p 228 hs T) (tbH p 228 hs (chgT T k by_ ⟨by_, false, true, 0⟩)) w' := by
 refine enter (mc := tbH p 228 hs T) (N := 22) Tryz.func184 rfl rfl rfl ?_ ?_ ?_
 ·exact h
 ·exact hsep
 refine esr <| wa rfl rfl <| wsr <| wm rfl rfl <| wm rfl rfl <| wm rfl rfl <| w_op rfl ?_
 refine x_call0 (v := .pointer (slotP hs T k by_)) rfl rfl rfl Tryz.call190 rfl (fun w hw => tabSlot_spec p hs T k by_ w (TbV.of hw.hold) hn) ?_
 cases hht : hasT T k by_ with
 | false =>
  have hsp : slotP hs T k by_ = none := by unfold slotP; rw [hht]; rfl
  rw [hsp, chgT_none hht]
  refine wa rfl rfl <| w_nil <| e_seq <| esr <| wm rfl rfl ?_
  refine w_val (v_is (v' := .bool false) (v_neqPtr uT259 rfl rfl) (by rfl)) rfl ?_
  refine w_nil <| e_condF rfl <| e_skip <| esr <| wm rfl rfl ?_
  refine w_val (v_is (v' := .bool false) (v_neqPtr uT259 rfl rfl) (by rfl)) rfl ?_
  refine wa rfl rfl <| w_nil ?_
  refine e_retQ (q_ret1 rfl (.tmp rfl) ?_)
  exact fun w' hw' => ⟨(), trivial, rfl, hw'.res⟩
 | true =>
  obtain ⟨k, rfl, hk, hlt, s, hs1, hs2, hs3, hs4⟩ := hasT_true hht
  obtain ⟨hvd, hn0⟩ := hg k hk s hs4 hs3
  refine w_heap (fun _ hw => hw.tbTake hk) ?_
  refine g_shapeW 0 rfl (by omega) fun g cap hhk hcap => ?_
  dsimp only at hhk
  rw [slotP_true hht hhk, hhk]
  have hsl : s = ⟨by_, true, false, 0⟩ := by cases s; simp_all
  subst hsl
  have hlen := slotCells_len (T k)
  have e1 := slot_put (l := T k) (s' := ⟨by_, false, false, 0⟩) (j := 1) (v := .bool false) hs1 rfl (by decide) rfl
  have e2 := slot_put (l := (T k).set ((T k).findIdx (isO by_)) ⟨by_, false, false, 0⟩) (i := (T k).findIdx (isO by_)) (s := ⟨by_, false, false, 0⟩) (s' := ⟨by_, false, true, 0⟩) (j := 2) (v := .bool true) (by rw [List.getElem?_set_self hlt]) rfl (by decide) rfl
  rw [List.set_set] at e2
  rw [chgT_nat hk]
  unfold chgL
  have hlen2 := slotCells_len ((T k).set ((T k).findIdx (isO by_)) ⟨by_, false, false, 0⟩)
  rw [List.length_set] at hlen2
  have hlen3 : ((T k).set ((T k).findIdx (isO by_)) ⟨by_, false, true, 0⟩).length = (T k).length := List.length_set
  generalize hi : (T k).findIdx (isO by_) = i at *
  refine wa rfl rfl <| w_nil <| e_seq <| esr <| wm rfl rfl ?_
  refine w_val (v_is (v' := .bool true) (v_neqPtr uT259 rfl rfl) (by rfl)) rfl ?_
  refine w_nil <| e_condT rfl <| e_region <| wm rfl rfl <| wm rfl rfl <| wn rfl rfl <| w_val (v_fieldAddrB (o := 1) uT230 rfl rfl Tryz.nz4 rfl) rfl <| w_op rfl ?_
  refine x_storeW (o := 0 + i * 4 + 1) 0 rfl rfl rfl Tryz.hi4 Tryz.cz4 (by simp [Value.cells]; omega) (by simp [Value.cells, Value.oneCell']) _ e1 ?_
  refine wn rfl rfl <| w_val (v_fieldAddrB (o := 2) uT230 rfl rfl Tryz.nz4 rfl) rfl <| w_op rfl ?_
  refine x_storeW (o := 0 + i * 4 + 2) 0 rfl rfl rfl Tryz.hi4 Tryz.cz4 (by simp [Value.cells]; omega) (by simp [Value.cells, Value.oneCell']) _ e2 ?_
  refine wsr <| wm rfl rfl ?_
  refine w_val (v_is (v' := .bool true) (v_neqPtr uT259 rfl rfl) (by rfl)) rfl ?_
  refine wa rfl rfl <| w_nil ?_
  refine e_retQ (q_ret1 rfl (.tmp rfl) ?_)
  refine fun w' hw' => ⟨(), trivial, rfl, ?_⟩
  have h1 := St.tbPut (hs := hs) (k := k) hw'
  rw [← hhk, upd_self, rows_upd hlen3] at h1
  exact h1.res
end Go.SL
end
