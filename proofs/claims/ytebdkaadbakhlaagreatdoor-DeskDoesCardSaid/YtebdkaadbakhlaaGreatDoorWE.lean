/- YtebdkaadbakhlaaGreatDoor: part WE of this seat's own texts. -/
import Derived.Test.YtebdkaadbakhlaaGreatDoorWC
import Derived.Test.YtebdkaadbakhlaaGreatDoorWA
set_option linter.unusedVariables false
set_option linter.unusedSimpArgs false
section
open Go Go.Proofs Go.SL
set_option maxRecDepth 100000
namespace Go.SL
theorem key_rng {d : DeedL} (h : (checkL d).1 = 0) {x : Int} (hx : x ∈ keysL d) : 0 ≤ x ∧ x < 10 := by
 obtain ⟨o, ho, h7, rfl⟩ := storesOf_mem.1 (keysL_mem.1 hx)
 obtain ⟨k, hk, rfl⟩ := List.getElem_of_mem ho
 obtain ⟨_, _, h3, _⟩ := fault_rng ((checked h).2 k hk).1
 rw [lims_store h7] at h3
 unfold badL at h3
 simp at h3
 omega
theorem nodup_le : ∀ {a b : List Int}, a.Nodup → (∀ x ∈ a, x ∈ b) → a.length ≤ b.length
 | [], _, _, _ => Nat.zero_le _
 | x :: t, b, h, hs => by
  have hx := hs x List.mem_cons_self
  obtain ⟨h1, h2⟩ := List.nodup_cons.1 h
  have h3 : t.length ≤ (b.erase x).length := nodup_le h2 (fun y hy => (List.mem_erase_of_ne (fun e => h1 (by rw [← e]; exact hy))).2 (hs y (List.mem_cons_of_mem _ hy)))
  have h4 := List.length_erase_of_mem hx
  have h5 := List.length_pos_of_mem hx
  simp only [List.length_cons]
  omega
theorem keysL_nodup (d : DeedL) : (keysL d).Nodup := (keysL_ris d).imp fun h e => by omega
theorem storesOf_len : ∀ (d : DeedL), (storesOf d).length ≤ d.length := fun d => by
 unfold storesOf
 rw [List.length_map]
 exact List.length_filter_le ..
theorem keysL_le (d : DeedL) : (keysL d).length ≤ d.length := Nat.le_trans (nodup_le (keysL_nodup _) (fun x hx => keysL_mem.1 hx)) (storesOf_len d)
theorem deedCells_take (d : DeedL) (j : Nat) : deedCells (d.take j) = (deedCells d).take (j * 5) := by
 induction d generalizing j with
 | nil => simp [deedCells]
 | cons o d ih =>
  cases j with
  | zero => simp [deedCells]
  | succ j =>
   have := ih j
   simp only [deedCells, List.take_succ_cons, List.flatMap_cons] at this ⊢
   rw [this, show (j + 1) * 5 = (opCells o).length + j * 5 from by simp [opCells]; omega, List.take_length_add_append]
theorem IsDeed.take {c : View} {A : Option Addr} {k j : Nat} {d : DeedL} (h : IsDeed c (.slice A d.length k) d) (hj : j ≤ d.length) : IsDeed c (.slice A j k) (d.take j) := by
 have h3 := slV_rds (lo := 0) (hi := j) h (Nat.zero_le _) hj
 have e : (d.take j).length = j := by simp; omega
 rw [slV_0'] at h3
 unfold IsDeed
 rw [e, deedCells_take]
 simpa using h3
end Go.SL
end
section
open Go Go.Proofs Go.SL
set_option maxRecDepth 100000
namespace Go.SL
theorem RoundV.is {v : Value} {vs : List Value} {r : RoundL} {c : View} (h : RoundV v vs r c) : IsRound c v r := Deeds.round h.2 h.1
end Go.SL
end
section
open Go Go.Proofs Go.SL
set_option maxRecDepth 100000
namespace Go.SL
abbrev tbH (p e : Nat) (hs : Nat → Value) (T : TabL) : Hp := [.blk p e (tab 10 hs), Rows 230 4 10 hs (fun k => ((T k).length, slotCells (T k)))]
structure TbV (c : View) (p : Nat) (hs : Nat → Value) (T : TabL) : Prop where
 hdr : ∀ k : Nat, k < 10 → c ⟨p, 0 + ((k : Int)).toNat * 1, none⟩ = some (hs k)
 row : ∀ k : Nat, k < 10 → IsSlots c (hs k) (T k)
theorem TbV.mono {c c' : View} (hl : Le c c') {p : Nat} {hs : Nat → Value} {T : TabL} (h : TbV c p hs T) : TbV c' p hs T := ⟨fun k hk => hl _ _ (h.hdr k hk), fun k hk => (h.row k hk).mono hl⟩
theorem TbV.at {c : View} {p : Nat} {hs : Nat → Value} {T : TabL} (h : TbV c p hs T) {k : Nat} (hk : k < 10) : ∃ A cap, hs k = .slice A (T k).length cap ∧ (T k).length ≤ cap ∧ c ⟨p, 0 + ((k : Int)).toNat * 1, none⟩ = some (.slice A (T k).length cap) ∧ ∀ i (hi : i < (T k).length), ∃ ad, A = some ad ∧ Cells c (ad.add (i * 4)) (slotC (T k)[i]) := by
 obtain ⟨A, cap, h1, h2, h3⟩ := (h.row k hk).form
 exact ⟨A, cap, h1, h2, h1 ▸ h.hdr k hk, h3⟩
theorem tabKey_spec (k : Int) (w : World) : Calls Tryz.prog 191 #[.int .i64 k] w fun e w' => e = .returned (.bool (decide (0 ≤ k ∧ k < 10))) ∧ Res w [] [] w' := by
 refine enter0 (N := 9) Tryz.func191 rfl rfl rfl <| esr <| wa rfl rfl <| w_nil <| e_seq ?_
 refine e_test 2 (decide (0 ≤ k ∧ k < 10)) ?_ ?_
 ·refine e_region <| wm rfl rfl ?_
  refine w_valD (v_geq rfl rfl) rfl (fun hg1 => ?_) (fun hg1 => ?_)
  ·refine wm rfl rfl <| w_want rfl rfl <| wm rfl rfl <| w_want rfl rfl ?_
   refine w_valD (v_lss rfl rfl) rfl (fun hg4 => ?_) (fun hg4 => ?_)
   ·refine w_val (v_pickT rfl rfl) rfl <| wa rfl rfl <| w_nil ?_
    exact e_testEnd rfl (by first | (simp_all; done) | (simp_all; omega)) (by repeat (first | exact Sub.refl _ | exact Sub.nil _ | exact Sub.del _ _ | refine Sub.skip rfl ?_)) (fun _ hw => hw)
   ·refine w_val (v_pickT rfl rfl) rfl <| wa rfl rfl <| w_nil ?_
    exact e_testEnd rfl (by first | (simp_all; done) | (simp_all; omega)) (by repeat (first | exact Sub.refl _ | exact Sub.nil _ | exact Sub.del _ _ | refine Sub.skip rfl ?_)) (fun _ hw => hw)
  ·refine wm rfl rfl <| w_skip rfl rfl rfl rfl <| w_skip rfl rfl rfl rfl <| w_val (v_pickF rfl rfl) rfl <| wa rfl rfl <| w_nil ?_
   exact e_testEnd rfl (by first | (simp_all; done) | (simp_all; omega)) (by repeat (first | exact Sub.refl _ | exact Sub.nil _ | exact Sub.del _ _ | refine Sub.skip rfl ?_)) (fun _ hw => hw)
 refine e_retQ (q_ret1 rfl (.tmp rfl) ?_)
 exact fun w' hw' => ⟨rfl, hw'.res.nil⟩
theorem slIndexFunc_spec (v : Value) (l : List SlotL) (g : Nat) (caps : List Value) (p : SlotL → Bool) (w : World) (h : IsSlots w.cell? v l) (hmax : l.length ≤ 1000)
  (hcall : ∀ args w, (callFunc g args).run Tryz.prog w = .ok (.enter g args) w) (hp : ∀ s ∈ l, ∀ w', Le (off w (feet [])) w'.cell? → Calls Tryz.prog g (slotV s :: caps).toArray w' fun e w'' => e = .returned (.bool (p s)) ∧ Res w' [] [] w'') :
  Calls Tryz.prog 202 #[v, .func (.func g) #[] caps.toArray] w fun e w' => e = .returned (.int .i64 (if l.any p = true then ((l.findIdx p : Nat) : Int) else -1)) ∧ Res w [] [] w' := by
 rw [← off_none w] at h
 obtain ⟨A, kp, rfl, hle, hc⟩ := h.form
 refine enter0 (N := 19) Tryz.func202 rfl rfl rfl <| esr <| wa rfl rfl <| w_nil <| e_seq <| esr <| wm rfl rfl <| w_val (v_lenS uT225 rfl) rfl <| wm rfl rfl <| w_nil <| e_block ?_
 refine e_loopK (σ := Nat) [0, 1] (.cons rfl (.cons rfl .nil)) (fun k => [(7, .int .i64 l.length), (8, .int .i64 (k : Int))]) (fun k => k ≤ l.length ∧ ∀ s ∈ l.take k, p s = false) (fun k => l.length - k) 0 ⟨by omega, by simp⟩ (by repeat first | exact .nil _ | refine .cons rfl ?_) ?_
 rintro k ⟨hk, hno⟩
 refine esr <| w_val (v_lss rfl rfl) rfl <| w_nil <| e_seq ?_
 refine e_condD rfl (fun hlt => ?_) (fun hlt => ?_)
 ·have hlt' : k < l.length := by omega
  obtain ⟨ad, rfl, hcell⟩ := hc k hlt'
  have hnext : l.take (k + 1) = l.take k ++ [l[k]] := List.take_succ_eq_append_getElem hlt'
  have hps := hp l[k] (List.getElem_mem _)
  have hit := fun h : p l[k] = true => (⟨any_at hlt' h, find_is hlt' h hno⟩ : l.any p = true ∧ l.findIdx p = k)
  generalize l[k] = y at *
  refine e_skip <| e_seq <| e_block <| esr <| wm rfl rfl <| wa rfl rfl <| wsr <| wm rfl rfl <| wm rfl rfl <| wm rfl rfl ?_
  refine w_val (v_indexS uT225 Tryz.hi230 Tryz.cz230 rfl rfl (by first | omega | decide)) rfl ?_
  refine w_val (v_loadON uT230 rfl Tryz.hi230 rfl (hcell) Tryz.cz230) rfl <| w_op rfl ?_
  refine x_call0 (v := .bool (p y)) rfl rfl (by simp [slotV, slotC]) hcall rfl (fun w hw => hps w hw.off) ?_
  refine w_nil ?_
  cases hpy : p y with
  | true =>
   obtain ⟨h1, h2⟩ := hit hpy
   refine e_condT rfl <| esr <| wm rfl rfl <| wa rfl rfl <| w_nil ?_
   refine e_retQ (q_ret1 rfl (.tmp rfl) ?_)
   exact fun w' hw' => ⟨by rw [if_pos h1, h2], hw'.res.nil⟩
  | false =>
   refine e_condF rfl <| e_skip <| e_blk <| e_region ?_
   refine w_val (v_add rfl rfl (by omega)) rfl ?_
   refine wm rfl rfl <| w_nil ?_
   exact e_round (k + 1) (⟨by omega, by rw [hnext]; intro s hs; rcases List.mem_append.1 hs with hs | hs; exact hno s hs; rw [List.mem_singleton.1 hs]; exact hpy⟩) (by omega) (by repeat first | exact .nil _ | refine .cons rfl ?_) (fun _ hw => hw)
 ·have hall : l.any p = false := any_not (by
   have e : k = l.length := by omega
   rw [e, List.take_length] at hno
   exact hno)
  refine e_exit rfl <| esr <| wa rfl rfl <| w_nil ?_
  refine e_retQ (q_ret1 rfl (.tmp rfl) ?_)
  exact fun w' hw' => ⟨by rw [hall]; rfl, hw'.res.nil⟩
theorem slot1_spec (s : SlotL) (b : Nat) (by_ : Int) (w : World) (h : w.cell? ⟨b, 0, none⟩ = some (.int .i64 by_)) : Calls Tryz.prog 203 #[slotV s, .pointer (some ⟨b, 0, none⟩)] w fun e w' => e = .returned (.bool (isO by_ s)) ∧ Res w [] [] w' := by
 rw [← off_none w] at h
 refine enter0 (N := 12) Tryz.func203 rfl rfl rfl ?_
 by_cases hb : s.by_ = by_
 ·have : isO by_ s = s.opn := by unfold isO; rw [decide_eq_true hb, Bool.true_and]
  rw [this]
  refine esr <| w_op rfl ?_
  refine x_box rfl rfl (fun b2 => ?_)
  refine wa rfl rfl <| w_nil <| e_seq <| e_region <| w_val (v_fieldAddrB (o := 0) uT230 rfl rfl Tryz.nz3 rfl) rfl <| w_val (v_loadB 0 rfl uT3 rfl rfl rfl) rfl <| w_val (v_loadO uT3 rfl rfl h) rfl ?_
  refine w_val (v_is (v' := .bool true) (v_eql rfl rfl) (by rw [decide_eq_true hb])) rfl ?_
  refine wm rfl rfl <| w_want rfl rfl <| w_val (v_fieldAddrB (o := 1) uT230 rfl rfl Tryz.nz4 rfl) rfl <| w_want rfl rfl <| w_val (v_loadB 0 rfl uT4 rfl rfl rfl) rfl <| w_val (v_pickT rfl rfl) rfl <| wa rfl rfl <| w_nil ?_
  refine e_retQ (q_ret1 rfl (.tmp rfl) ?_)
  exact fun w' hw' => ⟨rfl, hw'.res.nil⟩
 ·have : isO by_ s = false := by unfold isO; rw [decide_eq_false hb, Bool.false_and]
  rw [this]
  refine esr <| w_op rfl ?_
  refine x_box rfl rfl (fun b2 => ?_)
  refine wa rfl rfl <| w_nil <| e_seq <| e_region <| w_val (v_fieldAddrB (o := 0) uT230 rfl rfl Tryz.nz3 rfl) rfl <| w_val (v_loadB 0 rfl uT3 rfl rfl rfl) rfl <| w_val (v_loadO uT3 rfl rfl h) rfl ?_
  refine w_val (v_is (v' := .bool false) (v_eql rfl rfl) (by rw [decide_eq_false hb])) rfl ?_
  refine wm rfl rfl <| w_skip rfl rfl rfl rfl <| w_skip rfl rfl rfl rfl <| w_val (v_pickF rfl rfl) rfl <| wa rfl rfl <| w_nil ?_
  refine e_retQ (q_ret1 rfl (.tmp rfl) ?_)
  exact fun w' hw' => ⟨rfl, hw'.res.nil⟩
end Go.SL
end
