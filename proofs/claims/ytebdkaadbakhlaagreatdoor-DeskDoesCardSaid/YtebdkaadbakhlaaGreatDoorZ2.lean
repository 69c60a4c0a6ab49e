/- YtebdkaadbakhlaaGreatDoor: part Z2 of this seat's own texts. -/
import Derived.Lib.ItoaLen
import Derived.Test.YtebdkaadbakhlaaGreatDoorZ1
import Derived.Test.YtebdkaadbakhlaaGreatDoorW1
import Derived.Test.YtebdkaadbakhlaaGreatDoorW2
import Derived.Test.YtebdkaadbakhlaaGreatDoorP1
set_option linter.unusedVariables false
set_option linter.unusedSimpArgs false
section
open Go Go.Proofs Go.SL
set_option maxRecDepth 100000
namespace Go.SL
abbrev kNames : List (List UInt8) := [[], [110, 117, 109], [108, 111, 97, 100], [97, 100, 100], [115, 117, 98], [109, 117, 108], [108, 101, 115, 115], [115, 116, 111, 114, 101], [115, 116, 111, 112], [115, 107, 105, 112]]
abbrev kCounts : List Int := [0, 2, 2, 3, 3, 3, 3, 2, 1, 2]
def numsOf (o : OpL) : List Int := if o.kind = 1 then [o.a, o.n] else if o.kind = 8 then [o.a] else if o.kind = 2 ∨ o.kind = 7 ∨ o.kind = 9 then [o.a, o.b] else [o.a, o.b, o.c]
def opText (o : OpL) : List UInt8 := kNames.getD o.kind.toNat [] ++ (numsOf o).flatMap fun x => 32 :: Lib.itoa x
def printL (d : DeedL) : List UInt8 := Lib.join (d.map opText) [59, 32]
def longL (s : List UInt8) : Option Int := match Lib.parseIntB 64 s with
 | .ok v => if Lib.itoa v = s then some v else none
 | _ => none
def kindTo (x : List UInt8) : Nat → Nat
 | 0 => 0
 | k + 1 => if 0 < k ∧ kNames.getD k [] = x then k else kindTo x k
def kindOf (x : List UInt8) : Nat := kindTo x 10
def numsL : List (List UInt8) → Option (List Int)
 | [] => some []
 | x :: r => match longL x, numsL r with
  | some v, some vs => some (v :: vs)
  | _, _ => none
def opOf (k : Nat) (ns : List Int) : OpL := if k = 1 then ⟨1, ns.getD 0 0, 0, 0, ns.getD 1 0⟩ else ⟨k, ns.getD 0 0, ns.getD 1 0, ns.getD 2 0, 0⟩
def oneL (l : List (List UInt8)) : Option OpL :=
 if kindOf (l.headD []) = 0 ∨ (l.length : Int) ≠ 1 + kCounts.getD (kindOf (l.headD [])) 0 then none else (numsL l.tail).map (opOf (kindOf (l.headD [])))
def parseFrom (i : Nat) (acc : DeedL) : List (List UInt8) → DeedL × (Int × Int)
 | [] => if (checkL acc).1 ≠ 0 then ([], checkL acc) else (acc, (0, 0))
 | p :: ps => match oneL (wordsL p) with
  | none => ([], (10, (i : Int)))
  | some o => parseFrom (i + 1) (acc ++ [o]) ps
def parseL (s : List UInt8) : DeedL × (Int × Int) := if wordsL s = [] then ([], (0, 0)) else parseFrom 0 [] (splitL 59 s)
theorem kindTo_le (x : List UInt8) : ∀ k, kindTo x k ≤ k - 1
 | 0 => Nat.le_refl _
 | k + 1 => by
  unfold kindTo
  split
  ·omega
  ·have := kindTo_le x k; omega
theorem kindOf_le (x : List UInt8) : kindOf x ≤ 9 := kindTo_le x 10
theorem kindTo_nil : ∀ k, k ≤ 10 → kindTo [] k = 0
 | 0, _ => rfl
 | k + 1, h => by
  unfold kindTo
  rw [kindTo_nil k (by omega), if_neg]
  rintro ⟨h1, h2⟩
  have : k = 1 ∨ k = 2 ∨ k = 3 ∨ k = 4 ∨ k = 5 ∨ k = 6 ∨ k = 7 ∨ k = 8 ∨ k = 9 := by omega
  rcases this with rfl | rfl | rfl | rfl | rfl | rfl | rfl | rfl | rfl <;> simp at h2
theorem long_in {s : List UInt8} {v : Int} (h : longL s = some v) : Lib.parseIntB 64 s = .ok v ∧ Lib.itoa v = s ∧ In64 v := by
 unfold longL at h
 cases hp : Lib.parseIntB 64 s with
 | ok u =>
  rw [hp] at h
  dsimp only at h
  split at h
  ·rename_i h2
   injection h with h
   subst h
   have := Lib.parseIntB_bounds hp
   exact ⟨rfl, h2, by unfold In64; omega⟩
  ·cases h
 | _ => rw [hp] at h; cases h
theorem parse_in {s : List UInt8} {v : Int} (hp : Lib.parseIntB 64 s = .ok v) : In64 v := by
 have := Lib.parseIntB_bounds hp
 unfold In64; omega
theorem itoa_len {n : Int} (h : In64 n) : (Lib.itoa n).length ≤ 21 := Lib.itoa_length_le n h.1 h.2
end Go.SL
end
section
open Go Go.Proofs Go.SL Go.RowKit
set_option maxRecDepth 100000
set_option maxHeartbeats 4000000
namespace Go.SL
theorem txNum_spec (n : Int) (w : World) (h : In64 n) (hL : LaidD w) : Calls Tryz.prog 155 #[.int .i64 n] w fun e w' => e = .returned (strV (Lib.itoa n)) ∧ Res w [] [] w' := by
 refine enter0 (N := 5) Tryz.func155 rfl rfl rfl <| esr <| wa rfl rfl <| wsr <| wm rfl rfl <| w_op rfl ?_
 refine x_call0 (v := strV (Lib.itoa n)) rfl rfl rfl Tryz.call46 rfl (fun w hw => itoa_spec n w h (hL.chg hw.chg)) ?_
 refine wa rfl rfl <| w_nil ?_
 refine e_retQ (q_ret1 rfl (.tmp rfl) ?_)
 exact fun w' hw' => ⟨rfl, hw'.res.nil⟩
theorem refNum_spec (n : Int) (w : World) (h : In64 n) (hL : LaidD w) : Calls Tryz.prog 30 #[.int .i64 n] w fun e w' => e = .returned (strV (Lib.itoa n)) ∧ Res w [] [] w' := by
 refine enter0 (N := 5) Tryz.func30 rfl rfl rfl <| esr <| wa rfl rfl <| wsr <| wm rfl rfl <| w_op rfl ?_
 refine x_call0 (v := strV (Lib.itoa n)) rfl rfl rfl Tryz.call46 rfl (fun w hw => itoa_spec n w h (hL.chg hw.chg)) ?_
 refine wa rfl rfl <| w_nil ?_
 refine e_retQ (q_ret1 rfl (.tmp rfl) ?_)
 exact fun w' hw' => ⟨rfl, hw'.res.nil⟩
theorem words_spec (w : World) : Calls Tryz.prog 112 #[] w fun e w' => ∃ b : Nat, True ∧ e = .returned (.slice (some ⟨b, 0, none⟩) 10 10) ∧ Res w [] [.blk b 9 (strC kNames)] w' := by
 refine enter0 (N := 2) Tryz.func112 rfl rfl rfl <| esr <| wa rfl rfl <| wsr <| w_op rfl ?_
 refine x_buildSlice _ (strC kNames) rfl (run_buildSlice uT22 Tryz.hi9 Tryz.cz9 Tryz.zeroValue9 rfl (by kernel_rfl)) rfl (fun b1 => ?_)
 refine wa rfl rfl <| w_nil ?_
 refine e_retQ (q_ret1 rfl (.tmp rfl) ?_)
 exact fun w' hw' => ⟨b1, trivial, rfl, hw'.res⟩
theorem counts_at {k : Int} (h1 : 0 ≤ k) (h2 : k ≤ 9) : (#[Value.int .i64 0, .int .i64 2, .int .i64 2, .int .i64 3, .int .i64 3, .int .i64 3, .int .i64 3, .int .i64 2, .int .i64 1, .int .i64 2] : Array Value)[k.toNat]? = some (.int .i64 (kCounts.getD k.toNat 0)) := by
 have : k = 0 ∨ k = 1 ∨ k = 2 ∨ k = 3 ∨ k = 4 ∨ k = 5 ∨ k = 6 ∨ k = 7 ∨ k = 8 ∨ k = 9 := by omega
 rcases this with rfl | rfl | rfl | rfl | rfl | rfl | rfl | rfl | rfl | rfl <;> rfl
theorem parts_spec (k : Int) (w : World) (h1 : 0 ≤ k) (h2 : k ≤ 9) : Calls Tryz.prog 113 #[.int .i64 k] w fun e w' => e = .returned (.int .i64 (kCounts.getD k.toNat 0)) ∧ Res w [] [] w' := by
 refine enter0 (N := 6) Tryz.func113 rfl rfl rfl <| esr <| wa rfl rfl <| wsr ?_
 refine w_val (v_build (v := .agg #[.int .i64 0, .int .i64 2, .int .i64 2, .int .i64 3, .int .i64 3, .int .i64 3, .int .i64 3, .int .i64 2, .int .i64 1, .int .i64 2]) _ rfl (by intro _; simp [Instr.build, Instr.fill, Tryz.zeroValue190, go_sem])) rfl ?_
 refine wm rfl rfl ?_
 refine w_val (v_indexV uT190 uT3 rfl Tryz.hi3 Tryz.cz3 rfl rfl (by omega) (counts_at h1 h2)) rfl ?_
 refine wa rfl rfl <| w_nil ?_
 refine e_retQ (q_ret1 rfl (.tmp rfl) ?_)
 exact fun w' hw' => ⟨rfl, hw'.res.nil⟩
end Go.SL
end
section
namespace Go.SL
section
theorem wpAnyH_mono {P : Program} {md : Region.Mode} {ops : Array Oper} {Q : Exit → Act → World → Prop} {S S' : World → Prop} (hS : ∀ w, S' w → S w) : ∀ (fuel : Nat) (listed : Array Bool) (a : Act) (w : World), wpAnyH P md ops Q S' fuel listed a w → wpAnyH P md ops Q S fuel listed a w
 | 0, _, _, _, h => h
 | fuel + 1, _, _, _, h => ⟨h.1, fun i hi => wpOp_mono (fun _ _ h' => ⟨hS _ h'.1, wpAnyH_mono hS fuel _ _ _ h'.2⟩) (h.2 i hi)⟩
theorem a_base {C : Cx} {ks : List Kt} {l : Fr} {m : Hp} {ops : Array Oper} {base : Hp} {fuel : Nat} {listed : Array Bool} (base' : Hp) (hb : ∀ w, St C.w0 C.F base' w → St C.w0 C.F base w) (h : A C ops ks base' fuel listed l m) : A C ops ks base fuel listed l m :=
 fun a w ha hw => wpAnyH_mono hb _ _ _ _ (h a w ha hw)
end
end Go.SL
end
section
open Go Go.Proofs Go.SL Go.RowKit
set_option maxRecDepth 100000
set_option maxHeartbeats 4000000
namespace Go.SL
def opT (o : OpL) : List UInt8 := (kNames.getD o.kind.toNat [] ++ [32]) ++ Lib.itoa o.a
theorem opText1 {o : OpL} (h : o.kind = 1) : opT o ++ ([32] ++ Lib.itoa o.n) = opText o := by simp [opT, opText, numsOf, h]
theorem opText2 {o : OpL} (h : o.kind = 2 ∨ o.kind = 7 ∨ o.kind = 9) : opT o ++ ([32] ++ Lib.itoa o.b) = opText o := by
 have h1 : o.kind ≠ 1 := by omega
 have h8 : o.kind ≠ 8 := by omega
 simp [opT, opText, numsOf, h, h1, h8]
theorem opText3 {o : OpL} (h : o.kind = 3 ∨ o.kind = 4 ∨ o.kind = 5 ∨ o.kind = 6) : opT o ++ ((([32] ++ Lib.itoa o.b) ++ [32]) ++ Lib.itoa o.c) = opText o := by
 have h1 : o.kind ≠ 1 := by omega
 have h8 : o.kind ≠ 8 := by omega
 have h2 : ¬ (o.kind = 2 ∨ o.kind = 7 ∨ o.kind = 9) := by omega
 simp [opT, opText, numsOf, h2, h1, h8]
theorem opText8 {o : OpL} (h : o.kind = 8) : opT o = opText o := by simp [opT, opText, numsOf, h]
theorem name_at {k : Int} (h1 : 0 ≤ k) (h2 : k ≤ 9) : (strC kNames)[0 + k.toNat * 1]? = some (strV (kNames.getD k.toNat [])) := by
 have : k = 0 ∨ k = 1 ∨ k = 2 ∨ k = 3 ∨ k = 4 ∨ k = 5 ∨ k = 6 ∨ k = 7 ∨ k = 8 ∨ k = 9 := by omega
 rcases this with rfl | rfl | rfl | rfl | rfl | rfl | rfl | rfl | rfl | rfl <;> rfl
theorem name_len {k : Int} : (kNames.getD k.toNat []).length ≤ 5 := by
 by_cases h : k.toNat < 10
 ·have : k.toNat = 0 ∨ k.toNat = 1 ∨ k.toNat = 2 ∨ k.toNat = 3 ∨ k.toNat = 4 ∨ k.toNat = 5 ∨ k.toNat = 6 ∨ k.toNat = 7 ∨ k.toNat = 8 ∨ k.toNat = 9 := by omega
  rcases this with e | e | e | e | e | e | e | e | e | e <;> rw [e] <;> decide
 ·have : kNames.getD k.toNat [] = [] := by simp [List.getD, List.getElem?_eq_none (show kNames.length ≤ k.toNat by simp; omega)]
  rw [this]; decide
theorem opT_len {o : OpL} (h : OpIn o) : (opT o).length ≤ 27 := by
 have h1 := name_len (k := o.kind)
 have h2 := itoa_len h.a
 simp only [opT, List.length_append, List.length_cons, List.length_nil]; omega
theorem opText_len {o : OpL} (h : OpIn o) : (opText o).length ≤ 100 := by
 have h1 := name_len (k := o.kind)
 have h2 := itoa_len h.a
 have h3 := itoa_len h.b
 have h4 := itoa_len h.c
 have h5 := itoa_len h.n
 unfold opText numsOf
 split
 ·simp only [List.flatMap_cons, List.flatMap_nil, List.length_append, List.length_cons, List.length_nil]; omega
 ·split
  ·simp only [List.flatMap_cons, List.flatMap_nil, List.length_append, List.length_cons, List.length_nil]; omega
  ·split
   ·simp only [List.flatMap_cons, List.flatMap_nil, List.length_append, List.length_cons, List.length_nil]; omega
   ·simp only [List.flatMap_cons, List.flatMap_nil, List.length_append, List.length_cons, List.length_nil]; omega
theorem txOp_spec (o : OpL) (w : World) (hk : 1 ≤ o.kind ∧ o.kind ≤ 9) (h : OpIn o) (hL : LaidD w) : Calls Tryz.prog 129 #[opV o] w fun e w' => e = .returned (strV (opText o)) ∧ Res w [] [] w' := by
 have hnm := name_at (k := o.kind) (by omega) hk.2
 have hnl := name_len (k := o.kind)
 have hla := itoa_len h.a
 have hlb := itoa_len h.b
 have hlc := itoa_len h.c
 have hln := itoa_len h.n
 have hlT := opT_len h
 have hT : opT o = (kNames.getD o.kind.toNat [] ++ [32]) ++ Lib.itoa o.a := rfl
 unfold opV
 refine enter0 (N := 51) Tryz.func129 rfl rfl rfl <| esr <| w_op rfl ?_
 refine x_box rfl rfl (fun b1 => ?_)
 refine wa rfl rfl <| w_nil <| e_seq ?_
 refine e_cutH (σ := Unit) [1] (.cons rfl .nil) (fun _ => [(3, strV (opT o))]) (fun _ => [.blk b1 109 (opCells o)]) (fun _ => True) ?_ ?_
 ·refine e_draw ([.blk b1 109 (opCells o)]) Tryz.mixed <| tk 1 rfl (v_fieldAddrB (o := 0) uT109 rfl rfl Tryz.nz3 rfl) rfl <| tk 2 rfl (v_loadB 0 rfl uT3 rfl rfl rfl) rfl <| tk 6 rfl (v_fieldAddrB (o := 1) uT109 rfl rfl Tryz.nz3 rfl) rfl <| tk 7 rfl (v_loadB 0 rfl uT3 rfl rfl rfl) rfl <| t1 0 rfl rfl ?_
  refine x_call (dst := some 4) (mc := []) (σ := Nat) (fun _ => True) (fun b => .slice (some ⟨b, 0, none⟩) 10 10) (fun b => [.blk b 9 (strC kNames)]) rfl rfl rfl Tryz.call112 (fun w hw => words_spec w) rfl (fun b4 _ => ?_)
  refine tn ?_
  refine a_base ([.blk b4 9 (strC kNames), .blk b1 109 (opCells o)]) (fun _ hw => hw.sub (by repeat first | exact .slnil | exact .refl _ | apply List.Sublist.cons_cons | apply List.Sublist.cons)) ?_
  refine tk 3 rfl (v_indexSB uT22 Tryz.hi9 Tryz.cz9 rfl rfl (by first | omega | decide)) rfl ?_
  refine tk 4 rfl (v_loadB 0 rfl uT9 rfl rfl hnm) rfl ?_
  refine tk 5 rfl (v_strAdd rfl rfl (by simp only [lnA]; omega)) rfl ?_
  refine t1 8 rfl rfl ?_
  refine x_call0 (v := strV (Lib.itoa o.a)) rfl rfl rfl Tryz.call155 rfl (fun w hw => txNum_spec _ w h.a (hL.chg hw.chg)) ?_
  refine tn ?_
  refine tk 9 rfl (v_strAdd rfl rfl (by simp only [lnA]; omega)) rfl ?_
  refine tk 10 rfl (v_assign rfl) rfl <| td ?_
  exact e_cutEnd () trivial (by repeat first | exact .nil _ | refine .cons rfl ?_) (fun _ hw => hw.sub (.cons _ (List.Sublist.refl _)))
 ·rintro - -
  generalize hTo : opT o = T at *
  refine e_seq <| esr <| w_val (v_fieldAddrB (o := 0) uT109 rfl rfl Tryz.nz3 rfl) rfl <| w_val (v_loadB 0 rfl uT3 rfl rfl rfl) rfl <| w_nil <| e_block <| esr <| w_val (v_eql rfl rfl) rfl <| wa rfl rfl <| w_nil ?_
  have hkk : o.kind = 1 ∨ o.kind = 2 ∨ o.kind = 7 ∨ o.kind = 9 ∨ o.kind = 3 ∨ o.kind = 4 ∨ o.kind = 5 ∨ o.kind = 6 ∨ o.kind = 8 := by omega
  rcases hkk with hk1 | hk1 | hk1 | hk1 | hk1 | hk1 | hk1 | hk1 | hk1
  ·refine e_condDT rfl (by omega) ?_
   refine e_region <| wm rfl rfl <| w_val (v_fieldAddrB (o := 4) uT109 rfl rfl Tryz.nz2 rfl) rfl <| w_val (v_loadB 0 rfl uT2 rfl rfl rfl) rfl <| w_op rfl ?_
   refine x_call0 (v := strV (Lib.itoa o.n)) rfl rfl rfl Tryz.call61 rfl (fun w hw => fmt_spec _ w h.n (hL.chg hw.chg)) ?_
   refine w_val (v_strAdd rfl rfl (by simp only [lnA]; omega)) rfl ?_
   refine w_val (v_strAdd rfl rfl (by simp only [lnA]; omega)) rfl ?_
   refine wa rfl rfl <| w_nil <| e_blk <| esr <| wm rfl rfl <| wa rfl rfl <| w_nil ?_
   refine e_retQ (q_ret1 rfl (.tmp rfl) ?_)
   exact fun w' hw' => ⟨by rw [← opText1 hk1, hTo], hw'.res.nil⟩
  ·refine e_condDF rfl (by omega) ?_
   refine e_seq <| esr ?_
   refine w_val (v_is (v' := .bool true) (v_eql rfl rfl) (by rw [decide_eq_true (by omega)])) rfl ?_
   refine wa rfl rfl <| w_nil <| e_condT rfl <| e_skip <| e_condT rfl <| e_region <| wm rfl rfl <| w_val (v_fieldAddrB (o := 2) uT109 rfl rfl Tryz.nz3 rfl) rfl <| w_val (v_loadB 0 rfl uT3 rfl rfl rfl) rfl <| w_op rfl ?_
   refine x_call0 (v := strV (Lib.itoa o.b)) rfl rfl rfl Tryz.call155 rfl (fun w hw => txNum_spec _ w h.b (hL.chg hw.chg)) ?_
   refine w_val (v_strAdd rfl rfl (by simp only [lnA]; omega)) rfl ?_
   refine w_val (v_strAdd rfl rfl (by simp only [lnA]; omega)) rfl ?_
   refine wa rfl rfl <| w_nil <| e_blk <| esr <| wm rfl rfl <| wa rfl rfl <| w_nil ?_
   refine e_retQ (q_ret1 rfl (.tmp rfl) ?_)
   exact fun w' hw' => ⟨by rw [← opText2 (by omega), hTo], hw'.res.nil⟩
  ·refine e_condDF rfl (by omega) ?_
   refine e_seq <| esr ?_
   refine w_val (v_is (v' := .bool false) (v_eql rfl rfl) (by rw [decide_eq_false (by omega)])) rfl ?_
   refine wa rfl rfl <| w_nil <| e_condF rfl <| esr ?_
   refine w_val (v_is (v' := .bool true) (v_eql rfl rfl) (by rw [decide_eq_true (by omega)])) rfl ?_
   refine wa rfl rfl <| w_nil <| e_condT rfl <| e_skip <| e_condT rfl <| e_region <| wm rfl rfl <| w_val (v_fieldAddrB (o := 2) uT109 rfl rfl Tryz.nz3 rfl) rfl <| w_val (v_loadB 0 rfl uT3 rfl rfl rfl) rfl <| w_op rfl ?_
   refine x_call0 (v := strV (Lib.itoa o.b)) rfl rfl rfl Tryz.call155 rfl (fun w hw => txNum_spec _ w h.b (hL.chg hw.chg)) ?_
   refine w_val (v_strAdd rfl rfl (by simp only [lnA]; omega)) rfl ?_
   refine w_val (v_strAdd rfl rfl (by simp only [lnA]; omega)) rfl ?_
   refine wa rfl rfl <| w_nil <| e_blk <| esr <| wm rfl rfl <| wa rfl rfl <| w_nil ?_
   refine e_retQ (q_ret1 rfl (.tmp rfl) ?_)
   exact fun w' hw' => ⟨by rw [← opText2 (by omega), hTo], hw'.res.nil⟩
  ·refine e_condDF rfl (by omega) ?_
   refine e_seq <| esr ?_
   refine w_val (v_is (v' := .bool false) (v_eql rfl rfl) (by rw [decide_eq_false (by omega)])) rfl ?_
   refine wa rfl rfl <| w_nil <| e_condF rfl <| esr ?_
   refine w_val (v_is (v' := .bool false) (v_eql rfl rfl) (by rw [decide_eq_false (by omega)])) rfl ?_
   refine wa rfl rfl <| w_nil <| e_condF rfl <| e_region ?_
   refine w_val (v_is (v' := .bool true) (v_eql rfl rfl) (by rw [decide_eq_true (by omega)])) rfl ?_
   refine wa rfl rfl <| w_nil <| e_condT rfl <| e_region <| wm rfl rfl <| w_val (v_fieldAddrB (o := 2) uT109 rfl rfl Tryz.nz3 rfl) rfl <| w_val (v_loadB 0 rfl uT3 rfl rfl rfl) rfl <| w_op rfl ?_
   refine x_call0 (v := strV (Lib.itoa o.b)) rfl rfl rfl Tryz.call155 rfl (fun w hw => txNum_spec _ w h.b (hL.chg hw.chg)) ?_
   refine w_val (v_strAdd rfl rfl (by simp only [lnA]; omega)) rfl ?_
   refine w_val (v_strAdd rfl rfl (by simp only [lnA]; omega)) rfl ?_
   refine wa rfl rfl <| w_nil <| e_blk <| esr <| wm rfl rfl <| wa rfl rfl <| w_nil ?_
   refine e_retQ (q_ret1 rfl (.tmp rfl) ?_)
   exact fun w' hw' => ⟨by rw [← opText2 (by omega), hTo], hw'.res.nil⟩
  ·refine e_condDF rfl (by omega) ?_
   refine e_seq <| esr ?_
   refine w_val (v_is (v' := .bool false) (v_eql rfl rfl) (by rw [decide_eq_false (by omega)])) rfl ?_
   refine wa rfl rfl <| w_nil <| e_condF rfl <| esr ?_
   refine w_val (v_is (v' := .bool false) (v_eql rfl rfl) (by rw [decide_eq_false (by omega)])) rfl ?_
   refine wa rfl rfl <| w_nil <| e_condF rfl <| e_region ?_
   refine w_val (v_is (v' := .bool false) (v_eql rfl rfl) (by rw [decide_eq_false (by omega)])) rfl ?_
   refine wa rfl rfl <| w_nil <| e_condF rfl <| e_seq <| esr ?_
   refine w_val (v_is (v' := .bool true) (v_eql rfl rfl) (by rw [decide_eq_true (by omega)])) rfl ?_
   refine wa rfl rfl <| w_nil <| e_condT rfl <| e_skip <| e_condT rfl <| e_draw ([.blk b1 109 (opCells o)]) Tryz.mixed <| tk 0 rfl (v_move rfl) rfl <| tk 1 rfl (v_fieldAddrB (o := 2) uT109 rfl rfl Tryz.nz3 rfl) rfl <| tk 2 rfl (v_loadB 0 rfl uT3 rfl rfl rfl) rfl <| tk 6 rfl (v_fieldAddrB (o := 3) uT109 rfl rfl Tryz.nz3 rfl) rfl <| tk 7 rfl (v_loadB 0 rfl uT3 rfl rfl rfl) rfl <| t1 3 rfl rfl ?_
   refine x_call0 (v := strV (Lib.itoa o.b)) rfl rfl rfl Tryz.call155 rfl (fun w hw => txNum_spec _ w h.b (hL.chg hw.chg)) ?_
   refine tn ?_
   refine tk 4 rfl (v_strAdd rfl rfl (by simp only [lnA]; omega)) rfl ?_
   refine tk 5 rfl (v_strAdd rfl rfl (by simp only [lnA]; omega)) rfl ?_
   refine t1 8 rfl rfl ?_
   refine x_call0 (v := strV (Lib.itoa o.c)) rfl rfl rfl Tryz.call155 rfl (fun w hw => txNum_spec _ w h.c (hL.chg hw.chg)) ?_
   refine tn ?_
   refine tk 9 rfl (v_strAdd rfl rfl (by simp only [lnA]; omega)) rfl ?_
   refine tk 10 rfl (v_strAdd rfl rfl (by simp only [lnA]; omega)) rfl ?_
   refine tk 11 rfl (v_assign rfl) rfl <| td <| e_blk <| esr <| wm rfl rfl <| wa rfl rfl <| w_nil ?_
   refine e_retQ (q_ret1 rfl (.tmp rfl) ?_)
   exact fun w' hw' => ⟨by rw [← opText3 (by omega), hTo], hw'.res.nil⟩
  ·refine e_condDF rfl (by omega) ?_
   refine e_seq <| esr ?_
   refine w_val (v_is (v' := .bool false) (v_eql rfl rfl) (by rw [decide_eq_false (by omega)])) rfl ?_
   refine wa rfl rfl <| w_nil <| e_condF rfl <| esr ?_
   refine w_val (v_is (v' := .bool false) (v_eql rfl rfl) (by rw [decide_eq_false (by omega)])) rfl ?_
   refine wa rfl rfl <| w_nil <| e_condF rfl <| e_region ?_
   refine w_val (v_is (v' := .bool false) (v_eql rfl rfl) (by rw [decide_eq_false (by omega)])) rfl ?_
   refine wa rfl rfl <| w_nil <| e_condF rfl <| e_seq <| esr ?_
   refine w_val (v_is (v' := .bool false) (v_eql rfl rfl) (by rw [decide_eq_false (by omega)])) rfl ?_
   refine wa rfl rfl <| w_nil <| e_condF rfl <| esr ?_
   refine w_val (v_is (v' := .bool true) (v_eql rfl rfl) (by rw [decide_eq_true (by omega)])) rfl ?_
   refine wa rfl rfl <| w_nil <| e_condT rfl <| e_skip <| e_condT rfl <| e_draw ([.blk b1 109 (opCells o)]) Tryz.mixed <| tk 0 rfl (v_move rfl) rfl <| tk 1 rfl (v_fieldAddrB (o := 2) uT109 rfl rfl Tryz.nz3 rfl) rfl <| tk 2 rfl (v_loadB 0 rfl uT3 rfl rfl rfl) rfl <| tk 6 rfl (v_fieldAddrB (o := 3) uT109 rfl rfl Tryz.nz3 rfl) rfl <| tk 7 rfl (v_loadB 0 rfl uT3 rfl rfl rfl) rfl <| t1 3 rfl rfl ?_
   refine x_call0 (v := strV (Lib.itoa o.b)) rfl rfl rfl Tryz.call155 rfl (fun w hw => txNum_spec _ w h.b (hL.chg hw.chg)) ?_
   refine tn ?_
   refine tk 4 rfl (v_strAdd rfl rfl (by simp only [lnA]; omega)) rfl ?_
   refine tk 5 rfl (v_strAdd rfl rfl (by simp only [lnA]; omega)) rfl ?_
   refine t1 8 rfl rfl ?_
   refine x_call0 (v := strV (Lib.itoa o.c)) rfl rfl rfl Tryz.call155 rfl (fun w hw => txNum_spec _ w h.c (hL.chg hw.chg)) ?_
   refine tn ?_
   refine tk 9 rfl (v_strAdd rfl rfl (by simp only [lnA]; omega)) rfl ?_
   refine tk 10 rfl (v_strAdd rfl rfl (by simp only [lnA]; omega)) rfl ?_
   refine tk 11 rfl (v_assign rfl) rfl <| td <| e_blk <| esr <| wm rfl rfl <| wa rfl rfl <| w_nil ?_
   refine e_retQ (q_ret1 rfl (.tmp rfl) ?_)
   exact fun w' hw' => ⟨by rw [← opText3 (by omega), hTo], hw'.res.nil⟩
  ·refine e_condDF rfl (by omega) ?_
   refine e_seq <| esr ?_
   refine w_val (v_is (v' := .bool false) (v_eql rfl rfl) (by rw [decide_eq_false (by omega)])) rfl ?_
   refine wa rfl rfl <| w_nil <| e_condF rfl <| esr ?_
   refine w_val (v_is (v' := .bool false) (v_eql rfl rfl) (by rw [decide_eq_false (by omega)])) rfl ?_
   refine wa rfl rfl <| w_nil <| e_condF rfl <| e_region ?_
   refine w_val (v_is (v' := .bool false) (v_eql rfl rfl) (by rw [decide_eq_false (by omega)])) rfl ?_
   refine wa rfl rfl <| w_nil <| e_condF rfl <| e_seq <| esr ?_
   refine w_val (v_is (v' := .bool false) (v_eql rfl rfl) (by rw [decide_eq_false (by omega)])) rfl ?_
   refine wa rfl rfl <| w_nil <| e_condF rfl <| esr ?_
   refine w_val (v_is (v' := .bool false) (v_eql rfl rfl) (by rw [decide_eq_false (by omega)])) rfl ?_
   refine wa rfl rfl <| w_nil <| e_condF rfl <| esr ?_
   refine w_val (v_is (v' := .bool true) (v_eql rfl rfl) (by rw [decide_eq_true (by omega)])) rfl ?_
   refine wa rfl rfl <| w_nil <| e_condT rfl <| e_skip <| e_condT rfl <| e_draw ([.blk b1 109 (opCells o)]) Tryz.mixed <| tk 0 rfl (v_move rfl) rfl <| tk 1 rfl (v_fieldAddrB (o := 2) uT109 rfl rfl Tryz.nz3 rfl) rfl <| tk 2 rfl (v_loadB 0 rfl uT3 rfl rfl rfl) rfl <| tk 6 rfl (v_fieldAddrB (o := 3) uT109 rfl rfl Tryz.nz3 rfl) rfl <| tk 7 rfl (v_loadB 0 rfl uT3 rfl rfl rfl) rfl <| t1 3 rfl rfl ?_
   refine x_call0 (v := strV (Lib.itoa o.b)) rfl rfl rfl Tryz.call155 rfl (fun w hw => txNum_spec _ w h.b (hL.chg hw.chg)) ?_
   refine tn ?_
   refine tk 4 rfl (v_strAdd rfl rfl (by simp only [lnA]; omega)) rfl ?_
   refine tk 5 rfl (v_strAdd rfl rfl (by simp only [lnA]; omega)) rfl ?_
   refine t1 8 rfl rfl ?_
   refine x_call0 (v := strV (Lib.itoa o.c)) rfl rfl rfl Tryz.call155 rfl (fun w hw => txNum_spec _ w h.c (hL.chg hw.chg)) ?_
   refine tn ?_
   refine tk 9 rfl (v_strAdd rfl rfl (by simp only [lnA]; omega)) rfl ?_
   refine tk 10 rfl (v_strAdd rfl rfl (by simp only [lnA]; omega)) rfl ?_
   refine tk 11 rfl (v_assign rfl) rfl <| td <| e_blk <| esr <| wm rfl rfl <| wa rfl rfl <| w_nil ?_
   refine e_retQ (q_ret1 rfl (.tmp rfl) ?_)
   exact fun w' hw' => ⟨by rw [← opText3 (by omega), hTo], hw'.res.nil⟩
  ·refine e_condDF rfl (by omega) ?_
   refine e_seq <| esr ?_
   refine w_val (v_is (v' := .bool false) (v_eql rfl rfl) (by rw [decide_eq_false (by omega)])) rfl ?_
   refine wa rfl rfl <| w_nil <| e_condF rfl <| esr ?_
   refine w_val (v_is (v' := .bool false) (v_eql rfl rfl) (by rw [decide_eq_false (by omega)])) rfl ?_
   refine wa rfl rfl <| w_nil <| e_condF rfl <| e_region ?_
   refine w_val (v_is (v' := .bool false) (v_eql rfl rfl) (by rw [decide_eq_false (by omega)])) rfl ?_
   refine wa rfl rfl <| w_nil <| e_condF rfl <| e_seq <| esr ?_
   refine w_val (v_is (v' := .bool false) (v_eql rfl rfl) (by rw [decide_eq_false (by omega)])) rfl ?_
   refine wa rfl rfl <| w_nil <| e_condF rfl <| esr ?_
   refine w_val (v_is (v' := .bool false) (v_eql rfl rfl) (by rw [decide_eq_false (by omega)])) rfl ?_
   refine wa rfl rfl <| w_nil <| e_condF rfl <| esr ?_
   refine w_val (v_is (v' := .bool false) (v_eql rfl rfl) (by rw [decide_eq_false (by omega)])) rfl ?_
   refine wa rfl rfl <| w_nil <| e_condF rfl <| e_region ?_
   refine w_val (v_is (v' := .bool true) (v_eql rfl rfl) (by rw [decide_eq_true (by omega)])) rfl ?_
   refine wa rfl rfl <| w_nil <| e_condT rfl <| e_draw ([.blk b1 109 (opCells o)]) Tryz.mixed <| tk 0 rfl (v_move rfl) rfl <| tk 1 rfl (v_fieldAddrB (o := 2) uT109 rfl rfl Tryz.nz3 rfl) rfl <| tk 2 rfl (v_loadB 0 rfl uT3 rfl rfl rfl) rfl <| tk 6 rfl (v_fieldAddrB (o := 3) uT109 rfl rfl Tryz.nz3 rfl) rfl <| tk 7 rfl (v_loadB 0 rfl uT3 rfl rfl rfl) rfl <| t1 3 rfl rfl ?_
   refine x_call0 (v := strV (Lib.itoa o.b)) rfl rfl rfl Tryz.call155 rfl (fun w hw => txNum_spec _ w h.b (hL.chg hw.chg)) ?_
   refine tn ?_
   refine tk 4 rfl (v_strAdd rfl rfl (by simp only [lnA]; omega)) rfl ?_
   refine tk 5 rfl (v_strAdd rfl rfl (by simp only [lnA]; omega)) rfl ?_
   refine t1 8 rfl rfl ?_
   refine x_call0 (v := strV (Lib.itoa o.c)) rfl rfl rfl Tryz.call155 rfl (fun w hw => txNum_spec _ w h.c (hL.chg hw.chg)) ?_
   refine tn ?_
   refine tk 9 rfl (v_strAdd rfl rfl (by simp only [lnA]; omega)) rfl ?_
   refine tk 10 rfl (v_strAdd rfl rfl (by simp only [lnA]; omega)) rfl ?_
   refine tk 11 rfl (v_assign rfl) rfl <| td <| e_blk <| esr <| wm rfl rfl <| wa rfl rfl <| w_nil ?_
   refine e_retQ (q_ret1 rfl (.tmp rfl) ?_)
   exact fun w' hw' => ⟨by rw [← opText3 (by omega), hTo], hw'.res.nil⟩
  ·refine e_condDF rfl (by omega) ?_
   refine e_seq <| esr ?_
   refine w_val (v_is (v' := .bool false) (v_eql rfl rfl) (by rw [decide_eq_false (by omega)])) rfl ?_
   refine wa rfl rfl <| w_nil <| e_condF rfl <| esr ?_
   refine w_val (v_is (v' := .bool false) (v_eql rfl rfl) (by rw [decide_eq_false (by omega)])) rfl ?_
   refine wa rfl rfl <| w_nil <| e_condF rfl <| e_region ?_
   refine w_val (v_is (v' := .bool false) (v_eql rfl rfl) (by rw [decide_eq_false (by omega)])) rfl ?_
   refine wa rfl rfl <| w_nil <| e_condF rfl <| e_seq <| esr ?_
   refine w_val (v_is (v' := .bool false) (v_eql rfl rfl) (by rw [decide_eq_false (by omega)])) rfl ?_
   refine wa rfl rfl <| w_nil <| e_condF rfl <| esr ?_
   refine w_val (v_is (v' := .bool false) (v_eql rfl rfl) (by rw [decide_eq_false (by omega)])) rfl ?_
   refine wa rfl rfl <| w_nil <| e_condF rfl <| esr ?_
   refine w_val (v_is (v' := .bool false) (v_eql rfl rfl) (by rw [decide_eq_false (by omega)])) rfl ?_
   refine wa rfl rfl <| w_nil <| e_condF rfl <| e_region ?_
   refine w_val (v_is (v' := .bool false) (v_eql rfl rfl) (by rw [decide_eq_false (by omega)])) rfl ?_
   refine wa rfl rfl <| w_nil <| e_condF rfl <| e_skip <| e_blk <| esr <| wm rfl rfl <| wa rfl rfl <| w_nil ?_
   refine e_retQ (q_ret1 rfl (.tmp rfl) ?_)
   exact fun w' hw' => ⟨by rw [← opText8 hk1, hTo], hw'.res.nil⟩
end Go.SL
end
