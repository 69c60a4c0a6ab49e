/- YtebdkaadbakhladDoor: part Z5 of this seat's own texts. -/
import Derived.Lib.ParseIntBCases
import Derived.Lib.ItoaMem
import Derived.Test.YtebdkaadbakhladDoorZ2
import Derived.Test.YtebdkaadbakhladDoorZ4
import Derived.Test.YtebdkaadbakhladDoorP5
set_option linter.unusedVariables false
set_option linter.unusedSimpArgs false
section

open Go Go.Proofs Go.SL
set_option maxRecDepth 100000
namespace Go.SL
/-! ## there and back: plain -/
/-- numerals are read as what they tell -/
def isDig (b : UInt8) : Prop := 48 ≤ b.toNat ∧ b.toNat ≤ 57
theorem dig_of {k : Nat} (h : k < 10) : isDig (UInt8.ofNat (48 + k)) ∧ (UInt8.ofNat (48 + k)).toNat = 48 + k := by
  have : (UInt8.ofNat (48 + k)).toNat = 48 + k := by simp; omega
  unfold isDig
  omega
theorem digits_all (u : Nat) : (∀ b ∈ Lib.decDigits u, isDig b) ∧ Lib.decDigits u ≠ [] := by
  induction u using Nat.strongRecOn with
  | ind u ih =>
    rw [Lib.decDigits]
    split
    · rename_i h
      refine ⟨fun b hb => ?_, by simp⟩
      rw [List.mem_singleton] at hb
      subst hb
      exact (dig_of h).1
    · rename_i h
      obtain ⟨h1, h2⟩ := ih (u / 10) (by omega)
      refine ⟨fun b hb => ?_, by simp⟩
      rcases List.mem_append.1 hb with hb | hb
      · exact h1 b hb
      · rw [List.mem_singleton] at hb
        subst hb
        exact (dig_of (Nat.mod_lt u (by decide))).1
theorem uint_snoc (M : Nat) (c : UInt8) : ∀ (l : List UInt8) (acc v : Nat), Lib.parseUintM M acc l = .ok v → Lib.parseUintM M acc (l ++ [c]) = Lib.parseUintM M v [c]
  | [], acc, v, h => by
    simp only [Lib.parseUintM] at h
    injection h with h
    subst h
    rfl
  | b :: r, acc, v, h => by
    simp only [Lib.parseUintM, List.cons_append] at h ⊢
    split at h
    · rename_i h1
      split at h
      · cases h
      · rename_i h2
        split at h
        · cases h
        · rename_i h3
          rw [if_pos h1, if_neg h2, if_neg h3]
          exact uint_snoc M c r _ v h
    · cases h
theorem uint_digits (u : Nat) (h : u ≤ 18446744073709551615) : Lib.parseUintM 18446744073709551615 0 (Lib.decDigits u) = .ok u := by
  induction u using Nat.strongRecOn with
  | ind u ih =>
    rw [Lib.decDigits]
    split
    · rename_i h10
      obtain ⟨h1, h2⟩ := dig_of h10
      unfold isDig at h1
      simp only [Lib.parseUintM]
      rw [if_pos h1, if_neg (by omega), if_neg (by omega), h2]
      congr 1
      omega
    · rename_i h10
      obtain ⟨h1, h2⟩ := dig_of (Nat.mod_lt u (show 0 < 10 by decide))
      rw [uint_snoc _ _ _ _ _ (ih (u / 10) (by omega) (by omega))]
      unfold isDig at h1
      simp only [Lib.parseUintM]
      rw [if_pos h1, if_neg (by omega), if_neg (by omega), h2]
      congr 1
      omega
theorem uintB_digits (u : Nat) (h : u ≤ 18446744073709551615) : Lib.parseUintB 64 (Lib.decDigits u) = .ok u := by
  unfold Lib.parseUintB
  rw [if_neg (digits_all u).2]
  exact uint_digits u h
theorem int_itoa {n : Int} (h : In64 n) : Lib.parseIntB 64 (Lib.itoa n) = .ok n := by
  obtain ⟨h1, h2⟩ := h
  unfold Lib.itoa
  split
  · rename_i hn
    rw [Lib.parseIntB_minus, uintB_digits _ (by omega)]
    unfold Lib.signedC
    dsimp only
    rw [if_neg (by omega)]
    congr 1
    omega
  · rename_i hn
    have hu := uintB_digits n.toNat (by omega)
    obtain ⟨h3, h4⟩ := digits_all n.toNat
    cases hd : Lib.decDigits n.toNat with
    | nil => exact absurd hd h4
    | cons c r =>
      have hc := h3 c (by rw [hd]; simp)
      unfold isDig at hc
      rw [Lib.parseIntB_plain _ _ _ (by omega) (by omega), ← hd, hu]
      unfold Lib.signlessC
      dsimp only
      rw [if_neg (by omega)]
      congr 1
      omega
theorem long_itoa {n : Int} (h : In64 n) : longL (Lib.itoa n) = some n := by
  unfold longL
  rw [int_itoa h]
  dsimp only
  rw [if_pos rfl]
/-- what stands in a word: neither a blank nor a semicolon -/
def Plain (s : List UInt8) : Prop := ∀ b ∈ s, b ≠ 32 ∧ b ≠ 59
theorem name_plain : ∀ k, k < 10 → Plain (kNames.getD k []) ∧ (k ≠ 0 → kNames.getD k [] ≠ [] ∧ kindOf (kNames.getD k []) = k) := by
  intro k hk
  have : k = 0 ∨ k = 1 ∨ k = 2 ∨ k = 3 ∨ k = 4 ∨ k = 5 ∨ k = 6 ∨ k = 7 ∨ k = 8 ∨ k = 9 := by omega
  unfold Plain
  rcases this with rfl | rfl | rfl | rfl | rfl | rfl | rfl | rfl | rfl | rfl <;> decide
/-- the words of the pieces of a text; w: what stands ahead -/
def shut (w : List UInt8) : List (List UInt8) := if w = [] then [] else [w]
def ahead (ws : List (List UInt8)) : List (List (List UInt8)) → List (List (List UInt8))
  | [] => [ws]
  | p :: ps => (ws ++ p) :: ps
def pw (w : List UInt8) : List UInt8 → List (List (List UInt8))
  | [] => [shut w]
  | b :: t => if b = 59 then shut w :: pw [] t else if b = 32 then ahead (shut w) (pw [] t) else pw (w ++ [b]) t
theorem pw_ne : ∀ (s w : List UInt8), pw w s ≠ []
  | [], w => by simp [pw]
  | b :: t, w => by
    unfold pw
    split
    · simp
    · split
      · cases pw [] t <;> simp [ahead]
      · exact pw_ne t _
theorem pw_split : ∀ (s w : List UInt8), pw w s = match splitL 59 s with | [] => [] | p :: ps => wordsW w p :: ps.map wordsL
  | [], w => by simp [pw, splitL, wordsW, shut]
  | b :: t, w => by
    have ih := pw_split t
    have hne := splitL_ne 59 t
    unfold pw splitL
    split
    · rename_i h
      rw [ih []]
      cases hs : splitL 59 t with
      | nil => exact absurd hs hne
      | cons p ps => simp [wordsW, shut, wordsL]
    · rename_i h
      cases hs : splitL 59 t with
      | nil => exact absurd hs hne
      | cons p ps =>
        dsimp only
        split
        · rename_i h2
          rw [ih [], hs]
          subst h2
          simp only [ahead, wordsW, if_true]
          congr 1
          unfold shut
          split
          · rename_i hw; simp
          · rename_i hw; simp
        · rename_i h2
          rw [ih, hs]
          simp only [wordsW, if_neg h2]
theorem pw_words (s : List UInt8) : (splitL 59 s).map wordsL = pw [] s := by
  rw [pw_split s []]
  cases hs : splitL 59 s with
  | nil => exact absurd hs (splitL_ne 59 s)
  | cons p ps => rfl
theorem pw_blank (w t : List UInt8) : pw w (32 :: t) = ahead (shut w) (pw [] t) := by rw [pw, if_neg (by decide), if_pos rfl]
theorem ahead_nil {a : List (List (List UInt8))} (h : a ≠ []) : ahead [] a = a := by
  cases a with
  | nil => exact absurd rfl h
  | cons p ps => simp [ahead]
theorem pw_blank0 (t : List UInt8) : pw [] (32 :: t) = pw [] t := by
  rw [pw_blank]
  exact ahead_nil (pw_ne t [])
/-- the words of an operation -/
def opWords (o : OpL) : List (List UInt8) := kNames.getD o.kind.toNat [] :: (numsOf o).map Lib.itoa
theorem kind_lt {o : OpL} (h : opFaultL o = 0) : 1 ≤ o.kind ∧ o.kind ≤ 9 := by
  unfold opFaultL at h
  split at h
  · cases h
  · omega
theorem pw_void : ∀ s : List UInt8, (∀ b ∈ s, b = 32) → pw [] s = [[]]
  | [], _ => rfl
  | b :: t, h => by
    have hb : b = 32 := h b (by simp)
    subst hb
    rw [pw_blank0]
    exact pw_void t fun c hc => h c (List.mem_cons_of_mem _ hc)
end Go.SL
end
section

open Go Go.Proofs Go.SL
set_option maxRecDepth 100000
namespace Go.SL
theorem numsL_itoa : ∀ ns : List Int, (∀ n ∈ ns, In64 n) → numsL (ns.map Lib.itoa) = some ns
  | [], _ => rfl
  | n :: ns, h => by
    simp only [List.map_cons, numsL, long_itoa (h n (by simp)), numsL_itoa ns (fun m hm => h m (List.mem_cons_of_mem _ hm))]
theorem nums_in {o : OpL} (h : OpIn o) : ∀ n ∈ numsOf o, In64 n := by
  intro n hn
  unfold numsOf at hn
  repeat' split at hn
  all_goals simp only [List.mem_cons, List.not_mem_nil, or_false] at hn
  · rcases hn with rfl | rfl
    · exact h.a
    · exact h.n
  · subst hn; exact h.a
  · rcases hn with rfl | rfl
    · exact h.a
    · exact h.b
  · rcases hn with rfl | rfl | rfl
    · exact h.a
    · exact h.b
    · exact h.c
theorem counts_of {o : OpL} (h : 1 ≤ o.kind ∧ o.kind ≤ 9) : ((numsOf o).length : Int) = kCounts.getD o.kind.toNat 0 := by
  have : o.kind = 1 ∨ o.kind = 2 ∨ o.kind = 3 ∨ o.kind = 4 ∨ o.kind = 5 ∨ o.kind = 6 ∨ o.kind = 7 ∨ o.kind = 8 ∨ o.kind = 9 := by omega
  unfold numsOf
  rcases this with e | e | e | e | e | e | e | e | e <;> rw [e] <;> rfl
theorem bad_zero {x : Int} (h : badL x 0 = 0) : x = 0 := by
  unfold badL at h
  by_cases hx : x = 0
  · exact hx
  · rw [if_pos rfl, if_pos hx] at h; cases h
theorem fault_parts {o : OpL} (h : opFaultL o = 0) : badL o.a ((limL o.kind).getD 0 0) = 0 ∧ badL o.b ((limL o.kind).getD 1 0) = 0 ∧ badL o.c ((limL o.kind).getD 2 0) = 0 ∧ (o.kind ≠ 1 → o.n = 0) := by
  unfold opFaultL at h
  split at h
  · cases h
  · split at h
    · exact absurd h (by assumption)
    · split at h
      · exact absurd h (by assumption)
      · split at h
        · exact absurd h (by assumption)
        · rename_i h1 h2 h3 h4
          simp only [ne_eq, Decidable.not_not] at h2 h3 h4
          refine ⟨h2, h3, h4, fun hk => ?_⟩
          by_cases hn : o.n = 0
          · exact hn
          · rw [if_pos ⟨hk, hn⟩] at h; cases h
theorem op_back {o : OpL} (h : opFaultL o = 0) : opOf o.kind.toNat (numsOf o) = o := by
  have hk := kind_lt h
  obtain ⟨_, hb, hc, hn⟩ := fault_parts h
  obtain ⟨kind, a, b, c, n⟩ := o
  dsimp only at hk hb hc hn
  have : kind = 1 ∨ kind = 2 ∨ kind = 3 ∨ kind = 4 ∨ kind = 5 ∨ kind = 6 ∨ kind = 7 ∨ kind = 8 ∨ kind = 9 := by omega
  rcases this with rfl | rfl | rfl | rfl | rfl | rfl | rfl | rfl | rfl
  · have h1 := bad_zero (x := b) hb; have h2 := bad_zero (x := c) hc; subst h1; subst h2; rfl
  · have h2 := bad_zero (x := c) hc; have h3 := hn (by decide); subst h2; subst h3; rfl
  · have h3 := hn (by decide); subst h3; rfl
  · have h3 := hn (by decide); subst h3; rfl
  · have h3 := hn (by decide); subst h3; rfl
  · have h3 := hn (by decide); subst h3; rfl
  · have h2 := bad_zero (x := c) hc; have h3 := hn (by decide); subst h2; subst h3; rfl
  · have h1 := bad_zero (x := b) hb; have h2 := bad_zero (x := c) hc; have h3 := hn (by decide); subst h1; subst h2; subst h3; rfl
  · have h2 := bad_zero (x := c) hc; have h3 := hn (by decide); subst h2; subst h3; rfl
theorem one_words {o : OpL} (h : opFaultL o = 0) (hin : OpIn o) : oneL (opWords o) = some o := by
  have hk := kind_lt h
  obtain ⟨_, h2⟩ := name_plain o.kind.toNat (by omega)
  have hko := (h2 (by omega)).2
  have hh : (opWords o).headD [] = kNames.getD o.kind.toNat [] := rfl
  unfold oneL
  rw [hh, hko, if_neg (by
    intro hx
    rcases hx with hx | hx
    · omega
    · refine hx ?_
      have := counts_of hk
      rw [← this]
      simp [opWords]
      omega)]
  show (numsL ((numsOf o).map Lib.itoa)).map _ = _
  rw [numsL_itoa _ (nums_in hin), Option.map_some, op_back h]
def parseP (i : Nat) (acc : DeedL) : List (List (List UInt8)) → DeedL × (Int × Int)
  | [] => if (checkL acc).1 ≠ 0 then ([], checkL acc) else (acc, (0, 0))
  | p :: ps => match oneL p with
    | none => ([], (10, (i : Int)))
    | some o => parseP (i + 1) (acc ++ [o]) ps
theorem parse_map : ∀ (ps : List (List UInt8)) (i : Nat) (acc : DeedL), parseFrom i acc ps = parseP i acc (ps.map wordsL)
  | [], _, _ => rfl
  | p :: ps, i, acc => by
    simp only [parseFrom, List.map_cons, parseP]
    cases oneL (wordsL p) with
    | none => rfl
    | some o => exact parse_map ps _ _
theorem parse_all : ∀ (d : DeedL) (i : Nat) (acc : DeedL), (∀ o ∈ d, opFaultL o = 0) → (∀ o ∈ d, OpIn o) → parseP i acc (d.map opWords) = if (checkL (acc ++ d)).1 ≠ 0 then ([], checkL (acc ++ d)) else (acc ++ d, (0, 0))
  | [], i, acc, _, _ => by simp only [List.map_nil, parseP, List.append_nil]
  | o :: d, i, acc, h, hin => by
    simp only [List.map_cons, parseP, one_words (h o (by simp)) (hin o (by simp))]
    rw [parse_all d _ _ (fun x hx => h x (List.mem_cons_of_mem _ hx)) (fun x hx => hin x (List.mem_cons_of_mem _ hx)), List.append_assoc]
    rfl
/-- a text whose words are those of a deed's operations is read as that deed -/
theorem parse_ops {s : List UInt8} {d : DeedL} (hd : d ≠ []) (hs : pw [] s = d.map opWords) (h : ∀ o ∈ d, opFaultL o = 0) (hin : ∀ o ∈ d, OpIn o) : parseL s = if (checkL d).1 ≠ 0 then ([], checkL d) else (d, (0, 0)) := by
  have hw : wordsL s ≠ [] := by
    intro hw
    rw [words_none] at hw
    rw [pw_void s hw] at hs
    cases d with
    | nil => exact hd rfl
    | cons o d =>
      simp only [List.map_cons, List.cons.injEq] at hs
      exact absurd hs.1 (by simp [opWords])
  unfold parseL
  rw [if_neg hw, parse_map, pw_words, hs, parse_all d 0 [] h hin, List.nil_append]
theorem checked_ops {d : DeedL} (h : (checkL d).1 = 0) : ∀ o ∈ d, opFaultL o = 0 := by
  intro o ho
  obtain ⟨i, hi, rfl⟩ := List.mem_iff_getElem.1 ho
  exact ((checked h).2 i hi).1
/-- what is read is a deed of numbers of 64 bits -/
theorem numsL_in : ∀ {l : List (List UInt8)} {ns : List Int}, numsL l = some ns → ∀ n ∈ ns, In64 n
  | [], ns, h => by simp only [numsL] at h; injection h with h; subst h; intro n hn; cases hn
  | x :: r, ns, h => by
    simp only [numsL] at h
    cases hx : longL x with
    | none => rw [hx] at h; cases h
    | some v =>
      cases hr : numsL r with
      | none => rw [hx, hr] at h; cases h
      | some vs =>
        rw [hx, hr] at h
        injection h with h
        subst h
        intro n hn
        rcases List.mem_cons.1 hn with rfl | hn
        · exact (long_in hx).2.2
        · exact numsL_in hr n hn
theorem getD_in {ns : List Int} (h : ∀ n ∈ ns, In64 n) (i : Nat) : In64 (ns.getD i 0) := by
  by_cases hi : i < ns.length
  · have : ns.getD i 0 = ns[i] := by simp [List.getD, hi]
    rw [this]; exact h _ (List.getElem_mem hi)
  · have : ns.getD i 0 = 0 := by simp [List.getD, List.getElem?_eq_none (show ns.length ≤ i by omega)]
    rw [this]; simp [In64]
theorem one_in {l : List (List UInt8)} {o : OpL} (h : oneL l = some o) : OpIn o := by
  unfold oneL at h
  split at h
  · cases h
  · cases hn : numsL l.tail with
    | none => rw [hn] at h; cases h
    | some ns =>
      rw [hn, Option.map_some] at h
      injection h with h
      subst h
      have hi := getD_in (numsL_in hn)
      have hk := kindOf_le (l.headD [])
      have hz : In64 0 := by simp [In64]
      unfold opOf
      split
      · exact ⟨by simp [In64], hi 0, hz, hz, hi 1⟩
      · exact ⟨by unfold In64; dsimp only; omega, hi 0, hi 1, hi 2, hz⟩
theorem parseFrom_out : ∀ (ps : List (List UInt8)) (i : Nat) (acc : DeedL), (∀ o ∈ acc, OpIn o) → ((parseFrom i acc ps).2.1 ≠ 0 → (parseFrom i acc ps).1 = []) ∧ ((parseFrom i acc ps).2.1 = 0 → (checkL (parseFrom i acc ps).1).1 = 0) ∧ ∀ o ∈ (parseFrom i acc ps).1, OpIn o
  | [], i, acc, h => by
    simp only [parseFrom]
    split
    · rename_i hc; exact ⟨fun _ => rfl, fun hz => absurd hz hc, fun o ho => by cases ho⟩
    · rename_i hc; exact ⟨fun hz => absurd rfl hz, fun _ => by dsimp only; omega, h⟩
  | p :: ps, i, acc, h => by
    simp only [parseFrom]
    cases ho : oneL (wordsL p) with
    | none => exact ⟨fun _ => rfl, fun hz => (by cases hz), fun o ho => by cases ho⟩
    | some o =>
      refine parseFrom_out ps _ _ fun x hx => ?_
      rcases List.mem_append.1 hx with hx | hx
      · exact h x hx
      · rw [List.mem_singleton] at hx; subst hx; exact one_in ho
theorem parse_out (s : List UInt8) : ((parseL s).2.1 ≠ 0 → (parseL s).1 = []) ∧ ((parseL s).2.1 = 0 → (checkL (parseL s).1).1 = 0) ∧ ∀ o ∈ (parseL s).1, OpIn o := by
  unfold parseL
  split
  · exact ⟨fun _ => rfl, fun _ => rfl, fun o ho => by cases ho⟩
  · exact parseFrom_out _ _ _ (fun o ho => by cases ho)
end Go.SL
end
section

open Go Go.Proofs Go.SL Go.RowKit
set_option maxRecDepth 100000
set_option maxHeartbeats 4000000
namespace Go.SL
abbrev bd0 : DeedL := [⟨1, 1, 0, 0, -5⟩, ⟨7, 2, 1, 0, 0⟩]
theorem itoa_1 : Lib.itoa 1 = [49] := by unfold Lib.itoa; rw [if_neg (by decide), Lib.decDigits_one (by decide)]; rfl
theorem itoa_2 : Lib.itoa 2 = [50] := by unfold Lib.itoa; rw [if_neg (by decide), Lib.decDigits_one (by decide)]; rfl
theorem itoa_m5 : Lib.itoa (-5) = [45, 53] := by unfold Lib.itoa; rw [if_pos (by decide), Lib.decDigits_one (by decide)]; rfl
theorem bd_ops : bd0.map opWords = [[[110, 117, 109], [49], [45, 53]], [[115, 116, 111, 114, 101], [50], [49]]] := by
  have h1 : opWords ⟨1, 1, 0, 0, -5⟩ = [[110, 117, 109], Lib.itoa 1, Lib.itoa (-5)] := rfl
  have h2 : opWords ⟨7, 2, 1, 0, 0⟩ = [[115, 116, 111, 114, 101], Lib.itoa 2, Lib.itoa 1] := rfl
  rw [List.map_cons, List.map_cons, List.map_nil, h1, h2, itoa_1, itoa_2, itoa_m5]
theorem bd_check : checkL bd0 = (0, 0) := by decide
theorem bd_in : ∀ o ∈ bd0, OpIn o := by
  intro o ho
  simp only [List.mem_cons, List.not_mem_nil, or_false] at ho
  rcases ho with rfl | rfl <;> exact ⟨by simp [In64], by simp [In64], by simp [In64], by simp [In64], by simp [In64]⟩
theorem bd_parse : parseL [110, 117, 109, 32, 49, 32, 45, 53, 59, 115, 116, 111, 114, 101, 32, 50, 32, 49] = (bd0, (0, 0)) := by
  rw [parse_ops (d := bd0) (by decide) (by rw [bd_ops]; decide) (checked_ops (by rw [bd_check])) bd_in, bd_check, if_neg (by decide)]
theorem bd_print : printS bd0 = ([110, 117, 109, 32, 49, 32, 45, 53, 59, 32, 115, 116, 111, 114, 101, 32, 50, 32, 49], (0, 0)) := by
  have h1 : opText ⟨1, 1, 0, 0, -5⟩ = [110, 117, 109] ++ (32 :: Lib.itoa 1 ++ (32 :: Lib.itoa (-5) ++ [])) := rfl
  have h2 : opText ⟨7, 2, 1, 0, 0⟩ = [115, 116, 111, 114, 101] ++ (32 :: Lib.itoa 2 ++ (32 :: Lib.itoa 1 ++ [])) := rfl
  unfold printS printL
  rw [bd_check, if_neg (by decide), List.map_cons, List.map_cons, List.map_nil, h1, h2, itoa_1, itoa_2, itoa_m5]
  rfl
theorem textBegun_spec (w : World) (hL : LaidD w) : Calls Tryd.prog 7 #[] w fun e w' => e = .returned (.bool true) ∧ Res w [] [] w' := by
  refine enter0 (N := 38) Tryd.func7 rfl rfl rfl ?_
  refine esr ?_
  refine wa rfl rfl ?_
  refine wsr ?_
  refine w_op rfl ?_
  refine x_call (dst := some 6) (mc := []) (σ := Value) (fun _ => True) (fun v => .tuple #[v, faultV (0, 0)]) (fun v => [Own v 41 5 2 (deedCells bd0)]) rfl rfl rfl Tryd.call11 (fun w hw => by have := txParse_spec [110, 117, 109, 32, 49, 32, 45, 53, 59, 115, 116, 111, 114, 101, 32, 50, 32, 49] w (by decide) (hL.chg hw.chg); rwa [bd_parse] at this) rfl (fun v _ => ?_); refine g_shapeW 0 rfl (by decide) (fun g kk hsv _ => ?_); subst hsv
  refine wm rfl rfl ?_
  refine w_val (v_extract rfl rfl) rfl ?_
  refine w_val (v_extract rfl rfl) rfl ?_
  refine w_op rfl ?_
  refine x_alloc (z := .agg #[.int .i64 0, .int .i64 0]) (by intro w; exact Tryd.zeroValue29 w) rfl (fun b2 => ?_)
  refine wa rfl rfl ?_
  refine w_op rfl ?_
  refine x_storeA 0 rfl rfl rfl Tryd.hi29 Tryd.cz29 rfl (by first | (simp [Value.oneCell', opCells]; done) | assumption | exact one_ints _ | exact one_resCells _ _ | exact one_slotC _) ?_
  refine wsr ?_
  refine wm rfl rfl ?_
  refine w_op rfl ?_
  refine x_call0 (v := .tuple #[strV [110, 117, 109, 32, 49, 32, 45, 53, 59, 32, 115, 116, 111, 114, 101, 32, 50, 32, 49], faultV (0, 0)]) rfl rfl rfl Tryd.call9 rfl (fun w hw => by have := txPrint_spec _ bd0 w (own_rds (hw.mem (i := 1) rfl)) bd_in (hL.chg hw.chg); rwa [bd_print] at this) ?_
  refine wm rfl rfl ?_
  refine w_val (v_extract rfl rfl) rfl ?_
  refine w_val (v_extract rfl rfl) rfl ?_
  refine w_op rfl ?_
  refine x_alloc (z := .agg #[.int .i64 0, .int .i64 0]) (by intro w; exact Tryd.zeroValue29 w) rfl (fun b4 => ?_)
  refine wa rfl rfl ?_
  refine w_op rfl ?_
  refine x_storeA 0 rfl rfl rfl Tryd.hi29 Tryd.cz29 rfl (by first | (simp [Value.oneCell', opCells]; done) | assumption | exact one_ints _ | exact one_resCells _ _ | exact one_slotC _) ?_
  refine w_nil ?_
  refine e_seq ?_
  refine e_region ?_
  refine w_val (v_fieldAddrB (o := 0) Tryd.underlying29 rfl rfl Tryd.nz3 rfl) rfl ?_
  refine w_val (v_loadB 1 rfl Tryd.underlying3 rfl rfl rfl) rfl ?_
  refine w_val (v_is (v' := .bool true) (v_eql rfl rfl) (by rfl)) rfl ?_
  refine wm rfl rfl ?_
  refine w_want rfl rfl ?_
  refine w_val (v_fieldAddrB (o := 0) Tryd.underlying29 rfl rfl Tryd.nz3 rfl) rfl ?_
  refine w_want rfl rfl ?_
  refine w_val (v_loadB 0 rfl Tryd.underlying3 rfl rfl rfl) rfl ?_
  refine w_want rfl rfl ?_
  refine w_val (v_is (v' := .bool true) (v_eql rfl rfl) (by rfl)) rfl ?_
  refine w_val (v_pickT rfl rfl) rfl ?_
  refine wm rfl rfl ?_
  refine w_want rfl rfl ?_
  refine wm rfl rfl ?_
  refine w_want rfl rfl ?_
  refine w_val (v_is (v' := .bool true) (v_strEql rfl rfl) (by rw [decide_eq_true rfl])) rfl ?_
  refine w_val (v_pickT rfl rfl) rfl ?_
  refine wm rfl rfl ?_
  refine w_want rfl rfl ?_
  refine wm rfl rfl ?_
  refine w_want rfl rfl ?_
  refine w_val (v_lenS Tryd.underlying23 rfl) rfl ?_
  refine w_want rfl rfl ?_
  refine w_val (v_is (v' := .bool true) (v_eql rfl rfl) (by rfl)) rfl ?_
  refine w_val (v_pickT rfl rfl) rfl ?_
  refine wm rfl rfl ?_
  refine w_want rfl rfl ?_
  refine wm rfl rfl ?_
  refine w_want rfl rfl ?_
  refine w_val (v_indexSB Tryd.underlying23 Tryd.hi41 Tryd.cz41 rfl rfl (by first | omega | decide)) rfl ?_
  refine w_want rfl rfl ?_
  refine w_val (v_fieldAddrB (o := 4) Tryd.underlying41 rfl rfl Tryd.nz2 rfl) rfl ?_
  refine w_want rfl rfl ?_
  refine w_val (v_loadW2 2 rfl (v := .int .i64 (-5)) rfl Tryd.underlying2 rfl rfl) rfl ?_
  refine w_want rfl rfl ?_
  refine w_val (v_is (v' := .bool true) (v_eql rfl rfl) (by rfl)) rfl ?_
  refine w_val (v_pickT rfl rfl) rfl ?_
  refine wa rfl rfl ?_
  refine w_nil ?_
  refine e_retQ (q_ret1 rfl (.tmp rfl) ?_)
  exact fun w' hw' => ⟨rfl, hw'.res.nil⟩
end Go.SL
end
