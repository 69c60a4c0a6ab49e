/- YtebdkaadbakhlaaGreatDoor: part Z5 of this seat's own texts. -/
import Derived.Lib.ParseIntBCases
import Derived.Lib.ItoaMem
import Derived.Test.YtebdkaadbakhlaaGreatDoorZ2
import Derived.Test.YtebdkaadbakhlaaGreatDoorZ4
set_option linter.unusedVariables false
set_option linter.unusedSimpArgs false
section
open Go Go.Proofs Go.SL
set_option maxRecDepth 100000
namespace Go.SL
def isDig (b : UInt8) : Prop := 48 ≤ b.toNat ∧ b.toNat ≤ 57
theorem dig_of {k : Nat} (h : k < 10) : isDig (UInt8.ofNat (48 + k)) ∧ (UInt8.ofNat (48 + k)).toNat = 48 + k := by
 have : (UInt8.ofNat (48 + k)).toNat = 48 + k := by simp; omega
 unfold isDig
 omega
theorem digits_all (u : Nat) : (∀ b ∈ Lib.decDigits u, isDig b) ∧ Lib.decDigits u ≠ [] := by
 induction u using Nat.strongRecOn with
 | ind u ih =>
  rw [Lib.decDigits]
  split
  ·rename_i h
   refine ⟨fun b hb => ?_, by simp⟩
   rw [List.mem_singleton] at hb
   subst hb
   exact (dig_of h).1
  ·rename_i h
   obtain ⟨h1, h2⟩ := ih (u / 10) (by omega)
   refine ⟨fun b hb => ?_, by simp⟩
   rcases List.mem_append.1 hb with hb | hb
   ·exact h1 b hb
   ·rw [List.mem_singleton] at hb
    subst hb
    exact (dig_of (Nat.mod_lt u (by decide))).1
theorem uint_snoc (M : Nat) (c : UInt8) : ∀ (l : List UInt8) (acc v : Nat), Lib.parseUintM M acc l = .ok v → Lib.parseUintM M acc (l ++ [c]) = Lib.parseUintM M v [c]
 | [], acc, v, h => by
  simp only [Lib.parseUintM] at h
  injection h with h
  subst h
  rfl
 | b :: r, acc, v, h => by
  simp only [Lib.parseUintM, List.cons_append] at h ⊢
  split at h
  ·rename_i h1
   split at h
   ·cases h
   ·rename_i h2
    split at h
    ·cases h
    ·rename_i h3
     rw [if_pos h1, if_neg h2, if_neg h3]
     exact uint_snoc M c r _ v h
  ·cases h
theorem uint_digits (u : Nat) (h : u ≤ 18446744073709551615) : Lib.parseUintM 18446744073709551615 0 (Lib.decDigits u) = .ok u := by
 induction u using Nat.strongRecOn with
 | ind u ih =>
  rw [Lib.decDigits]
  split
  ·rename_i h10
   obtain ⟨h1, h2⟩ := dig_of h10
   unfold isDig at h1
   simp only [Lib.parseUintM]
   rw [if_pos h1, if_neg (by omega), if_neg (by omega), h2]
   congr 1
   omega
  ·rename_i h10
   obtain ⟨h1, h2⟩ := dig_of (Nat.mod_lt u (show 0 < 10 by decide))
   rw [uint_snoc _ _ _ _ _ (ih (u / 10) (by omega) (by omega))]
   unfold isDig at h1
   simp only [Lib.parseUintM]
   rw [if_pos h1, if_neg (by omega), if_neg (by omega), h2]
   congr 1
   omega
theorem uintB_digits (u : Nat) (h : u ≤ 18446744073709551615) : Lib.parseUintB 64 (Lib.decDigits u) = .ok u := by
 unfold Lib.parseUintB
 rw [if_neg (digits_all u).2]
 exact uint_digits u h
theorem int_itoa {n : Int} (h : In64 n) : Lib.parseIntB 64 (Lib.itoa n) = .ok n := by
 obtain ⟨h1, h2⟩ := h
 unfold Lib.itoa
 split
 ·rename_i hn
  rw [Lib.parseIntB_minus, uintB_digits _ (by omega)]
  unfold Lib.signedC
  dsimp only
  rw [if_neg (by omega)]
  congr 1
  omega
 ·rename_i hn
  have hu := uintB_digits n.toNat (by omega)
  obtain ⟨h3, h4⟩ := digits_all n.toNat
  cases hd : Lib.decDigits n.toNat with
  | nil => exact absurd hd h4
  | cons c r =>
   have hc := h3 c (by rw [hd]; simp)
   unfold isDig at hc
   rw [Lib.parseIntB_plain _ _ _ (by omega) (by omega), ← hd, hu]
   unfold Lib.signlessC
   dsimp only
   rw [if_neg (by omega)]
   congr 1
   omega
theorem long_itoa {n : Int} (h : In64 n) : longL (Lib.itoa n) = some n := by
 unfold longL
 rw [int_itoa h]
 dsimp only
 rw [if_pos rfl]
def Plain (s : List UInt8) : Prop := ∀ b ∈ s, b ≠ 32 ∧ b ≠ 59
theorem itoa_plain (n : Int) : Plain (Lib.itoa n) ∧ Lib.itoa n ≠ [] := by
 have hd : ∀ u, Plain (Lib.decDigits u) := fun u b hb => by
  have := (digits_all u).1 b hb
  unfold isDig at this
  exact ⟨fun e => by subst e; simp at this, fun e => by subst e; simp at this⟩
 unfold Lib.itoa
 split
 ·refine ⟨fun b hb => ?_, by simp⟩
  rcases List.mem_cons.1 hb with rfl | hb
  ·decide
  ·exact hd _ b hb
 ·exact ⟨hd _, (digits_all _).2⟩
theorem name_plain : ∀ k, k < 10 → Plain (kNames.getD k []) ∧ (k ≠ 0 → kNames.getD k [] ≠ [] ∧ kindOf (kNames.getD k []) = k) := by
 intro k hk
 have : k = 0 ∨ k = 1 ∨ k = 2 ∨ k = 3 ∨ k = 4 ∨ k = 5 ∨ k = 6 ∨ k = 7 ∨ k = 8 ∨ k = 9 := by omega
 unfold Plain
 rcases this with rfl | rfl | rfl | rfl | rfl | rfl | rfl | rfl | rfl | rfl <;> decide
def shut (w : List UInt8) : List (List UInt8) := if w = [] then [] else [w]
def ahead (ws : List (List UInt8)) : List (List (List UInt8)) → List (List (List UInt8))
 | [] => [ws]
 | p :: ps => (ws ++ p) :: ps
def pw (w : List UInt8) : List UInt8 → List (List (List UInt8))
 | [] => [shut w]
 | b :: t => if b = 59 then shut w :: pw [] t else if b = 32 then ahead (shut w) (pw [] t) else pw (w ++ [b]) t
theorem pw_cons (w : List UInt8) (b : UInt8) (t : List UInt8) : pw w (b :: t) = if b = 59 then shut w :: pw [] t else if b = 32 then ahead (shut w) (pw [] t) else pw (w ++ [b]) t := by rw [pw]
theorem pw_ne : ∀ (s w : List UInt8), pw w s ≠ []
 | [], w => by simp [pw]
 | b :: t, w => by
  unfold pw
  split
  ·simp
  ·split
   ·cases pw [] t <;> simp [ahead]
   ·exact pw_ne t _
theorem ahead_app (ws : List (List UInt8)) {a b : List (List (List UInt8))} (h : a ≠ []) : ahead ws (a ++ b) = ahead ws a ++ b := by
 cases a with
 | nil => exact absurd rfl h
 | cons p ps => rfl
theorem pw_split : ∀ (s w : List UInt8), pw w s = match splitL 59 s with | [] => [] | p :: ps => wordsW w p :: ps.map wordsL
 | [], w => by simp [pw, splitL, wordsW, shut]
 | b :: t, w => by
  have ih := pw_split t
  have hne := splitL_ne 59 t
  unfold pw splitL
  split
  ·rename_i h
   rw [ih []]
   cases hs : splitL 59 t with
   | nil => exact absurd hs hne
   | cons p ps => simp [wordsW, shut, wordsL]
  ·rename_i h
   cases hs : splitL 59 t with
   | nil => exact absurd hs hne
   | cons p ps =>
    dsimp only
    split
    ·rename_i h2
     rw [ih [], hs]
     subst h2
     simp only [ahead, wordsW, if_true]
     congr 1
     unfold shut
     split
     ·rename_i hw; simp
     ·rename_i hw; simp
    ·rename_i h2
     rw [ih, hs]
     simp only [wordsW, if_neg h2]
theorem pw_words (s : List UInt8) : (splitL 59 s).map wordsL = pw [] s := by
 rw [pw_split s []]
 cases hs : splitL 59 s with
 | nil => exact absurd hs (splitL_ne 59 s)
 | cons p ps => rfl
theorem pw_app : ∀ (a b w : List UInt8), pw w (a ++ 59 :: b) = pw w a ++ pw [] b
 | [], b, w => by simp [pw]
 | c :: t, b, w => by
  rw [List.cons_append, pw_cons, pw_cons w c t]
  split
  ·rw [pw_app t b []]; rfl
  ·split
   ·rw [pw_app t b [], ahead_app _ (pw_ne t [])]
   ·exact pw_app t b _
theorem pw_word : ∀ (x t w : List UInt8), Plain x → pw w (x ++ t) = pw (w ++ x) t
 | [], t, w, _ => by simp
 | b :: x, t, w, h => by
  have hb := h b (by simp)
  simp only [List.cons_append]
  rw [pw, if_neg hb.2, if_neg hb.1, pw_word x t (w ++ [b]) (fun c hc => h c (List.mem_cons_of_mem _ hc))]
  simp
theorem pw_blank (w t : List UInt8) : pw w (32 :: t) = ahead (shut w) (pw [] t) := by rw [pw, if_neg (by decide), if_pos rfl]
theorem ahead_nil {a : List (List (List UInt8))} (h : a ≠ []) : ahead [] a = a := by
 cases a with
 | nil => exact absurd rfl h
 | cons p ps => simp [ahead]
theorem pw_blank0 (t : List UInt8) : pw [] (32 :: t) = pw [] t := by
 rw [pw_blank]
 exact ahead_nil (pw_ne t [])
theorem pw_nums : ∀ (ns : List Int) (w : List UInt8), w ≠ [] → pw w (ns.flatMap fun x => 32 :: Lib.itoa x) = [w :: ns.map Lib.itoa]
 | [], w, h => by simp [pw, shut, h]
 | n :: ns, w, h => by
  obtain ⟨h1, h2⟩ := itoa_plain n
  rw [List.flatMap_cons, List.cons_append, pw_blank, pw_word _ _ _ h1, List.nil_append, pw_nums ns _ h2]
  simp [ahead, shut, h]
def opWords (o : OpL) : List (List UInt8) := kNames.getD o.kind.toNat [] :: (numsOf o).map Lib.itoa
theorem kind_lt {o : OpL} (h : opFaultL o = 0) : 1 ≤ o.kind ∧ o.kind ≤ 9 := by
 unfold opFaultL at h
 split at h
 ·cases h
 ·omega
theorem pw_op {o : OpL} (h : opFaultL o = 0) : pw [] (opText o) = [opWords o] := by
 have hk := kind_lt h
 obtain ⟨h1, h2⟩ := name_plain o.kind.toNat (by omega)
 unfold opText opWords
 rw [pw_word _ _ _ h1, List.nil_append, pw_nums _ _ (h2 (by omega)).1]
theorem pw_print : ∀ (d : DeedL), d ≠ [] → (∀ o ∈ d, opFaultL o = 0) → pw [] (printL d) = d.map opWords
 | [], h, _ => absurd rfl h
 | [o], _, h => by
  unfold printL
  rw [List.map_cons, List.map_nil, Lib.join_one, pw_op (h o (by simp))]
  rfl
 | o :: o2 :: d, _, h => by
  have ih := pw_print (o2 :: d) (by simp) (fun x hx => h x (List.mem_cons_of_mem _ hx))
  have e : printL (o :: o2 :: d) = opText o ++ 59 :: (32 :: printL (o2 :: d)) := by
   unfold printL
   rw [List.map_cons, List.map_cons, Lib.join_cons, Lib.join_cons]
   simp [Lib.joinTail]
  rw [e, pw_app, pw_op (h o (by simp)), pw_blank0, ih]
  rfl
theorem pw_void : ∀ s : List UInt8, (∀ b ∈ s, b = 32) → pw [] s = [[]]
 | [], _ => rfl
 | b :: t, h => by
  have hb : b = 32 := h b (by simp)
  subst hb
  rw [pw_blank0]
  exact pw_void t fun c hc => h c (List.mem_cons_of_mem _ hc)
end Go.SL
end
section
open Go Go.Proofs Go.SL
set_option maxRecDepth 100000
namespace Go.SL
theorem numsL_itoa : ∀ ns : List Int, (∀ n ∈ ns, In64 n) → numsL (ns.map Lib.itoa) = some ns
 | [], _ => rfl
 | n :: ns, h => by
  simp only [List.map_cons, numsL, long_itoa (h n (by simp)), numsL_itoa ns (fun m hm => h m (List.mem_cons_of_mem _ hm))]
theorem nums_in {o : OpL} (h : OpIn o) : ∀ n ∈ numsOf o, In64 n := by
 intro n hn
 unfold numsOf at hn
 repeat' split at hn
 all_goals simp only [List.mem_cons, List.not_mem_nil, or_false] at hn
 ·rcases hn with rfl | rfl
  ·exact h.a
  ·exact h.n
 ·subst hn; exact h.a
 ·rcases hn with rfl | rfl
  ·exact h.a
  ·exact h.b
 ·rcases hn with rfl | rfl | rfl
  ·exact h.a
  ·exact h.b
  ·exact h.c
theorem counts_of {o : OpL} (h : 1 ≤ o.kind ∧ o.kind ≤ 9) : ((numsOf o).length : Int) = kCounts.getD o.kind.toNat 0 := by
 have : o.kind = 1 ∨ o.kind = 2 ∨ o.kind = 3 ∨ o.kind = 4 ∨ o.kind = 5 ∨ o.kind = 6 ∨ o.kind = 7 ∨ o.kind = 8 ∨ o.kind = 9 := by omega
 unfold numsOf
 rcases this with e | e | e | e | e | e | e | e | e <;> rw [e] <;> rfl
theorem bad_zero {x : Int} (h : badL x 0 = 0) : x = 0 := by
 unfold badL at h
 by_cases hx : x = 0
 ·exact hx
 ·rw [if_pos rfl, if_pos hx] at h; cases h
theorem fault_parts {o : OpL} (h : opFaultL o = 0) : badL o.a ((limL o.kind).getD 0 0) = 0 ∧ badL o.b ((limL o.kind).getD 1 0) = 0 ∧ badL o.c ((limL o.kind).getD 2 0) = 0 ∧ (o.kind ≠ 1 → o.n = 0) := by
 unfold opFaultL at h
 split at h
 ·cases h
 ·split at h
  ·exact absurd h (by assumption)
  ·split at h
   ·exact absurd h (by assumption)
   ·split at h
    ·exact absurd h (by assumption)
    ·rename_i h1 h2 h3 h4
     simp only [ne_eq, Decidable.not_not] at h2 h3 h4
     refine ⟨h2, h3, h4, fun hk => ?_⟩
     by_cases hn : o.n = 0
     ·exact hn
     ·rw [if_pos ⟨hk, hn⟩] at h; cases h
theorem op_back {o : OpL} (h : opFaultL o = 0) : opOf o.kind.toNat (numsOf o) = o := by
 have hk := kind_lt h
 obtain ⟨_, hb, hc, hn⟩ := fault_parts h
 obtain ⟨kind, a, b, c, n⟩ := o
 dsimp only at hk hb hc hn
 have : kind = 1 ∨ kind = 2 ∨ kind = 3 ∨ kind = 4 ∨ kind = 5 ∨ kind = 6 ∨ kind = 7 ∨ kind = 8 ∨ kind = 9 := by omega
 rcases this with rfl | rfl | rfl | rfl | rfl | rfl | rfl | rfl | rfl
 ·have h1 := bad_zero (x := b) hb; have h2 := bad_zero (x := c) hc; subst h1; subst h2; rfl
 ·have h2 := bad_zero (x := c) hc; have h3 := hn (by decide); subst h2; subst h3; rfl
 ·have h3 := hn (by decide); subst h3; rfl
 ·have h3 := hn (by decide); subst h3; rfl
 ·have h3 := hn (by decide); subst h3; rfl
 ·have h3 := hn (by decide); subst h3; rfl
 ·have h2 := bad_zero (x := c) hc; have h3 := hn (by decide); subst h2; subst h3; rfl
 ·have h1 := bad_zero (x := b) hb; have h2 := bad_zero (x := c) hc; have h3 := hn (by decide); subst h1; subst h2; subst h3; rfl
 ·have h2 := bad_zero (x := c) hc; have h3 := hn (by decide); subst h2; subst h3; rfl
theorem one_words {o : OpL} (h : opFaultL o = 0) (hin : OpIn o) : oneL (opWords o) = some o := by
 have hk := kind_lt h
 obtain ⟨_, h2⟩ := name_plain o.kind.toNat (by omega)
 have hko := (h2 (by omega)).2
 have hh : (opWords o).headD [] = kNames.getD o.kind.toNat [] := rfl
 unfold oneL
 rw [hh, hko, if_neg (by
  intro hx
  rcases hx with hx | hx
  ·omega
  ·refine hx ?_
   have := counts_of hk
   rw [← this]
   simp [opWords]
   omega)]
 show (numsL ((numsOf o).map Lib.itoa)).map _ = _
 rw [numsL_itoa _ (nums_in hin), Option.map_some, op_back h]
def parseP (i : Nat) (acc : DeedL) : List (List (List UInt8)) → DeedL × (Int × Int)
 | [] => if (checkL acc).1 ≠ 0 then ([], checkL acc) else (acc, (0, 0))
 | p :: ps => match oneL p with
  | none => ([], (10, (i : Int)))
  | some o => parseP (i + 1) (acc ++ [o]) ps
theorem parse_map : ∀ (ps : List (List UInt8)) (i : Nat) (acc : DeedL), parseFrom i acc ps = parseP i acc (ps.map wordsL)
 | [], _, _ => rfl
 | p :: ps, i, acc => by
  simp only [parseFrom, List.map_cons, parseP]
  cases oneL (wordsL p) with
  | none => rfl
  | some o => exact parse_map ps _ _
theorem parse_all : ∀ (d : DeedL) (i : Nat) (acc : DeedL), (∀ o ∈ d, opFaultL o = 0) → (∀ o ∈ d, OpIn o) → parseP i acc (d.map opWords) = if (checkL (acc ++ d)).1 ≠ 0 then ([], checkL (acc ++ d)) else (acc ++ d, (0, 0))
 | [], i, acc, _, _ => by simp only [List.map_nil, parseP, List.append_nil]
 | o :: d, i, acc, h, hin => by
  simp only [List.map_cons, parseP, one_words (h o (by simp)) (hin o (by simp))]
  rw [parse_all d _ _ (fun x hx => h x (List.mem_cons_of_mem _ hx)) (fun x hx => hin x (List.mem_cons_of_mem _ hx)), List.append_assoc]
  rfl
theorem parse_ops {s : List UInt8} {d : DeedL} (hd : d ≠ []) (hs : pw [] s = d.map opWords) (h : ∀ o ∈ d, opFaultL o = 0) (hin : ∀ o ∈ d, OpIn o) : parseL s = if (checkL d).1 ≠ 0 then ([], checkL d) else (d, (0, 0)) := by
 have hw : wordsL s ≠ [] := by
  intro hw
  rw [words_none] at hw
  rw [pw_void s hw] at hs
  cases d with
  | nil => exact hd rfl
  | cons o d =>
   simp only [List.map_cons, List.cons.injEq] at hs
   exact absurd hs.1 (by simp [opWords])
 unfold parseL
 rw [if_neg hw, parse_map, pw_words, hs, parse_all d 0 [] h hin, List.nil_append]
theorem checked_ops {d : DeedL} (h : (checkL d).1 = 0) : ∀ o ∈ d, opFaultL o = 0 := by
 intro o ho
 obtain ⟨i, hi, rfl⟩ := List.mem_iff_getElem.1 ho
 exact ((checked h).2 i hi).1
theorem parse_print {d : DeedL} (h : (checkL d).1 = 0) (hin : ∀ o ∈ d, OpIn o) : parseL (printL d) = (d, (0, 0)) := by
 cases d with
 | nil => rfl
 | cons o d =>
  rw [parse_ops (by simp) (pw_print _ (by simp) (checked_ops h)) (checked_ops h) hin, if_neg (by rw [h]; decide)]
theorem numsL_in : ∀ {l : List (List UInt8)} {ns : List Int}, numsL l = some ns → ∀ n ∈ ns, In64 n
 | [], ns, h => by simp only [numsL] at h; injection h with h; subst h; intro n hn; cases hn
 | x :: r, ns, h => by
  simp only [numsL] at h
  cases hx : longL x with
  | none => rw [hx] at h; cases h
  | some v =>
   cases hr : numsL r with
   | none => rw [hx, hr] at h; cases h
   | some vs =>
    rw [hx, hr] at h
    injection h with h
    subst h
    intro n hn
    rcases List.mem_cons.1 hn with rfl | hn
    ·exact (long_in hx).2.2
    ·exact numsL_in hr n hn
theorem getD_in {ns : List Int} (h : ∀ n ∈ ns, In64 n) (i : Nat) : In64 (ns.getD i 0) := by
 by_cases hi : i < ns.length
 ·have : ns.getD i 0 = ns[i] := by simp [List.getD, hi]
  rw [this]; exact h _ (List.getElem_mem hi)
 ·have : ns.getD i 0 = 0 := by simp [List.getD, List.getElem?_eq_none (show ns.length ≤ i by omega)]
  rw [this]; simp [In64]
theorem one_in {l : List (List UInt8)} {o : OpL} (h : oneL l = some o) : OpIn o := by
 unfold oneL at h
 split at h
 ·cases h
 ·cases hn : numsL l.tail with
  | none => rw [hn] at h; cases h
  | some ns =>
   rw [hn, Option.map_some] at h
   injection h with h
   subst h
   have hi := getD_in (numsL_in hn)
   have hk := kindOf_le (l.headD [])
   have hz : In64 0 := by simp [In64]
   unfold opOf
   split
   ·exact ⟨by simp [In64], hi 0, hz, hz, hi 1⟩
   ·exact ⟨by unfold In64; dsimp only; omega, hi 0, hi 1, hi 2, hz⟩
theorem parseFrom_out : ∀ (ps : List (List UInt8)) (i : Nat) (acc : DeedL), (∀ o ∈ acc, OpIn o) → ((parseFrom i acc ps).2.1 ≠ 0 → (parseFrom i acc ps).1 = []) ∧ ((parseFrom i acc ps).2.1 = 0 → (checkL (parseFrom i acc ps).1).1 = 0) ∧ ∀ o ∈ (parseFrom i acc ps).1, OpIn o
 | [], i, acc, h => by
  simp only [parseFrom]
  split
  ·rename_i hc; exact ⟨fun _ => rfl, fun hz => absurd hz hc, fun o ho => by cases ho⟩
  ·rename_i hc; exact ⟨fun hz => absurd rfl hz, fun _ => by dsimp only; omega, h⟩
 | p :: ps, i, acc, h => by
  simp only [parseFrom]
  cases ho : oneL (wordsL p) with
  | none => exact ⟨fun _ => rfl, fun hz => (by cases hz), fun o ho => by cases ho⟩
  | some o =>
   refine parseFrom_out ps _ _ fun x hx => ?_
   rcases List.mem_append.1 hx with hx | hx
   ·exact h x hx
   ·rw [List.mem_singleton] at hx; subst hx; exact one_in ho
theorem parse_out (s : List UInt8) : ((parseL s).2.1 ≠ 0 → (parseL s).1 = []) ∧ ((parseL s).2.1 = 0 → (checkL (parseL s).1).1 = 0) ∧ ∀ o ∈ (parseL s).1, OpIn o := by
 unfold parseL
 split
 ·exact ⟨fun _ => rfl, fun _ => rfl, fun o ho => by cases ho⟩
 ·exact parseFrom_out _ _ _ (fun o ho => by cases ho)
end Go.SL
end
