/- Ytebdkaadbakhlaa: part CodL of this seat's own texts. -/
import Derived.Test.YtebdkaadbakhlaaMo2
set_option linter.unusedVariables false
set_option linter.unusedSimpArgs false
namespace Go.SL
/-! ## codec, as plain Lean -/
def long8 (n : Int) : List UInt8 := [ub n, ub (n / 256), ub (n / 65536), ub (n / 16777216), ub (n / 4294967296), ub (n / 1099511627776), ub (n / 281474976710656), ub (n / 72057594037927936)]
def encOp (o : OpL) : List UInt8 := ub o.kind :: (if o.kind = 1 then ub o.a :: long8 o.n else [ub (o.a + 16 * o.b), ub o.c])
def encOps (d : DeedL) : List UInt8 := d.flatMap encOp
def encDeed (d : DeedL) : List UInt8 := ub d.length :: encOps d
def encDeeds (r : RoundL) : List UInt8 := r.flatMap encDeed
def encBody (r : RoundL) : List UInt8 := ub r.length :: encDeeds r
def encL (r : RoundL) : List UInt8 := ub (encBody r).length :: ub (((encBody r).length : Int) / 256) :: encBody r
def num8 (a b c d e f g h : UInt8) : Int := IntKind.i64.wrap ((a.toNat : Int) + 256 * b.toNat + 65536 * c.toNat + 16777216 * d.toNat + 4294967296 * e.toNat + 1099511627776 * f.toNat + 281474976710656 * g.toNat + 72057594037927936 * h.toNat)
def getOp : List UInt8 → Option (OpL × List UInt8)
  | k :: b => if k = 1 then (match b with
      | a :: b0 :: b1 :: b2 :: b3 :: b4 :: b5 :: b6 :: b7 :: b => some (⟨1, a.toNat, 0, 0, num8 b0 b1 b2 b3 b4 b5 b6 b7⟩, b)
      | _ => none)
    else (match b with
      | x :: c :: b => some (⟨k.toNat, (x.toNat : Int) % 16, (x.toNat : Int) / 16, c.toNat, 0⟩, b)
      | _ => none)
  | [] => none
def getOps : Nat → List UInt8 → Option (DeedL × List UInt8)
  | 0, b => some ([], b)
  | n + 1, b => match getOp b with
    | none => none
    | some (o, b) => match getOps n b with
      | none => none
      | some (d, b) => some (o :: d, b)
def getDeed : List UInt8 → Option (DeedL × List UInt8)
  | [] => none
  | n :: b => getOps n.toNat b
def getDeeds : Nat → List UInt8 → Option (RoundL × List UInt8)
  | 0, b => some ([], b)
  | n + 1, b => match getDeed b with
    | none => none
    | some (d, b) => match getDeeds n b with
      | none => none
      | some (r, b) => some (d :: r, b)
def getRound : List UInt8 → Option (RoundL × List UInt8)
  | [] => none
  | n :: b => getDeeds n.toNat b
theorem toNat_lt' (x : UInt8) : (x.toNat : Int) < 256 := by have := x.toNat_lt; omega
theorem ub_of (x : UInt8) : ub (x.toNat : Int) = x := by
  have := x.toNat_lt
  rw [← UInt8.toNat_inj]
  have h := ub_toNat (x.toNat : Int)
  omega
theorem ub_eq {n : Int} {x : UInt8} (h : n % 256 = x.toNat) : ub n = x := by
  rw [← UInt8.toNat_inj]
  have h := ub_toNat n
  omega
theorem w64_of {n m : Int} (h1 : -9223372036854775808 ≤ n) (h2 : n ≤ 9223372036854775807) (h : (m - n) % 18446744073709551616 = 0) : IntKind.i64.wrap m = n := by
  simp [IntKind.wrap, IntKind.bits, IntKind.signed]
  omega
theorem w64_range (m : Int) : -9223372036854775808 ≤ IntKind.i64.wrap m ∧ IntKind.i64.wrap m ≤ 9223372036854775807 ∧ (m - IntKind.i64.wrap m) % 18446744073709551616 = 0 := by
  simp [IntKind.wrap, IntKind.bits, IntKind.signed]
  omega
/-- the number of eight bytes is the number -/
theorem num8_long8 {n : Int} (h1 : -9223372036854775808 ≤ n) (h2 : n ≤ 9223372036854775807) : num8 (ub n) (ub (n / 256)) (ub (n / 65536)) (ub (n / 16777216)) (ub (n / 4294967296)) (ub (n / 1099511627776)) (ub (n / 281474976710656)) (ub (n / 72057594037927936)) = n := by
  unfold num8
  refine w64_of h1 h2 ?_
  simp only [ub_toNat]
  omega
theorem long8_num8 (a b c d e f g h : UInt8) : long8 (num8 a b c d e f g h) = [a, b, c, d, e, f, g, h] := by
  have ha := toNat_lt' a; have hb := toNat_lt' b; have hc := toNat_lt' c; have hd := toNat_lt' d
  have he := toNat_lt' e; have hf := toNat_lt' f; have hg := toNat_lt' g; have hh := toNat_lt' h
  unfold long8 num8
  generalize hm : ((a.toNat : Int) + 256 * b.toNat + 65536 * c.toNat + 16777216 * d.toNat + 4294967296 * e.toNat + 1099511627776 * f.toNat + 281474976710656 * g.toNat + 72057594037927936 * h.toNat) = m
  obtain ⟨h1, h2, h3⟩ := w64_range m
  generalize IntKind.i64.wrap m = n at *
  simp only [List.cons.injEq, and_true]
  refine ⟨ub_eq ?_, ub_eq ?_, ub_eq ?_, ub_eq ?_, ub_eq ?_, ub_eq ?_, ub_eq ?_, ub_eq ?_⟩ <;> omega

/-- what an operation is like that has bytes -/
def OkOp (o : OpL) : Prop := (o.kind = 1 ∧ 0 ≤ o.a ∧ o.a < 256 ∧ o.b = 0 ∧ o.c = 0 ∧ -9223372036854775808 ≤ o.n ∧ o.n ≤ 9223372036854775807) ∨ (2 ≤ o.kind ∧ o.kind < 256 ∧ 0 ≤ o.a ∧ o.a < 16 ∧ 0 ≤ o.b ∧ o.b < 16 ∧ 0 ≤ o.c ∧ o.c < 256 ∧ o.n = 0)
theorem ub_nat {n : Int} (h0 : 0 ≤ n) (h1 : n < 256) : ((ub n).toNat : Int) = n := by rw [ub_toNat]; omega
theorem ub_one : ub 1 = 1 := rfl
theorem ub_ne1 {n : Int} (h0 : 2 ≤ n) (h1 : n < 256) : ub n ≠ 1 := fun h => by
  have := ub_nat (by omega) h1
  rw [h] at this
  have h2 : (1 : UInt8).toNat = 1 := rfl
  omega
theorem getOp_enc {o : OpL} (h : OkOp o) (b : List UInt8) : getOp (encOp o ++ b) = some (o, b) := by
  obtain ⟨k, a, x, c, n⟩ := o
  rcases h with ⟨rfl, h1, h2, rfl, rfl, h3, h4⟩ | ⟨h1, h2, h3, h4, h5, h6, h7, h8, rfl⟩
  · dsimp only at *
    simp only [encOp, if_true, long8, List.cons_append, List.nil_append, getOp, ub_one, num8_long8 h3 h4, ub_nat h1 h2]
  · dsimp only at *
    have hk : ¬ k = 1 := by omega
    simp only [encOp, hk, if_false, List.cons_append, List.nil_append, getOp, ub_ne1 h1 h2, ub_nat h7 h8, ub_nat (show 0 ≤ k by omega) h2]
    have e := ub_nat (n := a + 16 * x) (by omega) (by omega)
    simp only [e, Option.some.injEq, Prod.mk.injEq, OpL.mk.injEq, and_true, true_and]
    omega
theorem getOps_enc : ∀ {d : DeedL}, (∀ o ∈ d, OkOp o) → ∀ b, getOps d.length (encOps d ++ b) = some (d, b)
  | [], _, b => rfl
  | o :: d, h, b => by
    have h1 := getOps_enc (d := d) (fun o ho => h o (by simp [ho])) b
    simp only [List.length_cons, getOps, encOps, List.flatMap_cons, List.append_assoc, getOp_enc (h o (by simp))]
    simp only [encOps] at h1
    rw [h1]
theorem getDeed_enc {d : DeedL} (h : ∀ o ∈ d, OkOp o) (hl : d.length < 256) (b : List UInt8) : getDeed (encDeed d ++ b) = some (d, b) := by
  simp only [encDeed, List.cons_append, getDeed]
  have : (ub d.length).toNat = d.length := by have := ub_nat (n := d.length) (by omega) (by omega); omega
  rw [this]
  exact getOps_enc h b
def OkRound (r : RoundL) : Prop := r.length ≤ 8 ∧ ∀ d ∈ r, d.length ≤ 14 ∧ ∀ o ∈ d, OkOp o
theorem getDeeds_enc : ∀ {r : RoundL}, (∀ d ∈ r, d.length ≤ 14 ∧ ∀ o ∈ d, OkOp o) → ∀ b, getDeeds r.length (encDeeds r ++ b) = some (r, b)
  | [], _, b => rfl
  | d :: r, h, b => by
    have h1 := getDeeds_enc (r := r) (fun d hd => h d (by simp [hd])) b
    have h2 := h d (by simp)
    simp only [List.length_cons, getDeeds, encDeeds, List.flatMap_cons, List.append_assoc, getDeed_enc h2.2 (show d.length < 256 by omega)]
    simp only [encDeeds] at h1
    rw [h1]
theorem getRound_enc {r : RoundL} (h : OkRound r) (b : List UInt8) : getRound (encBody r ++ b) = some (r, b) := by
  simp only [encBody, List.cons_append, getRound]
  have : (ub r.length).toNat = r.length := by have := ub_nat (n := r.length) (by omega) (by have := h.1; omega); omega
  rw [this]
  exact getDeeds_enc h.2 b
theorem enc_getOp : ∀ {b b' : List UInt8} {o : OpL}, getOp b = some (o, b') → b = encOp o ++ b'
  | [], _, _, h => by simp [getOp] at h
  | k :: b, b', o, h => by
    simp only [getOp] at h
    by_cases hk : k = 1
    · subst hk
      simp only [if_true] at h
      split at h
      · simp only [Option.some.injEq, Prod.mk.injEq] at h
        obtain ⟨rfl, rfl⟩ := h
        simp [encOp, ub_one, ub_of, long8_num8]
      · cases h
    · rw [if_neg hk] at h
      split at h
      · rename_i x c rest
        simp only [Option.some.injEq, Prod.mk.injEq] at h
        obtain ⟨rfl, rfl⟩ := h
        have hk' : ¬ (k.toNat : Int) = 1 := fun h => hk (by rw [← UInt8.toNat_inj]; have : (1 : UInt8).toNat = 1 := rfl; omega)
        simp only [encOp, hk', if_false, ub_of, List.cons_append, List.nil_append, List.cons.injEq, true_and, and_true]
        exact (ub_eq (by have := toNat_lt' x; omega)).symm
      · cases h
theorem enc_getOps : ∀ {n : Nat} {b b' : List UInt8} {d : DeedL}, getOps n b = some (d, b') → d.length = n ∧ b = encOps d ++ b'
  | 0, b, b', d, h => by
    simp only [getOps, Option.some.injEq, Prod.mk.injEq] at h
    obtain ⟨rfl, rfl⟩ := h
    exact ⟨rfl, rfl⟩
  | n + 1, b, b', d, h => by
    simp only [getOps] at h
    cases h1 : getOp b with
    | none => rw [h1] at h; cases h
    | some p =>
      obtain ⟨o, b1⟩ := p
      rw [h1] at h
      dsimp only at h
      cases h2 : getOps n b1 with
      | none => rw [h2] at h; cases h
      | some p =>
        obtain ⟨d', b2⟩ := p
        rw [h2] at h
        simp only [Option.some.injEq, Prod.mk.injEq] at h
        obtain ⟨rfl, rfl⟩ := h
        obtain ⟨h3, h4⟩ := enc_getOps h2
        have h5 := enc_getOp h1
        exact ⟨by simp [h3], by rw [h5, h4]; simp [encOps]⟩
theorem enc_getDeed {b b' : List UInt8} {d : DeedL} (h : getDeed b = some (d, b')) : b = encDeed d ++ b' := by
  cases b with
  | nil => cases h
  | cons n b =>
    obtain ⟨h1, h2⟩ := enc_getOps h
    rw [h2]
    simp only [encDeed, h1, ub_of, List.cons_append]
theorem enc_getDeeds : ∀ {n : Nat} {b b' : List UInt8} {r : RoundL}, getDeeds n b = some (r, b') → r.length = n ∧ b = encDeeds r ++ b'
  | 0, b, b', d, h => by
    simp only [getDeeds, Option.some.injEq, Prod.mk.injEq] at h
    obtain ⟨rfl, rfl⟩ := h
    exact ⟨rfl, rfl⟩
  | n + 1, b, b', d, h => by
    simp only [getDeeds] at h
    cases h1 : getDeed b with
    | none => rw [h1] at h; cases h
    | some p =>
      obtain ⟨o, b1⟩ := p
      rw [h1] at h
      dsimp only at h
      cases h2 : getDeeds n b1 with
      | none => rw [h2] at h; cases h
      | some p =>
        obtain ⟨d', b2⟩ := p
        rw [h2] at h
        simp only [Option.some.injEq, Prod.mk.injEq] at h
        obtain ⟨rfl, rfl⟩ := h
        obtain ⟨h3, h4⟩ := enc_getDeeds h2
        have h5 := enc_getDeed h1
        exact ⟨by simp [h3], by rw [h5, h4]; simp [encDeeds]⟩
theorem enc_getRound {b b' : List UInt8} {r : RoundL} (h : getRound b = some (r, b')) : b = encBody r ++ b' := by
  cases b with
  | nil => cases h
  | cons n b =>
    obtain ⟨h1, h2⟩ := enc_getDeeds h
    rw [h2]
    simp only [encBody, h1, ub_of, List.cons_append]
section
variable (fault : RoundL → Int)
def bodyL (b : List UInt8) : RoundL × Int :=
  match getRound b with
  | none => ([], 3)
  | some (r, rest) => if rest ≠ [] then ([], 3) else if fault r ≠ 0 then ([], fault r) else (r, 0)
def headN : List UInt8 → Nat
  | a :: b :: _ => 2 + a.toNat + 256 * b.toNat
  | _ => 2
def decL (b : List UInt8) : RoundL × Int × Int :=
  if b.length < 2 then ([], 0, 6) else if b.length < headN b then ([], 0, 6)
  else if (bodyL fault ((b.take (headN b)).drop 2)).2 ≠ 0 then ([], 0, (bodyL fault ((b.take (headN b)).drop 2)).2)
  else ((bodyL fault ((b.take (headN b)).drop 2)).1, headN b, 0)
theorem encOps_len {d : DeedL} : (encOps d).length ≤ 10 * d.length := by
  induction d with
  | nil => simp [encOps]
  | cons o d ih =>
    simp only [encOps, List.flatMap_cons, List.length_append, List.length_cons] at ih ⊢
    have : (encOp o).length ≤ 10 := by
      unfold encOp
      split <;> simp [long8]
    omega
theorem encDeeds_len {r : RoundL} (h : ∀ d ∈ r, d.length ≤ 14) : (encDeeds r).length ≤ 141 * r.length := by
  induction r with
  | nil => simp [encDeeds]
  | cons d r ih =>
    have h1 := ih (fun d hd => h d (by simp [hd]))
    have h2 := h d (by simp)
    have h3 := encOps_len (d := d)
    simp only [encDeeds, List.flatMap_cons, List.length_append, List.length_cons] at h1 ⊢
    have : (encDeed d).length ≤ 141 := by simp only [encDeed, List.length_cons]; omega
    omega
theorem encBody_len {r : RoundL} (h : OkRound r) : (encBody r).length ≤ 1129 := by
  have h1 := encDeeds_len (fun d hd => (h.2 d hd).1)
  have h2 := h.1
  simp only [encBody, List.length_cons]
  omega
theorem encL_len (r : RoundL) : (encL r).length = (encBody r).length + 2 := by simp [encL]
theorem headN_enc {r : RoundL} (h : OkRound r) (b : List UInt8) : headN (encL r ++ b) = (encL r).length := by
  have h1 := encBody_len h
  rw [encL_len]
  simp only [encL, List.cons_append, headN]
  have h2 := ub_toNat ((encBody r).length : Int)
  have h3 := ub_toNat (((encBody r).length : Int) / 256)
  omega
theorem bodyL_enc {r : RoundL} (h : OkRound r) (hf : fault r = 0) : bodyL fault (encBody r) = (r, 0) := by
  have := getRound_enc h []
  rw [List.append_nil] at this
  simp [bodyL, this, hf]
theorem dec_enc {r : RoundL} (h : OkRound r) (hf : fault r = 0) (b : List UInt8) : decL fault (encL r ++ b) = (r, ((encL r).length : Int), 0) := by
  have h1 := headN_enc h b
  have h2 := encL_len r
  unfold decL
  rw [h1, if_neg (by simp; omega), if_neg (by simp)]
  have h3 : ((encL r ++ b).take (encL r).length).drop 2 = encBody r := by
    rw [List.take_left']
    · rfl
    · rfl
  rw [h3, bodyL_enc fault h hf]
  simp
theorem bodyL_ok {b : List UInt8} {r : RoundL} (h : bodyL fault b = (r, 0)) : fault r = 0 ∧ b = encBody r := by
  unfold bodyL at h
  cases h1 : getRound b with
  | none => rw [h1] at h; simp at h
  | some p =>
    obtain ⟨r', rest⟩ := p
    rw [h1] at h
    dsimp only at h
    by_cases hr : rest ≠ []
    · rw [if_pos hr] at h; simp at h
    · rw [if_neg hr] at h
      by_cases hf : fault r' ≠ 0
      · rw [if_pos hf] at h; simp only [Prod.mk.injEq] at h; exact absurd h.2 hf
      · rw [if_neg hf] at h
        simp only [Prod.mk.injEq, and_true] at h
        subst h
        have := enc_getRound h1
        simp only [ne_eq, Decidable.not_not] at hr hf
        rw [hr, List.append_nil] at this
        exact ⟨hf, this⟩
theorem enc_dec {b : List UInt8} {z : RoundL} {n : Int} (h : decL fault b = (z, n, 0)) : fault z = 0 ∧ n = (encL z).length ∧ (encL z).length ≤ b.length ∧ encL z = b.take (encL z).length := by
  unfold decL at h
  by_cases h1 : b.length < 2
  · rw [if_pos h1] at h; simp at h
  · rw [if_neg h1] at h
    by_cases h2 : b.length < headN b
    · rw [if_pos h2] at h; simp at h
    · rw [if_neg h2] at h
      by_cases h3 : (bodyL fault ((b.take (headN b)).drop 2)).2 ≠ 0
      · rw [if_pos h3] at h
        simp only [Prod.mk.injEq] at h
        exact absurd h.2.2 h3
      · rw [if_neg h3] at h
        simp only [Prod.mk.injEq, and_true] at h
        simp only [ne_eq, Decidable.not_not] at h3
        obtain ⟨hf, hb⟩ := bodyL_ok fault (b := (b.take (headN b)).drop 2) (r := z) (by rw [← h.1, ← h3])
        match b, h1, h2, h, hb with
        | x :: y :: b, h1, h2, h, hb =>
          have hx := x.toNat_lt
          have hy := y.toNat_lt
          simp only [headN, List.length_cons] at h2 h hb ⊢
          have h5 : (2 + x.toNat + 256 * y.toNat) = (x.toNat + 256 * y.toNat) + 1 + 1 := by omega
          rw [h5] at hb
          simp only [List.take_succ_cons, List.drop_succ_cons, List.drop_zero] at hb
          have hlen : (encBody z).length = x.toNat + 256 * y.toNat := by rw [← hb, List.length_take]; omega
          have he : encL z = x :: y :: encBody z := by
            simp only [encL, hlen, List.cons.injEq, and_true]
            exact ⟨ub_eq (by omega), ub_eq (by omega)⟩
          rw [encL_len, hlen]
          refine ⟨hf, by omega, by omega, ?_⟩
          rw [he, ← hb, List.take_succ_cons, List.take_succ_cons]
        | [], h1, _, _, _ => simp at h1
        | [x], h1, _, _, _ => simp at h1
theorem dec_cut {r : RoundL} (h : OkRound r) {k : Nat} (hk : k < (encL r).length) : decL fault ((encL r).take k) = ([], 0, 6) := by
  unfold decL
  have hl : ((encL r).take k).length = k := by simp; omega
  rw [hl]
  by_cases h2 : k < 2
  · rw [if_pos h2]
  · rw [if_neg h2]
    have h3 : headN ((encL r).take k) = (encL r).length := by
      have h4 := headN_enc h []
      rw [List.append_nil] at h4
      rw [← h4]
      obtain ⟨k, rfl⟩ : ∃ j, k = j + 2 := ⟨k - 2, by omega⟩
      rfl
    rw [h3, if_pos hk]
theorem dec_bad {b : List UInt8} (h : (decL fault b).2.2 ≠ 0) : (decL fault b).1 = [] ∧ (decL fault b).2.1 = 0 := by
  unfold decL at h ⊢
  by_cases h1 : b.length < 2
  · rw [if_pos h1]; exact ⟨rfl, rfl⟩
  · rw [if_neg h1] at h ⊢
    by_cases h2 : b.length < headN b
    · rw [if_pos h2]; exact ⟨rfl, rfl⟩
    · rw [if_neg h2] at h ⊢
      by_cases h3 : (bodyL fault ((b.take (headN b)).drop 2)).2 ≠ 0
      · rw [if_pos h3]; exact ⟨rfl, rfl⟩
      · rw [if_neg h3] at h; exact absurd rfl h
theorem enc_inj {r q : RoundL} (hr : OkRound r) (hq : OkRound q) : encL r = encL q ↔ r = q := by
  refine ⟨fun h => ?_, fun h => by rw [h]⟩
  have h1 := dec_enc (fun _ => 0) hr rfl []
  have h2 := dec_enc (fun _ => 0) hq rfl []
  rw [h, h2] at h1
  simp only [Prod.mk.injEq] at h1
  exact h1.1.symm
end
end Go.SL
