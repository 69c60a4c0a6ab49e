/- YtebdkaadbakhlaaGreatDoor: part WI of this seat's own texts. -/
import Derived.Test.YtebdkaadbakhlaaGreatDoorWH
import Derived.Test.YtebdkaadbakhlaaGreatDoorP5
import Derived.Test.YtebdkaadbakhlaaGreatDoorSerM
import Derived.Test.YtebdkaadbakhlaaGreatDoorU1
import Derived.Test.YtebdkaadbakhlaaGreatDoorWE
set_option linter.unusedVariables false
set_option linter.unusedSimpArgs false
section
open Go Go.Proofs Go.SL
set_option maxRecDepth 100000
namespace Go.SL
def stAt (s : List Int) (r : RoundL) : Nat → List Int
 | 0 => s
 | m + 1 => (doL arithL (stAt s r m) (r.getD m [])).1
def rsAt (s : List Int) (r : RoundL) (m : Nat) : Int × List Int := (doL arithL (stAt s r m) (r.getD m [])).2
theorem do_len {s : List Int} {d : DeedL} (hs : s.length = 10) : (doL arithL s d).1.length = 10 ∧ (doL arithL s d).2.2.length = 4 := by
 have h : (runL arithL d zero4 s).2.1.length = 4 ∧ (runL arithL d zero4 s).2.2.length = s.length := runF_len arithL d.length d zero4 s
 simp only [doL]
 generalize runL arithL d zero4 s = R at h
 by_cases hb : R.1 = true
 ·rw [if_pos hb]; exact ⟨hs, h.1⟩
 ·rw [if_neg hb]; exact ⟨h.2.trans hs, h.1⟩
theorem stAt_len {s : List Int} {r : RoundL} (hs : s.length = 10) : ∀ m, (stAt s r m).length = 10
 | 0 => hs
 | m + 1 => (do_len (stAt_len hs m)).1
theorem do_stop {s : List Int} {d : DeedL} (h : (doL arithL s d).2.1 ≠ 0) : (doL arithL s d).1 = s := by
 simp only [doL] at h ⊢
 split
 ·rfl
 ·rename_i hb
  rw [if_neg hb] at h
  exact absurd rfl h
theorem do_keeps {s : List Int} {d : DeedL} {k : Nat} (hck : (checkL d).1 = 0) (hs : (k : Int) ∉ storesOf d) : (doL arithL s d).1.getD k 0 = s.getD k 0 := by
 obtain ⟨_, hchk⟩ := checked hck
 have hg : gt (doL arithL s d).1 k = gt s k := by
  simp only [doL]
  split
  ·rfl
  ·exact runF_keeps _ (by omega) _ _ _ _ (fun o ho => by
    obtain ⟨i, hi, rfl⟩ := List.mem_iff_getElem.1 ho
    refine ⟨?_, fun ⟨h1, h2⟩ => hs (storesOf_mem.2 ⟨_, ho, h1, h2⟩)⟩
    rcases rng_all (hchk i hi).1 with ⟨_, ha⟩ | ⟨_, ha⟩ | ⟨_, ha, _⟩ | ⟨_, ha, _⟩ | ⟨_, ha, _⟩ | ⟨_, ha, _⟩ <;> omega)
 simpa [gt] using hg
theorem map_id_of {l : List SlotL} {f : SlotL → SlotL} (h : ∀ x ∈ l, f x = x) : l.map f = l := by
 induction l with
 | nil => rfl
 | cons a t ih => rw [List.map_cons, h a List.mem_cons_self, ih (fun x hx => h x (List.mem_cons_of_mem _ hx))]
theorem chgL_map {l : List SlotL} {by_ : Int} {x : SlotL} (h : OkRow l) : chgL l by_ x = l.map (fun s => if isO by_ s = true then x else s) := by
 cases ha : l.any (isO by_) with
 | false =>
  rw [chgL_none ha]
  rw [List.any_eq_false] at ha
  exact (map_id_of fun s hs => if_neg (by simpa using ha s hs)).symm
 | true =>
  obtain ⟨a, s, b, h1, h2, h3, h4⟩ := find_split ha
  rw [chgL_split h1 h4]
  subst h1
  have hr := h.ris
  rw [List.map_append, List.map_cons] at hr
  obtain ⟨r1, r2, r3⟩ := List.pairwise_append.1 hr
  have r4 := (List.pairwise_cons.1 r2).1
  rw [List.map_append, List.map_cons]
  rw [map_id_of (l := a) fun t ht => if_neg (by
   have := r3 t.by_ (List.mem_map.2 ⟨t, ht, rfl⟩) s.by_ List.mem_cons_self
   unfold isO; rw [decide_eq_false (by omega), Bool.false_and]; simp)]
  rw [map_id_of (l := b) fun t ht => if_neg (by
   have := r4 t.by_ (List.mem_map.2 ⟨t, ht, rfl⟩)
   unfold isO; rw [decide_eq_false (by omega), Bool.false_and]; simp)]
  rw [if_pos (by unfold isO; rw [decide_eq_true h2, h3]; rfl)]
theorem val_step {a : Int} {x : SlotL} : valStep a x = if x.opn = false ∧ x.vd = false then x.n else a := rfl
end Go.SL
end
section
set_option maxRecDepth 100000
namespace Go.SL
open Go Go.Proofs Go.SL
structure WkL where
 d : DeedL
 by_ : Nat
 at_ : Nat
 g : List Int
 ov : Bool
 rc : Int
 rg : List Int
 put : Nat → Bool
 has : Nat → Int
def wk0 (d : DeedL) (i : Nat) : WkL := ⟨d, i, 0, zero4, false, 0, zero4, fun _ => false, fun _ => 0⟩
def endSlot (x : WkL) (c : Int) (k : Nat) : SlotL := if c = 0 ∧ x.put k = true then ⟨x.by_, false, false, x.has k⟩ else ⟨x.by_, false, true, 0⟩
def endT (x : WkL) (c : Int) (T : TabL) : TabL := fun k => if k < 10 ∧ (k : Int) ∈ storesOf x.d then chgL (T k) x.by_ (endSlot x c k) else T k
def endX (x : WkL) (c : Int) : WkL := { x with ov := true, rc := c, rg := x.g }
def seen (x : WkL) (T : TabL) (k : Int) : Int × Int := if x.put k.toNat = true then (x.has k.toNat, -1) else befT T k x.by_
def opW (x : WkL) (T : TabL) (o : OpL) : (Int × Int) × WkL × TabL :=
 if o.kind = 1 then ((1, -1), { x with g := st x.g o.a o.n, at_ := x.at_ + 1 }, T)
 else if o.kind = 2 then (if 0 ≤ (seen x T o.b).2 then ((2, (seen x T o.b).2), x, T) else ((1, -1), { x with g := st x.g o.a (seen x T o.b).1, at_ := x.at_ + 1 }, T))
 else if o.kind = 7 then ((1, -1), { x with put := upd x.put o.a.toNat true, has := upd x.has o.a.toNat (gt x.g o.b), at_ := x.at_ + 1 }, T)
 else if o.kind = 8 then (if gt x.g o.a ≠ 0 then ((3, -1), endX x 9, endT x 9 T) else ((1, -1), { x with at_ := x.at_ + 1 }, T))
 else if o.kind = 9 then (if gt x.g o.a = 0 then ((1, -1), { x with at_ := x.at_ + 1 + o.b.toNat }, T) else ((1, -1), { x with at_ := x.at_ + 1 }, T))
 else ((1, -1), { x with g := st x.g o.a (arithL o.kind (gt x.g o.b) (gt x.g o.c)), at_ := x.at_ + 1 }, T)
def stepW (x : WkL) (T : TabL) : (Int × Int) × WkL × TabL :=
 if x.ov = true then ((3, -1), x, T)
 else match x.d[x.at_]? with
  | none => ((3, -1), endX x 0, endT x 0 T)
  | some o => opW x T o
theorem step_over {x : WkL} {T : TabL} (h : x.ov = true) : stepW x T = ((3, -1), x, T) := by unfold stepW; rw [if_pos h]
theorem step_end {x : WkL} {T : TabL} (h : x.ov = false) (ha : x.d.length ≤ x.at_) : stepW x T = ((3, -1), endX x 0, endT x 0 T) := by
 unfold stepW; rw [if_neg (by simp [h]), List.getElem?_eq_none ha]
theorem step_op {x : WkL} {T : TabL} {o : OpL} (h : x.ov = false) (ha : x.d[x.at_]? = some o) : stepW x T = opW x T o := by
 unfold stepW; rw [if_neg (by simp [h]), ha]
def rowsG (r : RoundL) (f : Nat → SlotL) (k : Nat) : Nat → List SlotL
 | 0 => []
 | m + 1 => rowsG r f k m ++ (if (k : Int) ∈ storesOf (r.getD m []) then [f m] else [])
def slotX (X : Nat → WkL) (k m : Nat) : SlotL := if (X m).ov = true then endSlot (X m) (X m).rc k else slotI m
def tabX (s : List Int) (r : RoundL) (X : Nat → WkL) : TabL := fun k => slot0 s k :: rowsG r (slotX X k) k r.length
structure FineF (f : Nat → SlotL) : Prop where
 by_ : ∀ m, (f m).by_ = m
 opn : ∀ m, (f m).opn = true → (f m).vd = false ∧ (f m).n = 0
theorem rowsG_len (r : RoundL) (f : Nat → SlotL) (k : Nat) : ∀ m, (rowsG r f k m).length ≤ m
 | 0 => Nat.le_refl _
 | m + 1 => by
  have := rowsG_len r f k m
  simp only [rowsG, List.length_append]
  split <;> simp <;> omega
theorem rowsG_mem {r : RoundL} {f : Nat → SlotL} {k : Nat} {x : SlotL} : ∀ {m}, x ∈ rowsG r f k m → ∃ i, i < m ∧ x = f i ∧ (k : Int) ∈ storesOf (r.getD i [])
 | 0, h => by simp [rowsG] at h
 | m + 1, h => by
  rcases List.mem_append.1 h with h | h
  ·obtain ⟨i, h1, h2⟩ := rowsG_mem h
   exact ⟨i, by omega, h2⟩
  ·by_cases hk : (k : Int) ∈ storesOf (r.getD m [])
   ·rw [if_pos hk] at h
    exact ⟨m, by omega, List.mem_singleton.1 h, hk⟩
   ·rw [if_neg hk] at h
    cases h
theorem rowsG_ris {r : RoundL} {f : Nat → SlotL} {k : Nat} (hf : FineF f) : ∀ m, ((rowsG r f k m).map fun x => x.by_).Pairwise (· < ·)
 | 0 => List.Pairwise.nil
 | m + 1 => by
  have ih := rowsG_ris (r := r) (k := k) hf m
  simp only [rowsG, List.map_append]
  refine List.pairwise_append.2 ⟨ih, ?_, fun a ha b hb => ?_⟩
  ·split <;> simp
  ·obtain ⟨x, hx, rfl⟩ := List.mem_map.1 ha
   obtain ⟨y, hy, rfl⟩ := List.mem_map.1 hb
   obtain ⟨i, hi, rfl, _⟩ := rowsG_mem hx
   split at hy
   ·rw [List.mem_singleton.1 hy, hf.by_, hf.by_]; omega
   ·cases hy
theorem rowG_ok {s : List Int} {r : RoundL} {f : Nat → SlotL} {k n : Nat} (hf : FineF f) : OkRow (slot0 s k :: rowsG r f k n) := by
 refine ⟨?_, fun x hx ho => ?_⟩
 ·rw [List.map_cons]
  refine List.pairwise_cons.2 ⟨fun a ha => ?_, rowsG_ris hf n⟩
  obtain ⟨x, hx, rfl⟩ := List.mem_map.1 ha
  obtain ⟨i, _, rfl, _⟩ := rowsG_mem hx
  rw [hf.by_]
  show (-1 : Int) < _
  omega
 ·rcases List.mem_cons.1 hx with rfl | hx
  ·cases ho
  ·obtain ⟨i, _, rfl, _⟩ := rowsG_mem hx
   exact ⟨by rw [hf.by_]; omega, hf.opn i ho⟩
theorem rowsG_map {r : RoundL} {f : Nat → SlotL} {k i : Nat} {x : SlotL} (hf : FineF f) (ho : (f i).opn = true) : ∀ m, (rowsG r f k m).map (fun s => if isO i s = true then x else s) = rowsG r (upd f i x) k m
 | 0 => rfl
 | m + 1 => by
  simp only [rowsG, List.map_append, rowsG_map hf ho m]
  congr 1
  split
  ·rw [List.map_cons, List.map_nil]
   congr 1
   by_cases hm : m = i
   ·subst hm
    rw [upd_same, if_pos (by unfold isO; rw [hf.by_, ho]; simp)]
   ·rw [upd_other hm, if_neg (by unfold isO; rw [hf.by_, decide_eq_false (by omega), Bool.false_and]; simp)]
  ·rfl
theorem rowsG_no {r : RoundL} {f : Nat → SlotL} {k i : Nat} {x : SlotL} (hk : (k : Int) ∉ storesOf (r.getD i [])) : ∀ m, rowsG r (upd f i x) k m = rowsG r f k m
 | 0 => rfl
 | m + 1 => by
  simp only [rowsG, rowsG_no hk m]
  congr 1
  by_cases hm : m = i
  ·subst hm; rw [if_neg hk, if_neg hk]
  ·rw [upd_other hm]
theorem rowG_chg {s : List Int} {r : RoundL} {f : Nat → SlotL} {k i n : Nat} {x : SlotL} (hf : FineF f) (ho : (f i).opn = true) : chgL (slot0 s k :: rowsG r f k n) i x = slot0 s k :: rowsG r (upd f i x) k n := by
 rw [chgL_map (rowG_ok hf), List.map_cons, rowsG_map hf ho]
 congr 1
theorem rowsG_at (r : RoundL) (k : Nat) : ∀ m, rowsG r slotI k m = rowsAt r k m
 | 0 => rfl
 | m + 1 => by simp only [rowsG, rowsAt, rowsG_at r k m]; rfl
structure InvW (s : List Int) (r : RoundL) (x : WkL) (i : Nat) : Prop where
 d : x.d = r.getD i []
 by_ : x.by_ = i
 glen : x.g.length = 4
 rlen : x.rg.length = 4
 put : ∀ k, x.put k = true → k < 10 ∧ (k : Int) ∈ storesOf x.d
 run : x.ov = false → x.rc = 0 ∧ x.rg = zero4 ∧ runL arithL (x.d.drop x.at_) x.g (tab 10 fun k => if x.put k = true then x.has k else (stAt s r i).getD k 0) = runL arithL x.d zero4 (stAt s r i)
 fin : x.ov = true → (x.rc, x.rg) = rsAt s r i ∧ (x.rc = 0 → ∀ k, k < 10 → (stAt s r (i + 1)).getD k 0 = if x.put k = true then x.has k else (stAt s r i).getD k 0)
structure InvR (s : List Int) (r : RoundL) (X : Nat → WkL) (T : TabL) : Prop where
 s10 : s.length = 10
 ok : roundFaultL r = 0
 w : ∀ i, InvW s r (X i) i
 t : T = tabX s r X
theorem tab_self {l : List Int} (h : l.length = 10) : (tab 10 fun k => l.getD k 0) = l := by
 apply List.ext_getElem?
 intro j
 by_cases hj : j < 10
 ·rw [tab_get hj]; simp [List.getD, show j < l.length by omega]
 ·rw [List.getElem?_eq_none (by rw [tab_len]; omega), List.getElem?_eq_none (by omega)]
theorem inv_new {s : List Int} {r : RoundL} (hs : s.length = 10) (hr : roundFaultL r = 0) : InvR s r (fun i => wk0 (r.getD i []) i) (newT s r) := by
 refine ⟨hs, hr, fun i => ⟨rfl, rfl, rfl, rfl, fun k h => (by cases h), fun _ => ⟨rfl, rfl, ?_⟩, fun h => (by cases h)⟩, ?_⟩
 ·have : (tab 10 fun k => if (wk0 (r.getD i []) i).put k = true then (wk0 (r.getD i []) i).has k else (stAt s r i).getD k 0) = stAt s r i := tab_self (stAt_len hs i)
  rw [this]
  rfl
 ·funext k
  unfold newT tabX
  rw [← rowsG_at]
  rfl
theorem InvR.fine {s : List Int} {r : RoundL} {X : Nat → WkL} {T : TabL} (h : InvR s r X T) (k : Nat) : FineF (slotX X k) := by
 refine ⟨fun m => ?_, fun m ho => ?_⟩
 ·unfold slotX endSlot
  split
  ·split <;> exact congrArg _ (h.w m).by_
  ·rfl
 ·unfold slotX endSlot at ho ⊢
  split at ho
  ·split at ho <;> cases ho
  ·rename_i hv; rw [if_neg hv]; exact ⟨rfl, rfl⟩
theorem InvR.okT {s : List Int} {r : RoundL} {X : Nat → WkL} {T : TabL} (h : InvR s r X T) : OkT T := fun k => by rw [h.t]; exact rowG_ok (h.fine k)
theorem InvR.len {s : List Int} {r : RoundL} {X : Nat → WkL} {T : TabL} (h : InvR s r X T) (k : Nat) : (T k).length ≤ 9 := by
 rw [h.t]
 have := rowsG_len r (slotX X k) k r.length
 have := (roundFault_ok h.ok).1
 simp only [tabX, List.length_cons]
 omega
theorem checked_at {r : RoundL} (hr : roundFaultL r = 0) (i : Nat) : (checkL (r.getD i [])).1 = 0 := by
 by_cases hi : i < r.length
 ·have : r.getD i [] = r[i] := by simp [List.getD, hi]
  rw [this]; exact (roundFault_ok hr).2 _ (List.getElem_mem hi)
 ·have : r.getD i [] = [] := by simp [List.getD, Nat.le_of_not_lt hi]
  rw [this]; rfl
theorem InvW.val {s : List Int} {r : RoundL} {x : WkL} {i k : Nat} (hr : roundFaultL r = 0) (h : InvW s r x i) (ho : x.ov = true) (hk : k < 10) : (stAt s r (i + 1)).getD k 0 = if x.rc = 0 ∧ x.put k = true then x.has k else (stAt s r i).getD k 0 := by
 obtain ⟨h1, h2⟩ := h.fin ho
 by_cases hc : x.rc = 0
 ·rw [h2 hc k hk]
  by_cases hp : x.put k = true
  ·rw [if_pos hp, if_pos ⟨hc, hp⟩]
  ·rw [if_neg hp, if_neg (fun h => hp h.2)]
 ·rw [if_neg (fun h => hc h.1)]
  have : (rsAt s r i).1 ≠ 0 := by rw [← h1]; exact hc
  have e : stAt s r (i + 1) = stAt s r i := do_stop this
  rw [e]
theorem InvR.ahead {s : List Int} {r : RoundL} {X : Nat → WkL} {T : TabL} (h : InvR s r X T) {k : Nat} (hk : k < 10) (by_ : Nat) : ∀ m, m ≤ by_ → (let a := (slot0 s k :: rowsG r (slotX X k) k m).foldl (befStep by_) (0, -1)
  (a.2 = -1 ∧ a.1 = (stAt s r m).getD k 0) ∨ ∃ j : Nat, a.2 = j ∧ j < m ∧ (X j).ov = false)
 | 0, _ => by
  left
  simp only [rowsG, List.foldl_cons, List.foldl_nil, befStep, slot0]
  rw [if_pos ⟨(by omega), (by first | rfl | trivial)⟩, if_neg (by simp)]
  exact ⟨rfl, rfl⟩
 | m + 1, hm => by
  have ih := h.ahead hk by_ m (by omega)
  simp only [rowsG] at ih ⊢
  rw [← List.cons_append, List.foldl_append]
  generalize (slot0 s k :: rowsG r (slotX X k) k m).foldl (befStep by_) (0, -1) = a at ih
  have hw := h.w m
  have hstep : (X m).ov = true → (stAt s r (m + 1)).getD k 0 = if (X m).rc = 0 ∧ (X m).put k = true then (X m).has k else (stAt s r m).getD k 0 := fun ho => hw.val h.ok ho hk
  by_cases hks : (k : Int) ∈ storesOf (r.getD m [])
  ·rw [if_pos hks, List.foldl_cons, List.foldl_nil]
   unfold slotX
   by_cases ho : (X m).ov = true
   ·rw [if_pos ho]
    have hstep := hstep ho
    unfold endSlot
    by_cases hc : (X m).rc = 0 ∧ (X m).put k = true
    ·rw [if_pos hc] at hstep ⊢
     unfold befStep
     rw [if_pos ⟨(by show ((X m).by_ : Int) < by_; rw [hw.by_]; omega), (by first | rfl | trivial)⟩, if_neg (by simp)]
     exact .inl ⟨rfl, hstep.symm⟩
    ·rw [if_neg hc] at hstep ⊢
     unfold befStep
     rw [if_neg (by simp), hstep]
     rcases ih with ih | ⟨j, h1, h2, h3⟩
     ·exact .inl ih
     ·exact .inr ⟨j, h1, by omega, h3⟩
   ·rw [if_neg ho]
    unfold befStep slotI
    rw [if_pos ⟨(by show ((m : Nat) : Int) < by_; omega), (by first | rfl | trivial)⟩, if_pos (by first | rfl | trivial)]
    exact .inr ⟨m, rfl, by omega, by simpa using ho⟩
  ·rw [if_neg hks, List.foldl_nil]
   have e : (stAt s r (m + 1)).getD k 0 = (stAt s r m).getD k 0 := do_keeps (checked_at h.ok m) hks
   rw [e]
   rcases ih with ih | ⟨j, h1, h2, h3⟩
   ·exact .inl ih
   ·exact .inr ⟨j, h1, by omega, h3⟩
theorem rowsG_split (r : RoundL) (f : Nat → SlotL) (k i : Nat) : ∀ m, ∃ b, rowsG r f k (i + m) = rowsG r f k i ++ b ∧ ∀ x ∈ b, ∃ j, i ≤ j ∧ x = f j
 | 0 => ⟨[], by simp, fun x hx => by cases hx⟩
 | m + 1 => by
  obtain ⟨b, h1, h2⟩ := rowsG_split r f k i m
  rw [← Nat.add_assoc, rowsG, h1, List.append_assoc]
  refine ⟨_, rfl, fun x hx => ?_⟩
  rcases List.mem_append.1 hx with hx | hx
  ·exact h2 x hx
  ·split at hx
   ·exact ⟨i + m, by omega, List.mem_singleton.1 hx⟩
   ·cases hx
theorem InvR.before {s : List Int} {r : RoundL} {X : Nat → WkL} {T : TabL} (h : InvR s r X T) {k : Int} (hk : 0 ≤ k ∧ k < 10) {i : Nat} (hi : i ≤ r.length) :
  ((befT T k i).2 = -1 ∧ (befT T k i).1 = (stAt s r i).getD k.toNat 0) ∨ ∃ j : Nat, (befT T k i).2 = j ∧ j < i ∧ (X j).ov = false := by
 have h1 := h.ahead (k := k.toNat) (by omega) i i (Nat.le_refl _)
 have h2 : befT T k i = (slot0 s k.toNat :: rowsG r (slotX X k.toNat) k.toNat i).foldl (befStep i) (0, -1) := by
  unfold befT
  rw [if_pos hk, h.t]
  unfold tabX befL
  obtain ⟨b, h3, h4⟩ := rowsG_split r (slotX X k.toNat) k.toNat i (r.length - i)
  rw [show i + (r.length - i) = r.length from by omega] at h3
  rw [h3, ← List.cons_append, List.foldl_append]
  refine fold_id (fun t ht ha => ?_)
  obtain ⟨j, hj, rfl⟩ := h4 t ht
  have := (h.fine k.toNat).by_ j
  unfold act at ha
  omega
 rw [h2]
 exact h1
end Go.SL
end
section
set_option maxRecDepth 100000
namespace Go.SL
open Go Go.Proofs Go.SL
theorem stores_rng {d : DeedL} (h : (checkL d).1 = 0) {x : Int} (hx : x ∈ storesOf d) : 0 ≤ x ∧ x < 10 := key_rng h (keysL_mem.2 hx)
theorem InvR.upd {s : List Int} {r : RoundL} {X : Nat → WkL} {T : TabL} (h : InvR s r X T) {i : Nat} {x : WkL} (ho : (X i).ov = false) (ho' : x.ov = false) (hx : InvW s r x i) : InvR s r (upd X i x) T := by
 refine ⟨h.s10, h.ok, fun j => ?_, ?_⟩
 ·by_cases hj : j = i
  ·subst hj; rw [upd_same]; exact hx
  ·rw [upd_other hj]; exact h.w j
 ·rw [h.t]
  have : ∀ k, slotX (SL.upd X i x) k = slotX X k := fun k => by
   funext m
   unfold slotX
   by_cases hm : m = i
   ·subst hm; rw [upd_same, if_neg (by simp [ho'] : ¬ x.ov = true), if_neg (by simp [ho] : ¬ (X m).ov = true)]
   ·rw [upd_other hm]
  funext k
  unfold tabX
  rw [this]
theorem InvR.endI {s : List Int} {r : RoundL} {X : Nat → WkL} {T : TabL} (h : InvR s r X T) {i : Nat} {c : Int} (ho : (X i).ov = false) (hx : InvW s r (endX (X i) c) i) : InvR s r (SL.upd X i (endX (X i) c)) (endT (X i) c T) := by
 refine ⟨h.s10, h.ok, fun j => ?_, ?_⟩
 ·by_cases hj : j = i
  ·subst hj; rw [upd_same]; exact hx
  ·rw [upd_other hj]; exact h.w j
 ·have hsl : ∀ k, slotX (SL.upd X i (endX (X i) c)) k = SL.upd (slotX X k) i (endSlot (X i) c k) := fun k => by
   funext m
   by_cases hm : m = i
   ·subst hm
    rw [upd_same]
    unfold slotX
    rw [upd_same]
    rfl
   ·rw [upd_other hm]
    unfold slotX
    rw [upd_other hm]
  funext k
  unfold endT
  rw [h.t, (h.w i).d, (h.w i).by_]
  by_cases hk : k < 10 ∧ (k : Int) ∈ storesOf (r.getD i [])
  ·rw [if_pos hk]
   unfold tabX
   rw [rowG_chg (h.fine k) (by unfold slotX; rw [if_neg (by simp [ho])]; rfl), hsl]
  ·rw [if_neg hk]
   have hn : (k : Int) ∉ storesOf (r.getD i []) := fun hks => by
    have := stores_rng (checked_at h.ok i) hks
    exact hk ⟨by omega, hks⟩
   unfold tabX
   rw [hsl, rowsG_no hn]
theorem view_set {x : WkL} {v : List Int} {k : Nat} {n : Int} (_hk : k < 10) : st (tab 10 fun j => if x.put j = true then x.has j else v.getD j 0) k n = tab 10 fun j => if (upd x.put k true) j = true then (upd x.has k n) j else v.getD j 0 := by
 unfold st
 rw [Int.toNat_natCast, tab_set]
 refine tab_congr fun j _ => ?_
 unfold upd
 by_cases hj : j = k
 ·simp [hj]
 ·simp [hj]
theorem view_get {x : WkL} {v : List Int} {k : Nat} (hk : k < 10) : gt (tab 10 fun j => if x.put j = true then x.has j else v.getD j 0) k = if x.put k = true then x.has k else v.getD k 0 := by
 unfold gt
 rw [Int.toNat_natCast, List.getD_eq_getElem?_getD, tab_get hk]
 rfl
theorem st_len' (g : List Int) (a n : Int) : (st g a n).length = g.length := by simp [st]
theorem InvR.step {s : List Int} {r : RoundL} {X : Nat → WkL} {T : TabL} (h : InvR s r X T) {i : Nat} (hi : i < r.length) : InvR s r (SL.upd X i (stepW (X i) T).2.1) (stepW (X i) T).2.2 := by
 have hw := h.w i
 have hck := checked_at h.ok i
 obtain ⟨hc14, hchk⟩ := checked hck
 rw [← hw.d] at hck hc14 hchk
 have hdo : rsAt s r i = (doL arithL (stAt s r i) (X i).d).2 := by unfold rsAt; rw [hw.d]
 have hdo1 : stAt s r (i + 1) = (doL arithL (stAt s r i) (X i).d).1 := by rw [hw.d]; rfl
 by_cases ho : (X i).ov = true
 ·rw [step_over ho, upd_self]; exact h
 ·have ho : (X i).ov = false := by simpa using ho
  obtain ⟨hrc, hrg, hrun⟩ := hw.run ho
  by_cases ha : (X i).d.length ≤ (X i).at_
  ·rw [step_end ho ha]
   rw [runL_end _ ha] at hrun
   have hd : doL arithL (stAt s r i) (X i).d = ((tab 10 fun k => if (X i).put k = true then (X i).has k else (stAt s r i).getD k 0), 0, (X i).g) := by
    simp only [doL, ← hrun]; rfl
   refine h.endI ho ⟨hw.d, hw.by_, hw.glen, hw.glen, hw.put, fun h => (by cases h), fun _ => ⟨?_, fun _ k hk => ?_⟩⟩
   ·rw [hdo, hd]; rfl
   ·rw [hdo1, hd, List.getD_eq_getElem?_getD, tab_get hk]; rfl
  ·have ha : (X i).at_ < (X i).d.length := by omega
   rw [step_op ho (List.getElem?_eq_getElem ha)]
   obtain ⟨hf, h9⟩ := hchk _ ha
   have hnx : ∀ {g' s' : List Int} {j : Nat}, stepL arithL (X i).d[(X i).at_] (X i).g (tab 10 fun k => if (X i).put k = true then (X i).has k else (stAt s r i).getD k 0) = some (g', s', j) → runL arithL ((X i).d.drop ((X i).at_ + 1 + j)) g' s' = runL arithL (X i).d zero4 (stAt s r i) := fun {g' s' j} hs => by
    rw [← hrun, runL_at _ ha, hs]
   have hstop : stepL arithL (X i).d[(X i).at_] (X i).g (tab 10 fun k => if (X i).put k = true then (X i).has k else (stAt s r i).getD k 0) = none → doL arithL (stAt s r i) (X i).d = (stAt s r i, 9, (X i).g) := fun hs => by
    rw [runL_at _ ha, hs] at hrun
    simp only [doL, ← hrun]; rfl
   have hmem : (X i).d[(X i).at_] ∈ (X i).d := List.getElem_mem ha
   generalize (X i).d[(X i).at_] = o at *
   unfold opW
   rcases rng_all hf with ⟨hk, ha1⟩ | ⟨hk, ha1⟩ | ⟨hk, ha1, ha2, hb1⟩ | ⟨hk, ha1, ha2, hb1⟩ | ⟨hk, ha1, ha2, hb1⟩ | ⟨hk, ha1, ha2, hb1, hb2, hc2⟩
   ·rw [if_pos hk]
    exact h.upd ho ho ⟨hw.d, hw.by_, (st_len' _ _ _).trans hw.glen, hw.rlen, hw.put, fun _ => ⟨hrc, hrg, hnx (step_num _ _ _ hk)⟩, fun h => absurd h (by simp [ho])⟩
   ·rw [if_neg (by omega), if_neg (by omega), if_neg (by omega), if_pos hk]
    by_cases hz : gt (X i).g o.a ≠ 0
    ·rw [if_pos hz]
     have hd := hstop (step_stop _ _ _ hk hz)
     refine h.endI ho ⟨hw.d, hw.by_, hw.glen, hw.glen, hw.put, fun h => (by cases h), fun _ => ⟨?_, fun h => (by cases h)⟩⟩
     rw [hdo, hd]; rfl
    ·rw [if_neg hz]
     exact h.upd ho ho ⟨hw.d, hw.by_, hw.glen, hw.rlen, hw.put, fun _ => ⟨hrc, hrg, hnx (step_stay _ _ _ hk hz)⟩, fun h => absurd h (by simp [ho])⟩
   ·rw [if_neg (by omega), if_pos hk]
    by_cases hs : 0 ≤ (seen (X i) T o.b).2
    ·rw [if_pos hs, upd_self]; exact h
    ·rw [if_neg hs]
     have hget : (seen (X i) T o.b).1 = gt (tab 10 fun k => if (X i).put k = true then (X i).has k else (stAt s r i).getD k 0) o.b := by
      obtain ⟨b, hb⟩ : ∃ b : Nat, o.b = b := ⟨o.b.toNat, by omega⟩
      rw [hb] at hs ⊢
      rw [view_get (by omega)]
      unfold seen at hs ⊢
      rw [Int.toNat_natCast] at hs ⊢
      by_cases hp : (X i).put b = true
      ·rw [if_pos hp, if_pos hp]
      ·rw [if_neg hp] at hs ⊢
       rw [if_neg hp]
       rw [hw.by_] at hs ⊢
       rcases h.before (k := (b : Int)) (by omega) (Nat.le_of_lt hi) with ⟨h1, h2⟩ | ⟨j, h1, _⟩
       ·rw [h2, Int.toNat_natCast]
       ·omega
     rw [hget]
     exact h.upd ho ho ⟨hw.d, hw.by_, (st_len' _ _ _).trans hw.glen, hw.rlen, hw.put, fun _ => ⟨hrc, hrg, hnx (step_load _ _ _ hk)⟩, fun h => absurd h (by simp [ho])⟩
   ·rw [if_neg (by omega), if_neg (by omega), if_pos hk]
    obtain ⟨a, ha'⟩ : ∃ a : Nat, o.a = a := ⟨o.a.toNat, by omega⟩
    have hst := hnx (step_store _ _ _ hk)
    rw [ha', view_set (by omega)] at hst
    rw [ha', Int.toNat_natCast]
    refine h.upd ho ho ⟨hw.d, hw.by_, hw.glen, hw.rlen, fun k hp => ?_, fun _ => ⟨hrc, hrg, hst⟩, fun h => absurd h (by simp [ho])⟩
    by_cases hka : k = a
    ·subst hka
     exact ⟨by omega, storesOf_mem.2 ⟨o, hmem, hk, ha'⟩⟩
    ·exact hw.put k (by simpa [SL.upd, hka] using hp)
   ·rw [if_neg (by omega), if_neg (by omega), if_neg (by omega), if_neg (by omega), if_pos hk]
    by_cases hz : gt (X i).g o.a = 0
    ·rw [if_pos hz]
     exact h.upd ho ho ⟨hw.d, hw.by_, hw.glen, hw.rlen, hw.put, fun _ => ⟨hrc, hrg, hnx (step_skip _ _ _ hk hz)⟩, fun h => absurd h (by simp [ho])⟩
    ·rw [if_neg hz]
     exact h.upd ho ho ⟨hw.d, hw.by_, hw.glen, hw.rlen, hw.put, fun _ => ⟨hrc, hrg, hnx (step_noskip _ _ _ hk hz)⟩, fun h => absurd h (by simp [ho])⟩
   ·rw [if_neg (by omega), if_neg (by omega), if_neg (by omega), if_neg (by omega), if_neg (by omega)]
    exact h.upd ho ho ⟨hw.d, hw.by_, (st_len' _ _ _).trans hw.glen, hw.rlen, hw.put, fun _ => ⟨hrc, hrg, hnx (step_ar _ _ _ hk)⟩, fun h => absurd h (by simp [ho])⟩
def muW (x : WkL) : Nat := if x.ov = true then 0 else x.d.length - x.at_ + 1
inductive Kind (x : WkL) (T : TabL) : Prop where
 | over (h : x.ov = true) (e : stepW x T = ((3, -1), x, T))
 | ran (h : x.ov = false) (x' : WkL) (ho : x'.ov = false) (hd : x'.d = x.d) (hm : muW x' < muW x) (hr : x'.rc = x.rc) (hg : x'.rg = x.rg) (e : stepW x T = ((1, -1), x', T))
 | ended (h : x.ov = false) (c : Int) (e : stepW x T = ((3, -1), endX x c, endT x c T))
 | waits (h : x.ov = false) (k : Int) (he : (seen x T k).2 = (befT T k x.by_).2) (h0 : 0 ≤ (befT T k x.by_).2) (e : stepW x T = ((2, (befT T k x.by_).2), x, T))
theorem mu_next {x x' : WkL} (h : x.ov = false) (ho : x'.ov = false) (hd : x'.d = x.d) (ha : x.at_ < x.d.length) (hat : x.at_ + 1 ≤ x'.at_) : muW x' < muW x := by
 unfold muW
 rw [if_neg (by simp [h] : ¬ x.ov = true), if_neg (by simp [ho] : ¬ x'.ov = true), hd]
 omega
theorem step_kind (x : WkL) (T : TabL) : Kind x T := by
 by_cases h : x.ov = true
 ·exact .over h (step_over h)
 ·have h : x.ov = false := by simpa using h
  by_cases ha : x.d.length ≤ x.at_
  ·exact .ended h 0 (step_end h ha)
  ·have ha : x.at_ < x.d.length := by omega
   have e := step_op (T := T) h (List.getElem?_eq_getElem ha)
   generalize x.d[x.at_] = o at e
   unfold opW at e
   by_cases h1 : o.kind = 1
   ·rw [if_pos h1] at e; exact .ran h _ (by exact h) (by rfl) (mu_next h (by exact h) (by rfl) ha (by simp)) (by rfl) (by rfl) e
   rw [if_neg h1] at e
   by_cases h2 : o.kind = 2
   ·rw [if_pos h2] at e
    by_cases hs : 0 ≤ (seen x T o.b).2
    ·rw [if_pos hs] at e
     have : (seen x T o.b).2 = (befT T o.b x.by_).2 := by
      unfold seen at hs ⊢
      split
      ·rename_i hp; rw [if_pos hp] at hs; simp at hs
      ·rfl
     rw [this] at e
     exact .waits h o.b this (by rw [← this]; exact hs) e
    ·rw [if_neg hs] at e
     exact .ran h _ (by exact h) (by rfl) (mu_next h (by exact h) (by rfl) ha (by simp)) (by rfl) (by rfl) e
   rw [if_neg h2] at e
   by_cases h7 : o.kind = 7
   ·rw [if_pos h7] at e; exact .ran h _ (by exact h) (by rfl) (mu_next h (by exact h) (by rfl) ha (by simp)) (by rfl) (by rfl) e
   rw [if_neg h7] at e
   by_cases h8 : o.kind = 8
   ·rw [if_pos h8] at e
    by_cases hz : gt x.g o.a ≠ 0
    ·rw [if_pos hz] at e; exact .ended h 9 e
    ·rw [if_neg hz] at e; exact .ran h _ (by exact h) (by rfl) (mu_next h (by exact h) (by rfl) ha (by simp)) (by rfl) (by rfl) e
   rw [if_neg h8] at e
   by_cases h9 : o.kind = 9
   ·rw [if_pos h9] at e
    by_cases hz : gt x.g o.a = 0
    ·rw [if_pos hz] at e; exact .ran h _ (by exact h) (by rfl) (mu_next h (by exact h) (by rfl) ha (by simp)) (by rfl) (by rfl) e
    ·rw [if_neg hz] at e; exact .ran h _ (by exact h) (by rfl) (mu_next h (by exact h) (by rfl) ha (by simp)) (by rfl) (by rfl) e
   rw [if_neg h9] at e
   exact .ran h _ (by exact h) (by rfl) (mu_next h (by exact h) (by rfl) ha (by simp)) (by rfl) (by rfl) e
theorem mu_end (x : WkL) (c : Int) (h : x.ov = false) : muW (endX x c) < muW x := by
 unfold muW endX
 rw [if_pos rfl, if_neg (by simp [h])]
 omega
theorem InvR.who {s : List Int} {r : RoundL} {X : Nat → WkL} {T : TabL} (h : InvR s r X T) {i : Nat} (hi : i < r.length) {k : Int} (h0 : 0 ≤ (befT T k (X i).by_).2) : ∃ j : Nat, (befT T k (X i).by_).2 = j ∧ j < i ∧ (X j).ov = false := by
 rw [(h.w i).by_] at h0 ⊢
 by_cases hk : 0 ≤ k ∧ k < 10
 ·rcases h.before hk (Nat.le_of_lt hi) with ⟨h1, _⟩ | h1
  ·omega
  ·exact h1
 ·unfold befT at h0
  rw [if_neg hk] at h0
  simp at h0
theorem InvR.state {s : List Int} {r : RoundL} {X : Nat → WkL} {T : TabL} (h : InvR s r X T) (ho : ∀ i, i < r.length → (X i).ov = true) : stateT T = stAt s r r.length ∧ overT T = true := by
 have hl := stAt_len (r := r) h.s10 r.length
 have hv : ∀ k, k < 10 → ∀ m, m ≤ r.length → valL (slot0 s k :: rowsG r (slotX X k) k m) = (stAt s r m).getD k 0 := by
  intro k hk m
  induction m with
  | zero => intro _; simp [rowsG, valL, valStep, slot0, stAt]
  | succ m ih =>
   intro hm
   have ih := ih (by omega)
   have hw := h.w m
   have hval := hw.val h.ok (ho m (by omega)) hk
   simp only [rowsG]
   by_cases hks : (k : Int) ∈ storesOf (r.getD m [])
   ·rw [if_pos hks, ← List.cons_append, valL_snoc, ih, val_step]
    unfold slotX endSlot
    rw [if_pos (ho m (by omega))]
    by_cases hc : (X m).rc = 0 ∧ (X m).put k = true
    ·rw [if_pos hc] at hval ⊢
     rw [if_pos ⟨rfl, rfl⟩, hval]
    ·rw [if_neg hc] at hval ⊢
     rw [if_neg (by simp), hval]
   ·rw [if_neg hks, List.append_nil, ih]
    exact (do_keeps (checked_at h.ok m) hks).symm
 constructor
 ·apply List.ext_getElem?
  intro k
  by_cases hk : k < 10
  ·unfold stateT
   rw [tab_get hk, h.t]
   unfold tabX
   rw [hv k hk r.length (Nat.le_refl _)]
   simp [List.getD, show k < (stAt s r r.length).length by omega]
  ·rw [List.getElem?_eq_none (by rw [stateT_len]; omega), List.getElem?_eq_none (by omega)]
 ·unfold overT
  rw [List.all_eq_true]
  intro k _
  rw [List.all_eq_true]
  intro x hx
  rw [h.t] at hx
  rcases List.mem_cons.1 hx with rfl | hx
  ·rfl
  ·obtain ⟨i, hi, rfl, _⟩ := rowsG_mem hx
   unfold slotX endSlot
   rw [if_pos (ho i hi)]
   split <;> rfl
end Go.SL
end
