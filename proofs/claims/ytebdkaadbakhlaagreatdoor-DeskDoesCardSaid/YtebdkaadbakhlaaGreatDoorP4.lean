/- YtebdkaadbakhlaaGreatDoor: part P4 of this seat's own texts. -/
import Derived.ProofKit
import Derived.SizedLaws
import Derived.OpenShut
import Derived.Deep.Slices
import Derived.WideKeyArgs
import Derived.Test.YtebdkaadbakhlaaGreatDoorP1
set_option linter.unusedVariables false
set_option linter.unusedSimpArgs false
namespace Go.SL
open Go.ChangeShapes Go.WideShapes Go.RowKit Go.Deep
def In64 (x : Int) : Prop := -9223372036854775808 ≤ x ∧ x ≤ 9223372036854775807
structure OpIn (o : OpL) : Prop where
 kind : In64 o.kind
 a : In64 o.a
 b : In64 o.b
 c : In64 o.c
 n : In64 o.n
def Gives {H : Type} (enc : TypeId × Value → H) (P : Program) (W : World) (base : Nat) (t : TypeId) (v : Value) (d : DataW H) : Prop :=
 Value.okWide P W .any base t v ∧ (∃ p, DataW.Trod enc P W 0 (fun _ => true) true t v d p) ∧ ∀ n ∈ d.weights P t, n ≤ reachBytes
section
variable {H : Type} {enc : TypeId × Value → H} {P : Program} {w W : World} {base b0 : Nat} {spare : Nat → Bool} {held : Bool} {t : TypeId} {v : Value} {d : DataW H}
instance : Inhabited OpL := ⟨⟨0, 0, 0, 0, 0⟩⟩
theorem weightsAll_mem {e : TypeId} : ∀ {els : List (DataW H)} {d : DataW H}, d ∈ els → ∀ n ∈ d.weights P e, n ∈ DataW.weightsAll P e els
 | [], _, hd, _, _ => by simp at hd
 | x :: els, d, hd, n, hn => by
  simp only [DataW.weightsAll, List.mem_append]
  rcases List.mem_cons.1 hd with rfl | hd
  ·exact .inl hn
  ·exact .inr (weightsAll_mem hd n hn)
theorem trodAll_each : ∀ {ts : List TypeId} {vs : List Value} {ds : List (DataW H)} {p : List MemPlace}, DataW.TrodAll enc P W 0 (fun _ => true) true ts vs ds p →
  ts.length = vs.length ∧ ts.length = ds.length ∧ ∀ (j : Nat) t v d, ts[j]? = some t → vs[j]? = some v → ds[j]? = some d → ∃ q, DataW.Trod enc P W 0 (fun _ => true) true t v d q
 | [], vs, ds, p, h => by
  cases vs <;> cases ds <;> simp_all [DataW.TrodAll]
 | t :: ts, vs, ds, p, h => by
  obtain ⟨v0, vs', d0, ds', p0, p', rfl, rfl, rfl, h0, h1⟩ := trodAll_cons h
  obtain ⟨h2, h3, h4⟩ := trodAll_each h1
  refine ⟨by simp [h2], by simp [h3], fun j u v d hu hv hd => ?_⟩
  cases j with
  | zero =>
   simp only [List.getElem?_cons_zero, Option.some.injEq] at hu hv hd
   subst hu; subst hv; subst hd
   exact ⟨_, h0⟩
  | succ j =>
   simp only [List.getElem?_cons_succ] at hu hv hd
   exact h4 j u v d hu hv hd
theorem trodAll_stays (hl : laidOutB P = true) {W' : World} {sp : Nat → Bool} : ∀ {ts : List TypeId} {vs : List Value} {ds : List (DataW H)} {p : List MemPlace}, (∀ t ∈ ts, P.readableRec t = true ∧ t < P.types.size) → DataW.TrodAll enc P W 0 (fun _ => true) true ts vs ds p →
  (∀ x ∈ p, W.sameAt W' x) → (∀ x ∈ p, sp x.block = true) → DataW.TrodAll enc P W' 0 sp true ts vs ds p
 | [], vs, ds, p, _, h, _, _ => by
  cases vs <;> cases ds <;> simp_all [DataW.TrodAll]
 | t :: ts, vs, ds, p, ht, h, hs, hp => by
  obtain ⟨v0, vs', d0, ds', p0, p', rfl, rfl, rfl, h0, h1⟩ := trodAll_cons h
  have h2 := ht t (by simp)
  exact trodAll_cons_mk (WideElems.Trod_stays hl h2.1 h2.2 h0 (fun x hx => hs x (by simp [hx])) (fun x hx => hp x (by simp [hx])))
   (trodAll_stays hl (fun u hu => ht u (by simp [hu])) h1 (fun x hx => hs x (by simp [hx])) (fun x hx => hp x (by simp [hx])))
theorem law_contract {f : Func} {i : FuncId} {s : ChangeSpec} {apart fresh handsOn : Bool} {args : Array Value} {ds gs : List (DataW H)} {before : List MemPlace} {tb : TypeId} (hl : laidOutB P = true)
  (hpar : f.params.toList.all (fun t => P.readableRec t && Nat.blt t P.types.size) = true) (hvars : s.vars = []) (hres : f.resultTypes = #[tb]) (hb : P.underlying tb = some .bool)
  (hs : ∀ ds : List (DataW H), ds.length = f.params.size → s.fn H ds = { results := [.lit (.bool true)], args := ds })
  (hval : ∀ (j : Nat) t v, f.params[j]? = some t → args[j]? = some v → Value.okWide P W .any base t v)
  (hW : DataW.Whole enc P f.params.toList s.vars apart W args.toList ds gs before)
  (hsz : (DataW.weightsEach P (f.params.toList ++ s.plain.varTypes P) (ds ++ gs)).all (· ≤ reachBytes) = true)
  (walk : args.size = f.params.size → ds.length = f.params.size → (∀ (j : Nat) t v d, f.params[j]? = some t → args[j]? = some v → ds[j]? = some d → Gives enc P W base t v d) →
   Calls P i args W fun e w' => e = .returned (.bool true) ∧ Res W [] [] w') :
  Calls P i args W fun e W' => ∃ v, e = .returned v ∧ s.post enc P f apart fresh handsOn false W args v W' := by
 have hW' := hW
 obtain ⟨p, q, hA0, hV, rfl, hfz, hnd⟩ := hW
 rw [hvars] at hV
 obtain ⟨rfl, rfl⟩ := trodVars_none hV
 obtain ⟨h1, h2, h3⟩ := trodAll_each hA0
 have hdl : ds.length = f.params.size := by rw [← h2]; simp
 have hw := walk (by simpa using h1.symm) hdl (fun j t v d ht hv hd => ?_)
 ·refine hw.mono fun e W' ⟨he, hr⟩ => ?_
  subst he
  have hbel := hr.below
  have hlt : ∀ x ∈ p, x.block < W.heap.size := fun x hx => by have := hW'.lt x (by simp [hx]); simpa using this
  have hsf := hs (ds ++ []) (by simpa using hdl)
  have hold : ∀ x ∈ p, (fun b => decide (b < W.heap.size)) x.block = true := fun x hx => by simpa using hlt x hx
  refine ⟨_, rfl, _, _, _, [], p, [], hW', ?_, ?_, ?_, hbel.frame _, fun h => by cases h⟩
  ·rw [hsf, hres]
   exact trodAll_cons_mk (shut_bool hb _) trodAll_mk0
  ·rw [hsf]
   simp only [List.append_nil]
   refine trodAll_stays hl (fun t ht => ?_) hA0 (fun x hx => hbel.same (hlt x hx)) hold
   have := List.all_eq_true.1 hpar t ht
   simp only [Bool.and_eq_true] at this
   exact ⟨this.1, Nat.blt_eq.mp this.2⟩
  ·rw [hsf, hvars]; rfl
 ·refine ⟨hval j t v ht hv, h3 j t v d (by simpa using ht) (by simpa using hv) hd, fun n hn => ?_⟩
  have := List.all_eq_true.1 hsz n (DataW.weights_mem_each (j := j) (t := t) (d := d) ?_ ?_ n hn)
  ·simpa using this
  ·rw [List.getElem?_append_left]
   ·simpa using ht
   ·have := (Array.getElem?_eq_some_iff.1 ht).1; simpa using this
  ·rw [List.getElem?_append_left]
   ·exact hd
   ·exact (List.getElem?_eq_some_iff.1 hd).1
end
end Go.SL
