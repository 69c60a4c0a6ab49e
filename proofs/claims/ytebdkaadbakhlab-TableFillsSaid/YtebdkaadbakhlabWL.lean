/- Ytebdkaadbakhlab: part WL of this seat's own texts. -/
import Derived.Test.YtebdkaadbakhlabWK
set_option linter.unusedVariables false
set_option linter.unusedSimpArgs false
section

open Go Go.Proofs Go.SL
set_option maxRecDepth 100000
namespace Go.SL
/-- how far hands are -/
def HdsOk (X : Nat → WkL) (sh : Nat → DeedL) : Prop := ∀ i, StOk (X i) (sh i) ∧ (X i).at_ ≤ 900
theorem HdsOk.step {X : Nat → WkL} {sh : Nat → DeedL} {k : Nat} {x : WkL} {sl : DeedL} (h : HdsOk X sh) (hx : StOk x sl) (ha : x.at_ ≤ 900) : HdsOk (upd X k x) (upd sh k sl) := fun i => by
  by_cases hi : i = k
  · subst hi; rw [upd_same, upd_same]; exact ⟨hx, ha⟩
  · rw [upd_other hi, upd_other hi]; exact h i
theorem HdsOk.new (r : RoundL) : HdsOk (fun i => wk0 (r.getD i []) i) (fun _ => []) := fun i => ⟨⟨fun k => rfl, Nat.le_refl _⟩, Nat.zero_le _⟩
section
variable {N : Nat} {w0 : World} {F : Nat → Prop} {Q0 : Exit → Act → World → Prop} {D : List Deferred} {l : Fr} {m : Hp} {ty : TypeId} {pos : String} {after : Array Edge} {d : Nat}
end
end Go.SL
end
section

open Go Go.Proofs Go.SL
set_option maxRecDepth 100000
set_option maxHeartbeats 1000000
namespace Go.SL
/-- some chunks, in whatever order -/
def pickL (m : Hp) (is : List Nat) : Hp := is.filterMap fun i => m[i]?
theorem St.pick {w0 w : World} {F : Nat → Prop} {m : Hp} (h : St w0 F m w) (is : List Nat) (hn : is.Nodup) : St w0 F (pickL m is) w := by
  have hmem : ∀ c ∈ pickL m is, c ∈ m := fun c hc => by
    obtain ⟨i, _, hi⟩ := List.mem_filterMap.1 hc
    exact List.mem_of_getElem? hi
  refine ⟨h.chg, fun c hc => h.hold c (hmem c hc), ?_, fun c hc => h.own c (hmem c hc)⟩
  unfold pickL
  rw [List.pairwise_filterMap]
  exact List.Pairwise.imp (fun {i j} hne c hc d hd => lst_disj h.sep hc hd (Ne.symm hne)) hn
def ptrV (p : Nat) : Value := .pointer (some ⟨p, 0, none⟩)
structure CrewP where
  pc : Nat
  pt : Nat
  pb : Nat
  ht : Nat → Value
  hb : Nat → Value
  pw : Nat → Nat
  dvw : Nat → Value
  ph : Nat → Nat
  wv : Value
  hv : Value
abbrev nilS : Value := .slice none 0 0
end Go.SL
end
