/- Ytebdkaadbakhlaa: part Mo6 of this seat's own texts. -/
import Derived.Test.YtebdkaadbakhlaaMo5
set_option linter.unusedVariables false
set_option linter.unusedSimpArgs false
namespace Go.SL
open Go.RowKit
set_option linter.unusedSectionVars false
section
variable {C : Cx} {l : Fr} {m : Hp} {ty : TypeId} {pos : String} {after : Array Edge} {dst : Option Nat} {g : Option (Nat × Bool)}
/-- what is only said to be there is named -/
theorem g_ex {α : Sort _} {Φ : Act → World → Prop} {F : Nat → Prop} {p : α → View → Prop} (i : Nat) (hm : m[i]? = some (Keep F (fun c => ∃ x, p x c))) (h : ∀ x, G C l (m.set i (Keep F (p x))) Φ) : G C l m Φ := fun a w ha hw => by
  obtain ⟨h1, x, hx⟩ := hw.mem hm
  exact h x a w ha (hw.impAt i hm (fun _ hb => hb) (fun _ => ⟨h1, hx⟩))
theorem g_keep {Φ : Act → World → Prop} {F : Nat → Prop} {p q : View → Prop} (i : Nat) (hm : m[i]? = some (Keep F p)) (hpq : ∀ c, p c → q c) (h : G C l (m.set i (Keep F q)) Φ) : G C l m Φ :=
  g_imp (c' := Keep F q) i hm (fun _ hb => hb) (fun _ hw => ⟨hw.1, hpq _ hw.2⟩) h
theorem v_loadK {x : Operand} {ad : Addr} {t : TypeId} {v : Value} {u : TypeDesc} {F : Nat → Prop} {p : View → Prop} (i : Nat) (hm : m[i]? = some (Keep F p)) (hp : Up p) (hv : ∀ c, p c → c ad = some v) (ht : C.P.underlying t = some u) (hu : (match u with | .struct _ | .array _ _ => true | _ => false) = false)
    (hx : rd l x = some (.pointer (some ad))) : OpV C l m ⟨dst, .load t x, ty, pos, after, g⟩ v :=
  v_load1 ht hu hx fun _ hw => hv _ (keep_all hp (hw.mem hm))
theorem v_loadKN {x : Operand} {ad : Addr} {t : TypeId} {cs : List Value} {u : TypeDesc} {F : Nat → Prop} {p : View → Prop} (i : Nat) (hm : m[i]? = some (Keep F p)) (hp : Up p) (hv : ∀ c, p c → Cells c ad cs) (ht : C.P.underlying t = some u) (hu : (match u with | .struct _ | .array _ _ => true | _ => false) = true) (hi : C.P.info? t ≠ none) (hn : C.P.cellsOf t = cs.length)
    (hx : rd l x = some (.pointer (some ad))) : OpV C l m ⟨dst, .load t x, ty, pos, after, g⟩ (.agg cs.toArray) :=
  v_loadN ht hu hi hn hx fun _ hw => hv _ (keep_all hp (hw.mem hm))
end
/-- a round, by its headers -/
def RoundV (v : Value) (vs : List Value) (r : RoundL) (c : View) : Prop := Rds c v 1 r.length vs ∧ Deeds vs r c
theorem RoundV.up (v : Value) (vs : List Value) (r : RoundL) : Up (RoundV v vs r) := fun _ _ hl h => ⟨h.1.mono hl, Deeds.up _ _ _ _ hl h.2⟩
theorem RoundV.round {v : Value} {vs : List Value} {r : RoundL} {c : View} (h : RoundV v vs r c) : IsRound c v r := h.2.round h.1
theorem RoundV.cell {A : Option Addr} {k : Nat} {vs : List Value} {r : RoundL} {c : View} (h : RoundV (.slice A r.length k) vs r c) {j : Nat} {u : Value} (hj : vs[j]? = some u) : ∃ ad, A = some ad ∧ c (ad.add j) = some u := by
  obtain ⟨⟨A', k', he, hk, hl, hc⟩, _⟩ := h
  injection he with e1 e2 e3
  subst e1
  have : j < vs.length := (List.getElem?_eq_some_iff.1 hj).1
  obtain ⟨ad, rfl, hcl⟩ := hc (by omega)
  exact ⟨ad, rfl, hcl j u hj⟩
section
variable {C : Cx} {l : Fr} {m : Hp}
theorem g_roundV {Φ : Act → World → Prop} {v : Value} {r : RoundL} {F : Nat → Prop} (i : Nat) (hm : m[i]? = some (Keep F (fun c => IsRound c v r)))
    (h : ∀ A k vs, v = .slice A r.length k → r.length ≤ k → (0 < r.length → ∃ ad, A = some ad) → vs.length = r.length → (∀ j (hj : j < r.length), ∃ A' k', vs[j]? = some (.slice A' r[j].length k') ∧ r[j].length ≤ k' ∧ (0 < r[j].length → ∃ ad, A' = some ad)) → G C l (m.set i (Keep F (RoundV v vs r))) Φ) : G C l m Φ := fun a w ha hw => by
  obtain ⟨h1, vs, h2, h3⟩ := hw.mem hm
  have h4 : vs.length = r.length := by obtain ⟨_, _, _, _, h, _⟩ := h2; simpa using h
  obtain ⟨A, k, rfl, hk, hl, hc⟩ := id h2
  refine h A k vs rfl hk (fun h0 => let ⟨ad, e, _⟩ := hc h0; ⟨ad, e⟩) h4 (fun j hj => ?_) a w ha (hw.impAt i hm (fun _ hb => hb) (fun _ => ⟨h1, h2, h4, h3⟩))
  obtain ⟨u, h5, A', k', rfl, h6, _, h7⟩ := h3 j hj
  exact ⟨A', k', h5, h6, fun h0 => let ⟨ad, e, _⟩ := h7 h0; ⟨ad, e⟩⟩
end
theorem great_small {r : RoundL} (h60 : r.length ≤ 60) (h500 : ((r.take 100).map List.length).sum ≤ 500) : ∀ d ∈ r, d.length ≤ 500 := by
  intro d hd
  rw [List.take_of_length_le (by omega)] at h500
  have : d.length ≤ (r.map List.length).sum := by
    clear h60 h500
    induction r with
    | nil => simp at hd
    | cons x r ih =>
      simp only [List.map_cons, List.sum_cons]
      rcases List.mem_cons.1 hd with rfl | hd
      · omega
      · have := ih hd; omega
  omega
theorem isRound_nil (c : View) : IsRound c (.slice none 0 0) [] := ⟨[], ⟨none, 0, rfl, Nat.le_refl _, rfl, fun h => absurd h (Nat.lt_irrefl _)⟩, fun i hi => by simp at hi⟩
theorem isBytes_nil (c : View) : IsBytes c (.slice none 0 0) [] := ⟨none, 0, rfl, Nat.le_refl _, rfl, fun h => absurd h (Nat.lt_irrefl _)⟩
end Go.SL
