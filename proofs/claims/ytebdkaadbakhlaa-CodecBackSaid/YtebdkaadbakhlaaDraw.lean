/- Ytebdkaadbakhlaa: part Draw of this seat's own texts. -/
import Derived.Test.YtebdkaadbakhlaaWr
import Derived.OrdersHeld
set_option linter.unusedVariables false
set_option linter.unusedSimpArgs false
namespace Go.SL
open Go.RowKit
set_option linter.unusedSectionVars false
theorem St.drew {w0 w : World} {F : Nat → Prop} {m : Hp} (h : St w0 F m w) : St w0 F m { w with drawn := w.drawn + 1 } :=
  ⟨⟨h.chg.os, h.chg.tape, h.chg.output, h.chg.size, h.chg.block⟩, fun c hc => Chunk.stable (w := w) (fun _ _ => rfl) (h.hold c hc), h.sep, h.own⟩
def Pan (Q : Exit → Act → World → Prop) : Prop := ∀ c a d v w, Q (.panic c) (Act.put a d v) w → Q (.panic c) a w
theorem pan_body {P : Program} {fn : Func} {R : Ending → World → Prop} : Pan (bodyPost P fn R) := fun _ _ _ _ _ h => ⟨by have := h.1; rwa [put_defers] at this, h.2⟩
theorem pan_cx {P : Program} {N : Nat} {w0 : World} {F : Nat → Prop} {fn : Func} {R : Ending → World → Prop} : Pan (Cx.mk P N w0 F (bodyPost P fn R) []).Q := pan_body
theorem pan_kp {C : Cx} (hp : Pan C.Q) : ∀ {ks : List Kt}, Pan (Kp C ks)
  | [] => hp
  | .code _ :: ks => fun c a d v w h => pan_kp hp (ks := ks) c a d v w h
  | .blk _ :: ks => fun c a d v w h => pan_kp hp (ks := ks) c a d v w h
  | .inv _ :: ks => fun c a d v w h => pan_kp hp (ks := ks) c a d v w h
section
variable {C : Cx} {ks : List Kt} {l : Fr} {m : Hp} {ops : Array Oper}
/-- a region in whatever order: what is left to come up; 'base': the chunks that no operation of the region changes -/
abbrev A (C : Cx) (ops : Array Oper) (ks : List Kt) (base : Hp) (fuel : Nat) (listed : Array Bool) (l : Fr) (m : Hp) : Prop :=
  G C l m (wpAnyH C.P .any ops (Kp C ks) (St C.w0 C.F base) fuel listed)
theorem e_draw {id : Nat} (base : Hp) (hm : C.P.follows .mixedOrders = true) (h : A C ops ks base ops.size (Array.replicate ops.size false) l m) : E C (.code (.region id ops true) :: ks) l m :=
  fun a _ ha hw => wp_region_held hm (h a _ ha hw.drew)
theorem a_take {base : Hp} {fuel : Nat} {listed : Array Bool} {d : Nat} {op : Op} {ty : TypeId} {pos : String} {after : Array Edge} {v : Value} (i : Nat) (hp : Pan C.Q) (hs : Region.noSelect ops = true)
    (hb : ∀ w, St C.w0 C.F m w → St C.w0 C.F base w) (hi : ops[i]? = some ⟨some d, op, ty, pos, after, none⟩) (hf : Region.free .any ops listed i = true) (hr : (Region.ready .any ops listed).contains i = true)
    (hv : OpV C l base ⟨some d, op, ty, pos, after, none⟩ v) (hd : Nat.blt d C.N = true) (h : A C ops ks base fuel (listed.setIfInBounds i true) ((d, v) :: l) m) : A C ops ks base (fuel + 1) listed l m :=
  fun a w ha hw => wpAnyH_take hi hs hf hr (fun c a w hq => pan_kp hp c a _ _ w hq) (.inl ⟨by simp [Region.wanted], fun w hw => hv a w ha hw⟩) (hb w hw) (h _ _ (ha.put (Nat.le_of_ble_eq_true hd)) hw)
theorem a_want {base : Hp} {fuel : Nat} {listed : Array Bool} {d j d' : Nat} {b : Bool} {op : Op} {ty : TypeId} {pos : String} {after : Array Edge} {v : Value} (i : Nat) (hp : Pan C.Q) (hs : Region.noSelect ops = true)
    (hb : ∀ w, St C.w0 C.F m w → St C.w0 C.F base w) (hi : ops[i]? = some ⟨some d, op, ty, pos, after, some (j, b)⟩) (hf : Region.free .any ops listed i = true) (hr : (Region.ready .any ops listed).contains i = true)
    (hj : ((ops[j]?).bind (·.dst)) = some d') (hg : look l d' = some (.bool b))
    (hv : OpV C l base ⟨some d, op, ty, pos, after, some (j, b)⟩ v) (hd : Nat.blt d C.N = true) (h : A C ops ks base fuel (listed.setIfInBounds i true) ((d, v) :: l) m) : A C ops ks base (fuel + 1) listed l m :=
  fun a w ha hw => wpAnyH_take hi hs hf hr (fun c a w hq => pan_kp hp c a _ _ w hq) (.inl ⟨by have := ha.knows d' _ hg; simp [Region.wanted, yielded, hj, this], fun w hw => hv a w ha hw⟩) (hb w hw) (h _ _ (ha.put (Nat.le_of_ble_eq_true hd)) hw)
theorem a_skip {base : Hp} {fuel : Nat} {listed : Array Bool} {d j d' : Nat} {b : Bool} {op : Op} {ty : TypeId} {pos : String} {after : Array Edge} {v : Value} (i : Nat) (hp : Pan C.Q) (hs : Region.noSelect ops = true)
    (hb : ∀ w, St C.w0 C.F m w → St C.w0 C.F base w) (hi : ops[i]? = some ⟨some d, op, ty, pos, after, some (j, b)⟩) (hf : Region.free .any ops listed i = true) (hr : (Region.ready .any ops listed).contains i = true)
    (hj : ((ops[j]?).bind (·.dst)) = some d') (hg : look l d' = some v) (hn : (match v with | .bool c => Bool.xor c b | _ => true) = true)
    (hd : Nat.blt d C.N = true) (h : A C ops ks base fuel (listed.setIfInBounds i true) ((d, undef) :: l) m) : A C ops ks base (fuel + 1) listed l m := by
  intro a w ha hw
  refine wpAnyH_take hi hs hf hr (fun c a w hq => pan_kp hp c a _ _ w hq) (.inr ⟨?_, rfl⟩) (hb w hw) (h _ _ (ha.put (Nat.le_of_ble_eq_true hd)) hw)
  have := ha.knows d' _ hg
  simp only [Region.wanted, yielded, hj, Option.bind_some, this]
  cases v <;> simp_all <;> (rename_i c; cases c <;> cases b <;> simp_all)
theorem a_all {base : Hp} {fuel : Nat} {listed : Array Bool} (rs : List Nat) (hr : Region.ready .any ops listed = rs) (hne : rs.isEmpty = false)
    (h : ∀ i ∈ rs, G C l m (wpOp C.P ops (Kp C ks) i (fun a' w' => St C.w0 C.F base w' ∧ wpAnyH C.P .any ops (Kp C ks) (St C.w0 C.F base) fuel (listed.setIfInBounds i true) a' w'))) : A C ops ks base (fuel + 1) listed l m :=
  fun a w ha hw => wpAnyH_all hr (by intro e; subst e; cases hne) (fun i hi => h i hi a w ha hw)
theorem a_op {i : Nat} {o : Oper} {Φ : Act → World → Prop} {Q : Exit → Act → World → Prop} (hi : ops[i]? = some o) (hg : o.guard = none) (h : G C l m (fun a w => o.wp C.P a w Φ Q)) : G C l m (wpOp C.P ops Q i Φ) := by
  intro a w ha hw
  unfold wpOp
  rw [hi]
  simp only [Region.wanted, hg, if_true]
  exact .inl (h a w ha hw)
theorem a_and {base : Hp} {Φ : Act → World → Prop} (hb : ∀ w, St C.w0 C.F m w → St C.w0 C.F base w) (h : G C l m Φ) : G C l m (fun a w => St C.w0 C.F base w ∧ Φ a w) :=
  fun a w ha hw => ⟨hb w hw, h a w ha hw⟩
/-- only one may come up -/
theorem a_one {base : Hp} {fuel : Nat} {listed : Array Bool} {o : Oper} (i : Nat) (hr : Region.ready .any ops listed = [i]) (hi : ops[i]? = some o) (hg : o.guard = none)
    (h : G C l m (fun a w => o.wp C.P a w (fun a' w' => St C.w0 C.F base w' ∧ wpAnyH C.P .any ops (Kp C ks) (St C.w0 C.F base) fuel (listed.setIfInBounds i true) a' w') (Kp C ks))) : A C ops ks base (fuel + 1) listed l m :=
  a_all [i] hr rfl (fun j hj => by
    simp only [List.mem_singleton] at hj
    subst hj
    exact a_op hi hg h)
theorem a_opW {i j d' : Nat} {b : Bool} {dst : Option Nat} {op : Op} {ty : TypeId} {pos : String} {after : Array Edge} {Φ : Act → World → Prop} {Q : Exit → Act → World → Prop} (hi : ops[i]? = some ⟨dst, op, ty, pos, after, some (j, b)⟩)
    (hj : ((ops[j]?).bind (·.dst)) = some d') (hl : look l d' = some (.bool b)) (h : G C l m (fun a w => Oper.wp C.P ⟨dst, op, ty, pos, after, none⟩ a w Φ Q)) : G C l m (wpOp C.P ops Q i Φ) := by
  intro a w ha hw
  unfold wpOp
  rw [hi]
  have h1 := ha.knows d' _ hl
  have h2 : Region.wanted (⟨dst, op, ty, pos, after, some (j, b)⟩ : Oper) (yielded ops a.tmps) = true := by simp [Region.wanted, yielded, hj, h1]
  simp only [h2, if_true]
  exact .inl (h a w ha hw)
/-- only one may come up; it is guarded, and wanted -/
theorem a_oneW {base : Hp} {fuel : Nat} {listed : Array Bool} {j d' : Nat} {b : Bool} {dst : Option Nat} {op : Op} {ty : TypeId} {pos : String} {after : Array Edge} (i : Nat) (hr : Region.ready .any ops listed = [i]) (hi : ops[i]? = some ⟨dst, op, ty, pos, after, some (j, b)⟩)
    (hj : ((ops[j]?).bind (·.dst)) = some d') (hl : look l d' = some (.bool b))
    (h : G C l m (fun a w => Oper.wp C.P ⟨dst, op, ty, pos, after, none⟩ a w (fun a' w' => St C.w0 C.F base w' ∧ wpAnyH C.P .any ops (Kp C ks) (St C.w0 C.F base) fuel (listed.setIfInBounds i true) a' w') (Kp C ks))) : A C ops ks base (fuel + 1) listed l m :=
  a_all [i] hr rfl (fun j hj' => by
    simp only [List.mem_singleton] at hj'
    subst hj'
    exact a_opW hi hj hl h)
theorem a_done {base : Hp} {fuel : Nat} {listed : Array Bool} (hr : Region.ready .any ops listed = []) (h : E C ks l m) : A C ops ks base fuel listed l m :=
  fun a w ha hw => wpAnyH_done hr (h a w ha hw) fuel
end
end Go.SL
