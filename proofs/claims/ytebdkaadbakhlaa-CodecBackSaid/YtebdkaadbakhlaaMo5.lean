/- Ytebdkaadbakhlaa: part Mo5 of this seat's own texts. -/
import Derived.Test.YtebdkaadbakhlaaMo4
import Derived.Recover
set_option linter.unusedVariables false
set_option linter.unusedSimpArgs false
namespace Go.SL
open Go.RowKit
set_option linter.unusedSectionVars false
/-! ## a function that defers one closure -/
theorem enterD0 {P : Program} {f : FuncId} {fn : Func} {c : Code} {vs : List Value} {w : World} {R : Ending → World → Prop} {N : Nat} (hf : P.funcs[f]? = some fn) (hb : fn.body = some c) (hN : fn.ntmps = N) (hlen : Nat.ble vs.length N = true)
    (h : E ⟨P, N, w, feet [], bodyPostD P fn R, []⟩ [.code c] (frOf 0 vs) []) : Calls P f vs.toArray w R := by
  have hl := Nat.le_of_ble_eq_true hlen
  refine calls_of_wp_defers hf hb ?_
  have h1 := h { tmps := vs.toArray ++ Array.replicate (fn.ntmps - vs.toArray.size) undef, defers := [] } w ⟨by simp [hN]; omega, rfl, ?_⟩ (St.start (by simp) (by simp))
  · refine wp_mono h1 fun e a w hq => ?_
    cases e <;> exact hq
  · intro t v ht
    have := look_frOf vs 0 t v ht
    simp only [Nat.sub_zero, Nat.zero_le, true_and] at this
    have hlt : t < vs.length := (List.getElem?_eq_some_iff.1 this).1
    simp only [Array.getElem?_append, List.size_toArray, hlt, if_true, List.getElem?_toArray, this]
theorem kp_D {C : Cx} (D : List Deferred) : ∀ (ks : List Kt), Kp { C with D := D } ks = Kp C ks
  | [] => rfl
  | .code c :: ks => by simp only [Kp, kp_D D ks]
  | .blk _ :: ks => by simp only [Kp, kp_D D ks]
  | .inv _ :: ks => by simp only [Kp, kp_D D ks]
section
variable {C : Cx} {ks : List Kt} {l : Fr} {m : Hp} {ty : TypeId} {pos : String} {after : Array Edge} {dst : Option Nat} {g : Option (Nat × Bool)} {ops : Array Oper} {rest : List Oper}
theorem v_makeFunc {f : FuncId} {cap : Array Operand} {vs : List Value} (hc : rdAll l cap.toList = some vs) : OpV C l m ⟨dst, .makeFunc (.func f) #[] cap, ty, pos, after, g⟩ (.func (.func f) #[] vs.toArray) := fun a w ha hw => by
  have h1 : cap.map a.eval = vs.toArray := by
    have := rdAll_eval ha.knows hc
    rw [← this]
    apply Array.ext'
    simp
  simp [execOp, h1, Instr.makeFunc]
theorem w_defer {P : Program} {N : Nat} {w0 : World} {F : Nat → Prop} {Q : Exit → Act → World → Prop} {D : List Deferred} {f : FuncId} {cap : Array Value} {fx : Operand} (hf : rd l fx = some (.func (.func f) #[] cap)) (h : W ⟨P, N, w0, F, Q, { target := .fn (.func f) cap, args := #[] } :: D⟩ ops rest ks l m) :
    W ⟨P, N, w0, F, Q, D⟩ ops (⟨none, .defer ⟨.value fx, #[], #[]⟩, ty, pos, after, none⟩ :: rest) ks l m := by
  refine w_op rfl ?_
  intro a w ha hw
  have : (execOp a.eval (⟨none, .defer ⟨.value fx, #[], #[]⟩, ty, pos, after, none⟩ : Oper)).run P w = .ok (.defer { target := .fn (.func f) cap, args := #[] }) w := by
    simp [execOp, resolve, rd_eval ha.knows hf, Deferred.ofValue]
  unfold Oper.wp
  rw [this, Oper.upon_defer]
  have h1 := h { a with defers := { target := .fn (.func f) cap, args := #[] } :: a.defers } w ⟨ha.size, by rw [ha.defers], ha.knows⟩ hw
  have h2 := kp_D (C := ⟨P, N, w0, F, Q, D⟩) ({ target := .fn (.func f) cap, args := #[] } :: D) ks
  simp only at h2
  rw [h2] at h1
  exact h1
end
section
variable {P : Program} {N : Nat} {w0 : World} {F : Nat → Prop} {fn : Func} {R : Ending → World → Prop} {l : Fr} {m m' : Hp} {ks : List Kt} {f : FuncId} {cap : Array Value}
theorem leaves_one {tmps : Array Value} {w : World} {u : FrameMode} (hu : u ≠ .run) (hi : ∀ args w, (callFunc f args).run P w = .ok (.enter f args) w)
    (h : CallsD P f cap u w fun e u' w' => e = .returned (.tuple #[]) ∧ settle u' = .returning ∧ ∃ v, (results fn tmps).run P w' = .ok v w' ∧ R (.returned v) w') : Leaves P fn tmps R [{ target := .fn (.func f) cap, args := #[] }] u w := by
  refine leaves_cons (f := f) (args := cap) hu (by simp [invoke, hi]) (h.mono ?_)
  rintro e u' w' ⟨rfl, h1, h2⟩
  simp only [h1]
  exact h2
theorem res2 {r r2 : ResultVar} {v v2 : Value} (hr : fn.results = #[r, r2]) (hv : ResV P l m r v) (hv2 : ResV P l m r2 v2) {C : Cx} {a : Act} (ha : Ok C l a) {w : World} (hm : ∀ c ∈ m, c.holds w) : (results fn a.tmps).run P w = .ok (.tuple #[v, v2]) w := by
  simp [results_eq, hr, hv.run ha.knows hm, hv2.run ha.knows hm]
/-- the function returns, the closure sees no panic -/
theorem q_door2 {r r2 : ResultVar} {v v2 : Value} (hi : ∀ args w, (callFunc f args).run P w = .ok (.enter f args) w) (hcall : ∀ w, CallsD P f cap .returning w fun e u' w' => e = .returned (.tuple #[]) ∧ u' = .returning ∧ w' = w)
    (hr : fn.results = #[r, r2]) (hv : ResV P l m r v) (hv2 : ResV P l m r2 v2) (h : ∀ w, St w0 F m w → R (.returned (.tuple #[v, v2])) w) :
    ∀ a w, Ok ⟨P, N, w0, F, bodyPostD P fn R, [{ target := .fn (.func f) cap, args := #[] }]⟩ l a → St w0 F m w → bodyPostD P fn R .ret a w := by
  intro a w ha hw
  simp only [bodyPostD]
  rw [ha.defers]
  refine leaves_one (by simp) hi ((hcall w).mono ?_)
  rintro e u' w' ⟨rfl, rfl, rfl⟩
  exact ⟨rfl, rfl, _, res2 hr hv hv2 ha hw.hold, h w' hw⟩
/-- the function panics, the closure recovers -/
theorem q_doorP2 {r r2 : ResultVar} {v v2 pv : Value} (hi : ∀ args w, (callFunc f args).run P w = .ok (.enter f args) w)
    (hcall : ∀ w, St w0 F m w → CallsD P f cap (.panicking [{ v := pv, recovered := false }]) w fun e u' w' => e = .returned (.tuple #[]) ∧ settle u' = .returning ∧ St w0 F m' w')
    (hr : fn.results = #[r, r2]) (hv : ResV P l m' r v) (hv2 : ResV P l m' r2 v2) (h : ∀ w, St w0 F m' w → R (.returned (.tuple #[v, v2])) w) :
    G ⟨P, N, w0, F, bodyPostD P fn R, [{ target := .fn (.func f) cap, args := #[] }]⟩ l m (bodyPostD P fn R (.panic [{ v := pv, recovered := false }])) := by
  intro a w ha hw
  simp only [bodyPostD]
  rw [ha.defers]
  refine leaves_one (by simp) hi ((hcall w hw).mono ?_)
  rintro e u' w' ⟨rfl, hs, hw'⟩
  exact ⟨rfl, hs, _, res2 hr hv hv2 ha hw'.hold, h w' hw'⟩
end
theorem blk_set {w : World} {b e i : Nat} {cs : List Value} {v : Value} {w0 : World} {F : Nat → Prop} {m : Hp} (k : Nat) (hk : m[k]? = some (.blk b e cs)) (h : St w0 F m w) : St w0 F (m.set k (.blk b e (cs.set i v))) (w.setCell ⟨b, i, none⟩ v) :=
  h.at_ hk (Res.setCell (h.mem hk) i v)
theorem blk_thawed {w : World} {b e i : Nat} {cs : List Value} (h : (Chunk.blk b e cs).holds w) : w.frozen? ⟨b, i, none⟩ = false := by
  have h : w.heap[b]? = some (.cells cs.toArray e (0, 0)) := h
  simp [World.frozen?, h]
section
variable {C : Cx} {l : Fr} {m : Hp}
theorem g_round {Φ : Act → World → Prop} {v : Value} {r : RoundL} {F : Nat → Prop} (i : Nat) (hm : m[i]? = some (Keep F (fun c => IsRound c v r))) (h : ∀ A k, v = .slice A r.length k → r.length ≤ k → G C l m Φ) : G C l m Φ := fun a w ha hw => by
  obtain ⟨vs, ⟨A, k, h1, h2, _⟩, _⟩ := (hw.mem hm).2
  exact h A k h1 h2 a w ha hw
end
end Go.SL
