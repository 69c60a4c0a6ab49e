/- YtebdkaadbakhladDoor: part P3 of this seat's own texts. -/
import Derived.ArgAppend
import Derived.Test.YtebdkaadbakhladDoorP2
set_option linter.unusedVariables false
set_option linter.unusedSimpArgs false
section
namespace Go.SL
open Go.RowKit
set_option linter.unusedSectionVars false
/-! ## a row that may have been cut: it is read, appended to, cut again -/
section
variable {C : Cx} {l : Fr} {m : Hp} {ty : TypeId} {pos : String} {after : Array Edge} {d : Nat}
end
section
variable {C : Cx} {l : Fr} {m : Hp} {ty t' : TypeId} {pos : String} {after : Array Edge} {dst : Option Nat} {gd : Option (Nat × Bool)} {x y : Operand}
end
section
variable {C : Cx} {l : Fr} {m : Hp} {ty : TypeId} {pos : String} {after : Array Edge} {dst : Option Nat} {gd : Option (Nat × Bool)}
end
section
variable {C : Cx} {l : Fr} {m : Hp} {ty : TypeId} {pos : String} {after : Array Edge} {d : Nat}
theorem x_appendIS {Φ : Act → World → Prop} {Q : Exit → Act → World → Prop} {s x : Operand} {t e : TypeId} {z v vx : Value} {size bytes n k : Nat} {xs news : List Value} (i : Nat) (hm : m[i]? = some (Own v e size n xs)) (hs : rd l s = some v) (hx : rd l x = some vx)
    (ht : C.P.underlying t = some (.slice e)) (hi : (C.P.info? e).map (fun i => (i.zero, i.size, i.bytes)) = some (some z, size, bytes)) (hzs : z.cells.size = size) (hsz : 0 < size)
    (hr : ∀ w, St C.w0 C.F m w → Rds w.cell? vx size k news) (h1 : ∀ u ∈ news, u.oneCell' = true) (hb : (n + k) * bytes ≤ 140737488355328) (h63 : n + k ≤ maxLen) (hd : Nat.blt d C.N = true)
    (h : ∀ A cap, n + k ≤ cap → G C ((d, .slice A (n + k) cap) :: l) (m.set i (Own (.slice A (n + k) cap) e size (n + k) (xs ++ news))) Φ) :
    G C l m (fun a w => Oper.wp C.P ⟨some d, .call ⟨.builtin .append, #[s, x], #[t, t]⟩, ty, pos, after, none⟩ a w Φ Q) :=
  x_appendI i hm hs hx ht hi hzs hsz hr h1 hb h63 hd fun v' => by
    have hlt := (List.getElem?_eq_some_iff.1 hm).1
    refine g_shape (v := v') (e := e) (size := size) (n := n + k) (xs := xs ++ news) i (by simp [hlt]) fun A cap hv hk => ?_
    subst hv
    exact h A cap hk
end
end Go.SL
end
section
namespace Go.SL
/-! ## the log, as plain Lean: rounds; behind each the number of bytes -/
def bytesOf (L : List RoundL) : List UInt8 := L.flatMap encL
end Go.SL
end
section
namespace Go.SL
open Go.RowKit
/-- rounds, by their headers -/
def Rounds (vs : List Value) (L : List RoundL) (c : View) : Prop := vs.length = L.length ∧ ∀ i (h : i < L.length), ∃ u, vs[i]? = some u ∧ IsRound c u L[i]
theorem Rounds.up (vs : List Value) (L : List RoundL) : Up (Rounds vs L) := fun _ _ hl h => ⟨h.1, fun i hi => let ⟨u, h1, h2⟩ := h.2 i hi; ⟨u, h1, h2.mono hl⟩⟩
theorem Rounds.nil (c : View) : Rounds [] [] c := ⟨rfl, fun i hi => by simp at hi⟩
theorem Rounds.take {vs : List Value} {L : List RoundL} {c : View} (h : Rounds vs L c) (n : Nat) : Rounds (vs.take n) (L.take n) c := by
  refine ⟨by simp [h.1], fun i hi => ?_⟩
  simp only [List.length_take] at hi
  obtain ⟨u, h1, h2⟩ := h.2 i (by omega)
  exact ⟨u, by rw [List.getElem?_take, if_pos (by omega)]; exact h1, by rw [List.getElem_take]; exact h2⟩
end Go.SL
end
section
namespace Go.SL
open Go.RowKit
structure StepL where
  do_ : Int
  keep : Int
  round : RoundL
instance : Inhabited StepL := ⟨⟨0, 0, []⟩⟩
def IsSteps (c : View) (v : Value) (l : List StepL) : Prop := ∃ A k, v = .slice A l.length k ∧ l.length ≤ k ∧ ∀ i (hi : i < l.length), ∃ ad u, A = some ad ∧ Cells c (ad.add (i * 3)) [.int .i64 l[i].do_, .int .i64 l[i].keep, u] ∧ IsRound c u l[i].round
theorem IsSteps.mono {c c' : View} (hl : Le c c') {v : Value} {l : List StepL} (h : IsSteps c v l) : IsSteps c' v l := by
  obtain ⟨A, k, h1, h2, h3⟩ := h
  exact ⟨A, k, h1, h2, fun i hi => let ⟨ad, u, h4, h5, h6⟩ := h3 i hi; ⟨ad, u, h4, h5.mono hl, h6.mono hl⟩⟩
theorem Cells.one {c : View} {ad : Addr} {cs : List Value} (h : Cells c ad cs) {i j : Nat} {v : Value} (hj : cs[j]? = some v) (hi : i = j) : c (ad.add i) = some v := by subst hi; exact h _ _ hj
end Go.SL
end
section
namespace Go.SL
open Go.RowKit
set_option linter.unusedSectionVars false
theorem cut_off {w : World} {F1 F2 : Nat → Prop} (h : ∀ b, F1 b → ¬ F2 b) : Le (cutTo w F1).cell? (SL.off w F2) := by
  intro p v hp
  have h1 := cutTo_le w F1 p v hp
  by_cases hF : F1 p.block
  · unfold SL.off
    rw [if_neg (h _ hF)]
    exact h1
  · simp only [World.cell?, cutTo, Array.getElem?_mapIdx, hF, if_false] at hp
    cases hb : w.heap[p.block]? <;> simp [hb] at hp
theorem St.apart {w0 w : World} {F : Nat → Prop} {mc mr : Hp} (h : St w0 F (mc ++ mr) w) : Le (cutTo w (feet mr)).cell? (SL.off w (feet mc)) := by
  have hsep := (List.pairwise_append.1 h.sep).2.2
  exact cut_off fun b ⟨d, hd, hb⟩ ⟨c, hc, hb'⟩ => hsep c hc d hd b hb' hb
section
variable {C : Cx} {l : Fr} {m : Hp} {ty t' : TypeId} {pos : String} {after : Array Edge} {dst : Option Nat} {gd : Option (Nat × Bool)} {x y : Operand}
end
end Go.SL
end
section
namespace Go.SL
open Go.RowKit
set_option linter.unusedSectionVars false
/-! ## blocks of the call's own that are written in place -/
section
variable {C : Cx} {l : Fr} {m : Hp} {ty : TypeId} {pos : String} {after : Array Edge}
end
/-- deeds of the call's own, to be written -/
def DeedsW (vs : List Value) (r : RoundL) (c : View) : Prop := vs.length = r.length ∧ ∀ j (h : j < r.length), ∃ A k, vs[j]? = some (.slice A r[j].length k) ∧ (0 < r[j].length → ∃ g, A = some ⟨g, 0, none⟩ ∧ ∀ i, i < r[j].length * 5 → ∃ old, c ⟨g, i, none⟩ = some old)
theorem DeedsW.up (vs : List Value) (r : RoundL) : Up (DeedsW vs r) := fun _ _ hl h => ⟨h.1, fun j hj => by
  obtain ⟨A, k, h1, h2⟩ := h.2 j hj
  refine ⟨A, k, h1, fun h0 => ?_⟩
  obtain ⟨g, h3, h4⟩ := h2 h0
  exact ⟨g, h3, fun i hi => let ⟨old, h5⟩ := h4 i hi; ⟨old, hl _ _ h5⟩⟩⟩
theorem DeedsW.set {vs : List Value} {r : RoundL} {c c' : View} {b o : Nat} {v : Value} (h : DeedsW vs r c) (h1 : ∀ p : Addr, p.block ≠ b → c' p = c p) (h2 : ∀ i, i ≠ o → c' ⟨b, i, none⟩ = c ⟨b, i, none⟩) (h3 : c' ⟨b, o, none⟩ = some v) : DeedsW vs r c' := ⟨h.1, fun j hj => by
  obtain ⟨A, k, h4, h5⟩ := h.2 j hj
  refine ⟨A, k, h4, fun h0 => ?_⟩
  obtain ⟨g, h6, h7⟩ := h5 h0
  refine ⟨g, h6, fun i hi => ?_⟩
  by_cases hg : g = b
  · subst hg
    by_cases hio : i = o
    · subst hio; exact ⟨_, h3⟩
    · rw [h2 i hio]; exact h7 i hi
  · rw [h1 _ hg]; exact h7 i hi⟩
def DeedsB (vs : List Value) (r : RoundL) (c : View) : Prop := Deeds vs r c ∧ DeedsW vs r c
theorem DeedsB.up (vs : List Value) (r : RoundL) : Up (DeedsB vs r) := fun _ _ hl h => ⟨Deeds.up _ _ _ _ hl h.1, DeedsW.up _ _ _ _ hl h.2⟩
theorem DeedsB.nil (c : View) : DeedsB [] [] c := ⟨Deeds.nil c, rfl, fun j hj => by simp at hj⟩
end Go.SL
namespace Go.SL
section
variable {C : Cx} {l : Fr} {m : Hp}
end
theorem DeedsW.cell {vs : List Value} {r : RoundL} {c : View} (h : DeedsW vs r c) {j : Nat} (hj : j < r.length) {g k : Nat} (hv : vs[j]? = some (.slice (some ⟨g, 0, none⟩) r[j].length k)) {i : Nat} (hi : i < r[j].length * 5) : ∃ old, c ⟨g, i, none⟩ = some old := by
  obtain ⟨A, k', h1, h2⟩ := h.2 j hj
  rw [hv] at h1
  injection h1 with h1
  injection h1 with e1 _ _
  obtain ⟨g', h3, h4⟩ := h2 (by omega)
  rw [← e1] at h3
  injection h3 with h3
  injection h3 with h3 _ _
  subst h3
  exact h4 i hi
end Go.SL
end
