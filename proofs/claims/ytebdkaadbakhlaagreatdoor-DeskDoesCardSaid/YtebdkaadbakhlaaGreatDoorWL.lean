/- YtebdkaadbakhlaaGreatDoor: part WL of this seat's own texts. -/
import Derived.Test.YtebdkaadbakhlaaGreatDoorWK
import Derived.Test.YtebdkaadbakhlaaGreatDoorP5
set_option linter.unusedVariables false
set_option linter.unusedSimpArgs false
section
open Go Go.Proofs Go.SL
set_option maxRecDepth 100000
namespace Go.SL
theorem St.lstOpen {w0 w : World} {F : Nat → Prop} {m cs : Hp} (h : St w0 F (Lst cs :: m) w) : St w0 F (cs ++ m) w := by
 obtain ⟨h1, h2⟩ := h.hold (Lst cs) List.mem_cons_self
 obtain ⟨h3, h4⟩ := List.pairwise_cons.1 h.sep
 refine ⟨h.chg, fun c hc => ?_, List.pairwise_append.2 ⟨h2, h4, fun c hc d hd b hb hdb => h3 d hd b ⟨c, hc, hb⟩ hdb⟩, fun c hc b hb => ?_⟩
 ·rcases List.mem_append.1 hc with hc | hc
  ·exact h1 c hc
  ·exact h.hold c (List.mem_cons_of_mem _ hc)
 ·rcases List.mem_append.1 hc with hc | hc
  ·exact h.own (Lst cs) List.mem_cons_self b ⟨c, hc, hb⟩
  ·exact h.own c (List.mem_cons_of_mem _ hc) b hb
theorem St.lstShut {w0 w : World} {F : Nat → Prop} {m cs : Hp} (h : St w0 F (cs ++ m) w) : St w0 F (Lst cs :: m) w := by
 obtain ⟨h1, h2, h3⟩ := List.pairwise_append.1 h.sep
 refine ⟨h.chg, fun c hc => ?_, List.pairwise_cons.2 ⟨fun d hd b ⟨c, hc, hb⟩ hdb => h3 c hc d hd b hb hdb, h2⟩, fun c hc b hb => ?_⟩
 ·rcases List.mem_cons.1 hc with rfl | hc
  ·exact ⟨fun c hc => h.hold c (List.mem_append_left _ hc), h1⟩
  ·exact h.hold c (List.mem_append_right _ hc)
 ·rcases List.mem_cons.1 hc with rfl | hc
  ·obtain ⟨d, hd, hb⟩ := (show feet cs b from hb)
   exact h.own d (List.mem_append_left _ hd) b hb
  ·exact h.own c (List.mem_append_right _ hc) b hb
theorem St.lstSnoc {w0 w : World} {F : Nat → Prop} {m cs : Hp} {c : Chunk} (h : St w0 F (c :: Lst cs :: m) w) : St w0 F (Lst (cs ++ [c]) :: m) w := by
 have h1 := (h.perm (List.Perm.swap _ _ _)).lstOpen
 refine St.lstShut (h1.perm ?_)
 rw [List.append_assoc]
 exact List.Perm.refl _
theorem tab_succ {α : Type} (n : Nat) (f : Nat → α) : tab (n + 1) f = tab n f ++ [f n] := by simp [tab, List.range_succ]
abbrev Wks (n : Nat) (pw : Nat → Nat) (dvw : Nat → Value) (X : Nat → WkL) : Chunk := Lst (tab n fun i => Lst (wkH (pw i) (dvw i) (X i)))
theorem St.wkTake {w0 w : World} {F : Nat → Prop} {m : Hp} {n k : Nat} {pw : Nat → Nat} {dvw : Nat → Value} {X : Nat → WkL} (hk : k < n) (h : St w0 F (Wks n pw dvw X :: m) w) :
  St w0 F (wkH (pw k) (dvw k) (X k) ++ (Lst ((tab n fun i => Lst (wkH (pw i) (dvw i) (X i))).set k Emp) :: m)) w := (h.lstTake (tab_get hk)).lstOpen
theorem St.wkPut {w0 w : World} {F : Nat → Prop} {m : Hp} {n k : Nat} {pw : Nat → Nat} {dvw : Nat → Value} {X : Nat → WkL} {x : WkL} (h : St w0 F (wkH (pw k) (dvw k) x ++ (Lst ((tab n fun i => Lst (wkH (pw i) (dvw i) (X i))).set k Emp) :: m)) w) :
  St w0 F (Wks n pw dvw (upd X k x) :: m) w := by
 have h1 := (St.lstShut h).lstPut (k := k)
 rw [List.set_set, tab_set] at h1
 have e1 : tab n (upd (fun i => Lst (wkH (pw i) (dvw i) (X i))) k (Lst (wkH (pw k) (dvw k) x))) = tab n fun i => Lst (wkH (pw i) (dvw i) (upd X k x i)) := tab_congr fun j _ => by
  by_cases hj : j = k
  ·subst hj; simp only [upd_same]
  ·simp only [upd_other hj]
 rw [e1] at h1
 exact h1
theorem wk_mem {w0 w : World} {F : Nat → Prop} {m : Hp} {n k : Nat} {pw : Nat → Nat} {dvw : Nat → Value} {X : Nat → WkL} (h : St w0 F m w) (hm : Wks n pw dvw X ∈ m) (hk : k < n) : (wkB (pw k) (dvw k) (X k)).holds w := by
 have h1 := (h.hold _ hm).1 _ (List.mem_of_getElem? (tab_get (g := fun i => Lst (wkH (pw i) (dvw i) (X i))) hk))
 exact h1.1 _ List.mem_cons_self
theorem InvR.wkV {s : List Int} {r : RoundL} {X : Nat → WkL} {T : TabL} (hi : InvR s r X T) {w0 w : World} {F : Nat → Prop} {m : Hp} {n k : Nat} {pw : Nat → Nat} {dvw : Nat → Value} (h : St w0 F m w) (hm : Wks n pw dvw X ∈ m) (hk : k < n) : WkV w.cell? (pw k) (X k) :=
 WkV.of (wkB_cells (wk_mem h hm hk)) (hi.w k).glen (hi.w k).rlen
def HdsOk (X : Nat → WkL) (sh : Nat → DeedL) : Prop := ∀ i, StOk (X i) (sh i) ∧ (X i).at_ ≤ 900
theorem HdsOk.step {X : Nat → WkL} {sh : Nat → DeedL} {k : Nat} {x : WkL} {sl : DeedL} (h : HdsOk X sh) (hx : StOk x sl) (ha : x.at_ ≤ 900) : HdsOk (upd X k x) (upd sh k sl) := fun i => by
 by_cases hi : i = k
 ·subst hi; rw [upd_same, upd_same]; exact ⟨hx, ha⟩
 ·rw [upd_other hi, upd_other hi]; exact h i
theorem HdsOk.new (r : RoundL) : HdsOk (fun i => wk0 (r.getD i []) i) (fun _ => []) := fun i => ⟨⟨fun k => rfl, Nat.le_refl _⟩, Nat.zero_le _⟩
theorem InvR.ck {s : List Int} {r : RoundL} {X : Nat → WkL} {T : TabL} (h : InvR s r X T) (i : Nat) : (checkL (X i).d).1 = 0 := by rw [(h.w i).d]; exact checked_at h.ok i
theorem InvR.short {s : List Int} {r : RoundL} {X : Nat → WkL} {T : TabL} (h : InvR s r X T) : ∀ k, k < 10 → (T k).length ≤ 1000 := fun k _ => Nat.le_trans (h.len k) (by decide)
theorem InvR.good {s : List Int} {r : RoundL} {X : Nat → WkL} {T : TabL} (h : InvR s r X T) : GoodT T := fun k _ x hx ho => ((h.okT k).opn x hx ho).2
section
variable {N : Nat} {w0 : World} {F : Nat → Prop} {Q0 : Exit → Act → World → Prop} {D : List Deferred} {l : Fr} {m : Hp} {ty : TypeId} {pos : String} {after : Array Edge} {d : Nat}
theorem x_wkStep {Φ : Act → World → Prop} {Q : Exit → Act → World → Prop} {fx : Operand} {xs : Array Operand} {ats : Array TypeId} {n k pt : Nat} {pw : Nat → Nat} {dvw : Nat → Value} {X : Nat → WkL} {hs : Nat → Value} {T : TabL} {mr : Hp} {s : List Int} {r : RoundL}
  (hi : InvR s r X T) (hk : k < n) (hm : ∀ w, St w0 F m w → St w0 F (Wks n pw dvw X :: (tbH pt 228 hs T ++ mr)) w)
  (hf : rd l fx = some (.func (.func 165) #[] #[])) (hx : rdAll l xs.toList = some [.pointer (some ⟨pw k, 0, none⟩), .pointer (some ⟨pt, 0, none⟩)]) (hd : Nat.blt d N = true)
  (h : G ⟨Tryz.prog, N, w0, F, Q0, D⟩ ((d, .tuple #[.int .i64 (stepW (X k) T).1.1, .int .i64 (stepW (X k) T).1.2]) :: l) (Wks n pw dvw (upd X k (stepW (X k) T).2.1) :: (tbH pt 228 hs (stepW (X k) T).2.2 ++ mr)) Φ) :
  G ⟨Tryz.prog, N, w0, F, Q0, D⟩ l m (fun a w => Oper.wp Tryz.prog ⟨some d, .call ⟨.value fx, xs, ats⟩, ty, pos, after, none⟩ a w Φ Q) := by
 refine g_heap (m' := (wkH (pw k) (dvw k) (X k) ++ tbH pt 228 hs T) ++ (Lst ((tab n fun i => Lst (wkH (pw i) (dvw i) (X i))).set k Emp) :: mr)) (fun w hw => ?_) ?_
 ·refine ((hm w hw).wkTake hk).perm ?_
  rw [List.append_assoc]
  refine List.Perm.append_left _ ?_
  exact (List.perm_middle (a := Lst ((tab n fun i => Lst (wkH (pw i) (dvw i) (X i))).set k Emp)) (l₁ := tbH pt 228 hs T) (l₂ := mr)).symm
 ·refine x_call (C := ⟨Tryz.prog, N, w0, F, Q0, D⟩) (dst := some d) (mc := wkH (pw k) (dvw k) (X k) ++ tbH pt 228 hs T) (mr := Lst ((tab n fun i => Lst (wkH (pw i) (dvw i) (X i))).set k Emp) :: mr) (σ := Unit) (fun _ => True) (fun _ => .tuple #[.int .i64 (stepW (X k) T).1.1, .int .i64 (stepW (X k) T).1.2]) (fun _ => wkH (pw k) (dvw k) (stepW (X k) T).2.1 ++ tbH pt 228 hs (stepW (X k) T).2.2) hf hx rfl Tryz.call165 (fun w hw => wkStep_spec (pw k) (dvw k) (X k) pt hs T w (res_part hw).1 (res_part hw).2 hi.short hi.good (hi.ck k) (hi.w k).glen (hi.w k).rlen) hd (fun _ _ => ?_)
  refine g_heap (fun w hw => ?_) h
  refine St.wkPut (k := k) <| hw.perm ?_
  rw [List.append_assoc]
  refine List.Perm.append_left _ ?_
  exact List.perm_middle (a := Lst ((tab n fun i => Lst (wkH (pw i) (dvw i) (X i))).set k Emp)) (l₁ := tbH pt 228 hs (stepW (X k) T).2.2) (l₂ := mr)
end
end Go.SL
end
section
open Go Go.Proofs Go.SL
set_option maxRecDepth 100000
set_option maxHeartbeats 1000000
namespace Go.SL
theorem St.wkGrow {w0 w : World} {F : Nat → Prop} {m : Hp} {j p : Nat} {dv : Value} {pw : Nat → Nat} {dvw : Nat → Value} {X : Nat → WkL} (h : St w0 F (wkH p dv (X j) ++ (Wks j pw dvw X :: m)) w) : St w0 F (Wks (j + 1) (upd pw j p) (upd dvw j dv) X :: m) w := by
 have h1 := (St.lstShut h).lstSnoc
 have e : tab j (fun i => Lst (wkH (pw i) (dvw i) (X i))) = tab j (fun i => Lst (wkH (upd pw j p i) (upd dvw j dv i) (X i))) := tab_congr fun i hi => by rw [upd_other (by omega), upd_other (by omega)]
 unfold Wks
 rw [tab_succ, ← e, upd_same, upd_same]
 exact h1
theorem wkNew_ok (v : Value) (d : DeedL) (i : Nat) (w : World) (h : IsDeed w.cell? v d) (hck : (checkL d).1 = 0) (hi : i < 8) :
  Calls Tryz.prog 164 #[v, .int .i64 (i : Int)] w fun e w' => ∃ x : Nat × Value, True ∧ e = .returned (.pointer (some ⟨x.1, 0, none⟩)) ∧ Res w [] (wkH x.1 x.2 (wk0 d i)) w' := by
 refine (wkNew_spec v d i w h).mono ?_
 rintro e w' (⟨h1, _⟩ | ⟨_, x, h2, h3⟩)
 ·exact absurd ⟨hck, by omega, by omega⟩ h1
 ·rw [Int.toNat_natCast] at h3
  exact ⟨x, trivial, h2, h3⟩
def ptrV (p : Nat) : Value := .pointer (some ⟨p, 0, none⟩)
def ptrs (n : Nat) (f : Nat → Nat) : List Value := tab n fun i => ptrV (f i)
theorem ptrs_get {n k : Nat} {f : Nat → Nat} (h : k < n) : (ptrs n f)[k]? = some (ptrV (f k)) := tab_get h
theorem ptrs_grow {n p : Nat} {f : Nat → Nat} : ptrs n f ++ [ptrV p] = ptrs (n + 1) (upd f n p) := by
 unfold ptrs
 rw [tab_succ, upd_same]
 congr 1
 exact tab_congr fun i hi => by rw [upd_other (by omega)]
abbrev nilS : Value := .slice none 0 0
end Go.SL
end
section
open Go Go.Proofs Go.SL
set_option maxRecDepth 100000
set_option maxHeartbeats 1000000
namespace Go.SL
abbrev RunS := (Nat → WkL) × TabL
def runP (P : RunS) (k : Nat) : RunS := (upd P.1 k (stepW (P.1 k) P.2).2.1, (stepW (P.1 k) P.2).2.2)
theorem InvR.run {s : List Int} {r : RoundL} {P : RunS} (h : InvR s r P.1 P.2) {k : Nat} (hk : k < r.length) : InvR s r (runP P k).1 (runP P k).2 := h.step hk
def newP (s : List Int) (r : RoundL) : RunS := (fun i => wk0 (r.getD i []) i, newT s r)
end Go.SL
end
