/- Ytebdkaadbakhlac: part P3 of this seat's own texts. -/
import Derived.ArgAppend
import Derived.Test.YtebdkaadbakhlacP2
set_option linter.unusedVariables false
set_option linter.unusedSimpArgs false
section
namespace Go.SL
open Go.RowKit
set_option linter.unusedSectionVars false
/-! ## a row that may have been cut: it is read, appended to, cut again -/
def rowG (v : Value) (e size n : Nat) (xs : List Value) : Gen where
  foot := fun b => v.ownBlock = some b
  holds := fun w => w.ownsRow 0 e size v n xs ∨ (xs.length = n * size ∧ ∃ g, v = .slice (some ⟨g, 0, none⟩) n n ∧ g < w.heap.size ∧ Cells w.cell? ⟨g, 0, none⟩ xs)
  lt := fun {w b} h hb => by
    rcases h with h | ⟨_, g, rfl, hg, _⟩
    · exact (h.lt _ hb).2
    · simp only [Value.ownBlock, Option.some.injEq] at hb
      subst hb; exact hg
  stable := fun {w w'} hs h => by
    rcases h with h | ⟨h1, g, rfl, hg, hc⟩
    · exact .inl ((ownG v e size n xs).stable hs h)
    · have hb := hs g (by simp [Value.ownBlock])
      refine .inr ⟨h1, g, rfl, ?_, fun j u hj => ?_⟩
      · rcases Nat.lt_or_ge g w'.heap.size with hl | hge
        · exact hl
        · rw [Array.getElem?_eq_none hge, Array.getElem?_eq_getElem hg] at hb; cases hb
      · rw [← hc j u hj, add_mk]
        exact World.cell?_of_block hb
abbrev Rw (v : Value) (e size n : Nat) (xs : List Value) : Chunk := .gen (rowG v e size n xs)
theorem row_rds {v : Value} {e size n : Nat} {xs : List Value} {w : World} (h : (Rw v e size n xs).holds w) : Rds w.cell? v size n xs := by
  rcases h with h | ⟨h1, g, rfl, _, hc⟩
  · exact own_rds h
  · exact ⟨_, n, rfl, Nat.le_refl _, h1, fun _ => ⟨_, rfl, hc⟩⟩
section
variable {C : Cx} {l : Fr} {m : Hp} {ty : TypeId} {pos : String} {after : Array Edge} {d : Nat}
end
section
variable {C : Cx} {l : Fr} {m : Hp} {ty t' : TypeId} {pos : String} {after : Array Edge} {dst : Option Nat} {gd : Option (Nat × Bool)} {x y : Operand}
theorem run_equalIn_nil {P : Program} {t e : TypeId} {A : Option Addr} {n k : Nat} (dd : Nat) (ht : P.underlying t = some (.slice e)) (w : World) : (Op.equalIn (dd + 1) t (.slice A n k) (.slice none 0 0)).run P w = .ok A.isNone w := by
  cases A <;> simp [Op.equalIn, run_underlying ht]
theorem v_eqlNil {t e : TypeId} {A : Option Addr} {n k : Nat} (ht : C.P.underlying t = some (.slice e)) (hm : C.P.eqGuardType C.P.depth t = false) (hx : rd l x = some (.slice A n k)) (hy : rd l y = some (.slice none 0 0)) : OpV C l m ⟨dst, .binOp .eql t x y t', ty, pos, after, gd⟩ (.bool A.isNone) := fun a w ha _ => by
  have h1 : (Op.equal t (.slice A n k) (.slice none 0 0)).run C.P w = .ok A.isNone w := run_equalIn_nil 9999 ht w
  simp [execOp, rd_eval ha.knows hx, rd_eval ha.knows hy, eqGuard, binOp, h1]
theorem run_buildSlice0 {P : Program} {t e : TypeId} {size : Nat} (ht : P.underlying t = some (.slice e)) (hi : P.info? e ≠ none) (hc : P.cellsOf e = size) : ∀ w, (Instr.buildSlice t 0 #[]).run P w = .ok (.slice (some ⟨w.heap.size, 0, none⟩) 0 0) (w.alloc (.cells #[] e)) := by
  intro w
  have h2 := fun w => run_sizeOf' hi hc (P := P) w
  simp only [Instr.buildSlice, underlying]
  simp [ht, h2, newRow, Instr.fill]
  congr 2
  simp
end
section
variable {C : Cx} {l : Fr} {m : Hp} {ty : TypeId} {pos : String} {after : Array Edge} {dst : Option Nat} {gd : Option (Nat × Bool)}
end
section
variable {C : Cx} {l : Fr} {m : Hp} {ty : TypeId} {pos : String} {after : Array Edge} {d : Nat}
theorem x_appendIS {Φ : Act → World → Prop} {Q : Exit → Act → World → Prop} {s x : Operand} {t e : TypeId} {z v vx : Value} {size bytes n k : Nat} {xs news : List Value} (i : Nat) (hm : m[i]? = some (Own v e size n xs)) (hs : rd l s = some v) (hx : rd l x = some vx)
    (ht : C.P.underlying t = some (.slice e)) (hi : (C.P.info? e).map (fun i => (i.zero, i.size, i.bytes)) = some (some z, size, bytes)) (hzs : z.cells.size = size) (hsz : 0 < size)
    (hr : ∀ w, St C.w0 C.F m w → Rds w.cell? vx size k news) (h1 : ∀ u ∈ news, u.oneCell' = true) (hb : (n + k) * bytes ≤ 140737488355328) (h63 : n + k ≤ maxLen) (hd : Nat.blt d C.N = true)
    (h : ∀ A cap, n + k ≤ cap → G C ((d, .slice A (n + k) cap) :: l) (m.set i (Own (.slice A (n + k) cap) e size (n + k) (xs ++ news))) Φ) :
    G C l m (fun a w => Oper.wp C.P ⟨some d, .call ⟨.builtin .append, #[s, x], #[t, t]⟩, ty, pos, after, none⟩ a w Φ Q) :=
  x_appendI i hm hs hx ht hi hzs hsz hr h1 hb h63 hd fun v' => by
    have hlt := (List.getElem?_eq_some_iff.1 hm).1
    refine g_shape (v := v') (e := e) (size := size) (n := n + k) (xs := xs ++ news) i (by simp [hlt]) fun A cap hv hk => ?_
    subst hv
    exact h A cap hk
end
end Go.SL
end
section
namespace Go.SL
/-! ## the log, as plain Lean: rounds; behind each the number of bytes -/
def bytesOf (L : List RoundL) : List UInt8 := L.flatMap encL
def endAt (L : List RoundL) (i : Nat) : Nat := (bytesOf (L.take i)).length
def endsOf (L : List RoundL) : List Int := (List.range L.length).map fun i => (endAt L (i + 1) : Int)
end Go.SL
end
section
namespace Go.SL
open Go.RowKit
/-- rounds, by their headers -/
def Rounds (vs : List Value) (L : List RoundL) (c : View) : Prop := vs.length = L.length ∧ ∀ i (h : i < L.length), ∃ u, vs[i]? = some u ∧ IsRound c u L[i]
theorem Rounds.up (vs : List Value) (L : List RoundL) : Up (Rounds vs L) := fun _ _ hl h => ⟨h.1, fun i hi => let ⟨u, h1, h2⟩ := h.2 i hi; ⟨u, h1, h2.mono hl⟩⟩
theorem Rounds.nil (c : View) : Rounds [] [] c := ⟨rfl, fun i hi => by simp at hi⟩
theorem Rounds.snoc {vs : List Value} {L : List RoundL} {c : View} {u : Value} {r : RoundL} (h : Rounds vs L c) (hd : IsRound c u r) : Rounds (vs ++ [u]) (L ++ [r]) c := by
  refine ⟨by simp [h.1], fun i hi => ?_⟩
  simp only [List.length_append, List.length_cons, List.length_nil] at hi
  by_cases hlt : i < L.length
  · obtain ⟨u', h1, h2⟩ := h.2 i hlt
    have hv : i < vs.length := by rw [h.1]; exact hlt
    exact ⟨u', by rw [List.getElem?_append_left hv]; exact h1, by rw [List.getElem_append_left hlt]; exact h2⟩
  · have e : i = L.length := by omega
    subst e
    refine ⟨u, ?_, ?_⟩
    · rw [← h.1]; simp
    · simpa using hd
theorem Rounds.take {vs : List Value} {L : List RoundL} {c : View} (h : Rounds vs L c) (n : Nat) : Rounds (vs.take n) (L.take n) c := by
  refine ⟨by simp [h.1], fun i hi => ?_⟩
  simp only [List.length_take] at hi
  obtain ⟨u, h1, h2⟩ := h.2 i (by omega)
  exact ⟨u, by rw [List.getElem?_take, if_pos (by omega)]; exact h1, by rw [List.getElem_take]; exact h2⟩
end Go.SL
end
section
namespace Go.SL
open Go.RowKit
structure StepL where
  do_ : Int
  keep : Int
  round : RoundL
instance : Inhabited StepL := ⟨⟨0, 0, []⟩⟩
def IsSteps (c : View) (v : Value) (l : List StepL) : Prop := ∃ A k, v = .slice A l.length k ∧ l.length ≤ k ∧ ∀ i (hi : i < l.length), ∃ ad u, A = some ad ∧ Cells c (ad.add (i * 3)) [.int .i64 l[i].do_, .int .i64 l[i].keep, u] ∧ IsRound c u l[i].round
theorem IsSteps.mono {c c' : View} (hl : Le c c') {v : Value} {l : List StepL} (h : IsSteps c v l) : IsSteps c' v l := by
  obtain ⟨A, k, h1, h2, h3⟩ := h
  exact ⟨A, k, h1, h2, fun i hi => let ⟨ad, u, h4, h5, h6⟩ := h3 i hi; ⟨ad, u, h4, h5.mono hl, h6.mono hl⟩⟩
theorem Cells.one {c : View} {ad : Addr} {cs : List Value} (h : Cells c ad cs) {i j : Nat} {v : Value} (hj : cs[j]? = some v) (hi : i = j) : c (ad.add i) = some v := by subst hi; exact h _ _ hj
end Go.SL
end
section
namespace Go.SL
open Go.RowKit
set_option linter.unusedSectionVars false
theorem cut_off {w : World} {F1 F2 : Nat → Prop} (h : ∀ b, F1 b → ¬ F2 b) : Le (cutTo w F1).cell? (SL.off w F2) := by
  intro p v hp
  have h1 := cutTo_le w F1 p v hp
  by_cases hF : F1 p.block
  · unfold SL.off
    rw [if_neg (h _ hF)]
    exact h1
  · simp only [World.cell?, cutTo, Array.getElem?_mapIdx, hF, if_false] at hp
    cases hb : w.heap[p.block]? <;> simp [hb] at hp
theorem St.apart {w0 w : World} {F : Nat → Prop} {mc mr : Hp} (h : St w0 F (mc ++ mr) w) : Le (cutTo w (feet mr)).cell? (SL.off w (feet mc)) := by
  have hsep := (List.pairwise_append.1 h.sep).2.2
  exact cut_off fun b ⟨d, hd, hb⟩ ⟨c, hc, hb'⟩ => hsep c hc d hd b hb' hb
theorem run_equalIn_ptr {P : Program} {t e : TypeId} {A : Option Addr} (dd : Nat) (ht : P.underlying t = some (.pointer e)) (w : World) : (Op.equalIn (dd + 1) t (.pointer A) (.pointer none)).run P w = .ok A.isNone w := by
  cases A <;> simp [Op.equalIn, run_underlying ht]
section
variable {C : Cx} {l : Fr} {m : Hp} {ty t' : TypeId} {pos : String} {after : Array Edge} {dst : Option Nat} {gd : Option (Nat × Bool)} {x y : Operand}
theorem v_eqlPtr {t e : TypeId} {A : Option Addr} (ht : C.P.underlying t = some (.pointer e)) (hx : rd l x = some (.pointer A)) (hy : rd l y = some (.pointer none)) : OpV C l m ⟨dst, .binOp .eql t x y t', ty, pos, after, gd⟩ (.bool A.isNone) := fun a w ha _ => by
  have h1 : (Op.equal t (.pointer A) (.pointer none)).run C.P w = .ok A.isNone w := run_equalIn_ptr 9999 ht w
  simp [execOp, rd_eval ha.knows hx, rd_eval ha.knows hy, eqGuard, binOp, h1]
theorem v_neqPtr {t e : TypeId} {A : Option Addr} (ht : C.P.underlying t = some (.pointer e)) (hx : rd l x = some (.pointer A)) (hy : rd l y = some (.pointer none)) : OpV C l m ⟨dst, .binOp .neq t x y t', ty, pos, after, gd⟩ (.bool !A.isNone) := fun a w ha _ => by
  have h1 : (Op.equal t (.pointer A) (.pointer none)).run C.P w = .ok A.isNone w := run_equalIn_ptr 9999 ht w
  simp [execOp, rd_eval ha.knows hx, rd_eval ha.knows hy, eqGuard, binOp, h1]
end
end Go.SL
end
section
namespace Go.SL
open Go.RowKit
set_option linter.unusedSectionVars false
/-! ## blocks of the call's own that are written in place -/
def blobG (F : Nat → Prop) (q : View → Prop) : Gen where
  foot := F
  holds w := (∀ b, F b → ∃ cs e, w.heap[b]? = some (.cells cs e (0, 0))) ∧ q (cutTo w F).cell?
  lt h hf := let ⟨_, _, h1⟩ := h.1 _ hf; lt_of_heap h1
  stable {w w'} hs h := by
    refine ⟨fun b hb => ?_, by rw [cutTo_same hs]; exact h.2⟩
    obtain ⟨cs, e, h1⟩ := h.1 b hb
    exact ⟨cs, e, (hs b hb).trans h1⟩
abbrev Blob (F : Nat → Prop) (q : View → Prop) : Chunk := .gen (blobG F q)
theorem blob_keep {F : Nat → Prop} {q : View → Prop} {w : World} (h : (Blob F q).holds w) : (Keep F q).holds w := ⟨fun b hb => let ⟨_, _, h1⟩ := h.1 b hb; lt_of_heap h1, h.2⟩
theorem blob_all {F : Nat → Prop} {q : View → Prop} (hq : Up q) {w : World} (h : (Blob F q).holds w) : q w.cell? := keep_all hq (blob_keep h)
section
variable {C : Cx} {l : Fr} {m : Hp} {ty : TypeId} {pos : String} {after : Array Edge}
end
/-- deeds of the call's own, to be written -/
def DeedsW (vs : List Value) (r : RoundL) (c : View) : Prop := vs.length = r.length ∧ ∀ j (h : j < r.length), ∃ A k, vs[j]? = some (.slice A r[j].length k) ∧ (0 < r[j].length → ∃ g, A = some ⟨g, 0, none⟩ ∧ ∀ i, i < r[j].length * 5 → ∃ old, c ⟨g, i, none⟩ = some old)
theorem DeedsW.up (vs : List Value) (r : RoundL) : Up (DeedsW vs r) := fun _ _ hl h => ⟨h.1, fun j hj => by
  obtain ⟨A, k, h1, h2⟩ := h.2 j hj
  refine ⟨A, k, h1, fun h0 => ?_⟩
  obtain ⟨g, h3, h4⟩ := h2 h0
  exact ⟨g, h3, fun i hi => let ⟨old, h5⟩ := h4 i hi; ⟨old, hl _ _ h5⟩⟩⟩
theorem DeedsW.set {vs : List Value} {r : RoundL} {c c' : View} {b o : Nat} {v : Value} (h : DeedsW vs r c) (h1 : ∀ p : Addr, p.block ≠ b → c' p = c p) (h2 : ∀ i, i ≠ o → c' ⟨b, i, none⟩ = c ⟨b, i, none⟩) (h3 : c' ⟨b, o, none⟩ = some v) : DeedsW vs r c' := ⟨h.1, fun j hj => by
  obtain ⟨A, k, h4, h5⟩ := h.2 j hj
  refine ⟨A, k, h4, fun h0 => ?_⟩
  obtain ⟨g, h6, h7⟩ := h5 h0
  refine ⟨g, h6, fun i hi => ?_⟩
  by_cases hg : g = b
  · subst hg
    by_cases hio : i = o
    · subst hio; exact ⟨_, h3⟩
    · rw [h2 i hio]; exact h7 i hi
  · rw [h1 _ hg]; exact h7 i hi⟩
def DeedsB (vs : List Value) (r : RoundL) (c : View) : Prop := Deeds vs r c ∧ DeedsW vs r c
theorem DeedsB.up (vs : List Value) (r : RoundL) : Up (DeedsB vs r) := fun _ _ hl h => ⟨Deeds.up _ _ _ _ hl h.1, DeedsW.up _ _ _ _ hl h.2⟩
theorem DeedsB.nil (c : View) : DeedsB [] [] c := ⟨Deeds.nil c, rfl, fun j hj => by simp at hj⟩
theorem St.blob0 {w0 w : World} {F : Nat → Prop} {m : Hp} (h : St w0 F m w) : St w0 F (Blob (feet []) (DeedsB [] []) :: m) w := by
  have := (h.keep0 (DeedsB [] []) DeedsB.nil)
  exact this.imp (fun _ hb => hb) (fun hk => ⟨fun b ⟨c, hc, _⟩ => (by cases hc), hk.2⟩)
theorem St.blobIn {w0 w : World} {F G : Nat → Prop} {v : Value} {e n : Nat} {d : DeedL} {vs : List Value} {r : RoundL} {m : Hp} (hn : n = d.length) (h : St w0 F (Own v e 5 n (deedCells d) :: Blob G (DeedsB vs r) :: m) w) :
    St w0 F (Blob (feet [Own v e 5 n (deedCells d), Blob G (DeedsB vs r)]) (DeedsB (vs ++ [v]) (r ++ [d])) :: m) w := by
  subst hn
  have h1 := h.hold _ (List.mem_cons_self ..)
  have h2 := h.hold _ (List.mem_cons_of_mem _ (List.mem_cons_self ..))
  have hk : St w0 F (Keep (feet [Own v e 5 d.length (deedCells d), Blob G (DeedsB vs r)]) (DeedsB (vs ++ [v]) (r ++ [d])) :: m) w := by
    refine St.keep (mc := [Own v e 5 d.length (deedCells d), Blob G (DeedsB vs r)]) (DeedsB (vs ++ [v]) (r ++ [d])) h fun _ => ?_
    have hB := keep_part (DeedsB.up _ _) (blob_keep h2) (G := feet [Own v e 5 d.length (deedCells d), Blob G (DeedsB vs r)]) (fun b hb => ⟨_, List.mem_cons_of_mem _ (List.mem_cons_self ..), hb⟩)
    have hO := own_part h1 (G := feet [Own v e 5 d.length (deedCells d), Blob G (DeedsB vs r)]) (fun b hb => ⟨_, List.mem_cons_self .., hb⟩)
    have hOh := Chunk.cutTo h1 (F := feet [Own v e 5 d.length (deedCells d), Blob G (DeedsB vs r)]) (fun b hb => ⟨_, List.mem_cons_self .., hb⟩)
    refine ⟨hB.1.snoc hO, by simp [hB.2.1], fun j hj => ?_⟩
    simp only [List.length_append, List.length_singleton] at hj
    by_cases hlt : j < r.length
    · obtain ⟨A, k, h3, h4⟩ := hB.2.2 j hlt
      have hv : j < vs.length := by rw [hB.2.1]; exact hlt
      rw [List.getElem_append_left hlt, List.getElem?_append_left hv]
      exact ⟨A, k, h3, h4⟩
    · have e1 : j = r.length := by omega
      subst e1
      have hg : (r ++ [d])[r.length]'(by simp) = d := by simp
      have hv : (vs ++ [v])[r.length]? = some v := by rw [← hB.2.1]; simp
      rw [hg, hv]
      obtain ⟨A, k, h3, _, h5, h6⟩ := hO
      refine ⟨A, k, by rw [h3], fun h0 => ?_⟩
      have hOh : (cutTo w (feet [Own v e 5 d.length (deedCells d), Blob G (DeedsB vs r)])).ownsRow 0 e 5 v d.length (deedCells d) := hOh
      rcases hOh.2 with ⟨_, hz⟩ | ⟨g, cap, cur, h7, _⟩
      · omega
      · rw [h3] at h7
        injection h7 with e1 _ _
        subst e1
        obtain ⟨ad, h8, h9⟩ := h6 h0
        injection h8 with h8
        subst h8
        refine ⟨g, rfl, fun i hi => ?_⟩
        have hi' : i < (deedCells d).length := by rw [h5]; exact hi
        refine ⟨(deedCells d)[i], ?_⟩
        have := h9 i _ (List.getElem?_eq_getElem hi')
        rwa [add_mk, Nat.zero_add] at this
  refine hk.imp (fun _ hb => hb) (fun hkk => ⟨fun b hb => ?_, hkk.2⟩)
  obtain ⟨c, hc, hcb⟩ := hb
  simp only [List.mem_cons, List.not_mem_nil, or_false] at hc
  rcases hc with rfl | rfl
  · have h1 : w.ownsRow 0 e 5 v d.length (deedCells d) := h1
    have hcb : v.ownBlock = some b := hcb
    rcases h1.2 with ⟨rfl, _⟩ | ⟨g, cap, cur, rfl, _, h4, _⟩
    · cases hcb
    · simp only [Value.ownBlock, Option.some.injEq] at hcb
      subst hcb
      exact ⟨_, _, h4⟩
  · exact h2.1 b hcb
end Go.SL
namespace Go.SL
section
variable {C : Cx} {l : Fr} {m : Hp}
end
theorem DeedsW.cell {vs : List Value} {r : RoundL} {c : View} (h : DeedsW vs r c) {j : Nat} (hj : j < r.length) {g k : Nat} (hv : vs[j]? = some (.slice (some ⟨g, 0, none⟩) r[j].length k)) {i : Nat} (hi : i < r[j].length * 5) : ∃ old, c ⟨g, i, none⟩ = some old := by
  obtain ⟨A, k', h1, h2⟩ := h.2 j hj
  rw [hv] at h1
  injection h1 with h1
  injection h1 with e1 _ _
  obtain ⟨g', h3, h4⟩ := h2 (by omega)
  rw [← e1] at h3
  injection h3 with h3
  injection h3 with h3 _ _
  subst h3
  exact h4 i hi
end Go.SL
end
