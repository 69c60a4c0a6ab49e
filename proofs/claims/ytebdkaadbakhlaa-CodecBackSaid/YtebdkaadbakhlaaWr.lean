/- Ytebdkaadbakhlaa: part Wr of this seat's own texts. -/
import Derived.Test.YtebdkaadbakhlaaOps
import Derived.Maps.AppendAt
set_option linter.unusedVariables false
set_option linter.unusedSimpArgs false
namespace Go.SL
open Go.RowKit
set_option linter.unusedSectionVars false

/-- a slice value that reads as cells (nil let in) -/
def Rds (c : View) (v : Value) (size n : Nat) (xs : List Value) : Prop :=
  ∃ A k, v = .slice A n k ∧ n ≤ k ∧ xs.length = n * size ∧ (0 < n → ∃ ad, A = some ad ∧ Cells c ad xs)

def ownG (v : Value) (e size n : Nat) (xs : List Value) : Gen where
  foot := fun b => v.ownBlock = some b
  holds := fun w => w.ownsRow 0 e size v n xs
  lt := fun h hb => (h.lt _ hb).2
  stable := fun {w w'} hs h => by
    rcases h with ⟨h1, h2 | ⟨g, cap, cur, hv, h3, h4, h5⟩⟩
    · exact ⟨h1, .inl h2⟩
    · refine ⟨h1, .inr ⟨g, cap, cur, hv, h3, ?_, h5⟩⟩
      rw [hs g (by simp [hv, Value.ownBlock])]
      exact h4
/-- a slice that the call itself has made: it may grow -/
abbrev Own (v : Value) (e size n : Nat) (xs : List Value) : Chunk := .gen (ownG v e size n xs)
theorem own_rds {w : World} {v : Value} {e size n : Nat} {xs : List Value} (h : (Own v e size n xs).holds w) : Rds w.cell? v size n xs := by
  have h : w.ownsRow 0 e size v n xs := h
  have hc := h
  rcases h with ⟨h1, ⟨rfl, rfl⟩ | ⟨g, cap, cur, rfl, h3, h4, h5, h6, h7, h8⟩⟩
  · exact ⟨none, 0, rfl, Nat.le_refl _, by simpa using h1, fun hn => absurd hn (by omega)⟩
  · exact ⟨_, cap, rfl, h5, h1, fun _ => ⟨_, rfl, hc.cells rfl⟩⟩
theorem own_nil (w : World) (e size : Nat) : (Own (.slice none 0 0) e size 0 []).holds w := World.ownsRow_nil _ _ _ _

section
variable {C : Cx} {ks : List Kt} {l : Fr} {m : Hp} {ops : Array Oper} {rest : List Oper} {op : Op} {ty : TypeId} {pos : String} {after : Array Edge} {d : Nat} {dst : Option Nat} {g : Option (Nat × Bool)}

theorem w_heap {m' : Hp} {os : List Oper} (hs : ∀ w, St C.w0 C.F m w → St C.w0 C.F m' w) (h : W C ops os ks l m') : W C ops os ks l m := fun a w ha hw => h a w ha (hs w hw)
theorem w_sub {l' : Fr} {os : List Oper} (hs : Sub l' l) (h : W C ops os ks l' m) : W C ops os ks l m := fun a w ha hw => h a w (ha.sub hs) hw
theorem w_front {os : List Oper} {i : Nat} {c : Chunk} (hi : m[i]? = some c) (h : W C ops os ks l (c :: m.eraseIdx i)) : W C ops os ks l m := w_heap (fun _ hw => hw.front hi) h
theorem w_drop {os : List Oper} {c : Chunk} (h : W C ops os ks l m) : W C ops os ks l (c :: m) := w_heap (fun _ hw => hw.sub (List.sublist_cons_self _ _)) h
/-- nothing is owned yet: a nil slice -/
theorem St.ownNil {w0 w : World} {F : Nat → Prop} (e size : Nat) (h : St w0 F m w) : St w0 F (Own (.slice none 0 0) e size 0 [] :: m) w := by
  refine ⟨h.chg, ?_, List.pairwise_cons.2 ⟨fun c _ b hb => by simp [Chunk.foot, ownG, Value.ownBlock] at hb, h.sep⟩, ?_⟩
  · intro c hc
    rcases List.mem_cons.1 hc with rfl | hc
    · exact own_nil w e size
    · exact h.hold c hc
  · intro c hc b hb
    rcases List.mem_cons.1 hc with rfl | hc
    · simp [Chunk.foot, ownG, Value.ownBlock] at hb
    · exact h.own c hc b hb
theorem x_box {Φ : Act → World → Prop} {Q : Exit → Act → World → Prop} {x : Operand} {v : Value} {e : TypeId} (hx : rd l x = some v) (hd : Nat.blt d C.N = true) (h : ∀ b, G C ((d, .pointer (some ⟨b, 0, none⟩)) :: l) (.blk b e v.cells.toList :: m) Φ) :
    G C l m (fun a w => Oper.wp C.P ⟨some d, .box e x, ty, pos, after, none⟩ a w Φ Q) := by
  intro a w ha hw
  have : (execOp a.eval (⟨some d, .box e x, ty, pos, after, none⟩ : Oper)).run C.P w = .ok (.value (.pointer (some ⟨w.heap.size, 0, none⟩))) (w.alloc (.cells v.cells.toList.toArray e)) := by
    simp [execOp, rd_eval ha.knows hx, Instr.box, newVar, newRow]
  unfold Oper.wp
  rw [this]
  exact h w.heap.size _ _ (ha.put (Nat.le_of_ble_eq_true hd)) (hw.alloc e _)
theorem x_alloc {Φ : Act → World → Prop} {Q : Exit → Act → World → Prop} {z : Value} {e : TypeId} (hz : ∀ w, (zeroValue e).run C.P w = .ok z w) (hd : Nat.blt d C.N = true) (h : ∀ b, G C ((d, .pointer (some ⟨b, 0, none⟩)) :: l) (.blk b e z.cells.toList :: m) Φ) :
    G C l m (fun a w => Oper.wp C.P ⟨some d, .alloc e, ty, pos, after, none⟩ a w Φ Q) := by
  intro a w ha hw
  have : (execOp a.eval (⟨some d, .alloc e, ty, pos, after, none⟩ : Oper)).run C.P w = .ok (.value (.pointer (some ⟨w.heap.size, 0, none⟩))) (w.alloc (.cells z.cells.toList.toArray e)) := by
    simp [execOp, Instr.alloc, newVar, newRow, hz]
  unfold Oper.wp
  rw [this]
  exact h w.heap.size _ _ (ha.put (Nat.le_of_ble_eq_true hd)) (hw.alloc e _)

/-- the effect of a store into a known block -/
theorem run_store_blk {P : Program} {w : World} {b e : Nat} {cs : List Value} (hb : (Chunk.blk b e cs).holds w) {t : TypeId} {o : Nat} {v : Value} (hi : P.info? t ≠ none) (hn : P.cellsOf t = v.cells.size)
    (ho : o + v.cells.size ≤ cs.length) (h1 : ∀ u ∈ v.cells.toList, u.oneCell' = true) :
    ∃ w', (Instr.storeAt t (.pointer (some ⟨b, o, none⟩)) v).run P w = .ok () w' ∧ Res w [.blk b e cs] [.blk b e (cs.take o ++ v.cells.toList ++ cs.drop (o + v.cells.size))] w' := by
  have hb' : w.heap[b]? = some (.cells cs.toArray e (0, 0)) := hb
  have hs := run_storeCells_at P b o e v.cells.toList 0 cs.toArray w hb' (by simpa using ho) h1
  have h2 : (sizeOf t).run P w = .ok v.cells.size w := by
    unfold Program.cellsOf at hn
    cases hi' : P.info? t with
    | none => exact absurd hi' hi
    | some i => simp [hi'] at hn; simp [sizeOf, typeInfo, hi', hn]
  refine ⟨_, by simp only [Instr.storeAt, Instr.sureAddr, storeVar, Sem.run_bind, Sem.run_pure, Result.andThen_ok, h2]; simp; exact hs, ?_⟩
  simp only [Nat.add_zero, Array.length_toList]
  have hlt := lt_of_heap hb'
  refine ⟨⟨rfl, rfl, rfl, by simp [World.setRow], fun k hk hne => ?_⟩, ?_, by simp, ?_⟩
  · have hkb : k ≠ b := fun e => hne ⟨_, List.mem_singleton.2 rfl, e⟩
    simp [World.setRow, Array.getElem?_modify, Ne.symm hkb]
  · intro c hc
    simp only [List.mem_singleton] at hc
    subst hc
    simp [Chunk.holds, World.setRow, Array.getElem?_modify, hb']
  · intro c hc k hk
    simp only [List.mem_singleton] at hc
    subst hc
    exact .inr ⟨_, List.mem_singleton.2 rfl, hk⟩
theorem x_store {Φ : Act → World → Prop} {Q : Exit → Act → World → Prop} {x y : Operand} {v : Value} {t : TypeId} {b e o : Nat} {cs : List Value} (i : Nat) (hm : m[i]? = some (.blk b e cs)) (hx : rd l x = some (.pointer (some ⟨b, o, none⟩))) (hy : rd l y = some v)
    (hi : C.P.info? t ≠ none) (hn : C.P.cellsOf t = v.cells.size) (ho : o + v.cells.size ≤ cs.length) (h1 : ∀ u ∈ v.cells.toList, u.oneCell' = true) (cs' : List Value) (hcs : cs.take o ++ v.cells.toList ++ cs.drop (o + v.cells.size) = cs')
    (h : G C l (m.set i (.blk b e cs')) Φ) : G C l m (fun a w => Oper.wp C.P ⟨none, .store t x y, ty, pos, after, none⟩ a w Φ Q) := by
  intro a w ha hw
  obtain ⟨w', hr, hres⟩ := run_store_blk (P := C.P) (hw.mem hm) hi hn ho h1
  have : (execOp a.eval (⟨none, .store t x y, ty, pos, after, none⟩ : Oper)).run C.P w = .ok .skip w' := by
    simp only [execOp, rd_eval ha.knows hx, rd_eval ha.knows hy, Sem.run_bind, hr, Result.andThen_ok, Sem.run_pure]
  unfold Oper.wp
  rw [this]
  rw [hcs] at hres
  exact h _ _ ha (hw.at_ hm hres)
/-- a store of one cell -/
theorem x_store1 {Φ : Act → World → Prop} {Q : Exit → Act → World → Prop} {x y : Operand} {v : Value} {t : TypeId} {b e o : Nat} {cs : List Value} (i : Nat) (hm : m[i]? = some (.blk b e cs)) (hx : rd l x = some (.pointer (some ⟨b, o, none⟩))) (hy : rd l y = some v)
    (hi : C.P.info? t ≠ none) (hn : C.P.cellsOf t = 1) (hc : v.cells = #[v]) (ho : o < cs.length) (h1 : v.oneCell' = true)
    (h : G C l (m.set i (.blk b e (cs.set o v))) Φ) : G C l m (fun a w => Oper.wp C.P ⟨none, .store t x y, ty, pos, after, none⟩ a w Φ Q) :=
  x_store i hm hx hy hi (by rw [hc, hn]; rfl) (by rw [hc]; exact ho) (by rw [hc]; simpa using h1) (cs.set o v) (by rw [hc]; simp [List.set_eq_take_append_cons_drop, ho]) h
/-- a store of a whole block -/
theorem x_storeA {Φ : Act → World → Prop} {Q : Exit → Act → World → Prop} {x y : Operand} {vs : Array Value} {t : TypeId} {b e : Nat} {cs : List Value} (i : Nat) (hm : m[i]? = some (.blk b e cs)) (hx : rd l x = some (.pointer (some ⟨b, 0, none⟩))) (hy : rd l y = some (.agg vs))
    (hi : C.P.info? t ≠ none) (hn : C.P.cellsOf t = vs.size) (ho : vs.size = cs.length) (h1 : ∀ u ∈ vs.toList, u.oneCell' = true)
    (h : G C l (m.set i (.blk b e vs.toList)) Φ) : G C l m (fun a w => Oper.wp C.P ⟨none, .store t x y, ty, pos, after, none⟩ a w Φ Q) :=
  x_store i hm hx hy hi hn (by simp [Value.cells]; omega) h1 vs.toList (by simp [Value.cells, ho]) h

/-! ### calls -/
theorem x_call {Φ : Act → World → Prop} {Q : Exit → Act → World → Prop} {f : FuncId} {fx : Operand} {xs : Array Operand} {ats : Array TypeId} {cap args : Array Value} {vs : List Value} {mc mr : Hp} {σ : Type} (J : σ → Prop) (val : σ → Value) (mc' : σ → Hp)
    (hf : rd l fx = some (.func (.func f) #[] cap)) (hx : rdAll l xs.toList = some vs) (hargs : (vs ++ cap.toList).toArray = args)
    (hcall : ∀ args w, (callFunc f args).run C.P w = .ok (.enter f args) w)
    (hc : ∀ w, St C.w0 C.F (mc ++ mr) w → Calls C.P f args w (fun e w' => ∃ s, J s ∧ e = .returned (val s) ∧ Res w mc (mc' s) w'))
    (hd : (match dst with | some d => Nat.blt d C.N | none => true) = true)
    (h : ∀ s, J s → G C (match dst with | some d => (d, val s) :: l | none => l) (mc' s ++ mr) Φ) :
    G C l (mc ++ mr) (fun a w => Oper.wp C.P ⟨dst, .call ⟨.value fx, xs, ats⟩, ty, pos, after, none⟩ a w Φ Q) := by
  intro a w ha hw
  have h1 : xs.map a.eval = vs.toArray := by
    have := rdAll_eval ha.knows hx
    rw [← this]
    apply Array.ext'
    simp
  have hargs : vs.toArray ++ cap = args := by rw [← hargs]; simp
  have : (execOp a.eval (⟨dst, .call ⟨.value fx, xs, ats⟩, ty, pos, after, none⟩ : Oper)).run C.P w = .ok (.enter f args) w := by
    simp only [execOp, resolve, h1, rd_eval ha.knows hf, Deferred.ofValue, Sem.run_bind, Sem.run_pure, Result.andThen_ok, invoke, Array.empty_append, hargs, hcall]
  unfold Oper.wp
  rw [this]
  refine (hc w hw).mono ?_
  rintro e w' ⟨s, hJ, rfl, hr⟩
  cases dst with
  | some d => exact h s hJ _ _ (ha.put (Nat.le_of_ble_eq_true hd)) (hw.call hr)
  | none => exact h s hJ _ _ ha (hw.call hr)

/-- a call that leaves nothing behind but its value -/
theorem x_call0 {Φ : Act → World → Prop} {Q : Exit → Act → World → Prop} {f : FuncId} {fx : Operand} {xs : Array Operand} {ats : Array TypeId} {cap args : Array Value} {vs : List Value} {v : Value}
    (hf : rd l fx = some (.func (.func f) #[] cap)) (hx : rdAll l xs.toList = some vs) (hargs : (vs ++ cap.toList).toArray = args)
    (hcall : ∀ args w, (callFunc f args).run C.P w = .ok (.enter f args) w) (hd : Nat.blt d C.N = true)
    (hc : ∀ w, St C.w0 C.F m w → Calls C.P f args w (fun e w' => e = .returned v ∧ Res w [] [] w'))
    (h : G C ((d, v) :: l) m Φ) : G C l m (fun a w => Oper.wp C.P ⟨some d, .call ⟨.value fx, xs, ats⟩, ty, pos, after, none⟩ a w Φ Q) :=
  x_call (dst := some d) (mc := []) (mr := m) (σ := Unit) (fun _ => True) (fun _ => v) (fun _ => []) hf hx hargs hcall (fun w hw => (hc w hw).mono fun _ _ ⟨h1, h2⟩ => ⟨(), trivial, h1, h2⟩) hd (fun _ _ => h)

/-- a call that turns one chunk (the first) and comes to one value -/
theorem x_call1 {Φ : Act → World → Prop} {Q : Exit → Act → World → Prop} {f : FuncId} {fx : Operand} {xs : Array Operand} {ats : Array TypeId} {cap args : Array Value} {vs : List Value} {v : Value} {c c' : Chunk} {mr : Hp}
    (hf : rd l fx = some (.func (.func f) #[] cap)) (hx : rdAll l xs.toList = some vs) (hargs : (vs ++ cap.toList).toArray = args)
    (hcall : ∀ args w, (callFunc f args).run C.P w = .ok (.enter f args) w) (hd : Nat.blt d C.N = true)
    (hc : ∀ w, St C.w0 C.F (c :: mr) w → Calls C.P f args w (fun e w' => e = .returned v ∧ Res w [c] [c'] w'))
    (h : G C ((d, v) :: l) (c' :: mr) Φ) : G C l (c :: mr) (fun a w => Oper.wp C.P ⟨some d, .call ⟨.value fx, xs, ats⟩, ty, pos, after, none⟩ a w Φ Q) :=
  x_call (dst := some d) (mc := [c]) (mr := mr) (σ := Unit) (fun _ => True) (fun _ => v) (fun _ => [c']) hf hx hargs hcall (fun w hw => (hc w hw).mono fun _ _ ⟨h1, h2⟩ => ⟨(), trivial, h1, h2⟩) hd (fun _ _ => h)
/-- memory in another order -/
theorem g_perm {m' : Hp} {Φ : Act → World → Prop} (hp : m.Perm m') (h : G C l m' Φ) : G C l m Φ := fun a w ha hw => h a w ha (hw.perm hp)
theorem g_sub {m' : Hp} {Φ : Act → World → Prop} (hp : m'.Sublist m) (h : G C l m' Φ) : G C l m Φ := fun a w ha hw => h a w ha (hw.sub hp)

/-! ### append -/
theorem run_append_rds {P : Program} {w : World} (t ty e : TypeId) (i : TypeInfo) (z : Value) (size bytes : Nat) (ht : P.underlying t = some (.slice e)) (hi : P.info? e = some i) (hz : i.zero = some z)
    (hsize : i.size = size) (hby : i.bytes = bytes) (hzs : z.cells.size = size) (hsz : 0 < size) {v x : Value} {n k : Nat} {xs news : List Value} (hown : (Own v e size n xs).holds w) (hr : Rds w.cell? x size k news)
    (h1 : ∀ u ∈ news, u.oneCell' = true) (hb : (n + k) * bytes ≤ 140737488355328) (h63 : n + k ≤ maxLen) :
    ∃ v' w', (Builtin.append_ #[t, t] ty #[v, x]).run P w = .ok v' w' ∧ Res w [Own v e size n xs] [Own v' e size (n + k) (xs ++ news)] w' := by
  obtain ⟨A, c, rfl, _, hl, hcell⟩ := hr
  have hown' : w.ownsRow 0 e size v n xs := hown
  have fin : ∀ v' w', w'.ownsRow 0 e size v' (n + k) (xs ++ news) → w.grownBy w' v.ownBlock → (v'.ownBlock = v.ownBlock ∨ v'.ownBlock = some w.heap.size) →
      Res w [Own v e size n xs] [Own v' e size (n + k) (xs ++ news)] w' := by
    intro v' w' h2 h3 h4
    refine ⟨⟨h3.os, h3.tape, h3.output, h3.size, fun b hb hn => h3.block b hb (fun he => hn ⟨_, List.mem_singleton.2 rfl, he.symm⟩)⟩, ?_, by simp, ?_⟩
    · intro c hc
      simp only [List.mem_singleton] at hc
      subst hc
      exact h2
    · intro c hc b hb
      simp only [List.mem_singleton] at hc
      subst hc
      have hb : v'.ownBlock = some b := hb
      rcases h4 with h4 | h4
      · exact .inr ⟨_, List.mem_singleton.2 rfl, h4.symm.trans hb⟩
      · rw [h4] at hb
        injection hb with hb
        left; omega
  rcases Nat.eq_zero_or_pos k with h0 | h0
  · subst h0
    have hn : news = [] := List.eq_nil_of_length_eq_zero (by simpa using hl)
    subst hn
    cases A with
    | none =>
      refine ⟨v, w, ?_, fin _ _ (by simpa using hown') (World.grownBy.refl w _) (.inl rfl)⟩
      rcases hown'.2 with ⟨rfl, rfl⟩ | ⟨g, cap, cur, rfl, _, _, hnc, _⟩
      · simp [Builtin.append_, run_underlying ht, sizeOf, typeInfo, hi, Builtin.lenOf, Builtin.firstCells]
      · simp [Builtin.append_, run_underlying ht, sizeOf, typeInfo, hi, Builtin.lenOf, Builtin.firstCells, hnc, storeCells]
    | some ad =>
      obtain ⟨v', w', hrun, h2, h3, _, h5⟩ := run_append_own_at (P := P) w 0 t ty e i z size bytes ht hi hz hsize hby hzs hsz v n xs hown' ad 0 c [] (by simp) (by simp) (by simp) h63 hb (Nat.zero_le _)
      exact ⟨v', w', hrun, fin _ _ h2 h3 h5⟩
  · obtain ⟨ad, rfl, hc⟩ := hcell h0
    obtain ⟨v', w', hrun, h2, h3, _, h5⟩ := run_append_own_at (P := P) w 0 t ty e i z size bytes ht hi hz hsize hby hzs hsz v n xs hown' ad k c news hl hc h1 h63 hb (Nat.zero_le _)
    exact ⟨v', w', hrun, fin _ _ h2 h3 h5⟩
theorem x_append {Φ : Act → World → Prop} {Q : Exit → Act → World → Prop} {s x : Operand} {t e : TypeId} {inf : TypeInfo} {z v vx : Value} {size bytes n k : Nat} {xs news : List Value} (i : Nat) (hm : m[i]? = some (Own v e size n xs)) (hs : rd l s = some v) (hx : rd l x = some vx)
    (ht : C.P.underlying t = some (.slice e)) (hi : C.P.info? e = some inf) (hz : inf.zero = some z) (hsize : inf.size = size) (hby : inf.bytes = bytes) (hzs : z.cells.size = size) (hsz : 0 < size)
    (hr : ∀ w, St C.w0 C.F m w → Rds w.cell? vx size k news) (h1 : ∀ u ∈ news, u.oneCell' = true) (hb : (n + k) * bytes ≤ 140737488355328) (h63 : n + k ≤ maxLen) (hd : Nat.blt d C.N = true)
    (h : ∀ v', G C ((d, v') :: l) (m.set i (Own v' e size (n + k) (xs ++ news))) Φ) :
    G C l m (fun a w => Oper.wp C.P ⟨some d, .call ⟨.builtin .append, #[s, x], #[t, t]⟩, ty, pos, after, none⟩ a w Φ Q) := by
  intro a w ha hw
  obtain ⟨v', w', hrun, hres⟩ := run_append_rds (P := C.P) t ty e inf z size bytes ht hi hz hsize hby hzs hsz (hw.mem hm) (hr w hw) h1 hb h63
  have : (execOp a.eval (⟨some d, .call ⟨.builtin .append, #[s, x], #[t, t]⟩, ty, pos, after, none⟩ : Oper)).run C.P w = .ok (.value v') w' := by
    simp [execOp, resolve, invoke, builtin, rd_eval ha.knows hs, rd_eval ha.knows hx, hrun]
  unfold Oper.wp
  rw [this]
  exact h v' _ _ (ha.put (Nat.le_of_ble_eq_true hd)) (hw.at_ hm hres)
/-- a literal slice, its parts laid out in a new block -/
theorem x_buildSlice {Φ : Act → World → Prop} {Q : Exit → Act → World → Prop} {t e : TypeId} {n : Nat} {parts : Array (Nat × Operand)} (vs : List (Nat × Value)) (cs : List Value) (hp : rdParts l parts.toList = some vs)
    (h0 : ∀ w, (Instr.buildSlice t n vs.toArray).run C.P w = .ok (.slice (some ⟨w.heap.size, 0, none⟩) n n) (w.alloc (.cells cs.toArray e))) (hd : Nat.blt d C.N = true)
    (h : ∀ b, G C ((d, .slice (some ⟨b, 0, none⟩) n n) :: l) (.blk b e cs :: m) Φ) : G C l m (fun a w => Oper.wp C.P ⟨some d, .buildSlice t n parts, ty, pos, after, none⟩ a w Φ Q) := by
  intro a w ha hw
  have h1 : (parts.map fun (i, x) => (i, a.eval x)) = vs.toArray := by
    have := rdParts_eval ha.knows hp
    rw [← this]
    apply Array.ext'
    simp
  have : (execOp a.eval (⟨some d, .buildSlice t n parts, ty, pos, after, none⟩ : Oper)).run C.P w = .ok (.value (.slice (some ⟨w.heap.size, 0, none⟩) n n)) (w.alloc (.cells cs.toArray e)) := by
    simp only [execOp, h1, Sem.run_bind, h0 w, Result.andThen_ok, Sem.run_pure]
  unfold Oper.wp
  rw [this]
  exact h w.heap.size _ _ (ha.put (Nat.le_of_ble_eq_true hd)) (hw.alloc e _)
end

/-! ### entering and leaving a function -/
def frOf : Nat → List Value → Fr
  | _, [] => []
  | i, v :: vs => (i, v) :: frOf (i + 1) vs
theorem look_frOf : ∀ (vs : List Value) (i t : Nat) (v : Value), look (frOf i vs) t = some v → i ≤ t ∧ vs[t - i]? = some v
  | [], _, _, _, h => by cases h
  | u :: vs, i, t, v, h => by
    simp only [frOf, look] at h
    cases hb : Nat.beq i t with
    | true =>
      rw [hb] at h
      have := Nat.eq_of_beq_eq_true hb
      subst this
      simp at h
      simp [h]
    | false =>
      rw [hb] at h
      have := look_frOf vs (i + 1) t v h
      obtain ⟨h1, h2⟩ := this
      have e : t - i = (t - (i + 1)) + 1 := by omega
      exact ⟨by omega, by rw [e]; simpa using h2⟩
theorem enter {P : Program} {f : FuncId} {fn : Func} {c : Code} {vs : List Value} {w : World} {R : Ending → World → Prop} {mc : Hp} {N : Nat} (hf : P.funcs[f]? = some fn) (hb : fn.body = some c) (hN : fn.ntmps = N) (hlen : Nat.ble vs.length N = true)
    (hold : ∀ c ∈ mc, c.holds w) (sep : mc.Pairwise Disj) (h : E ⟨P, N, w, feet mc, bodyPost P fn R, []⟩ [.code c] (frOf 0 vs) mc) : Calls P f vs.toArray w R := by
  have hl := Nat.le_of_ble_eq_true hlen
  refine calls_of_wp hf hb ?_
  have h1 := h { tmps := vs.toArray ++ Array.replicate (fn.ntmps - vs.toArray.size) undef, defers := [] } w ⟨by simp [hN]; omega, rfl, ?_⟩ (St.start hold sep)
  · refine wp_mono h1 fun e a w hq => ?_
    cases e <;> exact hq
  · intro t v ht
    have := look_frOf vs 0 t v ht
    simp only [Nat.sub_zero, Nat.zero_le, true_and] at this
    have hlt : t < vs.length := (List.getElem?_eq_some_iff.1 this).1
    simp only [Array.getElem?_append, List.size_toArray, hlt, if_true, List.getElem?_toArray, this]
/-- pure functions: nothing of what was there is touched -/
theorem enter0 {P : Program} {f : FuncId} {fn : Func} {c : Code} {vs : List Value} {w : World} {R : Ending → World → Prop} {N : Nat} (hf : P.funcs[f]? = some fn) (hb : fn.body = some c) (hN : fn.ntmps = N) (hlen : Nat.ble vs.length N = true)
    (h : E ⟨P, N, w, feet [], bodyPost P fn R, []⟩ [.code c] (frOf 0 vs) []) : Calls P f vs.toArray w R :=
  enter hf hb hN hlen (by simp) (by simp) h

/-- what a result variable holds -/
def isAggD (P : Program) (ty : TypeId) : Option Bool := (P.underlying ty).map fun | .struct _ | .array _ _ => true | _ => false
def ResV (P : Program) (l : Fr) (m : Hp) : ResultVar → Value → Prop
  | .tmp t, v => look l t = some v
  | .cell t ty, v => ∃ b e, look l t = some (.pointer (some ⟨b, 0, none⟩)) ∧ ∃ cs : List Value, .blk b e cs ∈ m ∧ ((isAggD P ty = some false ∧ cs[0]? = some v) ∨ (v = .agg cs.toArray ∧ isAggD P ty = some true ∧ P.cellsOf ty = cs.length ∧ P.info? ty ≠ none))
theorem ResV.tmp {P : Program} {l : Fr} {m : Hp} {t : Nat} {v : Value} (h : look l t = some v) : ResV P l m (.tmp t) v := h
theorem ResV.agg {P : Program} {l : Fr} {m : Hp} {t ty b e : Nat} {cs : List Value} (i : Nat) (hm : m[i]? = some (.blk b e cs)) (h : look l t = some (.pointer (some ⟨b, 0, none⟩))) (ha : isAggD P ty = some true) (hn : P.cellsOf ty = cs.length) (hi : P.info? ty ≠ none) :
    ResV P l m (.cell t ty) (.agg cs.toArray) := ⟨b, e, h, cs, List.mem_of_getElem? hm, .inr ⟨rfl, ha, hn, hi⟩⟩
theorem ResV.one {P : Program} {l : Fr} {m : Hp} {t ty b e : Nat} {cs : List Value} {v : Value} (i : Nat) (hm : m[i]? = some (.blk b e cs)) (h : look l t = some (.pointer (some ⟨b, 0, none⟩))) (ha : isAggD P ty = some false) (hn : cs[0]? = some v) :
    ResV P l m (.cell t ty) v := ⟨b, e, h, cs, List.mem_of_getElem? hm, .inl ⟨ha, hn⟩⟩
def resSem (tmps : Array Value) : ResultVar → Sem Value
  | .tmp t => pure (tmps.getD t undef)
  | .cell a t => do loadVar t (← asAddr (tmps.getD a undef))
theorem ResV.run {P : Program} {l : Fr} {m : Hp} {r : ResultVar} {v : Value} (h : ResV P l m r v) {a : Act} {w : World} (hk : Knows a l) (hm : ∀ c ∈ m, c.holds w) : (resSem a.tmps r).run P w = .ok v w := by
  cases r with
  | tmp t => have := hk t v h; simp [resSem, this]
  | cell t ty =>
    obtain ⟨b, e, h1, cs, h2, h3⟩ := h
    have ht := hk t _ h1
    have hb := hm _ h2
    have hag : ∀ x, isAggD P ty = some x → (isAgg ty).run P w = .ok x w := by
      intro x hx
      unfold isAggD at hx
      cases hu : P.underlying ty with
      | none => simp [hu] at hx
      | some u =>
        simp only [hu, Option.map_some] at hx
        simp only [isAgg, Sem.run_bind, run_underlying hu, Result.andThen_ok]
        cases u <;> simp_all
    rcases h3 with ⟨h3, h4⟩ | ⟨rfl, h3, h4, h5⟩
    · have hc : w.cell? ⟨b, 0, none⟩ = some v := by rw [blk_cell hb]; exact h4
      simp [resSem, ht, asAddr, loadVar, hag _ h3, run_load, hc]
    · have h2 : (sizeOf ty).run P w = .ok cs.length w := by
        unfold Program.cellsOf at h4
        cases hi' : P.info? ty with
        | none => exact absurd hi' h5
        | some i => simp [hi'] at h4; simp [sizeOf, typeInfo, hi', h4]
      have h6 := run_loadCells_list (P := P) w ⟨b, 0, none⟩ cs (blk_cells hb 0 (fun j v hv => by simpa using hv))
      simp [resSem, ht, asAddr, loadVar, hag _ h3, h2, h6]
section
variable {P : Program} {N : Nat} {w0 : World} {F : Nat → Prop} {fn : Func} {R : Ending → World → Prop} {l : Fr} {m : Hp} {ks : List Kt}
theorem results_eq (fn : Func) (tmps : Array Value) : results fn tmps = (do let vs ← fn.results.mapM (resSem tmps); pure (if h : vs.size = 1 then vs[0] else .tuple vs)) := by
  unfold results
  congr 1
theorem q_ret0 (hr : fn.results = #[]) (h : ∀ w, St w0 F m w → R (.returned (.tuple #[])) w) : ∀ a w, Ok ⟨P, N, w0, F, bodyPost P fn R, []⟩ l a → St w0 F m w → (bodyPost P fn R .ret a w ∧ bodyPost P fn R .normal a w) :=
  fun a w ha hw => have h1 : a.defers = [] ∧ ∃ v, (results fn a.tmps).run P w = .ok v w ∧ R (.returned v) w := ⟨ha.defers, _, by simp [results_eq, hr], h w hw⟩; ⟨h1, h1⟩
theorem q_ret1 {r : ResultVar} {v : Value} (hr : fn.results = #[r]) (hv : ResV P l m r v) (h : ∀ w, St w0 F m w → R (.returned v) w) :
    ∀ a w, Ok ⟨P, N, w0, F, bodyPost P fn R, []⟩ l a → St w0 F m w → (bodyPost P fn R .ret a w ∧ bodyPost P fn R .normal a w) :=
  fun a w ha hw => have h1 : a.defers = [] ∧ ∃ v, (results fn a.tmps).run P w = .ok v w ∧ R (.returned v) w := ⟨ha.defers, _, by simp [results_eq, hr, hv.run ha.knows hw.hold], h w hw⟩; ⟨h1, h1⟩
theorem q_ret2 {r r2 : ResultVar} {v v2 : Value} (hr : fn.results = #[r, r2]) (hv : ResV P l m r v) (hv2 : ResV P l m r2 v2) (h : ∀ w, St w0 F m w → R (.returned (.tuple #[v, v2])) w) :
    ∀ a w, Ok ⟨P, N, w0, F, bodyPost P fn R, []⟩ l a → St w0 F m w → (bodyPost P fn R .ret a w ∧ bodyPost P fn R .normal a w) :=
  fun a w ha hw => have h1 : a.defers = [] ∧ ∃ v, (results fn a.tmps).run P w = .ok v w ∧ R (.returned v) w := ⟨ha.defers, _, by simp [results_eq, hr, hv.run ha.knows hw.hold, hv2.run ha.knows hw.hold], h w hw⟩; ⟨h1, h1⟩
theorem q_ret3 {r r2 r3 : ResultVar} {v v2 v3 : Value} (hr : fn.results = #[r, r2, r3]) (hv : ResV P l m r v) (hv2 : ResV P l m r2 v2) (hv3 : ResV P l m r3 v3) (h : ∀ w, St w0 F m w → R (.returned (.tuple #[v, v2, v3])) w) :
    ∀ a w, Ok ⟨P, N, w0, F, bodyPost P fn R, []⟩ l a → St w0 F m w → (bodyPost P fn R .ret a w ∧ bodyPost P fn R .normal a w) :=
  fun a w ha hw => have h1 : a.defers = [] ∧ ∃ v, (results fn a.tmps).run P w = .ok v w ∧ R (.returned v) w := ⟨ha.defers, _, by simp [results_eq, hr, hv.run ha.knows hw.hold, hv2.run ha.knows hw.hold, hv3.run ha.knows hw.hold], h w hw⟩; ⟨h1, h1⟩
theorem e_retQ (h : ∀ a w, Ok ⟨P, N, w0, F, bodyPost P fn R, []⟩ l a → St w0 F m w → (bodyPost P fn R .ret a w ∧ bodyPost P fn R .normal a w)) : E ⟨P, N, w0, F, bodyPost P fn R, []⟩ (.code .ret :: ks) l m :=
  e_ret fun a w ha hw => (h a w ha hw).1
theorem e_endQ (h : ∀ a w, Ok ⟨P, N, w0, F, bodyPost P fn R, []⟩ l a → St w0 F m w → (bodyPost P fn R .ret a w ∧ bodyPost P fn R .normal a w)) : E ⟨P, N, w0, F, bodyPost P fn R, []⟩ [] l m :=
  e_end fun a w ha hw => (h a w ha hw).2
end

/-! ### tests of several parts -/
def del (t : Nat) : Fr → Fr
  | [] => []
  | (k, v) :: l => bif Nat.beq k t then del t l else (k, v) :: del t l
def hasKey (t : Nat) : Fr → Bool
  | [] => false
  | (k, _) :: l => bif Nat.beq k t then true else hasKey t l
def pick : List Nat → Fr → Fr
  | [], _ => []
  | k :: ks, l => (k, (look l k).getD undef) :: pick ks l
theorem Sub.refl (l : Fr) : Sub l l := fun _ _ h => h
/-- the slots 'ks' of l, each with what it holds -/
inductive Picks (l : Fr) : List Nat → Fr → Prop where
  | nil : Picks l [] []
  | cons {k : Nat} {v : Value} {ks : List Nat} {K : Fr} (h : look l k = some v) (hs : Picks l ks K) : Picks l (k :: ks) ((k, v) :: K)
theorem look_hasKey : ∀ {l : Fr} {t : Nat} {v : Value}, look l t = some v → hasKey t l = true
  | [], _, _, h => by cases h
  | (k, u) :: l, t, v, h => by
    simp only [look] at h
    simp only [hasKey]
    cases hb : Nat.beq k t with
    | true => rfl
    | false => rw [hb] at h; exact look_hasKey (l := l) h
theorem Sub.skip {l l' : Fr} {d : Nat} {v : Value} (hk : hasKey d l = false) (h : Sub l l') : Sub l ((d, v) :: l') := by
  intro t u hu
  simp only [look]
  cases hb : Nat.beq d t with
  | true =>
    have := Nat.eq_of_beq_eq_true hb
    subst this
    rw [look_hasKey hu] at hk
    cases hk
  | false => exact h t u hu
theorem Sub.del (t : Nat) : ∀ (l : Fr), Sub (del t l) l
  | [] => fun _ _ h => h
  | (k, v) :: l => by
    intro t' u h
    simp only [SL.del] at h
    simp only [look]
    cases hb : Nat.beq k t with
    | true =>
      rw [hb] at h
      simp only [cond_true] at h
      have h1 := Sub.del t l t' u h
      cases hb' : Nat.beq k t' with
      | true =>
        have e1 := Nat.eq_of_beq_eq_true hb
        have e2 := Nat.eq_of_beq_eq_true hb'
        subst e1; subst e2
        exfalso
        have : ∀ (l : Fr) (t : Nat), look (SL.del t l) t = none := by
          intro l t
          induction l with
          | nil => rfl
          | cons p l ih =>
            obtain ⟨k, v⟩ := p
            simp only [SL.del]
            cases hb : Nat.beq k t with
            | true => exact ih
            | false => simp only [cond_false, look, hb]; exact ih
        rw [this] at h
        cases h
      | false => exact h1
    | false =>
      rw [hb] at h
      simp only [cond_false, look] at h
      cases hb' : Nat.beq k t' with
      | true => rw [hb'] at h; exact h
      | false => rw [hb'] at h; exact Sub.del t l t' u h
section
variable {C : Cx} {ks : List Kt} {l : Fr} {m : Hp}
/-- a region of several ways that comes to one Bool in slot t -/
theorem e_test {c : Code} (t : Nat) (b : Bool) (h1 : E C (.code c :: .inv (fun a w => Ok C ((t, .bool b) :: del t l) a ∧ St C.w0 C.F m w) :: ks) l m) (h2 : E C ks ((t, .bool b) :: del t l) m) : E C (.code c :: ks) l m := by
  intro a w ha hw
  refine wp_mono (h1 a w ha hw) fun e a' w' hq => ?_
  cases e with
  | normal => exact h2 a' w' hq.1 hq.2
  | _ => exact hq
theorem e_testEnd {m' : Hp} {l0 : Fr} {t : Nat} {b b' : Bool} (ht : look l t = some (.bool b')) (hb : b' = b) (hs : Sub (del t l0) l) (hm : ∀ w, St C.w0 C.F m w → St C.w0 C.F m' w) : E C (.inv (fun a w => Ok C ((t, .bool b) :: del t l0) a ∧ St C.w0 C.F m' w) :: ks) l m :=
  fun _ w ha hw => ⟨ha.sub (Sub.cons (by rw [← hb]; exact ht) hs), hm w hw⟩
end
section
variable {C : Cx} {ks : List Kt} {l : Fr} {m : Hp}
/-- a loop: the slots of 'keep' stay, those of L go round; memory: 'm' all through (what a round makes is let go) -/
theorem e_loopK {c : Code} {σ : Type} (keep : List Nat) {K : Fr} (_hK : Picks l keep K) (L : σ → Fr) (J : σ → Prop) (μ : σ → Nat) (s0 : σ) (h0 : J s0) (hl : Sub (L s0 ++ K) l)
    (round : ∀ s, J s → E C (.code c :: .inv (fun a w => ∃ s', (J s' ∧ μ s' < μ s) ∧ Ok C (L s' ++ K) a ∧ St C.w0 C.F m w) :: ks) (L s ++ K) m) : E C (.code (.loop c) :: ks) l m :=
  e_loop (fun s => L s ++ K) (fun _ => m) J μ s0 h0 hl (fun _ h => h) round
theorem e_loopH {c : Code} {σ : Type} (keep : List Nat) {K : Fr} (_hK : Picks l keep K) (L : σ → Fr) (H : σ → Hp) (J : σ → Prop) (μ : σ → Nat) (s0 : σ) (h0 : J s0) (hl : Sub (L s0 ++ K) l) (hm : ∀ w, St C.w0 C.F m w → St C.w0 C.F (H s0) w)
    (round : ∀ s, J s → E C (.code c :: .inv (fun a w => ∃ s', (J s' ∧ μ s' < μ s) ∧ Ok C (L s' ++ K) a ∧ St C.w0 C.F (H s') w) :: ks) (L s ++ K) (H s)) : E C (.code (.loop c) :: ks) l m :=
  e_loop (fun s => L s ++ K) H J μ s0 h0 hl hm round
/-- a cut: the slots of 'keep' stay, those of L are told anew; memory stays -/
theorem e_cutK {c : Code} {σ : Type} (keep : List Nat) {K : Fr} (_hK : Picks l keep K) (L : σ → Fr) (J : σ → Prop) (hc : E C (.code c :: .inv (fun a w => ∃ s, J s ∧ Ok C (L s ++ K) a ∧ St C.w0 C.F m w) :: ks) l m)
    (hk : ∀ s, J s → E C ks (L s ++ K) m) : E C (.code c :: ks) l m :=
  e_cut (fun s => L s ++ K) (fun _ => m) J hc hk
/-- a cut that tells memory anew, too -/
theorem e_cutH {c : Code} {σ : Type} (keep : List Nat) {K : Fr} (_hK : Picks l keep K) (L : σ → Fr) (H : σ → Hp) (J : σ → Prop) (hc : E C (.code c :: .inv (fun a w => ∃ s, J s ∧ Ok C (L s ++ K) a ∧ St C.w0 C.F (H s) w) :: ks) l m)
    (hk : ∀ s, J s → E C ks (L s ++ K) (H s)) : E C (.code c :: ks) l m :=
  e_cut (fun s => L s ++ K) H J hc hk
theorem e_cutEnd {σ : Type} {L : σ → Fr} {H : σ → Hp} {J : σ → Prop} (s : σ) (hJ : J s) (hl : Sub (L s) l) (hm : ∀ w, St C.w0 C.F m w → St C.w0 C.F (H s) w) :
    E C (.inv (fun a w => ∃ s, J s ∧ Ok C (L s) a ∧ St C.w0 C.F (H s) w) :: ks) l m := e_inv s hJ hl hm
/-- the end of a round -/
theorem e_round {σ : Type} {L : σ → Fr} {H : σ → Hp} {J : σ → Prop} {μ : σ → Nat} {n : Nat} (s : σ) (hJ : J s) (hn : μ s < n) (hl : Sub (L s) l) (hm : ∀ w, St C.w0 C.F m w → St C.w0 C.F (H s) w) :
    E C (.inv (fun a w => ∃ s', (J s' ∧ μ s' < n) ∧ Ok C (L s') a ∧ St C.w0 C.F (H s') w) :: ks) l m :=
  fun _ w ha hw => ⟨s, ⟨hJ, hn⟩, ha.sub hl, hm w hw⟩
end
/-! ### views -/
def Le (c c' : View) : Prop := ∀ p v, c p = some v → c' p = some v
theorem Le.refl (c : View) : Le c c := fun _ _ h => h
theorem Le.trans {a b c : View} (h : Le a b) (h' : Le b c) : Le a c := fun p v hp => h' p v (h p v hp)
theorem Cells.mono {c c' : View} (hl : Le c c') {ad : Addr} {cs : List Value} (h : Cells c ad cs) : Cells c' ad cs := fun j v hv => hl _ _ (h j v hv)
theorem Rds.mono {c c' : View} (hl : Le c c') {v : Value} {size n : Nat} {xs : List Value} (h : Rds c v size n xs) : Rds c' v size n xs := by
  obtain ⟨A, k, h1, h2, h3, h4⟩ := h
  exact ⟨A, k, h1, h2, h3, fun hn => let ⟨ad, h5, h6⟩ := h4 hn; ⟨ad, h5, h6.mono hl⟩⟩
/-- memory but for the blocks in F -/
noncomputable def off (w : World) (F : Nat → Prop) : View := fun p => open Classical in if F p.block then none else w.cell? p
theorem off_le (w : World) (F : Nat → Prop) : Le (off w F) w.cell? := by
  intro p v h
  unfold off at h
  split at h
  · cases h
  · exact h
theorem lt_of_cell {w : World} {p : Addr} {v : Value} (h : w.cell? p = some v) : p.block < w.heap.size := by
  rcases Nat.lt_or_ge p.block w.heap.size with hl | hg
  · exact hl
  · simp [World.cell?, Array.getElem?_eq_none hg] at h
theorem Chg.off {w0 w : World} {F : Nat → Prop} (h : Chg w0 F w) : Le (off w0 F) (SL.off w F) := by
  intro p v hp
  unfold SL.off at hp ⊢
  split at hp
  · cases hp
  · rename_i hF
    rw [if_neg hF, h.cell (lt_of_cell hp) hF]
    exact hp
theorem off_none (w : World) : off w (feet []) = w.cell? := by
  funext p
  unfold off
  rw [if_neg (fun ⟨_, hc, _⟩ => by cases hc)]
theorem St.view {w0 w : World} {m : Hp} (h : St w0 (feet []) m w) : Le w0.cell? w.cell? := by
  have := h.chg.off
  rwa [off_none, off_none] at this
theorem Res.view {w w' : World} {mc' : Hp} (h : Res w [] mc' w') : Le w.cell? w'.cell? := by
  have := h.chg.off
  rwa [off_none, off_none] at this
theorem St.off {w0 w : World} {F : Nat → Prop} {m : Hp} (h : St w0 F m w) : Le (SL.off w0 F) w.cell? := h.chg.off.trans (off_le _ _)
section
variable {C : Cx} {l : Fr} {m : Hp} {ty : TypeId} {pos : String} {after : Array Edge} {dst : Option Nat} {g : Option (Nat × Bool)}
/-- a load of what was there when the call began -/
theorem v_loadO {x : Operand} {ad : Addr} {t : TypeId} {v : Value} {u : TypeDesc} (ht : C.P.underlying t = some u) (hu : (match u with | .struct _ | .array _ _ => true | _ => false) = false) (hx : rd l x = some (.pointer (some ad)))
    (h : SL.off C.w0 C.F ad = some v) : OpV C l m ⟨dst, .load t x, ty, pos, after, g⟩ v :=
  v_load1 ht hu hx fun _ hw => hw.off _ _ h
theorem v_loadON {x : Operand} {ad : Addr} {t : TypeId} {cs : List Value} {u : TypeDesc} (ht : C.P.underlying t = some u) (hu : (match u with | .struct _ | .array _ _ => true | _ => false) = true) (hi : C.P.info? t ≠ none)
    (hx : rd l x = some (.pointer (some ad))) (h : Cells (SL.off C.w0 C.F) ad cs) (hn : C.P.cellsOf t = cs.length) : OpV C l m ⟨dst, .load t x, ty, pos, after, g⟩ (.agg cs.toArray) :=
  v_loadN ht hu hi hn hx fun _ hw => h.mono hw.off
end
end Go.SL
