/- YtebdkaadbakhlaaGreatDoor: part P1 of this seat's own texts. -/
import Derived.WalkKit
import Derived.Maps.AppendAt
import Derived.OrdersHeld
import Derived.Test.YtebdkaadbakhlaaGreatDoorProg
set_option linter.unusedVariables false
set_option linter.unusedSimpArgs false
section
namespace Go.SL
open Go.RowKit
abbrev Fr := List (Nat × Value)
def look : Fr → Nat → Option Value
 | [], _ => none
 | (k, v) :: l, t => bif Nat.beq k t then some v else look l t
def Knows (a : Act) (l : Fr) : Prop := ∀ t v, look l t = some v → a.tmps[t]? = some v
def rd (l : Fr) : Operand → Option Value
 | .tmp t => look l t
 | .const v => some v
 | .global g => some (.pointer (some ⟨g, 0, none⟩))
 | .func f => some (.func (.func f) #[] #[])
theorem Knows.nil (a : Act) : Knows a [] := fun _ _ h => by cases h
theorem rd_eval {a : Act} {l : Fr} {x : Operand} {v : Value} (hk : Knows a l) (h : rd l x = some v) : a.eval x = v := by
 cases x with
 | tmp t => have := hk t v h; simp [Act.eval, this]
 | const u => simp [rd] at h; simp [Act.eval, h]
 | global g => simp [rd] at h; simp [Act.eval, h]
 | func f => simp [rd] at h; simp [Act.eval, h]
theorem Knows.put {a : Act} {l : Fr} {d : Nat} {v : Value} (hk : Knows a l) (hd : d < a.tmps.size) : Knows (a.put (some d) v) ((d, v) :: l) := by
 intro t u h
 unfold look at h
 by_cases hdt : d = t
 ·subst hdt
  simp [Nat.beq_refl] at h
  subst h
  simp [Act.put, hd]
 ·have hb : Nat.beq d t = false := by
   cases hh : Nat.beq d t with
   | false => rfl
   | true => exact absurd (Nat.eq_of_beq_eq_true hh) hdt
  rw [hb] at h
  have := hk t u h
  simp only [Act.put]
  rw [Array.getElem?_setIfInBounds_ne hdt]
  exact this
theorem put_size {a : Act} {d : Option Nat} {v : Value} : (a.put d v).tmps.size = a.tmps.size := by cases d <;> simp [Act.put]
theorem put_defers {a : Act} {d : Option Nat} {v : Value} : (a.put d v).defers = a.defers := by cases d <;> simp [Act.put]
def Sub (l l' : Fr) : Prop := ∀ t v, look l t = some v → look l' t = some v
theorem Sub.knows {l l' : Fr} {a : Act} (h : Sub l l') (hk : Knows a l') : Knows a l := fun t v ht => hk t v (h t v ht)
theorem Sub.nil (l : Fr) : Sub [] l := fun _ _ h => by cases h
theorem Sub.cons {l l' : Fr} {t : Nat} {v : Value} (h : look l' t = some v) (hs : Sub l l') : Sub ((t, v) :: l) l' := by
 intro t' v' h'
 unfold look at h'
 cases hb : Nat.beq t t' with
 | true => rw [hb] at h'; simp at h'; subst h'; rw [← Nat.eq_of_beq_eq_true hb]; exact h
 | false => rw [hb] at h'; exact hs t' v' h'
structure Chg (w0 : World) (F : Nat → Prop) (w : World) : Prop where
 os : w.os = w0.os
 tape : w.tape = w0.tape
 output : w.output = w0.output
 size : w0.heap.size ≤ w.heap.size
 block : ∀ b, b < w0.heap.size → ¬ F b → w.heap[b]? = w0.heap[b]?
theorem Chg.refl (w : World) (F : Nat → Prop) : Chg w F w := ⟨rfl, rfl, rfl, Nat.le_refl _, fun _ _ _ => rfl⟩
theorem Chg.mono {w0 w : World} {F F' : Nat → Prop} (h : Chg w0 F w) (hF : ∀ b, F b → F' b) : Chg w0 F' w :=
 ⟨h.os, h.tape, h.output, h.size, fun b hb hn => h.block b hb (fun hf => hn (hF b hf))⟩
theorem Chg.trans {w0 w w' : World} {F F' : Nat → Prop} (h : Chg w0 F w) (h' : Chg w F' w') (hF : ∀ b, b < w0.heap.size → F' b → F b) : Chg w0 F w' :=
 ⟨h'.os.trans h.os, h'.tape.trans h.tape, h'.output.trans h.output, Nat.le_trans h.size h'.size, fun b hb hn =>
  (h'.block b (Nat.lt_of_lt_of_le hb h.size) (fun hf => hn (hF b hb hf))).trans (h.block b hb hn)⟩
theorem Chg.below {w0 w : World} {F : Nat → Prop} (h : Chg w0 F w) (hF : ∀ b, ¬ F b) : Below w0.heap.size w0 w :=
 ⟨h.os, h.tape, h.output, h.size, fun b hb => h.block b hb (hF b)⟩
theorem Chg.cell {w0 w : World} {F : Nat → Prop} (h : Chg w0 F w) {p : Addr} (hp : p.block < w0.heap.size) (hF : ¬ F p.block) : w.cell? p = w0.cell? p :=
 World.cell?_of_block (w := w0) (h.block p.block hp hF)
theorem Chg.drew {w0 w : World} {F : Nat → Prop} (h : Chg w0 F w) : Chg w0 F w.drew := ⟨h.os, h.tape, h.output, h.size, h.block⟩
structure Gen where
 foot : Nat → Prop
 holds : World → Prop
 lt : ∀ {w b}, holds w → foot b → b < w.heap.size
 stable : ∀ {w w'}, (∀ b, foot b → w'.heap[b]? = w.heap[b]?) → holds w → holds w'
inductive Chunk where
 | blk (b : Nat) (e : TypeId) (cs : List Value)
 | gen (g : Gen)
def Chunk.foot : Chunk → Nat → Prop
 | .blk b _ _, k => k = b
 | .gen g, k => g.foot k
def Chunk.holds : Chunk → World → Prop
 | .blk b e cs, w => w.heap[b]? = some (.cells cs.toArray e (0, 0))
 | .gen g, w => g.holds w
theorem lt_of_heap {w : World} {b : Nat} {o : Obj} (h : w.heap[b]? = some o) : b < w.heap.size := by
 rcases Nat.lt_or_ge b w.heap.size with hl | hg
 ·exact hl
 ·rw [Array.getElem?_eq_none hg] at h; cases h
theorem Chunk.lt {c : Chunk} {w : World} {b : Nat} (h : c.holds w) (hf : c.foot b) : b < w.heap.size := by
 cases c with
 | blk b' e cs => simp only [Chunk.foot] at hf; subst hf; exact lt_of_heap h
 | gen g => exact g.lt h hf
theorem Chunk.stable {c : Chunk} {w w' : World} (hs : ∀ b, c.foot b → w'.heap[b]? = w.heap[b]?) (h : c.holds w) : c.holds w' := by
 cases c with
 | blk b' e cs => exact (hs b' rfl).trans h
 | gen g => exact g.stable hs h
abbrev Hp := List Chunk
def Disj (c d : Chunk) : Prop := ∀ b, c.foot b → ¬ d.foot b
theorem Disj.symm {c d : Chunk} (h : Disj c d) : Disj d c := fun b hd hc => h b hc hd
def feet (m : Hp) (b : Nat) : Prop := ∃ c ∈ m, c.foot b
structure St (w0 : World) (F : Nat → Prop) (m : Hp) (w : World) : Prop where
 chg : Chg w0 F w
 hold : ∀ c ∈ m, c.holds w
 sep : m.Pairwise Disj
 own : ∀ c ∈ m, ∀ b, c.foot b → w0.heap.size ≤ b ∨ F b
structure Res (w : World) (mc mc' : Hp) (w' : World) : Prop where
 chg : Chg w (feet mc) w'
 hold : ∀ c ∈ mc', c.holds w'
 sep : mc'.Pairwise Disj
 own : ∀ c ∈ mc', ∀ b, c.foot b → w.heap.size ≤ b ∨ feet mc b
theorem St.res {w : World} {mc m : Hp} {w' : World} (h : St w (feet mc) m w') : Res w mc m w' := ⟨h.chg, h.hold, h.sep, h.own⟩
theorem St.start {w : World} {mc : Hp} (hold : ∀ c ∈ mc, c.holds w) (sep : mc.Pairwise Disj) : St w (feet mc) mc w :=
 ⟨Chg.refl _ _, hold, sep, fun c hc _ hb => .inr ⟨c, hc, hb⟩⟩
theorem Res.sub {w w' : World} {mc m m' : Hp} (h : Res w mc m w') (hs : m'.Sublist m) : Res w mc m' w' :=
 ⟨h.chg, fun c hc => h.hold c (hs.subset hc), h.sep.sublist hs, fun c hc => h.own c (hs.subset hc)⟩
theorem Res.nil {w w' : World} {mc m : Hp} (h : Res w mc m w') : Res w mc [] w' := h.sub (List.nil_sublist _)
theorem Res.below {w w' : World} {mc' : Hp} (h : Res w [] mc' w') : Below w.heap.size w w' := h.chg.below (fun _ ⟨_, hc, _⟩ => by cases hc)
theorem St.sub {w0 w : World} {F : Nat → Prop} {m m' : Hp} (h : St w0 F m w) (hs : m'.Sublist m) : St w0 F m' w :=
 ⟨h.chg, fun c hc => h.hold c (hs.subset hc), h.sep.sublist hs, fun c hc => h.own c (hs.subset hc)⟩
theorem St.perm {w0 w : World} {F : Nat → Prop} {m m' : Hp} (h : St w0 F m w) (hs : m.Perm m') : St w0 F m' w :=
 ⟨h.chg, fun c hc => h.hold c (hs.mem_iff.2 hc), hs.pairwise h.sep (fun h => h.symm), fun c hc => h.own c (hs.mem_iff.2 hc)⟩
theorem St.call {w0 w w' : World} {F : Nat → Prop} {mc mc' mr : Hp} (h : St w0 F (mc ++ mr) w) (hr : Res w mc mc' w') : St w0 F (mc' ++ mr) w' := by
 have hsep := List.pairwise_append.1 h.sep
 have hkeep : ∀ d ∈ mr, ∀ b, d.foot b → w'.heap[b]? = w.heap[b]? := fun d hd b hb =>
  hr.chg.block b (Chunk.lt (h.hold d (by simp [hd])) hb) (fun ⟨c, hc, hcb⟩ => hsep.2.2 c hc d hd b hcb hb)
 refine ⟨h.chg.trans hr.chg (fun b hb ⟨c, hc, hcb⟩ => ?_), ?_, ?_, ?_⟩
 ·rcases h.own c (by simp [hc]) b hcb with h1 | h1
  ·omega
  ·exact h1
 ·intro c hc
  rcases List.mem_append.1 hc with hc | hc
  ·exact hr.hold c hc
  ·exact Chunk.stable (hkeep c hc) (h.hold c (by simp [hc]))
 ·refine List.pairwise_append.2 ⟨hr.sep, hsep.2.1, fun c hc d hd b hcb hdb => ?_⟩
  rcases hr.own c hc b hcb with h1 | ⟨c', hc', hcb'⟩
  ·have := Chunk.lt (h.hold d (by simp [hd])) hdb; omega
  ·exact hsep.2.2 c' hc' d hd b hcb' hdb
 ·intro c hc b hb
  rcases List.mem_append.1 hc with hc | hc
  ·rcases hr.own c hc b hb with h1 | ⟨c', hc', hcb'⟩
   ·have := h.chg.size; left; omega
   ·exact h.own c' (by simp [hc']) b hcb'
  ·exact h.own c (by simp [hc]) b hb
theorem perm_erase {α : Type} : ∀ (l : List α) (i : Nat) (x : α), l[i]? = some x → l.Perm (x :: l.eraseIdx i)
 | [], i, x, h => by simp at h
 | y :: l, 0, x, h => by simp at h; subst h; simp
 | y :: l, i + 1, x, h => by
  simp only [List.getElem?_cons_succ] at h
  exact ((perm_erase l i x h).cons y).trans (List.Perm.swap x y _)
theorem St.at_ {w0 w w' : World} {F : Nat → Prop} {m : Hp} {i : Nat} {c c' : Chunk} (h : St w0 F m w) (hi : m[i]? = some c) (hr : Res w [c] [c'] w') : St w0 F (m.set i c') w' := by
 have hlt := (List.getElem?_eq_some_iff.1 hi).1
 have h2 : St w0 F ([c'] ++ m.eraseIdx i) w' := St.call (mc := [c]) (h.perm (perm_erase m i c hi)) hr
 refine h2.perm ?_
 have h3 := perm_erase (m.set i c') i c' (by simp [hlt])
 rw [List.eraseIdx_set_eq] at h3
 exact h3.symm
theorem St.front {w0 w : World} {F : Nat → Prop} {m : Hp} {i : Nat} {c : Chunk} (h : St w0 F m w) (hi : m[i]? = some c) : St w0 F (c :: m.eraseIdx i) w := by
 exact h.perm (perm_erase m i c hi)
theorem St.mem {w0 w : World} {F : Nat → Prop} {m : Hp} {i : Nat} {c : Chunk} (h : St w0 F m w) (hi : m[i]? = some c) : c.holds w :=
 h.hold c (List.mem_of_getElem? hi)
theorem Res.alloc (w : World) (e : TypeId) (cs : List Value) : Res w [] [.blk w.heap.size e cs] (w.alloc (.cells cs.toArray e)) := by
 refine ⟨⟨rfl, rfl, rfl, by simp, fun b hb _ => Below.heap_alloc w _ b hb⟩, ?_, by simp, ?_⟩
 ·intro c hc
  simp only [List.mem_singleton] at hc
  subst hc
  exact heap_alloc_new w _
 ·intro c hc b hb
  simp only [List.mem_singleton] at hc
  subst hc
  simp only [Chunk.foot] at hb
  left; omega
theorem St.alloc {w0 w : World} {F : Nat → Prop} {m : Hp} (h : St w0 F m w) (e : TypeId) (cs : List Value) : St w0 F (.blk w.heap.size e cs :: m) (w.alloc (.cells cs.toArray e)) :=
 St.call (mc := []) (mr := m) h (Res.alloc w e cs)
theorem Res.setCell {w : World} {b e : Nat} {cs : List Value} (h : (Chunk.blk b e cs).holds w) (i : Nat) (v : Value) : Res w [.blk b e cs] [.blk b e (cs.set i v)] (w.setCell ⟨b, i, none⟩ v) := by
 refine ⟨⟨rfl, rfl, rfl, by simp [World.setCell], fun k hk hn => Below.heap_setCell w _ v k (fun e => hn ⟨_, List.mem_singleton.2 rfl, e⟩)⟩, ?_, by simp, ?_⟩
 ·intro c hc
  simp only [List.mem_singleton] at hc
  subst hc
  simp only [Chunk.holds] at h ⊢
  simp [World.setCell, Array.getElem?_modify, h]
 ·intro c hc k hk
  simp only [List.mem_singleton] at hc
  subst hc
  exact .inr ⟨_, List.mem_singleton.2 rfl, hk⟩
structure Cx where
 P : Program
 N : Nat
 w0 : World
 F : Nat → Prop
 Q : Exit → Act → World → Prop
 D : List Deferred
inductive Kt where
 | code (c : Code)
 | blk (id : Nat)
 | inv (I : Act → World → Prop)
def Kp (C : Cx) : List Kt → Exit → Act → World → Prop
 | [] => C.Q
 | .code c :: ks => Exit.then (fun a w => c.wp C.P (Kp C ks) a w) (Kp C ks)
 | .blk id :: ks => Exit.inBlock id (Kp C ks)
 | .inv I :: ks => Exit.then I (Kp C ks)
structure Ok (C : Cx) (l : Fr) (a : Act) : Prop where
 size : a.tmps.size = C.N
 defers : a.defers = C.D
 knows : Knows a l
def G (C : Cx) (l : Fr) (m : Hp) (Φ : Act → World → Prop) : Prop := ∀ a w, Ok C l a → St C.w0 C.F m w → Φ a w
abbrev E (C : Cx) (ks : List Kt) (l : Fr) (m : Hp) : Prop := G C l m (Kp C ks .normal)
abbrev W (C : Cx) (ops : Array Oper) (os : List Oper) (ks : List Kt) (l : Fr) (m : Hp) : Prop := G C l m (wpList C.P ops (Kp C ks) os)
section
variable {C : Cx} {ks : List Kt} {l : Fr} {m : Hp}
theorem Ok.put {a : Act} {d : Nat} {v : Value} (h : Ok C l a) (hd : d < C.N) : Ok C ((d, v) :: l) (a.put (some d) v) :=
 ⟨by rw [put_size]; exact h.size, by rw [put_defers]; exact h.defers, h.knows.put (by rw [h.size]; exact hd)⟩
theorem Ok.sub {a : Act} {l' : Fr} (h : Ok C l a) (hs : Sub l' l) : Ok C l' a := ⟨h.size, h.defers, hs.knows h.knows⟩
theorem e_seq {x y : Code} (h : E C (.code x :: .code y :: ks) l m) : E C (.code (.seq x y) :: ks) l m := by
 intro a w ha hw
 have h1 := h a w ha hw
 simp only [Kp, Exit.then] at h1 ⊢
 exact wp_seq h1
theorem e_skip (h : E C ks l m) : E C (.code .skip :: ks) l m := fun a w ha hw => wp_skip (h a w ha hw)
theorem e_block {id : Nat} {c : Code} (h : E C (.code c :: .blk id :: ks) l m) : E C (.code (.block id c) :: ks) l m := by
 intro a w ha hw
 exact wp_block (h a w ha hw)
theorem e_blk {id : Nat} (h : E C ks l m) : E C (.blk id :: ks) l m := fun a w ha hw => h a w ha hw
def pop (id : Nat) : List Kt → Option (List Kt)
 | [] => none
 | .blk id' :: ks => bif Nat.beq id id' then some ks else pop id ks
 | _ :: ks => pop id ks
theorem pop_kp {id : Nat} : ∀ {ks ks' : List Kt} {a : Act} {w : World}, pop id ks = some ks' → Kp C ks' .normal a w → Kp C ks (.exit id) a w
 | [], ks', a, w, h, _ => by cases h
 | .blk id' :: ks, ks', a, w, h, hk => by
  simp only [pop] at h
  simp only [Kp, Exit.inBlock]
  cases hb : Nat.beq id id' with
  | true =>
   rw [hb] at h
   simp at h
   subst h
   rw [if_pos (Nat.eq_of_beq_eq_true hb)]
   exact hk
  | false =>
   rw [hb] at h
   have : id ≠ id' := fun e => by subst e; simp [Nat.beq_refl] at hb
   rw [if_neg this]
   exact pop_kp h hk
 | .code c :: ks, ks', a, w, h, hk => by
  simp only [pop] at h
  exact pop_kp (ks := ks) h hk
 | .inv I :: ks, ks', a, w, h, hk => by
  simp only [pop] at h
  exact pop_kp (ks := ks) h hk
theorem e_exit {id : Nat} {ks' : List Kt} (hp : pop id ks = some ks') (h : E C ks' l m) : E C (.code (.exit id) :: ks) l m :=
 fun a w ha hw => wp_exit (pop_kp hp (h a w ha hw))
theorem ret_kp : ∀ {ks : List Kt} {a : Act} {w : World}, C.Q .ret a w → Kp C ks .ret a w
 | [], _, _, h => h
 | .blk _ :: ks, _, _, h => ret_kp (ks := ks) h
 | .code _ :: ks, _, _, h => ret_kp (ks := ks) h
 | .inv _ :: ks, _, _, h => ret_kp (ks := ks) h
theorem panic_kp {ch : List PanicEntry} : ∀ {ks : List Kt} {a : Act} {w : World}, C.Q (.panic ch) a w → Kp C ks (.panic ch) a w
 | [], _, _, h => h
 | .blk _ :: ks, _, _, h => panic_kp (ks := ks) h
 | .code _ :: ks, _, _, h => panic_kp (ks := ks) h
 | .inv _ :: ks, _, _, h => panic_kp (ks := ks) h
theorem e_ret (h : ∀ a w, Ok C l a → St C.w0 C.F m w → C.Q .ret a w) : E C (.code .ret :: ks) l m := fun a w ha hw => wp_ret (ret_kp (h a w ha hw))
theorem e_end (h : ∀ a w, Ok C l a → St C.w0 C.F m w → C.Q .normal a w) : E C [] l m := h
theorem e_cond {c : Operand} {x y : Code} {b : Bool} (hc : rd l c = some (.bool b)) (ht : b = true → E C (.code x :: ks) l m) (hf : b = false → E C (.code y :: ks) l m) : E C (.code (.cond c x y) :: ks) l m := by
 intro a w ha hw
 refine wp_cond (t := b) (rd_eval ha.knows hc) ?_
 cases b with
 | true => exact ht rfl a w ha hw
 | false => exact hf rfl a w ha hw
theorem e_condD {c : Operand} {x y : Code} {p : Prop} [Decidable p] (hc : rd l c = some (.bool (decide p))) (ht : p → E C (.code x :: ks) l m) (hf : ¬ p → E C (.code y :: ks) l m) : E C (.code (.cond c x y) :: ks) l m :=
 e_cond hc (fun h => ht (of_decide_eq_true h)) (fun h => hf (of_decide_eq_false h))
theorem e_condT {c : Operand} {x y : Code} (hc : rd l c = some (.bool true)) (ht : E C (.code x :: ks) l m) : E C (.code (.cond c x y) :: ks) l m :=
 e_cond hc (fun _ => ht) (fun h => by cases h)
theorem e_condF {c : Operand} {x y : Code} (hc : rd l c = some (.bool false)) (hf : E C (.code y :: ks) l m) : E C (.code (.cond c x y) :: ks) l m :=
 e_cond hc (fun h => by cases h) (fun _ => hf)
theorem e_condDT {c : Operand} {x y : Code} {p : Prop} [Decidable p] (hc : rd l c = some (.bool (decide p))) (hp : p) (ht : E C (.code x :: ks) l m) : E C (.code (.cond c x y) :: ks) l m :=
 e_condD hc (fun _ => ht) (fun h => absurd hp h)
theorem e_condDF {c : Operand} {x y : Code} {p : Prop} [Decidable p] (hc : rd l c = some (.bool (decide p))) (hp : ¬ p) (hf : E C (.code y :: ks) l m) : E C (.code (.cond c x y) :: ks) l m :=
 e_condD hc (fun h => absurd h hp) (fun _ => hf)
theorem e_cut {c : Code} {σ : Type} (L : σ → Fr) (H : σ → Hp) (J : σ → Prop) (hc : E C (.code c :: .inv (fun a w => ∃ s, J s ∧ Ok C (L s) a ∧ St C.w0 C.F (H s) w) :: ks) l m)
  (hk : ∀ s, J s → E C ks (L s) (H s)) : E C (.code c :: ks) l m := by
 intro a w ha hw
 have h1 := hc a w ha hw
 refine wp_mono h1 fun e a' w' hq => ?_
 cases e with
 | normal => obtain ⟨s, hJ, h2, h3⟩ := hq; exact hk s hJ a' w' h2 h3
 | _ => exact hq
theorem e_inv {σ : Type} {L : σ → Fr} {H : σ → Hp} {J : σ → Prop} (s : σ) (hJ : J s) (hl : Sub (L s) l) (hm : ∀ w, St C.w0 C.F m w → St C.w0 C.F (H s) w) :
  E C (.inv (fun a w => ∃ s, J s ∧ Ok C (L s) a ∧ St C.w0 C.F (H s) w) :: ks) l m :=
 fun _ w ha hw => ⟨s, hJ, ha.sub hl, hm w hw⟩
theorem e_loop {c : Code} {σ : Type} (L : σ → Fr) (H : σ → Hp) (J : σ → Prop) (μ : σ → Nat) (s0 : σ) (h0 : J s0) (hl : Sub (L s0) l) (hm : ∀ w, St C.w0 C.F m w → St C.w0 C.F (H s0) w)
    (round : ∀ s, J s → E C (.code c :: .inv (fun a w => ∃ s', (J s' ∧ μ s' < μ s) ∧ Ok C (L s') a ∧ St C.w0 C.F (H s') w) :: ks) (L s) (H s)) : E C (.code (.loop c) :: ks) l m := by
  intro a w ha hw b k cs
  have key : ∀ n s, μ s = n → J s → ∀ a w, Ok C (L s) a → St C.w0 C.F (H s) w →
      ∃ e a' w', Kp C ks e a' w' ∧ Arrives C.P (lone (b.at a (.code c :: .inLoop c :: k)) cs w) b k cs e a' w' := by
    intro n
    induction n using Nat.strongRecOn with
    | _ n ih =>
      intro s hn hJ a w ha hw
      obtain ⟨e, a₁, w₁, hq, harr⟩ := round s hJ a w ha hw b (.inLoop c :: k) cs
      cases e with
      | normal =>
        obtain ⟨s', ⟨hJ', hlt⟩, ha', hw'⟩ := hq
        obtain ⟨e₂, a₂, w₂, hq₂, harr₂⟩ := ih (μ s') (hn ▸ hlt) s' rfl hJ' a₁ w₁ ha' hw'
        exact ⟨e₂, a₂, w₂, hq₂, .of_steps (Steps.trans harr (.one step_inLoop)) harr₂⟩
      | exit id => exact ⟨_, a₁, w₁, hq, .pass (x := .inLoop c) rfl (fun _ _ => .inl (by simp)) harr⟩
      | goto l => exact ⟨_, a₁, w₁, hq, .pass (x := .inLoop c) rfl (fun _ _ => .inl (by simp)) harr⟩
      | ret => exact ⟨_, a₁, w₁, hq, .pass (x := .inLoop c) rfl (fun _ _ => .inl (by simp)) harr⟩
      | panic ch => exact ⟨_, a₁, w₁, hq, .pass (x := .inLoop c) rfl (fun _ _ => .inl (by simp)) harr⟩
      | outgrown => exact ⟨_, a₁, w₁, hq, .pass (x := .inLoop c) rfl (fun _ _ => .inl (by simp)) harr⟩
  obtain ⟨e, a', w', hq, harr⟩ := key _ s0 rfl h0 a w (ha.sub hl) (hm w hw)
  exact ⟨e, a', w', hq, .of_steps (.one step_loop) harr⟩
end
end Go.SL
end
section
namespace Go.SL
open Go.RowKit
set_option linter.unusedSectionVars false
theorem ne_of_isSome {α : Type} {o : Option α} (h : o.isSome = true) : o ≠ none := fun e => by subst e; cases h
def OpV (C : Cx) (l : Fr) (m : Hp) (o : Oper) (v : Value) : Prop := ∀ a w, Ok C l a → St C.w0 C.F m w → (execOp a.eval o).run C.P w = .ok (.value v) w
theorem loud_or {P : Program} {ops : Array Oper} {Q : Exit → Act → World → Prop} {o : Oper} {rest : List Oper} {a : Act} {w : World} (hg : o.guard = none)
  (h : o.wp P a w (wpList P ops Q rest) Q) : wpList P ops Q (o :: rest) a w := by
 unfold wpList
 rw [if_pos (by simp [Region.wanted, hg])]
 exact .inl h
def rdAll (l : Fr) : List Operand → Option (List Value)
 | [] => some []
 | x :: xs => match rd l x, rdAll l xs with
  | some v, some vs => some (v :: vs)
  | _, _ => none
def rdParts (l : Fr) : List (Nat × Operand) → Option (List (Nat × Value))
 | [] => some []
 | (i, x) :: xs => match rd l x, rdParts l xs with
  | some v, some vs => some ((i, v) :: vs)
  | _, _ => none
theorem rdAll_eval {a : Act} {l : Fr} (hk : Knows a l) : ∀ {xs : List Operand} {vs : List Value}, rdAll l xs = some vs → xs.map a.eval = vs
 | [], vs, h => by simp [rdAll] at h; simp [h]
 | x :: xs, vs, h => by
  simp only [rdAll] at h
  split at h
  ·rename_i v vs' h1 h2
   injection h with h
   subst h
   simp [rd_eval hk h1, rdAll_eval hk h2]
  ·cases h
theorem rdParts_eval {a : Act} {l : Fr} (hk : Knows a l) : ∀ {xs : List (Nat × Operand)} {vs : List (Nat × Value)}, rdParts l xs = some vs → xs.map (fun p => (p.1, a.eval p.2)) = vs
 | [], vs, h => by simp [rdParts] at h; simp [h]
 | (i, x) :: xs, vs, h => by
  simp only [rdParts] at h
  split at h
  ·rename_i v vs' h1 h2
   injection h with h
   subst h
   simp [rd_eval hk h1, rdParts_eval hk h2]
  ·cases h
section
variable {C : Cx} {ks : List Kt} {l : Fr} {m : Hp} {ops : Array Oper} {rest : List Oper} {op : Op} {ty : TypeId} {pos : String} {after : Array Edge} {d : Nat} {dst : Option Nat} {g : Option (Nat × Bool)}
theorem w_op {o : Oper} {Q : Exit → Act → World → Prop} (hg : o.guard = none) (h : G C l m (fun a w => o.wp C.P a w (wpList C.P ops Q rest) Q)) : G C l m (wpList C.P ops Q (o :: rest)) :=
 fun a w ha hw => loud_or hg (h a w ha hw)
theorem x_val {v : Value} {Φ : Act → World → Prop} {Q : Exit → Act → World → Prop} (hv : OpV C l m ⟨some d, op, ty, pos, after, g⟩ v) (hd : Nat.blt d C.N = true) (h : G C ((d, v) :: l) m Φ) :
  G C l m (fun a w => Oper.wp C.P ⟨some d, op, ty, pos, after, g⟩ a w Φ Q) := by
 intro a w ha hw
 unfold Oper.wp
 rw [hv a w ha hw]
 exact h _ _ (ha.put (Nat.le_of_ble_eq_true hd)) hw
theorem w_nil (h : E C ks l m) : W C ops [] ks l m := fun a w ha hw => h a w ha hw
theorem w_val {v : Value} (hv : OpV C l m ⟨some d, op, ty, pos, after, none⟩ v) (hd : Nat.blt d C.N = true) (h : W C ops rest ks ((d, v) :: l) m) :
  W C ops (⟨some d, op, ty, pos, after, none⟩ :: rest) ks l m := by
 intro a w ha hw
 refine loud_or rfl ?_
 unfold Oper.wp
 rw [hv a w ha hw]
 exact h _ _ (ha.put (Nat.le_of_ble_eq_true hd)) hw
theorem w_valD {p : Prop} [Decidable p] (hv : OpV C l m ⟨some d, op, ty, pos, after, none⟩ (.bool (decide p))) (hd : Nat.blt d C.N = true) (ht : p → W C ops rest ks ((d, .bool true) :: l) m) (hf : ¬ p → W C ops rest ks ((d, .bool false) :: l) m) :
  W C ops (⟨some d, op, ty, pos, after, none⟩ :: rest) ks l m := by
 by_cases h : p
 ·exact w_val (by rwa [decide_eq_true h] at hv) hd (ht h)
 ·exact w_val (by rwa [decide_eq_false h] at hv) hd (hf h)
theorem e_region {id : Nat} {os : List Oper} (h : W C os.toArray os ks l m) : E C (.code (.region id os.toArray false) :: ks) l m :=
 fun a w ha hw => wp_region_list (h a w ha hw)
theorem w_want {j d' : Nat} {b : Bool} (hj : ((ops[j]?).bind (·.dst)) = some d') (hv : look l d' = some (.bool b)) (h : W C ops (⟨dst, op, ty, pos, after, none⟩ :: rest) ks l m) :
  W C ops (⟨dst, op, ty, pos, after, some (j, b)⟩ :: rest) ks l m := by
 intro a w ha hw
 have h1 := h a w ha hw
 unfold wpList at h1 ⊢
 rw [if_pos (by simp [Region.wanted])] at h1
 rw [if_pos]
 ·exact h1
 ·have := ha.knows d' _ hv
  simp [Region.wanted, yielded, hj, this]
theorem w_skip {j d' : Nat} {b : Bool} {v : Value} (hj : ((ops[j]?).bind (·.dst)) = some d') (hv : look l d' = some v) (hn : (match v with | .bool c => Bool.xor c b | _ => true) = true) (hd : Nat.blt d C.N = true)
  (h : W C ops rest ks ((d, undef) :: l) m) : W C ops (⟨some d, op, ty, pos, after, some (j, b)⟩ :: rest) ks l m := by
 intro a w ha hw
 unfold wpList
 have hw1 : Region.wanted (⟨some d, op, ty, pos, after, some (j, b)⟩ : Oper) (yielded ops a.tmps) = false := by
  have := ha.knows d' _ hv
  simp only [Region.wanted, yielded, hj, Option.bind_some, this]
  cases v <;> simp_all <;> (rename_i c; cases c <;> cases b <;> simp_all)
 rw [if_neg (by simp [hw1])]
 exact h _ _ (ha.put (Nat.le_of_ble_eq_true hd)) hw
theorem v_move {x : Operand} {v : Value} (h : rd l x = some v) : OpV C l m ⟨dst, .move x, ty, pos, after, g⟩ v :=
 fun a w ha _ => by simp [execOp, rd_eval ha.knows h]
theorem v_assign {x : Operand} {v : Value} (h : rd l x = some v) : OpV C l m ⟨dst, .assign x, ty, pos, after, g⟩ v :=
 fun a w ha _ => by simp [execOp, rd_eval ha.knows h]
theorem v_pickT {c x y : Operand} {v : Value} (hc : rd l c = some (.bool true)) (h : rd l x = some v) : OpV C l m ⟨dst, .pick c x y, ty, pos, after, g⟩ v :=
 fun a w ha _ => by simp [execOp, rd_eval ha.knows h, rd_eval ha.knows hc, asBool]
theorem v_pickF {c x y : Operand} {v : Value} (hc : rd l c = some (.bool false)) (h : rd l y = some v) : OpV C l m ⟨dst, .pick c x y, ty, pos, after, g⟩ v :=
 fun a w ha _ => by simp [execOp, rd_eval ha.knows h, rd_eval ha.knows hc, asBool]
section ints
variable {x y : Operand} {k : IntKind} {p q : Int} {t t' : TypeId}
theorem wrap_i64 {n : Int} (h1 : -9223372036854775808 ≤ n) (h2 : n ≤ 9223372036854775807) : IntKind.i64.wrap n = n := by
 rw [IntKind.wrap_i64]
 omega
theorem v_addw (hx : rd l x = some (.int k p)) (hy : rd l y = some (.int k q)) : OpV C l m ⟨dst, .binOp .add t x y t', ty, pos, after, g⟩ (.int k (k.wrap (p + q))) :=
 fun a w ha _ => by simp [execOp, rd_eval ha.knows hx, rd_eval ha.knows hy, eqGuard, binOp, Op.intArith]
theorem v_subw (hx : rd l x = some (.int k p)) (hy : rd l y = some (.int k q)) : OpV C l m ⟨dst, .binOp .sub t x y t', ty, pos, after, g⟩ (.int k (k.wrap (p - q))) :=
 fun a w ha _ => by simp [execOp, rd_eval ha.knows hx, rd_eval ha.knows hy, eqGuard, binOp, Op.intArith]
theorem v_mulw (hx : rd l x = some (.int k p)) (hy : rd l y = some (.int k q)) : OpV C l m ⟨dst, .binOp .mul t x y t', ty, pos, after, g⟩ (.int k (k.wrap (p * q))) :=
 fun a w ha _ => by simp [execOp, rd_eval ha.knows hx, rd_eval ha.knows hy, eqGuard, binOp, Op.intArith]
theorem v_add (hx : rd l x = some (.int .i64 p)) (hy : rd l y = some (.int .i64 q)) (h : -9223372036854775808 ≤ p + q ∧ p + q ≤ 9223372036854775807) : OpV C l m ⟨dst, .binOp .add t x y t', ty, pos, after, g⟩ (.int .i64 (p + q)) := by
 have := v_addw (C := C) (m := m) (dst := dst) (t := t) (t' := t') (ty := ty) (pos := pos) (after := after) (g := g) hx hy
 rwa [wrap_i64 h.1 h.2] at this
theorem v_sub (hx : rd l x = some (.int .i64 p)) (hy : rd l y = some (.int .i64 q)) (h : -9223372036854775808 ≤ p - q ∧ p - q ≤ 9223372036854775807) : OpV C l m ⟨dst, .binOp .sub t x y t', ty, pos, after, g⟩ (.int .i64 (p - q)) := by
 have := v_subw (C := C) (m := m) (dst := dst) (t := t) (t' := t') (ty := ty) (pos := pos) (after := after) (g := g) hx hy
 rwa [wrap_i64 h.1 h.2] at this
theorem v_mul (hx : rd l x = some (.int .i64 p)) (hy : rd l y = some (.int .i64 q)) (h : -9223372036854775808 ≤ p * q ∧ p * q ≤ 9223372036854775807) : OpV C l m ⟨dst, .binOp .mul t x y t', ty, pos, after, g⟩ (.int .i64 (p * q)) := by
 have := v_mulw (C := C) (m := m) (dst := dst) (t := t) (t' := t') (ty := ty) (pos := pos) (after := after) (g := g) hx hy
 rwa [wrap_i64 h.1 h.2] at this
theorem v_eql (hx : rd l x = some (.int k p)) (hy : rd l y = some (.int k q)) : OpV C l m ⟨dst, .binOp .eql t x y t', ty, pos, after, g⟩ (.bool (decide (p = q))) :=
 fun a w ha _ => by
  have : (p == q) = decide (p = q) := rfl
  simp [execOp, rd_eval ha.knows hx, rd_eval ha.knows hy, eqGuard, binOp, Op.intCmp, this]
theorem v_neq (hx : rd l x = some (.int k p)) (hy : rd l y = some (.int k q)) : OpV C l m ⟨dst, .binOp .neq t x y t', ty, pos, after, g⟩ (.bool (decide (p ≠ q))) :=
 fun a w ha _ => by
  have : (p != q) = decide (p ≠ q) := by simp [bne]; rfl
  simp only [execOp, rd_eval ha.knows hx, rd_eval ha.knows hy, eqGuard, binOp, Op.intCmp, this]; simp
theorem v_lss (hx : rd l x = some (.int k p)) (hy : rd l y = some (.int k q)) : OpV C l m ⟨dst, .binOp .lss t x y t', ty, pos, after, g⟩ (.bool (decide (p < q))) :=
 fun a w ha _ => by simp [execOp, rd_eval ha.knows hx, rd_eval ha.knows hy, eqGuard, binOp, Op.intCmp]
theorem v_leq (hx : rd l x = some (.int k p)) (hy : rd l y = some (.int k q)) : OpV C l m ⟨dst, .binOp .leq t x y t', ty, pos, after, g⟩ (.bool (decide (p ≤ q))) :=
 fun a w ha _ => by simp [execOp, rd_eval ha.knows hx, rd_eval ha.knows hy, eqGuard, binOp, Op.intCmp]
theorem v_gtr (hx : rd l x = some (.int k p)) (hy : rd l y = some (.int k q)) : OpV C l m ⟨dst, .binOp .gtr t x y t', ty, pos, after, g⟩ (.bool (decide (q < p))) :=
 fun a w ha _ => by simp [execOp, rd_eval ha.knows hx, rd_eval ha.knows hy, eqGuard, binOp, Op.intCmp]
theorem v_geq (hx : rd l x = some (.int k p)) (hy : rd l y = some (.int k q)) : OpV C l m ⟨dst, .binOp .geq t x y t', ty, pos, after, g⟩ (.bool (decide (q ≤ p))) :=
 fun a w ha _ => by simp [execOp, rd_eval ha.knows hx, rd_eval ha.knows hy, eqGuard, binOp, Op.intCmp]
theorem v_quo (hx : rd l x = some (.int k p)) (hy : rd l y = some (.int k q)) (hq : q ≠ 0) : OpV C l m ⟨dst, .binOp .quo t x y t', ty, pos, after, g⟩ (.int k (k.wrap (p.tdiv q))) :=
 fun a w ha _ => by simp [execOp, rd_eval ha.knows hx, rd_eval ha.knows hy, eqGuard, binOp, Op.intDiv, hq]
theorem v_rem (hx : rd l x = some (.int k p)) (hy : rd l y = some (.int k q)) (hq : q ≠ 0) : OpV C l m ⟨dst, .binOp .rem t x y t', ty, pos, after, g⟩ (.int k (p.tmod q)) :=
 fun a w ha _ => by simp [execOp, rd_eval ha.knows hx, rd_eval ha.knows hy, eqGuard, binOp, Op.intDiv, hq]
theorem v_conv (hu : C.P.underlying t' = some (.int k)) (hs : (C.P.underlying t).isSome = true) {k' : IntKind} (hx : rd l x = some (.int k' p)) : OpV C l m ⟨dst, .convert t t' x, ty, pos, after, g⟩ (.int k (k.wrap p)) :=
 fun a w ha _ => by
  obtain ⟨u, hu'⟩ := Option.isSome_iff_exists.1 hs
  simp [execOp, rd_eval ha.knows hx, convert, run_underlying hu, run_underlying hu', Conv.intToInt]
end ints
theorem v_not {x : Operand} {b : Bool} {t : TypeId} (hx : rd l x = some (.bool b)) : OpV C l m ⟨dst, .unOp .not t x, ty, pos, after, g⟩ (.bool (!b)) :=
 fun a w ha _ => by simp [execOp, rd_eval ha.knows hx, Op.unary]
theorem v_nilCheck {x : Operand} {ad : Addr} (hx : rd l x = some (.pointer (some ad))) : OpV C l m ⟨dst, .nilCheck x, ty, pos, after, g⟩ (.pointer (some ad)) :=
 fun a w ha _ => by simp [execOp, rd_eval ha.knows hx]
theorem v_extract {x : Operand} {vs : Array Value} {i : Nat} {v : Value} (hx : rd l x = some (.tuple vs)) (hv : vs[i]? = some v) : OpV C l m ⟨dst, .extract x i, ty, pos, after, g⟩ v :=
 fun a w ha _ => by simp [execOp, rd_eval ha.knows hx, Instr.extract, hv]
theorem v_lenS {x : Operand} {t e : TypeId} {ao : Option Addr} {n c : Nat} (ht : C.P.underlying t = some (.slice e)) (hx : rd l x = some (.slice ao n c)) :
  OpV C l m ⟨dst, .call ⟨.builtin .len, #[x], #[t]⟩, ty, pos, after, g⟩ (.int .i64 n) :=
 fun a w ha _ => by simp [execOp, resolve, invoke, builtin, rd_eval ha.knows hx, Builtin.len_, run_underlying ht, goInt]
theorem v_lenStr {x : Operand} {t : TypeId} {s : ByteArray} (ht : C.P.underlying t = some .string) (hx : rd l x = some (.string s)) :
  OpV C l m ⟨dst, .call ⟨.builtin .len, #[x], #[t]⟩, ty, pos, after, g⟩ (.int .i64 s.size) :=
 fun a w ha _ => by simp [execOp, resolve, invoke, builtin, rd_eval ha.knows hx, Builtin.len_, run_underlying ht, goInt]
theorem v_fieldAddr {x : Operand} {ad : Addr} {t : TypeId} {i o : Nat} {fs : Array Field} {f : Field} (ht : C.P.underlying t = some (.struct fs)) (hf : fs[i]? = some f) (ho : f.offset = o) (hs : C.P.cellsOf f.type ≠ 0)
  (hx : rd l x = some (.pointer (some ad))) : OpV C l m ⟨dst, .fieldAddr t x i, ty, pos, after, g⟩ (.pointer (some (ad.add o))) :=
 fun a w ha _ => by
  have h1 : (sizeOf f.type).run C.P w = .ok (C.P.cellsOf f.type) w := by
   unfold Program.cellsOf at hs ⊢
   cases hi : C.P.info? f.type with
   | none => simp [hi] at hs
   | some i => simp [sizeOf, typeInfo, hi]
  simp only [execOp, rd_eval ha.knows hx, Instr.fieldAt, Sem.run_bind, run_underlying ht, Result.andThen_ok, hf, Instr.sureAddr, fieldPlace]
  simp [h1, hs, ho]
theorem v_indexS {x y : Operand} {ad : Addr} {t e : TypeId} {n c z : Nat} {k : IntKind} {i : Int} (ht : C.P.underlying t = some (.slice e)) (hz : C.P.info? e ≠ none) (hc : C.P.cellsOf e = z) (hx : rd l x = some (.slice (some ad) n c)) (hy : rd l y = some (.int k i))
  (hi : 0 ≤ i ∧ i < n) : OpV C l m ⟨dst, .indexAddr t x y, ty, pos, after, g⟩ (.pointer (some (ad.add (i.toNat * z)))) :=
 fun a w ha _ => by
  have h1 : (sizeOf e).run C.P w = .ok z w := by
   unfold Program.cellsOf at hc
   cases hi : C.P.info? e with
   | none => exact absurd hi hz
   | some i => simp [hi] at hc; simp [sizeOf, typeInfo, hi, hc]
  simp [execOp, rd_eval ha.knows hx, rd_eval ha.knows hy, Instr.indexAt, asIntOf, run_underlying ht, hi, h1]
theorem v_indexA {x y : Operand} {ad : Addr} {t e : TypeId} {n z : Nat} {k : IntKind} {i : Int} (ht : C.P.underlying t = some (.array n e)) (hz : C.P.info? e ≠ none) (hc : C.P.cellsOf e = z) (hx : rd l x = some (.pointer (some ad))) (hy : rd l y = some (.int k i))
  (hi : 0 ≤ i ∧ i < n) : OpV C l m ⟨dst, .indexAddr t x y, ty, pos, after, g⟩ (.pointer (some (ad.add (i.toNat * z)))) :=
 fun a w ha _ => by
  have h1 : (sizeOf e).run C.P w = .ok z w := by
   unfold Program.cellsOf at hc
   cases hi : C.P.info? e with
   | none => exact absurd hi hz
   | some i => simp [hi] at hc; simp [sizeOf, typeInfo, hi, hc]
  simp [execOp, rd_eval ha.knows hx, rd_eval ha.knows hy, Instr.indexAt, asIntOf, run_underlying ht, hi, h1, Instr.sureAddr]
theorem v_build {t : TypeId} {parts : Array (Nat × Operand)} {v : Value} (vs : List (Nat × Value)) (hp : rdParts l parts.toList = some vs)
  (h : ∀ w, (Instr.build t vs.toArray).run C.P w = .ok v w) : OpV C l m ⟨dst, .build t parts, ty, pos, after, g⟩ v :=
 fun a w ha _ => by
  have h1 : (parts.map fun (i, x) => (i, a.eval x)) = vs.toArray := by
   have := rdParts_eval ha.knows hp
   rw [← this]
   apply Array.ext'
   simp
  simp only [execOp, h1]
  simp [h w]
abbrev View := Addr → Option Value
def Cells (c : View) (ad : Addr) (cs : List Value) : Prop := ∀ j v, cs[j]? = some v → c (ad.add j) = some v
theorem v_load1 {x : Operand} {ad : Addr} {t : TypeId} {v : Value} {u : TypeDesc} (ht : C.P.underlying t = some u) (hu : (match u with | .struct _ | .array _ _ => true | _ => false) = false) (hx : rd l x = some (.pointer (some ad)))
  (h : ∀ w, St C.w0 C.F m w → w.cell? ad = some v) : OpV C l m ⟨dst, .load t x, ty, pos, after, g⟩ v :=
 fun a w ha hw => by
  have h1 : (isAgg t).run C.P w = .ok false w := by
   simp only [isAgg, Sem.run_bind, run_underlying ht, Result.andThen_ok]
   cases u <;> simp_all
  simp [execOp, rd_eval ha.knows hx, Instr.loadAt, Instr.sureAddr, loadVar, h1, run_load, h w hw]
theorem v_loadN {x : Operand} {ad : Addr} {t : TypeId} {cs : List Value} {u : TypeDesc} (ht : C.P.underlying t = some u) (hu : (match u with | .struct _ | .array _ _ => true | _ => false) = true) (hi : C.P.info? t ≠ none) (hn : C.P.cellsOf t = cs.length)
  (hx : rd l x = some (.pointer (some ad))) (h : ∀ w, St C.w0 C.F m w → Cells w.cell? ad cs) : OpV C l m ⟨dst, .load t x, ty, pos, after, g⟩ (.agg cs.toArray) :=
 fun a w ha hw => by
  have h1 : (isAgg t).run C.P w = .ok true w := by
   simp only [isAgg, Sem.run_bind, run_underlying ht, Result.andThen_ok]
   cases u <;> simp_all
  have h2 : (sizeOf t).run C.P w = .ok cs.length w := by
   unfold Program.cellsOf at hn
   cases hi' : C.P.info? t with
   | none => exact absurd hi' hi
   | some i => simp [hi'] at hn; simp [sizeOf, typeInfo, hi', hn]
  have h3 := run_loadCells_list (P := C.P) w ad cs (h w hw)
  simp [execOp, rd_eval ha.knows hx, Instr.loadAt, Instr.sureAddr, loadVar, h1, h2, h3]
theorem blk_cell {w : World} {b e : Nat} {cs : List Value} (h : (Chunk.blk b e cs).holds w) (i : Nat) : w.cell? ⟨b, i, none⟩ = cs[i]? := by
 simp only [Chunk.holds] at h
 simp [World.cell?, h]
theorem add_mk (b o i : Nat) : (⟨b, o, none⟩ : Addr).add i = ⟨b, o + i, none⟩ := by unfold Addr.add; split <;> simp_all
theorem blk_cells {w : World} {b e : Nat} {cs cs' : List Value} (h : (Chunk.blk b e cs).holds w) (o : Nat) (hc : ∀ j v, cs'[j]? = some v → cs[o + j]? = some v) : Cells w.cell? ⟨b, o, none⟩ cs' :=
 fun j v hv => by rw [add_mk, blk_cell h]; exact hc j v hv
theorem v_fieldAddrB {x : Operand} {b ob : Nat} {t : TypeId} {i o : Nat} {fs : Array Field} {f : Field} (ht : C.P.underlying t = some (.struct fs)) (hf : fs[i]? = some f) (ho : f.offset = o) (hs : C.P.cellsOf f.type ≠ 0)
  (hx : rd l x = some (.pointer (some ⟨b, ob, none⟩))) : OpV C l m ⟨dst, .fieldAddr t x i, ty, pos, after, g⟩ (.pointer (some ⟨b, ob + o, none⟩)) := by
 have := v_fieldAddr (m := m) (dst := dst) (ty := ty) (pos := pos) (after := after) (g := g) ht hf ho hs hx
 rwa [add_mk] at this
theorem v_indexSB {x y : Operand} {b ob : Nat} {t e : TypeId} {n c z : Nat} {k : IntKind} {i : Int} (ht : C.P.underlying t = some (.slice e)) (hz : C.P.info? e ≠ none) (hc : C.P.cellsOf e = z) (hx : rd l x = some (.slice (some ⟨b, ob, none⟩) n c)) (hy : rd l y = some (.int k i))
  (hi : 0 ≤ i ∧ i < n) : OpV C l m ⟨dst, .indexAddr t x y, ty, pos, after, g⟩ (.pointer (some ⟨b, ob + i.toNat * z, none⟩)) := by
 have := v_indexS (m := m) (dst := dst) (ty := ty) (pos := pos) (after := after) (g := g) ht hz hc hx hy hi
 rwa [add_mk] at this
theorem v_indexAB {x y : Operand} {b ob : Nat} {t e : TypeId} {n z : Nat} {k : IntKind} {i : Int} (ht : C.P.underlying t = some (.array n e)) (hz : C.P.info? e ≠ none) (hc : C.P.cellsOf e = z) (hx : rd l x = some (.pointer (some ⟨b, ob, none⟩))) (hy : rd l y = some (.int k i))
  (hi : 0 ≤ i ∧ i < n) : OpV C l m ⟨dst, .indexAddr t x y, ty, pos, after, g⟩ (.pointer (some ⟨b, ob + i.toNat * z, none⟩)) := by
 have := v_indexA (m := m) (dst := dst) (ty := ty) (pos := pos) (after := after) (g := g) ht hz hc hx hy hi
 rwa [add_mk] at this
theorem v_loadB {x : Operand} {b o e : Nat} {t : TypeId} {v : Value} {u : TypeDesc} {cs : List Value} (i : Nat) (hm : m[i]? = some (.blk b e cs)) (ht : C.P.underlying t = some u) (hu : (match u with | .struct _ | .array _ _ => true | _ => false) = false)
  (hx : rd l x = some (.pointer (some ⟨b, o, none⟩))) (hv : cs[o]? = some v) : OpV C l m ⟨dst, .load t x, ty, pos, after, g⟩ v :=
 v_load1 ht hu hx fun _ hw => by rw [blk_cell (hw.mem hm)]; exact hv
theorem v_loadBN {x : Operand} {b o e n : Nat} {t : TypeId} {u : TypeDesc} {cs cs' : List Value} (i : Nat) (hm : m[i]? = some (.blk b e cs)) (ht : C.P.underlying t = some u) (hu : (match u with | .struct _ | .array _ _ => true | _ => false) = true) (hi : C.P.info? t ≠ none) (hn : C.P.cellsOf t = n)
  (hx : rd l x = some (.pointer (some ⟨b, o, none⟩))) (hc : (cs.drop o).take n = cs') (hl : cs'.length = n) : OpV C l m ⟨dst, .load t x, ty, pos, after, g⟩ (.agg cs'.toArray) :=
 v_loadN ht hu hi (hn.trans hl.symm) hx fun _ hw => blk_cells (hw.mem hm) o fun j v hv => by
  rw [← hc, List.getElem?_take] at hv
  split at hv
  ·rwa [List.getElem?_drop] at hv
  ·cases hv
theorem v_loadBA {x : Operand} {b e : Nat} {t : TypeId} {u : TypeDesc} {cs : List Value} (i : Nat) (hm : m[i]? = some (.blk b e cs)) (ht : C.P.underlying t = some u) (hu : (match u with | .struct _ | .array _ _ => true | _ => false) = true) (hi : C.P.info? t ≠ none) (hn : C.P.cellsOf t = cs.length)
  (hx : rd l x = some (.pointer (some ⟨b, 0, none⟩))) : OpV C l m ⟨dst, .load t x, ty, pos, after, g⟩ (.agg cs.toArray) :=
 v_loadN ht hu hi hn hx fun _ hw => blk_cells (hw.mem hm) 0 fun j v hv => by simpa using hv
theorem v_indexV {x y : Operand} {t e : TypeId} {n : Nat} {k : IntKind} {i : Int} {cs : Array Value} {v : Value} {u : TypeDesc} (ht : C.P.underlying t = some (.array n e)) (hu : C.P.underlying e = some u) (hg : (match u with | .struct _ | .array _ _ => true | _ => false) = false)
  (hz : C.P.info? e ≠ none) (hc : C.P.cellsOf e = 1) (hx : rd l x = some (.agg cs)) (hy : rd l y = some (.int k i)) (hi : 0 ≤ i ∧ i < n) (hv : cs[i.toNat]? = some v) : OpV C l m ⟨dst, .index t x y, ty, pos, after, g⟩ v :=
 fun a w ha _ => by
  have h1 : (sizeOf e).run C.P w = .ok 1 w := by
   unfold Program.cellsOf at hc
   cases hi : C.P.info? e with
   | none => exact absurd hi hz
   | some i => simp [hi] at hc; simp [sizeOf, typeInfo, hi, hc]
  have h2 : (isAgg e).run C.P w = .ok false w := by
   simp only [isAgg, Sem.run_bind, run_underlying hu, Result.andThen_ok]
   cases u <;> simp_all
  simp [execOp, rd_eval ha.knows hx, rd_eval ha.knows hy, Instr.index, asIntOf, run_underlying ht, hi, h1, h2, part, hv]
theorem v_indexVN {x y : Operand} {t e z : Nat} {n : Nat} {k : IntKind} {i : Int} {cs : Array Value} {u : TypeDesc} (ht : C.P.underlying t = some (.array n e)) (hu : C.P.underlying e = some u) (hg : (match u with | .struct _ | .array _ _ => true | _ => false) = true)
  (hz : C.P.info? e ≠ none) (hc : C.P.cellsOf e = z) (hx : rd l x = some (.agg cs)) (hy : rd l y = some (.int k i)) (hi : 0 ≤ i ∧ i < n) : OpV C l m ⟨dst, .index t x y, ty, pos, after, g⟩ (.agg (cs.extract (i.toNat * z) (i.toNat * z + z))) :=
 fun a w ha _ => by
  have h1 : (sizeOf e).run C.P w = .ok z w := by
   unfold Program.cellsOf at hc
   cases hi : C.P.info? e with
   | none => exact absurd hi hz
   | some i => simp [hi] at hc; simp [sizeOf, typeInfo, hi, hc]
  have h2 : (isAgg e).run C.P w = .ok true w := by
   simp only [isAgg, Sem.run_bind, run_underlying hu, Result.andThen_ok]
   cases u <;> simp_all
  simp [execOp, rd_eval ha.knows hx, rd_eval ha.knows hy, Instr.index, asIntOf, run_underlying ht, hi, h1, h2, part]
end
end Go.SL
end
section
namespace Go.SL
open Go.RowKit
set_option linter.unusedSectionVars false
def Rds (c : View) (v : Value) (size n : Nat) (xs : List Value) : Prop :=
 ∃ A k, v = .slice A n k ∧ n ≤ k ∧ xs.length = n * size ∧ (0 < n → ∃ ad, A = some ad ∧ Cells c ad xs)
def ownG (v : Value) (e size n : Nat) (xs : List Value) : Gen where
 foot := fun b => v.ownBlock = some b
 holds := fun w => w.ownsRow 0 e size v n xs
 lt := fun h hb => (h.lt _ hb).2
 stable := fun {w w'} hs h => by
  rcases h with ⟨h1, h2 | ⟨g, cap, cur, hv, h3, h4, h5⟩⟩
  ·exact ⟨h1, .inl h2⟩
  ·refine ⟨h1, .inr ⟨g, cap, cur, hv, h3, ?_, h5⟩⟩
   rw [hs g (by simp [hv, Value.ownBlock])]
   exact h4
abbrev Own (v : Value) (e size n : Nat) (xs : List Value) : Chunk := .gen (ownG v e size n xs)
theorem own_rds {w : World} {v : Value} {e size n : Nat} {xs : List Value} (h : (Own v e size n xs).holds w) : Rds w.cell? v size n xs := by
 have h : w.ownsRow 0 e size v n xs := h
 have hc := h
 rcases h with ⟨h1, ⟨rfl, rfl⟩ | ⟨g, cap, cur, rfl, h3, h4, h5, h6, h7, h8⟩⟩
 ·exact ⟨none, 0, rfl, Nat.le_refl _, by simpa using h1, fun hn => absurd hn (by omega)⟩
 ·exact ⟨_, cap, rfl, h5, h1, fun _ => ⟨_, rfl, hc.cells rfl⟩⟩
theorem own_nil (w : World) (e size : Nat) : (Own (.slice none 0 0) e size 0 []).holds w := World.ownsRow_nil _ _ _ _
section
variable {C : Cx} {ks : List Kt} {l : Fr} {m : Hp} {ops : Array Oper} {rest : List Oper} {op : Op} {ty : TypeId} {pos : String} {after : Array Edge} {d : Nat} {dst : Option Nat} {g : Option (Nat × Bool)}
theorem w_heap {m' : Hp} {os : List Oper} (hs : ∀ w, St C.w0 C.F m w → St C.w0 C.F m' w) (h : W C ops os ks l m') : W C ops os ks l m := fun a w ha hw => h a w ha (hs w hw)
theorem St.ownNil {w0 w : World} {F : Nat → Prop} (e size : Nat) (h : St w0 F m w) : St w0 F (Own (.slice none 0 0) e size 0 [] :: m) w := by
 refine ⟨h.chg, ?_, List.pairwise_cons.2 ⟨fun c _ b hb => by simp [Chunk.foot, ownG, Value.ownBlock] at hb, h.sep⟩, ?_⟩
 ·intro c hc
  rcases List.mem_cons.1 hc with rfl | hc
  ·exact own_nil w e size
  ·exact h.hold c hc
 ·intro c hc b hb
  rcases List.mem_cons.1 hc with rfl | hc
  ·simp [Chunk.foot, ownG, Value.ownBlock] at hb
  ·exact h.own c hc b hb
theorem x_box {Φ : Act → World → Prop} {Q : Exit → Act → World → Prop} {x : Operand} {v : Value} {e : TypeId} (hx : rd l x = some v) (hd : Nat.blt d C.N = true) (h : ∀ b, G C ((d, .pointer (some ⟨b, 0, none⟩)) :: l) (.blk b e v.cells.toList :: m) Φ) :
  G C l m (fun a w => Oper.wp C.P ⟨some d, .box e x, ty, pos, after, none⟩ a w Φ Q) := by
 intro a w ha hw
 have : (execOp a.eval (⟨some d, .box e x, ty, pos, after, none⟩ : Oper)).run C.P w = .ok (.value (.pointer (some ⟨w.heap.size, 0, none⟩))) (w.alloc (.cells v.cells.toList.toArray e)) := by
  simp [execOp, rd_eval ha.knows hx, Instr.box, newVar, newRow]
 unfold Oper.wp
 rw [this]
 exact h w.heap.size _ _ (ha.put (Nat.le_of_ble_eq_true hd)) (hw.alloc e _)
theorem x_alloc {Φ : Act → World → Prop} {Q : Exit → Act → World → Prop} {z : Value} {e : TypeId} (hz : ∀ w, (zeroValue e).run C.P w = .ok z w) (hd : Nat.blt d C.N = true) (h : ∀ b, G C ((d, .pointer (some ⟨b, 0, none⟩)) :: l) (.blk b e z.cells.toList :: m) Φ) :
  G C l m (fun a w => Oper.wp C.P ⟨some d, .alloc e, ty, pos, after, none⟩ a w Φ Q) := by
 intro a w ha hw
 have : (execOp a.eval (⟨some d, .alloc e, ty, pos, after, none⟩ : Oper)).run C.P w = .ok (.value (.pointer (some ⟨w.heap.size, 0, none⟩))) (w.alloc (.cells z.cells.toList.toArray e)) := by
  simp [execOp, Instr.alloc, newVar, newRow, hz]
 unfold Oper.wp
 rw [this]
 exact h w.heap.size _ _ (ha.put (Nat.le_of_ble_eq_true hd)) (hw.alloc e _)
theorem run_store_blk {P : Program} {w : World} {b e : Nat} {cs : List Value} (hb : (Chunk.blk b e cs).holds w) {t : TypeId} {o : Nat} {v : Value} (hi : P.info? t ≠ none) (hn : P.cellsOf t = v.cells.size)
  (ho : o + v.cells.size ≤ cs.length) (h1 : ∀ u ∈ v.cells.toList, u.oneCell' = true) :
  ∃ w', (Instr.storeAt t (.pointer (some ⟨b, o, none⟩)) v).run P w = .ok () w' ∧ Res w [.blk b e cs] [.blk b e (cs.take o ++ v.cells.toList ++ cs.drop (o + v.cells.size))] w' := by
 have hb' : w.heap[b]? = some (.cells cs.toArray e (0, 0)) := hb
 have hs := run_storeCells_at P b o e v.cells.toList 0 cs.toArray w hb' (by simpa using ho) h1
 have h2 : (sizeOf t).run P w = .ok v.cells.size w := by
  unfold Program.cellsOf at hn
  cases hi' : P.info? t with
  | none => exact absurd hi' hi
  | some i => simp [hi'] at hn; simp [sizeOf, typeInfo, hi', hn]
 refine ⟨_, by simp only [Instr.storeAt, Instr.sureAddr, storeVar, Sem.run_bind, Sem.run_pure, Result.andThen_ok, h2]; simp; exact hs, ?_⟩
 simp only [Nat.add_zero, Array.length_toList]
 have hlt := lt_of_heap hb'
 refine ⟨⟨rfl, rfl, rfl, by simp [World.setRow], fun k hk hne => ?_⟩, ?_, by simp, ?_⟩
 ·have hkb : k ≠ b := fun e => hne ⟨_, List.mem_singleton.2 rfl, e⟩
  simp [World.setRow, Array.getElem?_modify, Ne.symm hkb]
 ·intro c hc
  simp only [List.mem_singleton] at hc
  subst hc
  simp [Chunk.holds, World.setRow, Array.getElem?_modify, hb']
 ·intro c hc k hk
  simp only [List.mem_singleton] at hc
  subst hc
  exact .inr ⟨_, List.mem_singleton.2 rfl, hk⟩
theorem x_store {Φ : Act → World → Prop} {Q : Exit → Act → World → Prop} {x y : Operand} {v : Value} {t : TypeId} {b e o : Nat} {cs : List Value} (i : Nat) (hm : m[i]? = some (.blk b e cs)) (hx : rd l x = some (.pointer (some ⟨b, o, none⟩))) (hy : rd l y = some v)
  (hi : C.P.info? t ≠ none) (hn : C.P.cellsOf t = v.cells.size) (ho : o + v.cells.size ≤ cs.length) (h1 : ∀ u ∈ v.cells.toList, u.oneCell' = true) (cs' : List Value) (hcs : cs.take o ++ v.cells.toList ++ cs.drop (o + v.cells.size) = cs')
  (h : G C l (m.set i (.blk b e cs')) Φ) : G C l m (fun a w => Oper.wp C.P ⟨none, .store t x y, ty, pos, after, none⟩ a w Φ Q) := by
 intro a w ha hw
 obtain ⟨w', hr, hres⟩ := run_store_blk (P := C.P) (hw.mem hm) hi hn ho h1
 have : (execOp a.eval (⟨none, .store t x y, ty, pos, after, none⟩ : Oper)).run C.P w = .ok .skip w' := by
  simp only [execOp, rd_eval ha.knows hx, rd_eval ha.knows hy, Sem.run_bind, hr, Result.andThen_ok, Sem.run_pure]
 unfold Oper.wp
 rw [this]
 rw [hcs] at hres
 exact h _ _ ha (hw.at_ hm hres)
theorem x_store1 {Φ : Act → World → Prop} {Q : Exit → Act → World → Prop} {x y : Operand} {v : Value} {t : TypeId} {b e o : Nat} {cs : List Value} (i : Nat) (hm : m[i]? = some (.blk b e cs)) (hx : rd l x = some (.pointer (some ⟨b, o, none⟩))) (hy : rd l y = some v)
  (hi : C.P.info? t ≠ none) (hn : C.P.cellsOf t = 1) (hc : v.cells = #[v]) (ho : o < cs.length) (h1 : v.oneCell' = true)
  (h : G C l (m.set i (.blk b e (cs.set o v))) Φ) : G C l m (fun a w => Oper.wp C.P ⟨none, .store t x y, ty, pos, after, none⟩ a w Φ Q) :=
 x_store i hm hx hy hi (by rw [hc, hn]; rfl) (by rw [hc]; exact ho) (by rw [hc]; simpa using h1) (cs.set o v) (by rw [hc]; simp [List.set_eq_take_append_cons_drop, ho]) h
theorem x_storeA {Φ : Act → World → Prop} {Q : Exit → Act → World → Prop} {x y : Operand} {vs : Array Value} {t : TypeId} {b e : Nat} {cs : List Value} (i : Nat) (hm : m[i]? = some (.blk b e cs)) (hx : rd l x = some (.pointer (some ⟨b, 0, none⟩))) (hy : rd l y = some (.agg vs))
  (hi : C.P.info? t ≠ none) (hn : C.P.cellsOf t = vs.size) (ho : vs.size = cs.length) (h1 : ∀ u ∈ vs.toList, u.oneCell' = true)
  (h : G C l (m.set i (.blk b e vs.toList)) Φ) : G C l m (fun a w => Oper.wp C.P ⟨none, .store t x y, ty, pos, after, none⟩ a w Φ Q) :=
 x_store i hm hx hy hi hn (by simp [Value.cells]; omega) h1 vs.toList (by simp [Value.cells, ho]) h
theorem x_call {Φ : Act → World → Prop} {Q : Exit → Act → World → Prop} {f : FuncId} {fx : Operand} {xs : Array Operand} {ats : Array TypeId} {cap args : Array Value} {vs : List Value} {mc mr : Hp} {σ : Type} (J : σ → Prop) (val : σ → Value) (mc' : σ → Hp)
  (hf : rd l fx = some (.func (.func f) #[] cap)) (hx : rdAll l xs.toList = some vs) (hargs : (vs ++ cap.toList).toArray = args)
  (hcall : ∀ args w, (callFunc f args).run C.P w = .ok (.enter f args) w)
  (hc : ∀ w, St C.w0 C.F (mc ++ mr) w → Calls C.P f args w (fun e w' => ∃ s, J s ∧ e = .returned (val s) ∧ Res w mc (mc' s) w'))
  (hd : (match dst with | some d => Nat.blt d C.N | none => true) = true)
  (h : ∀ s, J s → G C (match dst with | some d => (d, val s) :: l | none => l) (mc' s ++ mr) Φ) :
  G C l (mc ++ mr) (fun a w => Oper.wp C.P ⟨dst, .call ⟨.value fx, xs, ats⟩, ty, pos, after, none⟩ a w Φ Q) := by
 intro a w ha hw
 have h1 : xs.map a.eval = vs.toArray := by
  have := rdAll_eval ha.knows hx
  rw [← this]
  apply Array.ext'
  simp
 have hargs : vs.toArray ++ cap = args := by rw [← hargs]; simp
 have : (execOp a.eval (⟨dst, .call ⟨.value fx, xs, ats⟩, ty, pos, after, none⟩ : Oper)).run C.P w = .ok (.enter f args) w := by
  simp only [execOp, resolve, h1, rd_eval ha.knows hf, Deferred.ofValue, Sem.run_bind, Sem.run_pure, Result.andThen_ok, invoke, Array.empty_append, hargs, hcall]
 unfold Oper.wp
 rw [this]
 refine (hc w hw).mono ?_
 rintro e w' ⟨s, hJ, rfl, hr⟩
 cases dst with
 | some d => exact h s hJ _ _ (ha.put (Nat.le_of_ble_eq_true hd)) (hw.call hr)
 | none => exact h s hJ _ _ ha (hw.call hr)
theorem x_call0 {Φ : Act → World → Prop} {Q : Exit → Act → World → Prop} {f : FuncId} {fx : Operand} {xs : Array Operand} {ats : Array TypeId} {cap args : Array Value} {vs : List Value} {v : Value}
  (hf : rd l fx = some (.func (.func f) #[] cap)) (hx : rdAll l xs.toList = some vs) (hargs : (vs ++ cap.toList).toArray = args)
  (hcall : ∀ args w, (callFunc f args).run C.P w = .ok (.enter f args) w) (hd : Nat.blt d C.N = true)
  (hc : ∀ w, St C.w0 C.F m w → Calls C.P f args w (fun e w' => e = .returned v ∧ Res w [] [] w'))
  (h : G C ((d, v) :: l) m Φ) : G C l m (fun a w => Oper.wp C.P ⟨some d, .call ⟨.value fx, xs, ats⟩, ty, pos, after, none⟩ a w Φ Q) :=
 x_call (dst := some d) (mc := []) (mr := m) (σ := Unit) (fun _ => True) (fun _ => v) (fun _ => []) hf hx hargs hcall (fun w hw => (hc w hw).mono fun _ _ ⟨h1, h2⟩ => ⟨(), trivial, h1, h2⟩) hd (fun _ _ => h)
theorem g_sub {m' : Hp} {Φ : Act → World → Prop} (hp : m'.Sublist m) (h : G C l m' Φ) : G C l m Φ := fun a w ha hw => h a w ha (hw.sub hp)
theorem run_append_rds {P : Program} {w : World} (t ty e : TypeId) (i : TypeInfo) (z : Value) (size bytes : Nat) (ht : P.underlying t = some (.slice e)) (hi : P.info? e = some i) (hz : i.zero = some z)
    (hsize : i.size = size) (hby : i.bytes = bytes) (hzs : z.cells.size = size) (hsz : 0 < size) {v x : Value} {n k : Nat} {xs news : List Value} (hown : (Own v e size n xs).holds w) (hr : Rds w.cell? x size k news)
    (h1 : ∀ u ∈ news, u.oneCell' = true) (hb : (n + k) * bytes ≤ 140737488355328) (h63 : n + k ≤ maxLen) :
    ∃ v' w', (Builtin.append_ #[t, t] ty #[v, x]).run P w = .ok v' w' ∧ Res w [Own v e size n xs] [Own v' e size (n + k) (xs ++ news)] w' := by
  obtain ⟨A, c, rfl, _, hl, hcell⟩ := hr
  have hown' : w.ownsRow 0 e size v n xs := hown
  have fin : ∀ v' w', w'.ownsRow 0 e size v' (n + k) (xs ++ news) → w.grownBy w' v.ownBlock → (v'.ownBlock = v.ownBlock ∨ v'.ownBlock = some w.heap.size) →
      Res w [Own v e size n xs] [Own v' e size (n + k) (xs ++ news)] w' := by
    intro v' w' h2 h3 h4
    refine ⟨⟨h3.os, h3.tape, h3.output, h3.size, fun b hb hn => h3.block b hb (fun he => hn ⟨_, List.mem_singleton.2 rfl, he.symm⟩)⟩, ?_, by simp, ?_⟩
    · intro c hc
      simp only [List.mem_singleton] at hc
      subst hc
      exact h2
    · intro c hc b hb
      simp only [List.mem_singleton] at hc
      subst hc
      have hb : v'.ownBlock = some b := hb
      rcases h4 with h4 | h4
      · exact .inr ⟨_, List.mem_singleton.2 rfl, h4.symm.trans hb⟩
      · rw [h4] at hb
        injection hb with hb
        left; omega
  rcases Nat.eq_zero_or_pos k with h0 | h0
  · subst h0
    have hn : news = [] := List.eq_nil_of_length_eq_zero (by simpa using hl)
    subst hn
    cases A with
    | none =>
      refine ⟨v, w, ?_, fin _ _ (by simpa using hown') (World.grownBy.refl w _) (.inl rfl)⟩
      rcases hown'.2 with ⟨rfl, rfl⟩ | ⟨g, cap, cur, rfl, _, _, hnc, _⟩
      · simp [Builtin.append_, run_underlying ht, sizeOf, typeInfo, hi, Builtin.lenOf, Builtin.firstCells]
      · simp [Builtin.append_, run_underlying ht, sizeOf, typeInfo, hi, Builtin.lenOf, Builtin.firstCells, hnc, storeCells]
    | some ad =>
      obtain ⟨v', w', hrun, h2, h3, _, h5⟩ := run_append_own_at (P := P) w 0 t ty e i z size bytes ht hi hz hsize hby hzs hsz v n xs hown' ad 0 c [] (by simp) (by simp) (by simp) h63 hb (Nat.zero_le _)
      exact ⟨v', w', hrun, fin _ _ h2 h3 h5⟩
  · obtain ⟨ad, rfl, hc⟩ := hcell h0
    obtain ⟨v', w', hrun, h2, h3, _, h5⟩ := run_append_own_at (P := P) w 0 t ty e i z size bytes ht hi hz hsize hby hzs hsz v n xs hown' ad k c news hl hc h1 h63 hb (Nat.zero_le _)
    exact ⟨v', w', hrun, fin _ _ h2 h3 h5⟩
theorem x_append {Φ : Act → World → Prop} {Q : Exit → Act → World → Prop} {s x : Operand} {t e : TypeId} {inf : TypeInfo} {z v vx : Value} {size bytes n k : Nat} {xs news : List Value} (i : Nat) (hm : m[i]? = some (Own v e size n xs)) (hs : rd l s = some v) (hx : rd l x = some vx)
  (ht : C.P.underlying t = some (.slice e)) (hi : C.P.info? e = some inf) (hz : inf.zero = some z) (hsize : inf.size = size) (hby : inf.bytes = bytes) (hzs : z.cells.size = size) (hsz : 0 < size)
  (hr : ∀ w, St C.w0 C.F m w → Rds w.cell? vx size k news) (h1 : ∀ u ∈ news, u.oneCell' = true) (hb : (n + k) * bytes ≤ 140737488355328) (h63 : n + k ≤ maxLen) (hd : Nat.blt d C.N = true)
  (h : ∀ v', G C ((d, v') :: l) (m.set i (Own v' e size (n + k) (xs ++ news))) Φ) :
  G C l m (fun a w => Oper.wp C.P ⟨some d, .call ⟨.builtin .append, #[s, x], #[t, t]⟩, ty, pos, after, none⟩ a w Φ Q) := by
 intro a w ha hw
 obtain ⟨v', w', hrun, hres⟩ := run_append_rds (P := C.P) t ty e inf z size bytes ht hi hz hsize hby hzs hsz (hw.mem hm) (hr w hw) h1 hb h63
 have : (execOp a.eval (⟨some d, .call ⟨.builtin .append, #[s, x], #[t, t]⟩, ty, pos, after, none⟩ : Oper)).run C.P w = .ok (.value v') w' := by
  simp [execOp, resolve, invoke, builtin, rd_eval ha.knows hs, rd_eval ha.knows hx, hrun]
 unfold Oper.wp
 rw [this]
 exact h v' _ _ (ha.put (Nat.le_of_ble_eq_true hd)) (hw.at_ hm hres)
theorem x_buildSlice {Φ : Act → World → Prop} {Q : Exit → Act → World → Prop} {t e : TypeId} {n : Nat} {parts : Array (Nat × Operand)} (vs : List (Nat × Value)) (cs : List Value) (hp : rdParts l parts.toList = some vs)
  (h0 : ∀ w, (Instr.buildSlice t n vs.toArray).run C.P w = .ok (.slice (some ⟨w.heap.size, 0, none⟩) n n) (w.alloc (.cells cs.toArray e))) (hd : Nat.blt d C.N = true)
  (h : ∀ b, G C ((d, .slice (some ⟨b, 0, none⟩) n n) :: l) (.blk b e cs :: m) Φ) : G C l m (fun a w => Oper.wp C.P ⟨some d, .buildSlice t n parts, ty, pos, after, none⟩ a w Φ Q) := by
 intro a w ha hw
 have h1 : (parts.map fun (i, x) => (i, a.eval x)) = vs.toArray := by
  have := rdParts_eval ha.knows hp
  rw [← this]
  apply Array.ext'
  simp
 have : (execOp a.eval (⟨some d, .buildSlice t n parts, ty, pos, after, none⟩ : Oper)).run C.P w = .ok (.value (.slice (some ⟨w.heap.size, 0, none⟩) n n)) (w.alloc (.cells cs.toArray e)) := by
  simp only [execOp, h1, Sem.run_bind, h0 w, Result.andThen_ok, Sem.run_pure]
 unfold Oper.wp
 rw [this]
 exact h w.heap.size _ _ (ha.put (Nat.le_of_ble_eq_true hd)) (hw.alloc e _)
end
def frOf : Nat → List Value → Fr
 | _, [] => []
 | i, v :: vs => (i, v) :: frOf (i + 1) vs
theorem look_frOf : ∀ (vs : List Value) (i t : Nat) (v : Value), look (frOf i vs) t = some v → i ≤ t ∧ vs[t - i]? = some v
 | [], _, _, _, h => by cases h
 | u :: vs, i, t, v, h => by
  simp only [frOf, look] at h
  cases hb : Nat.beq i t with
  | true =>
   rw [hb] at h
   have := Nat.eq_of_beq_eq_true hb
   subst this
   simp at h
   simp [h]
  | false =>
   rw [hb] at h
   have := look_frOf vs (i + 1) t v h
   obtain ⟨h1, h2⟩ := this
   have e : t - i = (t - (i + 1)) + 1 := by omega
   exact ⟨by omega, by rw [e]; simpa using h2⟩
theorem enter {P : Program} {f : FuncId} {fn : Func} {c : Code} {vs : List Value} {w : World} {R : Ending → World → Prop} {mc : Hp} {N : Nat} (hf : P.funcs[f]? = some fn) (hb : fn.body = some c) (hN : fn.ntmps = N) (hlen : Nat.ble vs.length N = true)
  (hold : ∀ c ∈ mc, c.holds w) (sep : mc.Pairwise Disj) (h : E ⟨P, N, w, feet mc, bodyPost P fn R, []⟩ [.code c] (frOf 0 vs) mc) : Calls P f vs.toArray w R := by
 have hl := Nat.le_of_ble_eq_true hlen
 refine calls_of_wp hf hb ?_
 have h1 := h { tmps := vs.toArray ++ Array.replicate (fn.ntmps - vs.toArray.size) undef, defers := [] } w ⟨by simp [hN]; omega, rfl, ?_⟩ (St.start hold sep)
 ·refine wp_mono h1 fun e a w hq => ?_
  cases e <;> exact hq
 ·intro t v ht
  have := look_frOf vs 0 t v ht
  simp only [Nat.sub_zero, Nat.zero_le, true_and] at this
  have hlt : t < vs.length := (List.getElem?_eq_some_iff.1 this).1
  simp only [Array.getElem?_append, List.size_toArray, hlt, if_true, List.getElem?_toArray, this]
theorem enter0 {P : Program} {f : FuncId} {fn : Func} {c : Code} {vs : List Value} {w : World} {R : Ending → World → Prop} {N : Nat} (hf : P.funcs[f]? = some fn) (hb : fn.body = some c) (hN : fn.ntmps = N) (hlen : Nat.ble vs.length N = true)
  (h : E ⟨P, N, w, feet [], bodyPost P fn R, []⟩ [.code c] (frOf 0 vs) []) : Calls P f vs.toArray w R :=
 enter hf hb hN hlen (by simp) (by simp) h
def isAggD (P : Program) (ty : TypeId) : Option Bool := (P.underlying ty).map fun | .struct _ | .array _ _ => true | _ => false
def ResV (P : Program) (l : Fr) (m : Hp) : ResultVar → Value → Prop
 | .tmp t, v => look l t = some v
 | .cell t ty, v => ∃ b e, look l t = some (.pointer (some ⟨b, 0, none⟩)) ∧ ∃ cs : List Value, .blk b e cs ∈ m ∧ ((isAggD P ty = some false ∧ cs[0]? = some v) ∨ (v = .agg cs.toArray ∧ isAggD P ty = some true ∧ P.cellsOf ty = cs.length ∧ P.info? ty ≠ none))
theorem ResV.tmp {P : Program} {l : Fr} {m : Hp} {t : Nat} {v : Value} (h : look l t = some v) : ResV P l m (.tmp t) v := h
theorem ResV.agg {P : Program} {l : Fr} {m : Hp} {t ty b e : Nat} {cs : List Value} (i : Nat) (hm : m[i]? = some (.blk b e cs)) (h : look l t = some (.pointer (some ⟨b, 0, none⟩))) (ha : isAggD P ty = some true) (hn : P.cellsOf ty = cs.length) (hi : P.info? ty ≠ none) :
  ResV P l m (.cell t ty) (.agg cs.toArray) := ⟨b, e, h, cs, List.mem_of_getElem? hm, .inr ⟨rfl, ha, hn, hi⟩⟩
theorem ResV.one {P : Program} {l : Fr} {m : Hp} {t ty b e : Nat} {cs : List Value} {v : Value} (i : Nat) (hm : m[i]? = some (.blk b e cs)) (h : look l t = some (.pointer (some ⟨b, 0, none⟩))) (ha : isAggD P ty = some false) (hn : cs[0]? = some v) :
  ResV P l m (.cell t ty) v := ⟨b, e, h, cs, List.mem_of_getElem? hm, .inl ⟨ha, hn⟩⟩
def resSem (tmps : Array Value) : ResultVar → Sem Value
 | .tmp t => pure (tmps.getD t undef)
 | .cell a t => do loadVar t (← asAddr (tmps.getD a undef))
theorem ResV.run {P : Program} {l : Fr} {m : Hp} {r : ResultVar} {v : Value} (h : ResV P l m r v) {a : Act} {w : World} (hk : Knows a l) (hm : ∀ c ∈ m, c.holds w) : (resSem a.tmps r).run P w = .ok v w := by
 cases r with
 | tmp t => have := hk t v h; simp [resSem, this]
 | cell t ty =>
  obtain ⟨b, e, h1, cs, h2, h3⟩ := h
  have ht := hk t _ h1
  have hb := hm _ h2
  have hag : ∀ x, isAggD P ty = some x → (isAgg ty).run P w = .ok x w := by
   intro x hx
   unfold isAggD at hx
   cases hu : P.underlying ty with
   | none => simp [hu] at hx
   | some u =>
    simp only [hu, Option.map_some] at hx
    simp only [isAgg, Sem.run_bind, run_underlying hu, Result.andThen_ok]
    cases u <;> simp_all
  rcases h3 with ⟨h3, h4⟩ | ⟨rfl, h3, h4, h5⟩
  ·have hc : w.cell? ⟨b, 0, none⟩ = some v := by rw [blk_cell hb]; exact h4
   simp [resSem, ht, asAddr, loadVar, hag _ h3, run_load, hc]
  ·have h2 : (sizeOf ty).run P w = .ok cs.length w := by
    unfold Program.cellsOf at h4
    cases hi' : P.info? ty with
    | none => exact absurd hi' h5
    | some i => simp [hi'] at h4; simp [sizeOf, typeInfo, hi', h4]
   have h6 := run_loadCells_list (P := P) w ⟨b, 0, none⟩ cs (blk_cells hb 0 (fun j v hv => by simpa using hv))
   simp [resSem, ht, asAddr, loadVar, hag _ h3, h2, h6]
section
variable {P : Program} {N : Nat} {w0 : World} {F : Nat → Prop} {fn : Func} {R : Ending → World → Prop} {l : Fr} {m : Hp} {ks : List Kt}
theorem results_eq (fn : Func) (tmps : Array Value) : results fn tmps = (do let vs ← fn.results.mapM (resSem tmps); pure (if h : vs.size = 1 then vs[0] else .tuple vs)) := by
 unfold results
 congr 1
theorem q_ret0 (hr : fn.results = #[]) (h : ∀ w, St w0 F m w → R (.returned (.tuple #[])) w) : ∀ a w, Ok ⟨P, N, w0, F, bodyPost P fn R, []⟩ l a → St w0 F m w → (bodyPost P fn R .ret a w ∧ bodyPost P fn R .normal a w) :=
 fun a w ha hw => have h1 : a.defers = [] ∧ ∃ v, (results fn a.tmps).run P w = .ok v w ∧ R (.returned v) w := ⟨ha.defers, _, by simp [results_eq, hr], h w hw⟩; ⟨h1, h1⟩
theorem q_ret1 {r : ResultVar} {v : Value} (hr : fn.results = #[r]) (hv : ResV P l m r v) (h : ∀ w, St w0 F m w → R (.returned v) w) :
  ∀ a w, Ok ⟨P, N, w0, F, bodyPost P fn R, []⟩ l a → St w0 F m w → (bodyPost P fn R .ret a w ∧ bodyPost P fn R .normal a w) :=
 fun a w ha hw => have h1 : a.defers = [] ∧ ∃ v, (results fn a.tmps).run P w = .ok v w ∧ R (.returned v) w := ⟨ha.defers, _, by simp [results_eq, hr, hv.run ha.knows hw.hold], h w hw⟩; ⟨h1, h1⟩
theorem q_ret2 {r r2 : ResultVar} {v v2 : Value} (hr : fn.results = #[r, r2]) (hv : ResV P l m r v) (hv2 : ResV P l m r2 v2) (h : ∀ w, St w0 F m w → R (.returned (.tuple #[v, v2])) w) :
  ∀ a w, Ok ⟨P, N, w0, F, bodyPost P fn R, []⟩ l a → St w0 F m w → (bodyPost P fn R .ret a w ∧ bodyPost P fn R .normal a w) :=
 fun a w ha hw => have h1 : a.defers = [] ∧ ∃ v, (results fn a.tmps).run P w = .ok v w ∧ R (.returned v) w := ⟨ha.defers, _, by simp [results_eq, hr, hv.run ha.knows hw.hold, hv2.run ha.knows hw.hold], h w hw⟩; ⟨h1, h1⟩
theorem q_ret3 {r r2 r3 : ResultVar} {v v2 v3 : Value} (hr : fn.results = #[r, r2, r3]) (hv : ResV P l m r v) (hv2 : ResV P l m r2 v2) (hv3 : ResV P l m r3 v3) (h : ∀ w, St w0 F m w → R (.returned (.tuple #[v, v2, v3])) w) :
  ∀ a w, Ok ⟨P, N, w0, F, bodyPost P fn R, []⟩ l a → St w0 F m w → (bodyPost P fn R .ret a w ∧ bodyPost P fn R .normal a w) :=
 fun a w ha hw => have h1 : a.defers = [] ∧ ∃ v, (results fn a.tmps).run P w = .ok v w ∧ R (.returned v) w := ⟨ha.defers, _, by simp [results_eq, hr, hv.run ha.knows hw.hold, hv2.run ha.knows hw.hold, hv3.run ha.knows hw.hold], h w hw⟩; ⟨h1, h1⟩
theorem e_retQ (h : ∀ a w, Ok ⟨P, N, w0, F, bodyPost P fn R, []⟩ l a → St w0 F m w → (bodyPost P fn R .ret a w ∧ bodyPost P fn R .normal a w)) : E ⟨P, N, w0, F, bodyPost P fn R, []⟩ (.code .ret :: ks) l m :=
 e_ret fun a w ha hw => (h a w ha hw).1
theorem e_endQ (h : ∀ a w, Ok ⟨P, N, w0, F, bodyPost P fn R, []⟩ l a → St w0 F m w → (bodyPost P fn R .ret a w ∧ bodyPost P fn R .normal a w)) : E ⟨P, N, w0, F, bodyPost P fn R, []⟩ [] l m :=
 e_end fun a w ha hw => (h a w ha hw).2
end
def del (t : Nat) : Fr → Fr
 | [] => []
 | (k, v) :: l => bif Nat.beq k t then del t l else (k, v) :: del t l
def hasKey (t : Nat) : Fr → Bool
 | [] => false
 | (k, _) :: l => bif Nat.beq k t then true else hasKey t l
def pick : List Nat → Fr → Fr
 | [], _ => []
 | k :: ks, l => (k, (look l k).getD undef) :: pick ks l
theorem Sub.refl (l : Fr) : Sub l l := fun _ _ h => h
inductive Picks (l : Fr) : List Nat → Fr → Prop where
 | nil : Picks l [] []
 | cons {k : Nat} {v : Value} {ks : List Nat} {K : Fr} (h : look l k = some v) (hs : Picks l ks K) : Picks l (k :: ks) ((k, v) :: K)
theorem look_hasKey : ∀ {l : Fr} {t : Nat} {v : Value}, look l t = some v → hasKey t l = true
 | [], _, _, h => by cases h
 | (k, u) :: l, t, v, h => by
  simp only [look] at h
  simp only [hasKey]
  cases hb : Nat.beq k t with
  | true => rfl
  | false => rw [hb] at h; exact look_hasKey (l := l) h
theorem Sub.skip {l l' : Fr} {d : Nat} {v : Value} (hk : hasKey d l = false) (h : Sub l l') : Sub l ((d, v) :: l') := by
 intro t u hu
 simp only [look]
 cases hb : Nat.beq d t with
 | true =>
  have := Nat.eq_of_beq_eq_true hb
  subst this
  rw [look_hasKey hu] at hk
  cases hk
 | false => exact h t u hu
theorem Sub.del (t : Nat) : ∀ (l : Fr), Sub (del t l) l
 | [] => fun _ _ h => h
 | (k, v) :: l => by
  intro t' u h
  simp only [SL.del] at h
  simp only [look]
  cases hb : Nat.beq k t with
  | true =>
   rw [hb] at h
   simp only [cond_true] at h
   have h1 := Sub.del t l t' u h
   cases hb' : Nat.beq k t' with
   | true =>
    have e1 := Nat.eq_of_beq_eq_true hb
    have e2 := Nat.eq_of_beq_eq_true hb'
    subst e1; subst e2
    exfalso
    have : ∀ (l : Fr) (t : Nat), look (SL.del t l) t = none := by
     intro l t
     induction l with
     | nil => rfl
     | cons p l ih =>
      obtain ⟨k, v⟩ := p
      simp only [SL.del]
      cases hb : Nat.beq k t with
      | true => exact ih
      | false => simp only [cond_false, look, hb]; exact ih
    rw [this] at h
    cases h
   | false => exact h1
  | false =>
   rw [hb] at h
   simp only [cond_false, look] at h
   cases hb' : Nat.beq k t' with
   | true => rw [hb'] at h; exact h
   | false => rw [hb'] at h; exact Sub.del t l t' u h
section
variable {C : Cx} {ks : List Kt} {l : Fr} {m : Hp}
theorem e_test {c : Code} (t : Nat) (b : Bool) (h1 : E C (.code c :: .inv (fun a w => Ok C ((t, .bool b) :: del t l) a ∧ St C.w0 C.F m w) :: ks) l m) (h2 : E C ks ((t, .bool b) :: del t l) m) : E C (.code c :: ks) l m := by
 intro a w ha hw
 refine wp_mono (h1 a w ha hw) fun e a' w' hq => ?_
 cases e with
 | normal => exact h2 a' w' hq.1 hq.2
 | _ => exact hq
theorem e_testEnd {m' : Hp} {l0 : Fr} {t : Nat} {b b' : Bool} (ht : look l t = some (.bool b')) (hb : b' = b) (hs : Sub (del t l0) l) (hm : ∀ w, St C.w0 C.F m w → St C.w0 C.F m' w) : E C (.inv (fun a w => Ok C ((t, .bool b) :: del t l0) a ∧ St C.w0 C.F m' w) :: ks) l m :=
 fun _ w ha hw => ⟨ha.sub (Sub.cons (by rw [← hb]; exact ht) hs), hm w hw⟩
end
section
variable {C : Cx} {ks : List Kt} {l : Fr} {m : Hp}
theorem e_loopK {c : Code} {σ : Type} (keep : List Nat) {K : Fr} (_hK : Picks l keep K) (L : σ → Fr) (J : σ → Prop) (μ : σ → Nat) (s0 : σ) (h0 : J s0) (hl : Sub (L s0 ++ K) l)
  (round : ∀ s, J s → E C (.code c :: .inv (fun a w => ∃ s', (J s' ∧ μ s' < μ s) ∧ Ok C (L s' ++ K) a ∧ St C.w0 C.F m w) :: ks) (L s ++ K) m) : E C (.code (.loop c) :: ks) l m :=
 e_loop (fun s => L s ++ K) (fun _ => m) J μ s0 h0 hl (fun _ h => h) round
theorem e_loopH {c : Code} {σ : Type} (keep : List Nat) {K : Fr} (_hK : Picks l keep K) (L : σ → Fr) (H : σ → Hp) (J : σ → Prop) (μ : σ → Nat) (s0 : σ) (h0 : J s0) (hl : Sub (L s0 ++ K) l) (hm : ∀ w, St C.w0 C.F m w → St C.w0 C.F (H s0) w)
  (round : ∀ s, J s → E C (.code c :: .inv (fun a w => ∃ s', (J s' ∧ μ s' < μ s) ∧ Ok C (L s' ++ K) a ∧ St C.w0 C.F (H s') w) :: ks) (L s ++ K) (H s)) : E C (.code (.loop c) :: ks) l m :=
 e_loop (fun s => L s ++ K) H J μ s0 h0 hl hm round
theorem e_cutK {c : Code} {σ : Type} (keep : List Nat) {K : Fr} (_hK : Picks l keep K) (L : σ → Fr) (J : σ → Prop) (hc : E C (.code c :: .inv (fun a w => ∃ s, J s ∧ Ok C (L s ++ K) a ∧ St C.w0 C.F m w) :: ks) l m)
  (hk : ∀ s, J s → E C ks (L s ++ K) m) : E C (.code c :: ks) l m :=
 e_cut (fun s => L s ++ K) (fun _ => m) J hc hk
theorem e_cutH {c : Code} {σ : Type} (keep : List Nat) {K : Fr} (_hK : Picks l keep K) (L : σ → Fr) (H : σ → Hp) (J : σ → Prop) (hc : E C (.code c :: .inv (fun a w => ∃ s, J s ∧ Ok C (L s ++ K) a ∧ St C.w0 C.F (H s) w) :: ks) l m)
  (hk : ∀ s, J s → E C ks (L s ++ K) (H s)) : E C (.code c :: ks) l m :=
 e_cut (fun s => L s ++ K) H J hc hk
theorem e_cutEnd {σ : Type} {L : σ → Fr} {H : σ → Hp} {J : σ → Prop} (s : σ) (hJ : J s) (hl : Sub (L s) l) (hm : ∀ w, St C.w0 C.F m w → St C.w0 C.F (H s) w) :
  E C (.inv (fun a w => ∃ s, J s ∧ Ok C (L s) a ∧ St C.w0 C.F (H s) w) :: ks) l m := e_inv s hJ hl hm
theorem e_round {σ : Type} {L : σ → Fr} {H : σ → Hp} {J : σ → Prop} {μ : σ → Nat} {n : Nat} (s : σ) (hJ : J s) (hn : μ s < n) (hl : Sub (L s) l) (hm : ∀ w, St C.w0 C.F m w → St C.w0 C.F (H s) w) :
  E C (.inv (fun a w => ∃ s', (J s' ∧ μ s' < n) ∧ Ok C (L s') a ∧ St C.w0 C.F (H s') w) :: ks) l m :=
 fun _ w ha hw => ⟨s, ⟨hJ, hn⟩, ha.sub hl, hm w hw⟩
end
def Le (c c' : View) : Prop := ∀ p v, c p = some v → c' p = some v
theorem Le.refl (c : View) : Le c c := fun _ _ h => h
theorem Le.trans {a b c : View} (h : Le a b) (h' : Le b c) : Le a c := fun p v hp => h' p v (h p v hp)
theorem Cells.mono {c c' : View} (hl : Le c c') {ad : Addr} {cs : List Value} (h : Cells c ad cs) : Cells c' ad cs := fun j v hv => hl _ _ (h j v hv)
theorem Rds.mono {c c' : View} (hl : Le c c') {v : Value} {size n : Nat} {xs : List Value} (h : Rds c v size n xs) : Rds c' v size n xs := by
 obtain ⟨A, k, h1, h2, h3, h4⟩ := h
 exact ⟨A, k, h1, h2, h3, fun hn => let ⟨ad, h5, h6⟩ := h4 hn; ⟨ad, h5, h6.mono hl⟩⟩
noncomputable def off (w : World) (F : Nat → Prop) : View := fun p => open Classical in if F p.block then none else w.cell? p
theorem off_le (w : World) (F : Nat → Prop) : Le (off w F) w.cell? := by
 intro p v h
 unfold off at h
 split at h
 ·cases h
 ·exact h
theorem lt_of_cell {w : World} {p : Addr} {v : Value} (h : w.cell? p = some v) : p.block < w.heap.size := by
 rcases Nat.lt_or_ge p.block w.heap.size with hl | hg
 ·exact hl
 ·simp [World.cell?, Array.getElem?_eq_none hg] at h
theorem Chg.off {w0 w : World} {F : Nat → Prop} (h : Chg w0 F w) : Le (off w0 F) (SL.off w F) := by
 intro p v hp
 unfold SL.off at hp ⊢
 split at hp
 ·cases hp
 ·rename_i hF
  rw [if_neg hF, h.cell (lt_of_cell hp) hF]
  exact hp
theorem off_none (w : World) : off w (feet []) = w.cell? := by
 funext p
 unfold off
 rw [if_neg (fun ⟨_, hc, _⟩ => by cases hc)]
theorem St.view {w0 w : World} {m : Hp} (h : St w0 (feet []) m w) : Le w0.cell? w.cell? := by
 have := h.chg.off
 rwa [off_none, off_none] at this
theorem Res.view {w w' : World} {mc' : Hp} (h : Res w [] mc' w') : Le w.cell? w'.cell? := by
 have := h.chg.off
 rwa [off_none, off_none] at this
theorem St.off {w0 w : World} {F : Nat → Prop} {m : Hp} (h : St w0 F m w) : Le (SL.off w0 F) w.cell? := h.chg.off.trans (off_le _ _)
section
variable {C : Cx} {l : Fr} {m : Hp} {ty : TypeId} {pos : String} {after : Array Edge} {dst : Option Nat} {g : Option (Nat × Bool)}
theorem v_loadO {x : Operand} {ad : Addr} {t : TypeId} {v : Value} {u : TypeDesc} (ht : C.P.underlying t = some u) (hu : (match u with | .struct _ | .array _ _ => true | _ => false) = false) (hx : rd l x = some (.pointer (some ad)))
  (h : SL.off C.w0 C.F ad = some v) : OpV C l m ⟨dst, .load t x, ty, pos, after, g⟩ v :=
 v_load1 ht hu hx fun _ hw => hw.off _ _ h
theorem v_loadON {x : Operand} {ad : Addr} {t : TypeId} {cs : List Value} {u : TypeDesc} (ht : C.P.underlying t = some u) (hu : (match u with | .struct _ | .array _ _ => true | _ => false) = true) (hi : C.P.info? t ≠ none)
  (hx : rd l x = some (.pointer (some ad))) (h : Cells (SL.off C.w0 C.F) ad cs) (hn : C.P.cellsOf t = cs.length) : OpV C l m ⟨dst, .load t x, ty, pos, after, g⟩ (.agg cs.toArray) :=
 v_loadN ht hu hi hn hx fun _ hw => h.mono hw.off
end
end Go.SL
end
section
namespace Go.SL
open Go.RowKit
set_option linter.unusedSectionVars false
theorem St.drew {w0 w : World} {F : Nat → Prop} {m : Hp} (h : St w0 F m w) : St w0 F m { w with drawn := w.drawn + 1 } :=
 ⟨⟨h.chg.os, h.chg.tape, h.chg.output, h.chg.size, h.chg.block⟩, fun c hc => Chunk.stable (w := w) (fun _ _ => rfl) (h.hold c hc), h.sep, h.own⟩
def Pan (Q : Exit → Act → World → Prop) : Prop := ∀ c a d v w, Q (.panic c) (Act.put a d v) w → Q (.panic c) a w
theorem pan_body {P : Program} {fn : Func} {R : Ending → World → Prop} : Pan (bodyPost P fn R) := fun _ _ _ _ _ h => ⟨by have := h.1; rwa [put_defers] at this, h.2⟩
theorem pan_cx {P : Program} {N : Nat} {w0 : World} {F : Nat → Prop} {fn : Func} {R : Ending → World → Prop} : Pan (Cx.mk P N w0 F (bodyPost P fn R) []).Q := pan_body
theorem pan_kp {C : Cx} (hp : Pan C.Q) : ∀ {ks : List Kt}, Pan (Kp C ks)
 | [] => hp
 | .code _ :: ks => fun c a d v w h => pan_kp hp (ks := ks) c a d v w h
 | .blk _ :: ks => fun c a d v w h => pan_kp hp (ks := ks) c a d v w h
 | .inv _ :: ks => fun c a d v w h => pan_kp hp (ks := ks) c a d v w h
section
variable {C : Cx} {ks : List Kt} {l : Fr} {m : Hp} {ops : Array Oper}
abbrev A (C : Cx) (ops : Array Oper) (ks : List Kt) (base : Hp) (fuel : Nat) (listed : Array Bool) (l : Fr) (m : Hp) : Prop :=
 G C l m (wpAnyH C.P .any ops (Kp C ks) (St C.w0 C.F base) fuel listed)
theorem e_draw {id : Nat} (base : Hp) (hm : C.P.follows .mixedOrders = true) (h : A C ops ks base ops.size (Array.replicate ops.size false) l m) : E C (.code (.region id ops true) :: ks) l m :=
 fun a _ ha hw => wp_region_held hm (h a _ ha hw.drew)
theorem a_take {base : Hp} {fuel : Nat} {listed : Array Bool} {d : Nat} {op : Op} {ty : TypeId} {pos : String} {after : Array Edge} {v : Value} (i : Nat) (hp : Pan C.Q) (hs : Region.noSelect ops = true)
  (hb : ∀ w, St C.w0 C.F m w → St C.w0 C.F base w) (hi : ops[i]? = some ⟨some d, op, ty, pos, after, none⟩) (hf : Region.free .any ops listed i = true) (hr : (Region.ready .any ops listed).contains i = true)
  (hv : OpV C l base ⟨some d, op, ty, pos, after, none⟩ v) (hd : Nat.blt d C.N = true) (h : A C ops ks base fuel (listed.setIfInBounds i true) ((d, v) :: l) m) : A C ops ks base (fuel + 1) listed l m :=
 fun a w ha hw => wpAnyH_take hi hs hf hr (fun c a w hq => pan_kp hp c a _ _ w hq) (.inl ⟨by simp [Region.wanted], fun w hw => hv a w ha hw⟩) (hb w hw) (h _ _ (ha.put (Nat.le_of_ble_eq_true hd)) hw)
theorem a_want {base : Hp} {fuel : Nat} {listed : Array Bool} {d j d' : Nat} {b : Bool} {op : Op} {ty : TypeId} {pos : String} {after : Array Edge} {v : Value} (i : Nat) (hp : Pan C.Q) (hs : Region.noSelect ops = true)
  (hb : ∀ w, St C.w0 C.F m w → St C.w0 C.F base w) (hi : ops[i]? = some ⟨some d, op, ty, pos, after, some (j, b)⟩) (hf : Region.free .any ops listed i = true) (hr : (Region.ready .any ops listed).contains i = true)
  (hj : ((ops[j]?).bind (·.dst)) = some d') (hg : look l d' = some (.bool b))
  (hv : OpV C l base ⟨some d, op, ty, pos, after, some (j, b)⟩ v) (hd : Nat.blt d C.N = true) (h : A C ops ks base fuel (listed.setIfInBounds i true) ((d, v) :: l) m) : A C ops ks base (fuel + 1) listed l m :=
 fun a w ha hw => wpAnyH_take hi hs hf hr (fun c a w hq => pan_kp hp c a _ _ w hq) (.inl ⟨by have := ha.knows d' _ hg; simp [Region.wanted, yielded, hj, this], fun w hw => hv a w ha hw⟩) (hb w hw) (h _ _ (ha.put (Nat.le_of_ble_eq_true hd)) hw)
theorem a_skip {base : Hp} {fuel : Nat} {listed : Array Bool} {d j d' : Nat} {b : Bool} {op : Op} {ty : TypeId} {pos : String} {after : Array Edge} {v : Value} (i : Nat) (hp : Pan C.Q) (hs : Region.noSelect ops = true)
  (hb : ∀ w, St C.w0 C.F m w → St C.w0 C.F base w) (hi : ops[i]? = some ⟨some d, op, ty, pos, after, some (j, b)⟩) (hf : Region.free .any ops listed i = true) (hr : (Region.ready .any ops listed).contains i = true)
  (hj : ((ops[j]?).bind (·.dst)) = some d') (hg : look l d' = some v) (hn : (match v with | .bool c => Bool.xor c b | _ => true) = true)
  (hd : Nat.blt d C.N = true) (h : A C ops ks base fuel (listed.setIfInBounds i true) ((d, undef) :: l) m) : A C ops ks base (fuel + 1) listed l m := by
 intro a w ha hw
 refine wpAnyH_take hi hs hf hr (fun c a w hq => pan_kp hp c a _ _ w hq) (.inr ⟨?_, rfl⟩) (hb w hw) (h _ _ (ha.put (Nat.le_of_ble_eq_true hd)) hw)
 have := ha.knows d' _ hg
 simp only [Region.wanted, yielded, hj, Option.bind_some, this]
 cases v <;> simp_all <;> (rename_i c; cases c <;> cases b <;> simp_all)
theorem a_all {base : Hp} {fuel : Nat} {listed : Array Bool} (rs : List Nat) (hr : Region.ready .any ops listed = rs) (hne : rs.isEmpty = false)
  (h : ∀ i ∈ rs, G C l m (wpOp C.P ops (Kp C ks) i (fun a' w' => St C.w0 C.F base w' ∧ wpAnyH C.P .any ops (Kp C ks) (St C.w0 C.F base) fuel (listed.setIfInBounds i true) a' w'))) : A C ops ks base (fuel + 1) listed l m :=
 fun a w ha hw => wpAnyH_all hr (by intro e; subst e; cases hne) (fun i hi => h i hi a w ha hw)
theorem a_op {i : Nat} {o : Oper} {Φ : Act → World → Prop} {Q : Exit → Act → World → Prop} (hi : ops[i]? = some o) (hg : o.guard = none) (h : G C l m (fun a w => o.wp C.P a w Φ Q)) : G C l m (wpOp C.P ops Q i Φ) := by
 intro a w ha hw
 unfold wpOp
 rw [hi]
 simp only [Region.wanted, hg, if_true]
 exact .inl (h a w ha hw)
theorem a_and {base : Hp} {Φ : Act → World → Prop} (hb : ∀ w, St C.w0 C.F m w → St C.w0 C.F base w) (h : G C l m Φ) : G C l m (fun a w => St C.w0 C.F base w ∧ Φ a w) :=
 fun a w ha hw => ⟨hb w hw, h a w ha hw⟩
theorem a_one {base : Hp} {fuel : Nat} {listed : Array Bool} {o : Oper} (i : Nat) (hr : Region.ready .any ops listed = [i]) (hi : ops[i]? = some o) (hg : o.guard = none)
  (h : G C l m (fun a w => o.wp C.P a w (fun a' w' => St C.w0 C.F base w' ∧ wpAnyH C.P .any ops (Kp C ks) (St C.w0 C.F base) fuel (listed.setIfInBounds i true) a' w') (Kp C ks))) : A C ops ks base (fuel + 1) listed l m :=
 a_all [i] hr rfl (fun j hj => by
  simp only [List.mem_singleton] at hj
  subst hj
  exact a_op hi hg h)
theorem a_opW {i j d' : Nat} {b : Bool} {dst : Option Nat} {op : Op} {ty : TypeId} {pos : String} {after : Array Edge} {Φ : Act → World → Prop} {Q : Exit → Act → World → Prop} (hi : ops[i]? = some ⟨dst, op, ty, pos, after, some (j, b)⟩)
  (hj : ((ops[j]?).bind (·.dst)) = some d') (hl : look l d' = some (.bool b)) (h : G C l m (fun a w => Oper.wp C.P ⟨dst, op, ty, pos, after, none⟩ a w Φ Q)) : G C l m (wpOp C.P ops Q i Φ) := by
 intro a w ha hw
 unfold wpOp
 rw [hi]
 have h1 := ha.knows d' _ hl
 have h2 : Region.wanted (⟨dst, op, ty, pos, after, some (j, b)⟩ : Oper) (yielded ops a.tmps) = true := by simp [Region.wanted, yielded, hj, h1]
 simp only [h2, if_true]
 exact .inl (h a w ha hw)
theorem a_oneW {base : Hp} {fuel : Nat} {listed : Array Bool} {j d' : Nat} {b : Bool} {dst : Option Nat} {op : Op} {ty : TypeId} {pos : String} {after : Array Edge} (i : Nat) (hr : Region.ready .any ops listed = [i]) (hi : ops[i]? = some ⟨dst, op, ty, pos, after, some (j, b)⟩)
  (hj : ((ops[j]?).bind (·.dst)) = some d') (hl : look l d' = some (.bool b))
  (h : G C l m (fun a w => Oper.wp C.P ⟨dst, op, ty, pos, after, none⟩ a w (fun a' w' => St C.w0 C.F base w' ∧ wpAnyH C.P .any ops (Kp C ks) (St C.w0 C.F base) fuel (listed.setIfInBounds i true) a' w') (Kp C ks))) : A C ops ks base (fuel + 1) listed l m :=
 a_all [i] hr rfl (fun j hj' => by
  simp only [List.mem_singleton] at hj'
  subst hj'
  exact a_opW hi hj hl h)
theorem a_done {base : Hp} {fuel : Nat} {listed : Array Bool} (hr : Region.ready .any ops listed = []) (h : E C ks l m) : A C ops ks base fuel listed l m :=
 fun a w ha hw => wpAnyH_done hr (h a w ha hw) fuel
end
end Go.SL
end
section
namespace Go.SL
open Go.RowKit
section
variable {C : Cx} {ks : List Kt} {l : Fr} {m : Hp} {ops : Array Oper} {rest : List Oper} {op : Op} {ty : TypeId} {pos : String} {after : Array Edge} {d : Nat} {g : Option (Nat × Bool)} {base : Hp} {fuel : Nat} {listed : Array Bool}
theorem tk {v : Value} (i : Nat) (hi : ops[i]? = some ⟨some d, op, ty, pos, after, none⟩) (hv : OpV C l base ⟨some d, op, ty, pos, after, none⟩ v) (hd : Nat.blt d C.N = true) (h : A C ops ks base fuel (listed.setIfInBounds i true) ((d, v) :: l) m)
  (hp : Pan C.Q := by exact pan_cx) (hs : Region.noSelect ops = true := by kernel_rfl)
  (hb : ∀ w, St C.w0 C.F m w → St C.w0 C.F base w := by exact fun _ hw => hw.sub (by repeat (first | exact List.Sublist.slnil | exact List.Sublist.refl _ | apply List.Sublist.cons_cons | apply List.Sublist.cons)))
  (hf : Region.free .any ops listed i = true := by kernel_rfl) (hr : (Region.ready .any ops listed).contains i = true := by kernel_rfl) : A C ops ks base (fuel + 1) listed l m := a_take i hp hs hb hi hf hr hv hd h
theorem tw {j d' : Nat} {b : Bool} {v : Value} (i : Nat) (hi : ops[i]? = some ⟨some d, op, ty, pos, after, some (j, b)⟩) (hj : ((ops[j]?).bind (·.dst)) = some d') (hg : look l d' = some (.bool b))
  (hv : OpV C l base ⟨some d, op, ty, pos, after, some (j, b)⟩ v) (hd : Nat.blt d C.N = true) (h : A C ops ks base fuel (listed.setIfInBounds i true) ((d, v) :: l) m)
  (hp : Pan C.Q := by exact pan_cx) (hs : Region.noSelect ops = true := by kernel_rfl)
  (hb : ∀ w, St C.w0 C.F m w → St C.w0 C.F base w := by exact fun _ hw => hw.sub (by repeat (first | exact List.Sublist.slnil | exact List.Sublist.refl _ | apply List.Sublist.cons_cons | apply List.Sublist.cons)))
  (hf : Region.free .any ops listed i = true := by kernel_rfl) (hr : (Region.ready .any ops listed).contains i = true := by kernel_rfl) : A C ops ks base (fuel + 1) listed l m := a_want i hp hs hb hi hf hr hj hg hv hd h
theorem tq {j d' : Nat} {b : Bool} {v : Value} (i : Nat) (hi : ops[i]? = some ⟨some d, op, ty, pos, after, some (j, b)⟩) (hj : ((ops[j]?).bind (·.dst)) = some d') (hg : look l d' = some v) (hn : (match v with | .bool c => Bool.xor c b | _ => true) = true)
  (hd : Nat.blt d C.N = true) (h : A C ops ks base fuel (listed.setIfInBounds i true) ((d, undef) :: l) m)
  (hp : Pan C.Q := by exact pan_cx) (hs : Region.noSelect ops = true := by kernel_rfl)
  (hb : ∀ w, St C.w0 C.F m w → St C.w0 C.F base w := by exact fun _ hw => hw.sub (by repeat (first | exact List.Sublist.slnil | exact List.Sublist.refl _ | apply List.Sublist.cons_cons | apply List.Sublist.cons)))
  (hf : Region.free .any ops listed i = true := by kernel_rfl) (hr : (Region.ready .any ops listed).contains i = true := by kernel_rfl) : A C ops ks base (fuel + 1) listed l m := a_skip i hp hs hb hi hf hr hj hg hn hd h
theorem tn {Φ : Act → World → Prop} (h : G C l m Φ)
  (hb : ∀ w, St C.w0 C.F m w → St C.w0 C.F base w := by exact fun _ hw => hw.sub (by repeat (first | exact List.Sublist.slnil | exact List.Sublist.refl _ | apply List.Sublist.cons_cons | apply List.Sublist.cons))) : G C l m (fun a w => St C.w0 C.F base w ∧ Φ a w) := a_and hb h
theorem t1 {o : Oper} (i : Nat) (hi : ops[i]? = some o) (hg : o.guard = none)
  (h : G C l m (fun a w => o.wp C.P a w (fun a' w' => St C.w0 C.F base w' ∧ wpAnyH C.P .any ops (Kp C ks) (St C.w0 C.F base) fuel (listed.setIfInBounds i true) a' w') (Kp C ks)))
  (hr : Region.ready .any ops listed = [i] := by kernel_rfl) : A C ops ks base (fuel + 1) listed l m := a_one i hr hi hg h
theorem t1w {j d' : Nat} {b : Bool} {dst : Option Nat} (i : Nat) (hi : ops[i]? = some ⟨dst, op, ty, pos, after, some (j, b)⟩)
  (hj : ((ops[j]?).bind (·.dst)) = some d') (hl : look l d' = some (.bool b))
  (h : G C l m (fun a w => Oper.wp C.P ⟨dst, op, ty, pos, after, none⟩ a w (fun a' w' => St C.w0 C.F base w' ∧ wpAnyH C.P .any ops (Kp C ks) (St C.w0 C.F base) fuel (listed.setIfInBounds i true) a' w') (Kp C ks)))
  (hr : Region.ready .any ops listed = [i] := by kernel_rfl) : A C ops ks base (fuel + 1) listed l m := a_oneW i hr hi hj hl h
theorem td (h : E C ks l m) (hr : Region.ready .any ops listed = [] := by kernel_rfl) : A C ops ks base fuel listed l m := a_done hr h
theorem wm {x : Operand} {v : Value} (h1 : rd l x = some v) (hd : Nat.blt d C.N = true) (h : W C ops rest ks ((d, v) :: l) m) : W C ops (⟨some d, .move x, ty, pos, after, none⟩ :: rest) ks l m := w_val (v_move h1) hd h
theorem wa {x : Operand} {v : Value} (h1 : rd l x = some v) (hd : Nat.blt d C.N = true) (h : W C ops rest ks ((d, v) :: l) m) : W C ops (⟨some d, .assign x, ty, pos, after, none⟩ :: rest) ks l m := w_val (v_assign h1) hd h
theorem wn {x : Operand} {ad : Addr} (h1 : rd l x = some (.pointer (some ad))) (hd : Nat.blt d C.N = true) (h : W C ops rest ks ((d, .pointer (some ad)) :: l) m) : W C ops (⟨some d, .nilCheck x, ty, pos, after, none⟩ :: rest) ks l m := w_val (v_nilCheck h1) hd h
theorem esr {id : Nat} {os : List Oper} {y : Code} (h : W C os.toArray os (.code y :: ks) l m) : E C (.code (.seq (.region id os.toArray false) y) :: ks) l m := e_seq (e_region h)
theorem wsr {id : Nat} {os : List Oper} {y : Code} (h : W C os.toArray os (.code y :: ks) l m) : W C ops [] (.code (.seq (.region id os.toArray false) y) :: ks) l m := w_nil (e_seq (e_region h))
theorem wre {id : Nat} {os : List Oper} (h : W C os.toArray os ks l m) : W C ops [] (.code (.region id os.toArray false) :: ks) l m := w_nil (e_region h)
end
end Go.SL
end
section
namespace Go.Proofs
theorem Tryz.hi1 : Tryz.prog.info? 1 ≠ none := Go.SL.ne_of_isSome (by kernel_rfl)
theorem Tryz.hi2 : Tryz.prog.info? 2 ≠ none := Go.SL.ne_of_isSome (by kernel_rfl)
theorem Tryz.cz2 : Tryz.prog.cellsOf 2 = 1 := by kernel_rfl
theorem Tryz.nz2 : Tryz.prog.cellsOf 2 ≠ 0 := by rw [Tryz.cz2]; decide
theorem Tryz.hi3 : Tryz.prog.info? 3 ≠ none := Go.SL.ne_of_isSome (by kernel_rfl)
theorem Tryz.cz3 : Tryz.prog.cellsOf 3 = 1 := by kernel_rfl
theorem Tryz.nz3 : Tryz.prog.cellsOf 3 ≠ 0 := by rw [Tryz.cz3]; decide
theorem Tryz.hi4 : Tryz.prog.info? 4 ≠ none := Go.SL.ne_of_isSome (by kernel_rfl)
theorem Tryz.cz4 : Tryz.prog.cellsOf 4 = 1 := by kernel_rfl
theorem Tryz.nz4 : Tryz.prog.cellsOf 4 ≠ 0 := by rw [Tryz.cz4]; decide
theorem Tryz.hi5 : Tryz.prog.info? 5 ≠ none := Go.SL.ne_of_isSome (by kernel_rfl)
theorem Tryz.cz5 : Tryz.prog.cellsOf 5 = 1 := by kernel_rfl
theorem Tryz.hi9 : Tryz.prog.info? 9 ≠ none := Go.SL.ne_of_isSome (by kernel_rfl)
theorem Tryz.cz9 : Tryz.prog.cellsOf 9 = 1 := by kernel_rfl
theorem Tryz.nz9 : Tryz.prog.cellsOf 9 ≠ 0 := by rw [Tryz.cz9]; decide
theorem Tryz.hi22 : Tryz.prog.info? 22 ≠ none := Go.SL.ne_of_isSome (by kernel_rfl)
theorem Tryz.cz22 : Tryz.prog.cellsOf 22 = 1 := by kernel_rfl
theorem Tryz.hi28 : Tryz.prog.info? 28 ≠ none := Go.SL.ne_of_isSome (by kernel_rfl)
theorem Tryz.cz28 : Tryz.prog.cellsOf 28 = 1 := by kernel_rfl
theorem Tryz.nz28 : Tryz.prog.cellsOf 28 ≠ 0 := by rw [Tryz.cz28]; decide
theorem Tryz.cz30 : Tryz.prog.cellsOf 30 = 2 := by kernel_rfl
theorem Tryz.nz30 : Tryz.prog.cellsOf 30 ≠ 0 := by rw [Tryz.cz30]; decide
theorem Tryz.hi32 : Tryz.prog.info? 32 ≠ none := Go.SL.ne_of_isSome (by kernel_rfl)
theorem Tryz.cz32 : Tryz.prog.cellsOf 32 = 10 := by kernel_rfl
theorem Tryz.nz32 : Tryz.prog.cellsOf 32 ≠ 0 := by rw [Tryz.cz32]; decide
theorem Tryz.hi33 : Tryz.prog.info? 33 ≠ none := Go.SL.ne_of_isSome (by kernel_rfl)
theorem Tryz.cz33 : Tryz.prog.cellsOf 33 = 1 := by kernel_rfl
theorem Tryz.nz33 : Tryz.prog.cellsOf 33 ≠ 0 := by rw [Tryz.cz33]; decide
theorem Tryz.cz35 : Tryz.prog.cellsOf 35 = 14 := by kernel_rfl
theorem Tryz.nz35 : Tryz.prog.cellsOf 35 ≠ 0 := by rw [Tryz.cz35]; decide
theorem Tryz.hi37 : Tryz.prog.info? 37 ≠ none := Go.SL.ne_of_isSome (by kernel_rfl)
theorem Tryz.cz37 : Tryz.prog.cellsOf 37 = 1 := by kernel_rfl
theorem Tryz.nz37 : Tryz.prog.cellsOf 37 ≠ 0 := by rw [Tryz.cz37]; decide
theorem Tryz.hi42 : Tryz.prog.info? 42 ≠ none := Go.SL.ne_of_isSome (by kernel_rfl)
theorem Tryz.cz42 : Tryz.prog.cellsOf 42 = 2 := by kernel_rfl
theorem Tryz.cz48 : Tryz.prog.cellsOf 48 = 1 := by kernel_rfl
theorem Tryz.nz48 : Tryz.prog.cellsOf 48 ≠ 0 := by rw [Tryz.cz48]; decide
theorem Tryz.hi50 : Tryz.prog.info? 50 ≠ none := Go.SL.ne_of_isSome (by kernel_rfl)
theorem Tryz.cz50 : Tryz.prog.cellsOf 50 = 1 := by kernel_rfl
theorem Tryz.nz50 : Tryz.prog.cellsOf 50 ≠ 0 := by rw [Tryz.cz50]; decide
theorem Tryz.hi51 : Tryz.prog.info? 51 ≠ none := Go.SL.ne_of_isSome (by kernel_rfl)
theorem Tryz.cz51 : Tryz.prog.cellsOf 51 = 1 := by kernel_rfl
theorem Tryz.nz51 : Tryz.prog.cellsOf 51 ≠ 0 := by rw [Tryz.cz51]; decide
theorem Tryz.cz53 : Tryz.prog.cellsOf 53 = 2 := by kernel_rfl
theorem Tryz.nz53 : Tryz.prog.cellsOf 53 ≠ 0 := by rw [Tryz.cz53]; decide
theorem Tryz.cz60 : Tryz.prog.cellsOf 60 = 1 := by kernel_rfl
theorem Tryz.nz60 : Tryz.prog.cellsOf 60 ≠ 0 := by rw [Tryz.cz60]; decide
theorem Tryz.hi70 : Tryz.prog.info? 70 ≠ none := Go.SL.ne_of_isSome (by kernel_rfl)
theorem Tryz.cz70 : Tryz.prog.cellsOf 70 = 1 := by kernel_rfl
theorem Tryz.nz70 : Tryz.prog.cellsOf 70 ≠ 0 := by rw [Tryz.cz70]; decide
theorem Tryz.hi80 : Tryz.prog.info? 80 ≠ none := Go.SL.ne_of_isSome (by kernel_rfl)
theorem Tryz.cz80 : Tryz.prog.cellsOf 80 = 1 := by kernel_rfl
theorem Tryz.nz80 : Tryz.prog.cellsOf 80 ≠ 0 := by rw [Tryz.cz80]; decide
theorem Tryz.hi94 : Tryz.prog.info? 94 ≠ none := Go.SL.ne_of_isSome (by kernel_rfl)
theorem Tryz.cz94 : Tryz.prog.cellsOf 94 = 4 := by kernel_rfl
theorem Tryz.nz94 : Tryz.prog.cellsOf 94 ≠ 0 := by rw [Tryz.cz94]; decide
theorem Tryz.hi96 : Tryz.prog.info? 96 ≠ none := Go.SL.ne_of_isSome (by kernel_rfl)
theorem Tryz.cz96 : Tryz.prog.cellsOf 96 = 5 := by kernel_rfl
theorem Tryz.nz96 : Tryz.prog.cellsOf 96 ≠ 0 := by rw [Tryz.cz96]; decide
theorem Tryz.hi109 : Tryz.prog.info? 109 ≠ none := Go.SL.ne_of_isSome (by kernel_rfl)
theorem Tryz.cz109 : Tryz.prog.cellsOf 109 = 5 := by kernel_rfl
theorem Tryz.cz165 : Tryz.prog.cellsOf 165 = 1 := by kernel_rfl
theorem Tryz.hi191 : Tryz.prog.info? 191 ≠ none := Go.SL.ne_of_isSome (by kernel_rfl)
theorem Tryz.cz191 : Tryz.prog.cellsOf 191 = 3 := by kernel_rfl
theorem Tryz.hi197 : Tryz.prog.info? 197 ≠ none := Go.SL.ne_of_isSome (by kernel_rfl)
theorem Tryz.cz197 : Tryz.prog.cellsOf 197 = 1 := by kernel_rfl
theorem Tryz.cz203 : Tryz.prog.cellsOf 203 = 1 := by kernel_rfl
theorem Tryz.nz203 : Tryz.prog.cellsOf 203 ≠ 0 := by rw [Tryz.cz203]; decide
theorem Tryz.hi204 : Tryz.prog.info? 204 ≠ none := Go.SL.ne_of_isSome (by kernel_rfl)
theorem Tryz.cz204 : Tryz.prog.cellsOf 204 = 1 := by kernel_rfl
theorem Tryz.nz204 : Tryz.prog.cellsOf 204 ≠ 0 := by rw [Tryz.cz204]; decide
theorem Tryz.hi222 : Tryz.prog.info? 222 ≠ none := Go.SL.ne_of_isSome (by kernel_rfl)
theorem Tryz.cz222 : Tryz.prog.cellsOf 222 = 1 := by kernel_rfl
theorem Tryz.hi225 : Tryz.prog.info? 225 ≠ none := Go.SL.ne_of_isSome (by kernel_rfl)
theorem Tryz.cz225 : Tryz.prog.cellsOf 225 = 1 := by kernel_rfl
theorem Tryz.cz226 : Tryz.prog.cellsOf 226 = 10 := by kernel_rfl
theorem Tryz.nz226 : Tryz.prog.cellsOf 226 ≠ 0 := by rw [Tryz.cz226]; decide
theorem Tryz.hi230 : Tryz.prog.info? 230 ≠ none := Go.SL.ne_of_isSome (by kernel_rfl)
theorem Tryz.cz230 : Tryz.prog.cellsOf 230 = 4 := by kernel_rfl
theorem Tryz.cz241 : Tryz.prog.cellsOf 241 = 10 := by kernel_rfl
theorem Tryz.nz241 : Tryz.prog.cellsOf 241 ≠ 0 := by rw [Tryz.cz241]; decide
theorem Tryz.mixed : Tryz.prog.follows .mixedOrders = true := by kernel_rfl
end Go.Proofs
end
section
namespace Go.SL
open Go.RowKit
structure OpL where
 kind : Int
 a : Int
 b : Int
 c : Int
 n : Int
 deriving DecidableEq
def i64 (x : Int) : Value := .int .i64 x
def opCells (o : OpL) : List Value := [.int .i64 o.kind, .int .i64 o.a, .int .i64 o.b, .int .i64 o.c, .int .i64 o.n]
def opV (o : OpL) : Value := .agg #[.int .i64 o.kind, .int .i64 o.a, .int .i64 o.b, .int .i64 o.c, .int .i64 o.n]
abbrev DeedL := List OpL
abbrev RoundL := List DeedL
def deedCells (d : DeedL) : List Value := d.flatMap opCells
def IsDeed (c : View) (v : Value) (d : DeedL) : Prop := Rds c v 5 d.length (deedCells d)
def IsRound (c : View) (v : Value) (r : RoundL) : Prop := ∃ vs : List Value, Rds c v 1 r.length vs ∧ ∀ i (h : i < r.length), ∃ u, vs[i]? = some u ∧ IsDeed c u r[i]
theorem IsDeed.mono {c c' : View} (hl : Le c c') {v : Value} {d : DeedL} (h : IsDeed c v d) : IsDeed c' v d := Rds.mono hl h
theorem IsRound.mono {c c' : View} (hl : Le c c') {v : Value} {r : RoundL} (h : IsRound c v r) : IsRound c' v r := by
 obtain ⟨vs, h1, h2⟩ := h
 exact ⟨vs, h1.mono hl, fun i hi => let ⟨u, h3, h4⟩ := h2 i hi; ⟨u, h3, h4.mono hl⟩⟩
theorem deedCells_at : ∀ (d : DeedL) (k : Nat) (o : OpL), d[k]? = some o → ∀ j v, (opCells o)[j]? = some v → (deedCells d)[k * 5 + j]? = some v
 | [], k, o, h, _, _, _ => by simp at h
 | x :: d, 0, o, h, j, v, hj => by
  simp at h
  subst h
  have hlt : j < (opCells x).length := (List.getElem?_eq_some_iff.1 hj).1
  simp only [deedCells, List.flatMap_cons, Nat.zero_mul, Nat.zero_add]
  rw [List.getElem?_append_left hlt]
  exact hj
 | x :: d, k + 1, o, h, j, v, hj => by
  simp only [List.getElem?_cons_succ] at h
  have := deedCells_at d k o h j v hj
  simp only [deedCells, List.flatMap_cons] at this ⊢
  rw [List.getElem?_append_right (by simp [opCells]; omega)]
  have e : (k + 1) * 5 + j - (opCells x).length = k * 5 + j := by simp [opCells]; omega
  rw [e]
  exact this
theorem add_add (a : Addr) (i j : Nat) : (a.add i).add j = a.add (i + j) := by
 unfold Addr.add
 by_cases hi : i = 0 <;> by_cases hj : j = 0 <;> simp [hi, hj, Nat.add_assoc]
theorem deed_op {c : View} {ad : Addr} {d : DeedL} (h : Cells c ad (deedCells d)) {k : Nat} {o : OpL} (ho : d[k]? = some o) : Cells c (ad.add (k * 5)) (opCells o) := by
 intro j v hj
 rw [add_add]
 exact h _ _ (deedCells_at d k o ho j v hj)
theorem IsDeed.form {c : View} {v : Value} {d : DeedL} (h : IsDeed c v d) : ∃ A k, v = .slice A d.length k ∧ d.length ≤ k ∧ (d ≠ [] → ∃ ad, A = some ad ∧ Cells c ad (deedCells d)) := by
 obtain ⟨A, k, h1, h2, _, h4⟩ := h
 exact ⟨A, k, h1, h2, fun hn => h4 (List.length_pos_iff.2 hn)⟩
end Go.SL
end
section
namespace Go.SL
def intCells (l : List Int) : List Value := l.map (Value.int .i64)
def intsV (l : List Int) : Value := .agg (intCells l).toArray
theorem intCells_len (l : List Int) : (intCells l).length = l.length := by simp [intCells]
theorem ints_at (l : List Int) (i : Int) (_h0 : 0 ≤ i) (h : i < l.length) : (intCells l)[0 + i.toNat * 1]? = some (.int .i64 (l.getD i.toNat 0)) := by
 have : i.toNat < l.length := by omega
 simp [intCells, List.getD, this]
theorem set_ints (l : List Int) (i x : Int) : (intCells l).set (0 + i.toNat * 1) (.int .i64 x) = intCells (l.set i.toNat x) := by simp [intCells, List.map_set]
theorem one_intCells (l : List Int) : ∀ u ∈ (intCells l).toArray.toList, u.oneCell' = true := by
 intro u hu
 simp only [intCells, List.mem_map] at hu
 obtain ⟨x, _, rfl⟩ := hu
 rfl
theorem list4 {α : Type} {l : List α} (h : l.length = 4) : ∃ a b c d, l = [a, b, c, d] := by
 match l, h with
 | [a, b, c, d], _ => exact ⟨a, b, c, d, rfl⟩
theorem list10 {α : Type} {l : List α} (h : l.length = 10) : ∃ a b c d e f g h' i j, l = [a, b, c, d, e, f, g, h', i, j] := by
 match l, h with
 | [a, b, c, d, e, f, g, h', i, j], _ => exact ⟨a, b, c, d, e, f, g, h', i, j, rfl⟩
def gt (l : List Int) (i : Int) : Int := l.getD i.toNat 0
def st (l : List Int) (i x : Int) : List Int := l.set i.toNat x
def stepL (ar : Int → Int → Int → Int) (o : OpL) (g s : List Int) : Option (List Int × List Int × Nat) :=
 if o.kind = 1 then some (st g o.a o.n, s, 0)
 else if o.kind = 2 then some (st g o.a (gt s o.b), s, 0)
 else if o.kind = 7 then some (g, st s o.a (gt g o.b), 0)
 else if o.kind = 8 then (if gt g o.a ≠ 0 then none else some (g, s, 0))
 else if o.kind = 9 then (if gt g o.a = 0 then some (g, s, o.b.toNat) else some (g, s, 0))
 else some (st g o.a (ar o.kind (gt g o.b) (gt g o.c)), s, 0)
section
variable (ar : Int → Int → Int → Int) {o : OpL} (g s : List Int)
theorem step_num (h : o.kind = 1) : stepL ar o g s = some (st g o.a o.n, s, 0) := by simp [stepL, h]
theorem step_load (h : o.kind = 2) : stepL ar o g s = some (st g o.a (gt s o.b), s, 0) := by simp [stepL, h]
theorem step_store (h : o.kind = 7) : stepL ar o g s = some (g, st s o.a (gt g o.b), 0) := by simp [stepL, h]
theorem step_stop (h : o.kind = 8) (hz : gt g o.a ≠ 0) : stepL ar o g s = none := by simp [stepL, h, hz]
theorem step_stay (h : o.kind = 8) (hz : ¬ gt g o.a ≠ 0) : stepL ar o g s = some (g, s, 0) := by simp only [ne_eq, Decidable.not_not] at hz; simp [stepL, h, hz]
theorem step_skip (h : o.kind = 9) (hz : gt g o.a = 0) : stepL ar o g s = some (g, s, o.b.toNat) := by simp [stepL, h, hz]
theorem step_noskip (h : o.kind = 9) (hz : ¬ gt g o.a = 0) : stepL ar o g s = some (g, s, 0) := by simp [stepL, h, hz]
theorem step_ar (h : o.kind = 3 ∨ o.kind = 4 ∨ o.kind = 5 ∨ o.kind = 6) : stepL ar o g s = some (st g o.a (ar o.kind (gt g o.b) (gt g o.c)), s, 0) := by
 unfold stepL
 rw [if_neg (by omega), if_neg (by omega), if_neg (by omega), if_neg (by omega), if_neg (by omega)]
end
def runF (ar : Int → Int → Int → Int) : Nat → DeedL → List Int → List Int → Bool × List Int × List Int
 | 0, _, g, s => (false, g, s)
 | _ + 1, [], g, s => (false, g, s)
 | n + 1, o :: rest, g, s =>
  match stepL ar o g s with
  | none => (true, g, s)
  | some (g', s', k) => runF ar n (rest.drop k) g' s'
theorem runF_fuel (ar : Int → Int → Int → Int) : ∀ (n m : Nat) (d : DeedL) (g s : List Int), d.length ≤ n → d.length ≤ m → runF ar n d g s = runF ar m d g s
 | 0, m, d, g, s, h, _ => by
  have : d = [] := List.eq_nil_of_length_eq_zero (by omega)
  subst this
  cases m <;> rfl
 | n + 1, m, [], g, s, _, _ => by cases m <;> rfl
 | n + 1, 0, o :: rest, g, s, _, h => by simp at h
 | n + 1, m + 1, o :: rest, g, s, h, h' => by
  simp only [runF]
  split
  ·rfl
  ·rename_i g' s' k _
   simp at h h'
   exact runF_fuel ar n m (rest.drop k) g' s' (by simp; omega) (by simp; omega)
def runL (ar : Int → Int → Int → Int) (d : DeedL) (g s : List Int) : Bool × List Int × List Int := runF ar d.length d g s
theorem runL_cons (ar : Int → Int → Int → Int) (o : OpL) (rest : DeedL) (g s : List Int) : runL ar (o :: rest) g s = match stepL ar o g s with
  | none => (true, g, s)
  | some (g', s', k) => runL ar (rest.drop k) g' s' := by
 simp only [runL, List.length_cons, runF]
 split
 ·rfl
 ·rename_i g' s' k _
  exact runF_fuel ar _ _ _ _ _ (by simp) (Nat.le_refl _)
theorem runL_at (ar : Int → Int → Int → Int) {d : DeedL} {k : Nat} (h : k < d.length) (g s : List Int) : runL ar (d.drop k) g s = match stepL ar d[k] g s with
  | none => (true, g, s)
  | some (g', s', j) => runL ar (d.drop (k + 1 + j)) g' s' := by
 rw [List.drop_eq_getElem_cons h, runL_cons]
 simp only [List.drop_drop]
theorem runL_end (ar : Int → Int → Int → Int) {d : DeedL} {k : Nat} (h : d.length ≤ k) (g s : List Int) : runL ar (d.drop k) g s = (false, g, s) := by
 rw [List.drop_eq_nil_of_le h]; rfl
def zero4 : List Int := [0, 0, 0, 0]
def doL (ar : Int → Int → Int → Int) (s : List Int) (d : DeedL) : List Int × Int × List Int :=
 let r := runL ar d zero4 s
 if r.1 = true then (s, 9, r.2.1) else (r.2.2, 0, r.2.1)
def resCells (c : Int) (g : List Int) : List Value := .int .i64 c :: intCells g
end Go.SL
end
section
namespace Go.SL
theorem run_buildSlice {P : Program} {t e : TypeId} {n size : Nat} {parts : List (Nat × Value)} {z : Value} {cs : List Value} (ht : P.underlying t = some (.slice e)) (hi : P.info? e ≠ none) (hc : P.cellsOf e = size) (hz : ∀ w, (zeroValue e).run P w = .ok z w)
  (hn : (!Nat.beq (n * size) 0 && Nat.ble (n * size) (2 ^ 24)) = true) (hf : Instr.fill (fun i => some (i * size, size)) ((Array.range (n * size)).map (z.cells[· % z.cells.size]!)) parts = some cs.toArray) :
  ∀ w, (Instr.buildSlice t n parts.toArray).run P w = .ok (.slice (some ⟨w.heap.size, 0, none⟩) n n) (w.alloc (.cells cs.toArray e)) := by
 intro w
 have h2 : ∀ w, (sizeOf e).run P w = .ok size w := by
  intro w
  unfold Program.cellsOf at hc
  cases hi' : P.info? e with
  | none => exact absurd hi' hi
  | some i => simp [hi'] at hc; simp [sizeOf, typeInfo, hi', hc]
 simp only [Bool.and_eq_true, Bool.not_eq_true'] at hn
 obtain ⟨hn1, hn2⟩ := hn
 have hn3 := Nat.le_of_ble_eq_true hn2
 have hn1 : n * size ≠ 0 := fun h => by rw [h] at hn1; cases hn1
 simp only [Instr.buildSlice, underlying]
 simp [ht, h2, hz, hf, newRow, hn1, Nat.not_lt.2 hn3]
end Go.SL
namespace Go.SL
theorem one_resCells (c : Int) (g : List Int) : ∀ u ∈ (resCells c g).toArray.toList, u.oneCell' = true := by
 intro u hu
 simp only [resCells, List.mem_cons] at hu
 rcases hu with rfl | hu
 ·rfl
 ·exact one_intCells g u hu
end Go.SL
namespace Go.SL
theorem blk_rds {w : World} {b e size n : Nat} {cs : List Value} (hb : (Chunk.blk b e cs).holds w) (hn : cs.length = n * size) : Rds w.cell? (.slice (some ⟨b, 0, none⟩) n n) size n cs :=
 ⟨_, n, rfl, Nat.le_refl _, hn, fun _ => ⟨_, rfl, fun j v hj => blk_cells hb 0 (cs' := cs) (fun j v hv => by simpa using hv) j v hj⟩⟩
section
variable {C : Cx} {l : Fr} {m : Hp} {ty : TypeId} {pos : String} {after : Array Edge} {d : Nat}
theorem x_appendI {Φ : Act → World → Prop} {Q : Exit → Act → World → Prop} {s x : Operand} {t e : TypeId} {z v vx : Value} {size bytes n k : Nat} {xs news : List Value} (i : Nat) (hm : m[i]? = some (Own v e size n xs)) (hs : rd l s = some v) (hx : rd l x = some vx)
  (ht : C.P.underlying t = some (.slice e)) (hi : (C.P.info? e).map (fun i => (i.zero, i.size, i.bytes)) = some (some z, size, bytes)) (hzs : z.cells.size = size) (hsz : 0 < size)
  (hr : ∀ w, St C.w0 C.F m w → Rds w.cell? vx size k news) (h1 : ∀ u ∈ news, u.oneCell' = true) (hb : (n + k) * bytes ≤ 140737488355328) (h63 : n + k ≤ maxLen) (hd : Nat.blt d C.N = true)
  (h : ∀ v', G C ((d, v') :: l) (m.set i (Own v' e size (n + k) (xs ++ news))) Φ) :
  G C l m (fun a w => Oper.wp C.P ⟨some d, .call ⟨.builtin .append, #[s, x], #[t, t]⟩, ty, pos, after, none⟩ a w Φ Q) := by
 cases hf : C.P.info? e with
 | none => rw [hf] at hi; cases hi
 | some inf =>
  rw [hf] at hi
  simp only [Option.map_some, Option.some.injEq, Prod.mk.injEq] at hi
  exact x_append i hm hs hx ht hf hi.1 hi.2.1 hi.2.2 hzs hsz hr h1 hb h63 hd h
end
end Go.SL
namespace Go.SL
section
variable {C : Cx} {l : Fr} {m : Hp}
theorem g_shape {Φ : Act → World → Prop} {v : Value} {e size n : Nat} {xs : List Value} (i : Nat) (hm : m[i]? = some (Own v e size n xs)) (h : ∀ A k, v = .slice A n k → n ≤ k → G C l m Φ) : G C l m Φ := fun a w ha hw => by
 obtain ⟨A, k, h1, h2, _⟩ := own_rds (hw.mem hm)
 exact h A k h1 h2 a w ha hw
end
end Go.SL
end
namespace Go.SL
abbrev uT0 := @Go.Proofs.Tryz.underlying0
abbrev uT2 := @Go.Proofs.Tryz.underlying2
abbrev uT3 := @Go.Proofs.Tryz.underlying3
abbrev uT4 := @Go.Proofs.Tryz.underlying4
abbrev uT5 := @Go.Proofs.Tryz.underlying5
abbrev uT9 := @Go.Proofs.Tryz.underlying9
abbrev uT20 := @Go.Proofs.Tryz.underlying20
abbrev uT21 := @Go.Proofs.Tryz.underlying21
abbrev uT22 := @Go.Proofs.Tryz.underlying22
abbrev uT28 := @Go.Proofs.Tryz.underlying28
abbrev uT30 := @Go.Proofs.Tryz.underlying30
abbrev uT32 := @Go.Proofs.Tryz.underlying32
abbrev uT33 := @Go.Proofs.Tryz.underlying33
abbrev uT35 := @Go.Proofs.Tryz.underlying35
abbrev uT37 := @Go.Proofs.Tryz.underlying37
abbrev uT39 := @Go.Proofs.Tryz.underlying39
abbrev uT40 := @Go.Proofs.Tryz.underlying40
abbrev uT42 := @Go.Proofs.Tryz.underlying42
abbrev uT48 := @Go.Proofs.Tryz.underlying48
abbrev uT50 := @Go.Proofs.Tryz.underlying50
abbrev uT51 := @Go.Proofs.Tryz.underlying51
abbrev uT53 := @Go.Proofs.Tryz.underlying53
abbrev uT55 := @Go.Proofs.Tryz.underlying55
abbrev uT58 := @Go.Proofs.Tryz.underlying58
abbrev uT60 := @Go.Proofs.Tryz.underlying60
abbrev uT63 := @Go.Proofs.Tryz.underlying63
abbrev uT65 := @Go.Proofs.Tryz.underlying65
abbrev uT69 := @Go.Proofs.Tryz.underlying69
abbrev uT70 := @Go.Proofs.Tryz.underlying70
abbrev uT72 := @Go.Proofs.Tryz.underlying72
abbrev uT73 := @Go.Proofs.Tryz.underlying73
abbrev uT78 := @Go.Proofs.Tryz.underlying78
abbrev uT80 := @Go.Proofs.Tryz.underlying80
abbrev uT90 := @Go.Proofs.Tryz.underlying90
abbrev uT92 := @Go.Proofs.Tryz.underlying92
abbrev uT94 := @Go.Proofs.Tryz.underlying94
abbrev uT96 := @Go.Proofs.Tryz.underlying96
abbrev uT101 := @Go.Proofs.Tryz.underlying101
abbrev uT109 := @Go.Proofs.Tryz.underlying109
abbrev uT111 := @Go.Proofs.Tryz.underlying111
abbrev uT115 := @Go.Proofs.Tryz.underlying115
abbrev uT122 := @Go.Proofs.Tryz.underlying122
abbrev uT127 := @Go.Proofs.Tryz.underlying127
abbrev uT129 := @Go.Proofs.Tryz.underlying129
abbrev uT130 := @Go.Proofs.Tryz.underlying130
abbrev uT147 := @Go.Proofs.Tryz.underlying147
abbrev uT148 := @Go.Proofs.Tryz.underlying148
abbrev uT152 := @Go.Proofs.Tryz.underlying152
abbrev uT153 := @Go.Proofs.Tryz.underlying153
abbrev uT156 := @Go.Proofs.Tryz.underlying156
abbrev uT158 := @Go.Proofs.Tryz.underlying158
abbrev uT159 := @Go.Proofs.Tryz.underlying159
abbrev uT161 := @Go.Proofs.Tryz.underlying161
abbrev uT163 := @Go.Proofs.Tryz.underlying163
abbrev uT165 := @Go.Proofs.Tryz.underlying165
abbrev uT166 := @Go.Proofs.Tryz.underlying166
abbrev uT170 := @Go.Proofs.Tryz.underlying170
abbrev uT172 := @Go.Proofs.Tryz.underlying172
abbrev uT182 := @Go.Proofs.Tryz.underlying182
abbrev uT185 := @Go.Proofs.Tryz.underlying185
abbrev uT190 := @Go.Proofs.Tryz.underlying190
abbrev uT191 := @Go.Proofs.Tryz.underlying191
abbrev uT194 := @Go.Proofs.Tryz.underlying194
abbrev uT196 := @Go.Proofs.Tryz.underlying196
abbrev uT197 := @Go.Proofs.Tryz.underlying197
abbrev uT203 := @Go.Proofs.Tryz.underlying203
abbrev uT204 := @Go.Proofs.Tryz.underlying204
abbrev uT206 := @Go.Proofs.Tryz.underlying206
abbrev uT210 := @Go.Proofs.Tryz.underlying210
abbrev uT211 := @Go.Proofs.Tryz.underlying211
abbrev uT214 := @Go.Proofs.Tryz.underlying214
abbrev uT215 := @Go.Proofs.Tryz.underlying215
abbrev uT217 := @Go.Proofs.Tryz.underlying217
abbrev uT218 := @Go.Proofs.Tryz.underlying218
abbrev uT222 := @Go.Proofs.Tryz.underlying222
abbrev uT225 := @Go.Proofs.Tryz.underlying225
abbrev uT226 := @Go.Proofs.Tryz.underlying226
abbrev uT228 := @Go.Proofs.Tryz.underlying228
abbrev uT230 := @Go.Proofs.Tryz.underlying230
abbrev uT233 := @Go.Proofs.Tryz.underlying233
abbrev uT237 := @Go.Proofs.Tryz.underlying237
abbrev uT241 := @Go.Proofs.Tryz.underlying241
abbrev uT243 := @Go.Proofs.Tryz.underlying243
abbrev uT245 := @Go.Proofs.Tryz.underlying245
abbrev uT248 := @Go.Proofs.Tryz.underlying248
abbrev uT249 := @Go.Proofs.Tryz.underlying249
abbrev uT259 := @Go.Proofs.Tryz.underlying259
abbrev uT262 := @Go.Proofs.Tryz.underlying262
abbrev uT263 := @Go.Proofs.Tryz.underlying263
abbrev uT270 := @Go.Proofs.Tryz.underlying270
abbrev uT274 := @Go.Proofs.Tryz.underlying274
abbrev uT276 := @Go.Proofs.Tryz.underlying276
theorem lnA {α : Type} : (∀ a b : List α, (a ++ b).length = a.length + b.length) ∧ (∀ (x : α) (a : List α), (x :: a).length = a.length + 1) ∧ ([] : List α).length = 0 := ⟨fun _ _ => List.length_append, fun _ _ => rfl, rfl⟩
end Go.SL
