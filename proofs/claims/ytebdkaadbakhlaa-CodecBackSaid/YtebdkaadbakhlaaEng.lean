/- Ytebdkaadbakhlaa: part Eng of this seat's own texts. -/
import Derived.WalkKit
set_option linter.unusedVariables false
set_option linter.unusedSimpArgs false
namespace Go.SL
open Go.RowKit

/-! ## Frames as knowledge -/
abbrev Fr := List (Nat × Value)
def look : Fr → Nat → Option Value
  | [], _ => none
  | (k, v) :: l, t => bif Nat.beq k t then some v else look l t
def Knows (a : Act) (l : Fr) : Prop := ∀ t v, look l t = some v → a.tmps[t]? = some v
def rd (l : Fr) : Operand → Option Value
  | .tmp t => look l t
  | .const v => some v
  | .global g => some (.pointer (some ⟨g, 0, none⟩))
  | .func f => some (.func (.func f) #[] #[])

theorem Knows.nil (a : Act) : Knows a [] := fun _ _ h => by cases h
theorem rd_eval {a : Act} {l : Fr} {x : Operand} {v : Value} (hk : Knows a l) (h : rd l x = some v) : a.eval x = v := by
  cases x with
  | tmp t => have := hk t v h; simp [Act.eval, this]
  | const u => simp [rd] at h; simp [Act.eval, h]
  | global g => simp [rd] at h; simp [Act.eval, h]
  | func f => simp [rd] at h; simp [Act.eval, h]

theorem Knows.put {a : Act} {l : Fr} {d : Nat} {v : Value} (hk : Knows a l) (hd : d < a.tmps.size) : Knows (a.put (some d) v) ((d, v) :: l) := by
  intro t u h
  unfold look at h
  by_cases hdt : d = t
  · subst hdt
    simp [Nat.beq_refl] at h
    subst h
    simp [Act.put, hd]
  · have hb : Nat.beq d t = false := by
      cases hh : Nat.beq d t with
      | false => rfl
      | true => exact absurd (Nat.eq_of_beq_eq_true hh) hdt
    rw [hb] at h
    have := hk t u h
    simp only [Act.put]
    rw [Array.getElem?_setIfInBounds_ne hdt]
    exact this
theorem Knows.putNone {a : Act} {l : Fr} {v : Value} (hk : Knows a l) : Knows (a.put none v) l := hk
theorem put_size {a : Act} {d : Option Nat} {v : Value} : (a.put d v).tmps.size = a.tmps.size := by cases d <;> simp [Act.put]
theorem put_defers {a : Act} {d : Option Nat} {v : Value} : (a.put d v).defers = a.defers := by cases d <;> simp [Act.put]

/-- what is known in l is known in l' too -/
def Sub (l l' : Fr) : Prop := ∀ t v, look l t = some v → look l' t = some v
theorem Sub.knows {l l' : Fr} {a : Act} (h : Sub l l') (hk : Knows a l') : Knows a l := fun t v ht => hk t v (h t v ht)
theorem Sub.nil (l : Fr) : Sub [] l := fun _ _ h => by cases h
theorem Sub.cons {l l' : Fr} {t : Nat} {v : Value} (h : look l' t = some v) (hs : Sub l l') : Sub ((t, v) :: l) l' := by
  intro t' v' h'
  unfold look at h'
  cases hb : Nat.beq t t' with
  | true => rw [hb] at h'; simp at h'; subst h'; rw [← Nat.eq_of_beq_eq_true hb]; exact h
  | false => rw [hb] at h'; exact hs t' v' h'

/-! ## Memory: what changed -/
structure Chg (w0 : World) (F : Nat → Prop) (w : World) : Prop where
  os : w.os = w0.os
  tape : w.tape = w0.tape
  output : w.output = w0.output
  size : w0.heap.size ≤ w.heap.size
  block : ∀ b, b < w0.heap.size → ¬ F b → w.heap[b]? = w0.heap[b]?
theorem Chg.refl (w : World) (F : Nat → Prop) : Chg w F w := ⟨rfl, rfl, rfl, Nat.le_refl _, fun _ _ _ => rfl⟩
theorem Chg.mono {w0 w : World} {F F' : Nat → Prop} (h : Chg w0 F w) (hF : ∀ b, F b → F' b) : Chg w0 F' w :=
  ⟨h.os, h.tape, h.output, h.size, fun b hb hn => h.block b hb (fun hf => hn (hF b hf))⟩
/-- a second step that changes only F'-blocks of what was there, or what is new -/
theorem Chg.trans {w0 w w' : World} {F F' : Nat → Prop} (h : Chg w0 F w) (h' : Chg w F' w') (hF : ∀ b, b < w0.heap.size → F' b → F b) : Chg w0 F w' :=
  ⟨h'.os.trans h.os, h'.tape.trans h.tape, h'.output.trans h.output, Nat.le_trans h.size h'.size, fun b hb hn =>
    (h'.block b (Nat.lt_of_lt_of_le hb h.size) (fun hf => hn (hF b hb hf))).trans (h.block b hb hn)⟩
theorem Chg.below {w0 w : World} {F : Nat → Prop} (h : Chg w0 F w) (hF : ∀ b, ¬ F b) : Below w0.heap.size w0 w :=
  ⟨h.os, h.tape, h.output, h.size, fun b hb => h.block b hb (hF b)⟩
theorem Chg.cell {w0 w : World} {F : Nat → Prop} (h : Chg w0 F w) {p : Addr} (hp : p.block < w0.heap.size) (hF : ¬ F p.block) : w.cell? p = w0.cell? p :=
  World.cell?_of_block (w := w0) (h.block p.block hp hF)
theorem Chg.drew {w0 w : World} {F : Nat → Prop} (h : Chg w0 F w) : Chg w0 F w.drew := ⟨h.os, h.tape, h.output, h.size, h.block⟩

/-! ## Chunks: pieces of memory, each with the blocks that it is about -/
structure Gen where
  foot : Nat → Prop
  holds : World → Prop
  lt : ∀ {w b}, holds w → foot b → b < w.heap.size
  stable : ∀ {w w'}, (∀ b, foot b → w'.heap[b]? = w.heap[b]?) → holds w → holds w'
inductive Chunk where
  | blk (b : Nat) (e : TypeId) (cs : List Value)
  | gen (g : Gen)
def Chunk.foot : Chunk → Nat → Prop
  | .blk b _ _, k => k = b
  | .gen g, k => g.foot k
def Chunk.holds : Chunk → World → Prop
  | .blk b e cs, w => w.heap[b]? = some (.cells cs.toArray e (0, 0))
  | .gen g, w => g.holds w
theorem lt_of_heap {w : World} {b : Nat} {o : Obj} (h : w.heap[b]? = some o) : b < w.heap.size := by
  rcases Nat.lt_or_ge b w.heap.size with hl | hg
  · exact hl
  · rw [Array.getElem?_eq_none hg] at h; cases h
theorem Chunk.lt {c : Chunk} {w : World} {b : Nat} (h : c.holds w) (hf : c.foot b) : b < w.heap.size := by
  cases c with
  | blk b' e cs => simp only [Chunk.foot] at hf; subst hf; exact lt_of_heap h
  | gen g => exact g.lt h hf
theorem Chunk.stable {c : Chunk} {w w' : World} (hs : ∀ b, c.foot b → w'.heap[b]? = w.heap[b]?) (h : c.holds w) : c.holds w' := by
  cases c with
  | blk b' e cs => exact (hs b' rfl).trans h
  | gen g => exact g.stable hs h
abbrev Hp := List Chunk
def Disj (c d : Chunk) : Prop := ∀ b, c.foot b → ¬ d.foot b
theorem Disj.symm {c d : Chunk} (h : Disj c d) : Disj d c := fun b hd hc => h b hc hd
def feet (m : Hp) (b : Nat) : Prop := ∃ c ∈ m, c.foot b

structure St (w0 : World) (F : Nat → Prop) (m : Hp) (w : World) : Prop where
  chg : Chg w0 F w
  hold : ∀ c ∈ m, c.holds w
  sep : m.Pairwise Disj
  own : ∀ c ∈ m, ∀ b, c.foot b → w0.heap.size ≤ b ∨ F b

/-- What a call leaves: only 'mc' was touched; 'mc'' is what is there now. -/
structure Res (w : World) (mc mc' : Hp) (w' : World) : Prop where
  chg : Chg w (feet mc) w'
  hold : ∀ c ∈ mc', c.holds w'
  sep : mc'.Pairwise Disj
  own : ∀ c ∈ mc', ∀ b, c.foot b → w.heap.size ≤ b ∨ feet mc b

theorem St.res {w : World} {mc m : Hp} {w' : World} (h : St w (feet mc) m w') : Res w mc m w' := ⟨h.chg, h.hold, h.sep, h.own⟩
theorem St.start {w : World} {mc : Hp} (hold : ∀ c ∈ mc, c.holds w) (sep : mc.Pairwise Disj) : St w (feet mc) mc w :=
  ⟨Chg.refl _ _, hold, sep, fun c hc _ hb => .inr ⟨c, hc, hb⟩⟩
theorem Res.sub {w w' : World} {mc m m' : Hp} (h : Res w mc m w') (hs : m'.Sublist m) : Res w mc m' w' :=
  ⟨h.chg, fun c hc => h.hold c (hs.subset hc), h.sep.sublist hs, fun c hc => h.own c (hs.subset hc)⟩
theorem Res.nil {w w' : World} {mc m : Hp} (h : Res w mc m w') : Res w mc [] w' := h.sub (List.nil_sublist _)
theorem Res.below {w w' : World} {mc' : Hp} (h : Res w [] mc' w') : Below w.heap.size w w' := h.chg.below (fun _ ⟨_, hc, _⟩ => by cases hc)
theorem St.sub {w0 w : World} {F : Nat → Prop} {m m' : Hp} (h : St w0 F m w) (hs : m'.Sublist m) : St w0 F m' w :=
  ⟨h.chg, fun c hc => h.hold c (hs.subset hc), h.sep.sublist hs, fun c hc => h.own c (hs.subset hc)⟩
theorem St.perm {w0 w : World} {F : Nat → Prop} {m m' : Hp} (h : St w0 F m w) (hs : m.Perm m') : St w0 F m' w :=
  ⟨h.chg, fun c hc => h.hold c (hs.mem_iff.2 hc), hs.pairwise h.sep (fun h => h.symm), fun c hc => h.own c (hs.mem_iff.2 hc)⟩

/-- the frame rule: mc, which stands ahead, is replaced -/
theorem St.call {w0 w w' : World} {F : Nat → Prop} {mc mc' mr : Hp} (h : St w0 F (mc ++ mr) w) (hr : Res w mc mc' w') : St w0 F (mc' ++ mr) w' := by
  have hsep := List.pairwise_append.1 h.sep
  have hkeep : ∀ d ∈ mr, ∀ b, d.foot b → w'.heap[b]? = w.heap[b]? := fun d hd b hb =>
    hr.chg.block b (Chunk.lt (h.hold d (by simp [hd])) hb) (fun ⟨c, hc, hcb⟩ => hsep.2.2 c hc d hd b hcb hb)
  refine ⟨h.chg.trans hr.chg (fun b hb ⟨c, hc, hcb⟩ => ?_), ?_, ?_, ?_⟩
  · rcases h.own c (by simp [hc]) b hcb with h1 | h1
    · omega
    · exact h1
  · intro c hc
    rcases List.mem_append.1 hc with hc | hc
    · exact hr.hold c hc
    · exact Chunk.stable (hkeep c hc) (h.hold c (by simp [hc]))
  · refine List.pairwise_append.2 ⟨hr.sep, hsep.2.1, fun c hc d hd b hcb hdb => ?_⟩
    rcases hr.own c hc b hcb with h1 | ⟨c', hc', hcb'⟩
    · have := Chunk.lt (h.hold d (by simp [hd])) hdb; omega
    · exact hsep.2.2 c' hc' d hd b hcb' hdb
  · intro c hc b hb
    rcases List.mem_append.1 hc with hc | hc
    · rcases hr.own c hc b hb with h1 | ⟨c', hc', hcb'⟩
      · have := h.chg.size; left; omega
      · exact h.own c' (by simp [hc']) b hcb'
    · exact h.own c (by simp [hc]) b hb

theorem perm_erase {α : Type} : ∀ (l : List α) (i : Nat) (x : α), l[i]? = some x → l.Perm (x :: l.eraseIdx i)
  | [], i, x, h => by simp at h
  | y :: l, 0, x, h => by simp at h; subst h; simp
  | y :: l, i + 1, x, h => by
    simp only [List.getElem?_cons_succ] at h
    exact ((perm_erase l i x h).cons y).trans (List.Perm.swap x y _)

/-- one chunk, at place i, is replaced by another over the same blocks (or new ones) -/
theorem St.at_ {w0 w w' : World} {F : Nat → Prop} {m : Hp} {i : Nat} {c c' : Chunk} (h : St w0 F m w) (hi : m[i]? = some c) (hr : Res w [c] [c'] w') : St w0 F (m.set i c') w' := by
  have hlt := (List.getElem?_eq_some_iff.1 hi).1
  have h2 : St w0 F ([c'] ++ m.eraseIdx i) w' := St.call (mc := [c]) (h.perm (perm_erase m i c hi)) hr
  refine h2.perm ?_
  have h3 := perm_erase (m.set i c') i c' (by simp [hlt])
  rw [List.eraseIdx_set_eq] at h3
  exact h3.symm
theorem St.front {w0 w : World} {F : Nat → Prop} {m : Hp} {i : Nat} {c : Chunk} (h : St w0 F m w) (hi : m[i]? = some c) : St w0 F (c :: m.eraseIdx i) w := by
  exact h.perm (perm_erase m i c hi)
theorem St.mem {w0 w : World} {F : Nat → Prop} {m : Hp} {i : Nat} {c : Chunk} (h : St w0 F m w) (hi : m[i]? = some c) : c.holds w :=
  h.hold c (List.mem_of_getElem? hi)

/-- a new block -/
theorem Res.alloc (w : World) (e : TypeId) (cs : List Value) : Res w [] [.blk w.heap.size e cs] (w.alloc (.cells cs.toArray e)) := by
  refine ⟨⟨rfl, rfl, rfl, by simp, fun b hb _ => Below.heap_alloc w _ b hb⟩, ?_, by simp, ?_⟩
  · intro c hc
    simp only [List.mem_singleton] at hc
    subst hc
    exact heap_alloc_new w _
  · intro c hc b hb
    simp only [List.mem_singleton] at hc
    subst hc
    simp only [Chunk.foot] at hb
    left; omega
theorem St.alloc {w0 w : World} {F : Nat → Prop} {m : Hp} (h : St w0 F m w) (e : TypeId) (cs : List Value) : St w0 F (.blk w.heap.size e cs :: m) (w.alloc (.cells cs.toArray e)) :=
  St.call (mc := []) (mr := m) h (Res.alloc w e cs)
/-- one cell of a block is written -/
theorem Res.setCell {w : World} {b e : Nat} {cs : List Value} (h : (Chunk.blk b e cs).holds w) (i : Nat) (v : Value) : Res w [.blk b e cs] [.blk b e (cs.set i v)] (w.setCell ⟨b, i, none⟩ v) := by
  refine ⟨⟨rfl, rfl, rfl, by simp [World.setCell], fun k hk hn => Below.heap_setCell w _ v k (fun e => hn ⟨_, List.mem_singleton.2 rfl, e⟩)⟩, ?_, by simp, ?_⟩
  · intro c hc
    simp only [List.mem_singleton] at hc
    subst hc
    simp only [Chunk.holds] at h ⊢
    simp [World.setCell, Array.getElem?_modify, h]
  · intro c hc k hk
    simp only [List.mem_singleton] at hc
    subst hc
    exact .inr ⟨_, List.mem_singleton.2 rfl, hk⟩


/-! ## The judgement: what is left to be run, what is known of the frame and of memory -/
structure Cx where
  P : Program
  N : Nat
  w0 : World
  F : Nat → Prop
  Q : Exit → Act → World → Prop
  D : List Deferred
inductive Kt where
  | code (c : Code)
  | blk (id : Nat)
  | inv (I : Act → World → Prop)
def Kp (C : Cx) : List Kt → Exit → Act → World → Prop
  | [] => C.Q
  | .code c :: ks => Exit.then (fun a w => c.wp C.P (Kp C ks) a w) (Kp C ks)
  | .blk id :: ks => Exit.inBlock id (Kp C ks)
  | .inv I :: ks => Exit.then I (Kp C ks)
structure Ok (C : Cx) (l : Fr) (a : Act) : Prop where
  size : a.tmps.size = C.N
  defers : a.defers = C.D
  knows : Knows a l
def G (C : Cx) (l : Fr) (m : Hp) (Φ : Act → World → Prop) : Prop := ∀ a w, Ok C l a → St C.w0 C.F m w → Φ a w
abbrev E (C : Cx) (ks : List Kt) (l : Fr) (m : Hp) : Prop := G C l m (Kp C ks .normal)
/-- a list of operations (of the region 'ops'), then 'ks' -/
abbrev W (C : Cx) (ops : Array Oper) (os : List Oper) (ks : List Kt) (l : Fr) (m : Hp) : Prop := G C l m (wpList C.P ops (Kp C ks) os)

section
variable {C : Cx} {ks : List Kt} {l : Fr} {m : Hp}
theorem Ok.put {a : Act} {d : Nat} {v : Value} (h : Ok C l a) (hd : d < C.N) : Ok C ((d, v) :: l) (a.put (some d) v) :=
  ⟨by rw [put_size]; exact h.size, by rw [put_defers]; exact h.defers, h.knows.put (by rw [h.size]; exact hd)⟩
theorem Ok.sub {a : Act} {l' : Fr} (h : Ok C l a) (hs : Sub l' l) : Ok C l' a := ⟨h.size, h.defers, hs.knows h.knows⟩
theorem e_seq {x y : Code} (h : E C (.code x :: .code y :: ks) l m) : E C (.code (.seq x y) :: ks) l m := by
  intro a w ha hw
  have h1 := h a w ha hw
  simp only [Kp, Exit.then] at h1 ⊢
  exact wp_seq h1
theorem e_skip (h : E C ks l m) : E C (.code .skip :: ks) l m := fun a w ha hw => wp_skip (h a w ha hw)
theorem e_block {id : Nat} {c : Code} (h : E C (.code c :: .blk id :: ks) l m) : E C (.code (.block id c) :: ks) l m := by
  intro a w ha hw
  exact wp_block (h a w ha hw)
theorem e_blk {id : Nat} (h : E C ks l m) : E C (.blk id :: ks) l m := fun a w ha hw => h a w ha hw
/-- where an exit leads to -/
def pop (id : Nat) : List Kt → Option (List Kt)
  | [] => none
  | .blk id' :: ks => bif Nat.beq id id' then some ks else pop id ks
  | _ :: ks => pop id ks
theorem pop_kp {id : Nat} : ∀ {ks ks' : List Kt} {a : Act} {w : World}, pop id ks = some ks' → Kp C ks' .normal a w → Kp C ks (.exit id) a w
  | [], ks', a, w, h, _ => by cases h
  | .blk id' :: ks, ks', a, w, h, hk => by
    simp only [pop] at h
    simp only [Kp, Exit.inBlock]
    cases hb : Nat.beq id id' with
    | true =>
      rw [hb] at h
      simp at h
      subst h
      rw [if_pos (Nat.eq_of_beq_eq_true hb)]
      exact hk
    | false =>
      rw [hb] at h
      have : id ≠ id' := fun e => by subst e; simp [Nat.beq_refl] at hb
      rw [if_neg this]
      exact pop_kp h hk
  | .code c :: ks, ks', a, w, h, hk => by
    simp only [pop] at h
    exact pop_kp (ks := ks) h hk
  | .inv I :: ks, ks', a, w, h, hk => by
    simp only [pop] at h
    exact pop_kp (ks := ks) h hk
theorem e_exit {id : Nat} {ks' : List Kt} (hp : pop id ks = some ks') (h : E C ks' l m) : E C (.code (.exit id) :: ks) l m :=
  fun a w ha hw => wp_exit (pop_kp hp (h a w ha hw))
theorem ret_kp : ∀ {ks : List Kt} {a : Act} {w : World}, C.Q .ret a w → Kp C ks .ret a w
  | [], _, _, h => h
  | .blk _ :: ks, _, _, h => ret_kp (ks := ks) h
  | .code _ :: ks, _, _, h => ret_kp (ks := ks) h
  | .inv _ :: ks, _, _, h => ret_kp (ks := ks) h
theorem panic_kp {ch : List PanicEntry} : ∀ {ks : List Kt} {a : Act} {w : World}, C.Q (.panic ch) a w → Kp C ks (.panic ch) a w
  | [], _, _, h => h
  | .blk _ :: ks, _, _, h => panic_kp (ks := ks) h
  | .code _ :: ks, _, _, h => panic_kp (ks := ks) h
  | .inv _ :: ks, _, _, h => panic_kp (ks := ks) h
theorem e_ret (h : ∀ a w, Ok C l a → St C.w0 C.F m w → C.Q .ret a w) : E C (.code .ret :: ks) l m := fun a w ha hw => wp_ret (ret_kp (h a w ha hw))
theorem e_end (h : ∀ a w, Ok C l a → St C.w0 C.F m w → C.Q .normal a w) : E C [] l m := h
theorem e_cond {c : Operand} {x y : Code} {b : Bool} (hc : rd l c = some (.bool b)) (ht : b = true → E C (.code x :: ks) l m) (hf : b = false → E C (.code y :: ks) l m) : E C (.code (.cond c x y) :: ks) l m := by
  intro a w ha hw
  refine wp_cond (t := b) (rd_eval ha.knows hc) ?_
  cases b with
  | true => exact ht rfl a w ha hw
  | false => exact hf rfl a w ha hw
theorem e_condD {c : Operand} {x y : Code} {p : Prop} [Decidable p] (hc : rd l c = some (.bool (decide p))) (ht : p → E C (.code x :: ks) l m) (hf : ¬ p → E C (.code y :: ks) l m) : E C (.code (.cond c x y) :: ks) l m :=
  e_cond hc (fun h => ht (of_decide_eq_true h)) (fun h => hf (of_decide_eq_false h))
theorem e_condT {c : Operand} {x y : Code} (hc : rd l c = some (.bool true)) (ht : E C (.code x :: ks) l m) : E C (.code (.cond c x y) :: ks) l m :=
  e_cond hc (fun _ => ht) (fun h => by cases h)
theorem e_condF {c : Operand} {x y : Code} (hc : rd l c = some (.bool false)) (hf : E C (.code y :: ks) l m) : E C (.code (.cond c x y) :: ks) l m :=
  e_cond hc (fun h => by cases h) (fun _ => hf)
theorem e_condDT {c : Operand} {x y : Code} {p : Prop} [Decidable p] (hc : rd l c = some (.bool (decide p))) (hp : p) (ht : E C (.code x :: ks) l m) : E C (.code (.cond c x y) :: ks) l m :=
  e_condD hc (fun _ => ht) (fun h => absurd hp h)
theorem e_condDF {c : Operand} {x y : Code} {p : Prop} [Decidable p] (hc : rd l c = some (.bool (decide p))) (hp : ¬ p) (hf : E C (.code y :: ks) l m) : E C (.code (.cond c x y) :: ks) l m :=
  e_condD hc (fun h => absurd h hp) (fun _ => hf)
/-- ways meet: from here on only this is known -/
theorem e_sub {l' : Fr} (hs : Sub l' l) (h : E C ks l' m) : E C ks l m := fun a w ha hw => h a w (ha.sub hs) hw
theorem e_heap {m' : Hp} (hs : ∀ w, St C.w0 C.F m w → St C.w0 C.F m' w) (h : E C ks l m') : E C ks l m := fun a w ha hw => h a w ha (hs w hw)
theorem e_front {i : Nat} {c : Chunk} (hi : m[i]? = some c) (h : E C ks l (c :: m.eraseIdx i)) : E C ks l m := e_heap (fun _ hw => hw.front hi) h
/-- a cut: 'c' is run by itself; what follows is run from the assertion 'M' -/
theorem e_cut {c : Code} {σ : Type} (L : σ → Fr) (H : σ → Hp) (J : σ → Prop) (hc : E C (.code c :: .inv (fun a w => ∃ s, J s ∧ Ok C (L s) a ∧ St C.w0 C.F (H s) w) :: ks) l m)
    (hk : ∀ s, J s → E C ks (L s) (H s)) : E C (.code c :: ks) l m := by
  intro a w ha hw
  have h1 := hc a w ha hw
  refine wp_mono h1 fun e a' w' hq => ?_
  cases e with
  | normal => obtain ⟨s, hJ, h2, h3⟩ := hq; exact hk s hJ a' w' h2 h3
  | _ => exact hq
theorem e_inv {σ : Type} {L : σ → Fr} {H : σ → Hp} {J : σ → Prop} (s : σ) (hJ : J s) (hl : Sub (L s) l) (hm : ∀ w, St C.w0 C.F m w → St C.w0 C.F (H s) w) :
    E C (.inv (fun a w => ∃ s, J s ∧ Ok C (L s) a ∧ St C.w0 C.F (H s) w) :: ks) l m :=
  fun _ w ha hw => ⟨s, hJ, ha.sub hl, hm w hw⟩
/-- a loop -/
theorem e_loop {c : Code} {σ : Type} (L : σ → Fr) (H : σ → Hp) (J : σ → Prop) (μ : σ → Nat) (s0 : σ) (h0 : J s0) (hl : Sub (L s0) l) (hm : ∀ w, St C.w0 C.F m w → St C.w0 C.F (H s0) w)
    (round : ∀ s, J s → E C (.code c :: .inv (fun a w => ∃ s', (J s' ∧ μ s' < μ s) ∧ Ok C (L s') a ∧ St C.w0 C.F (H s') w) :: ks) (L s) (H s)) : E C (.code (.loop c) :: ks) l m := by
  intro a w ha hw b k cs
  have key : ∀ n s, μ s = n → J s → ∀ a w, Ok C (L s) a → St C.w0 C.F (H s) w →
      ∃ e a' w', Kp C ks e a' w' ∧ Arrives C.P (lone (b.at a (.code c :: .inLoop c :: k)) cs w) b k cs e a' w' := by
    intro n
    induction n using Nat.strongRecOn with
    | _ n ih =>
      intro s hn hJ a w ha hw
      obtain ⟨e, a₁, w₁, hq, harr⟩ := round s hJ a w ha hw b (.inLoop c :: k) cs
      cases e with
      | normal =>
        obtain ⟨s', ⟨hJ', hlt⟩, ha', hw'⟩ := hq
        obtain ⟨e₂, a₂, w₂, hq₂, harr₂⟩ := ih (μ s') (hn ▸ hlt) s' rfl hJ' a₁ w₁ ha' hw'
        exact ⟨e₂, a₂, w₂, hq₂, .of_steps (Steps.trans harr (.one step_inLoop)) harr₂⟩
      | exit id => exact ⟨_, a₁, w₁, hq, .pass (x := .inLoop c) rfl (fun _ _ => .inl (by simp)) harr⟩
      | goto l => exact ⟨_, a₁, w₁, hq, .pass (x := .inLoop c) rfl (fun _ _ => .inl (by simp)) harr⟩
      | ret => exact ⟨_, a₁, w₁, hq, .pass (x := .inLoop c) rfl (fun _ _ => .inl (by simp)) harr⟩
      | panic ch => exact ⟨_, a₁, w₁, hq, .pass (x := .inLoop c) rfl (fun _ _ => .inl (by simp)) harr⟩
      | outgrown => exact ⟨_, a₁, w₁, hq, .pass (x := .inLoop c) rfl (fun _ _ => .inl (by simp)) harr⟩
  obtain ⟨e, a', w', hq, harr⟩ := key _ s0 rfl h0 a w (ha.sub hl) (hm w hw)
  exact ⟨e, a', w', hq, .of_steps (.one step_loop) harr⟩
end
end Go.SL
