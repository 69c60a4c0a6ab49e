/- Ytebdkaadbakhlac: part WL of this seat's own texts. -/
import Derived.Test.YtebdkaadbakhlacWK
set_option linter.unusedVariables false
set_option linter.unusedSimpArgs false
section

open Go Go.Proofs Go.SL
set_option maxRecDepth 100000
namespace Go.SL
theorem St.lstOpen {w0 w : World} {F : Nat → Prop} {m cs : Hp} (h : St w0 F (Lst cs :: m) w) : St w0 F (cs ++ m) w := by
  obtain ⟨h1, h2⟩ := h.hold (Lst cs) List.mem_cons_self
  obtain ⟨h3, h4⟩ := List.pairwise_cons.1 h.sep
  refine ⟨h.chg, fun c hc => ?_, List.pairwise_append.2 ⟨h2, h4, fun c hc d hd b hb hdb => h3 d hd b ⟨c, hc, hb⟩ hdb⟩, fun c hc b hb => ?_⟩
  · rcases List.mem_append.1 hc with hc | hc
    · exact h1 c hc
    · exact h.hold c (List.mem_cons_of_mem _ hc)
  · rcases List.mem_append.1 hc with hc | hc
    · exact h.own (Lst cs) List.mem_cons_self b ⟨c, hc, hb⟩
    · exact h.own c (List.mem_cons_of_mem _ hc) b hb
theorem St.lstShut {w0 w : World} {F : Nat → Prop} {m cs : Hp} (h : St w0 F (cs ++ m) w) : St w0 F (Lst cs :: m) w := by
  obtain ⟨h1, h2, h3⟩ := List.pairwise_append.1 h.sep
  refine ⟨h.chg, fun c hc => ?_, List.pairwise_cons.2 ⟨fun d hd b ⟨c, hc, hb⟩ hdb => h3 c hc d hd b hb hdb, h2⟩, fun c hc b hb => ?_⟩
  · rcases List.mem_cons.1 hc with rfl | hc
    · exact ⟨fun c hc => h.hold c (List.mem_append_left _ hc), h1⟩
    · exact h.hold c (List.mem_append_right _ hc)
  · rcases List.mem_cons.1 hc with rfl | hc
    · obtain ⟨d, hd, hb⟩ := (show feet cs b from hb)
      exact h.own d (List.mem_append_left _ hd) b hb
    · exact h.own c (List.mem_append_right _ hc) b hb
theorem St.lstSnoc {w0 w : World} {F : Nat → Prop} {m cs : Hp} {c : Chunk} (h : St w0 F (c :: Lst cs :: m) w) : St w0 F (Lst (cs ++ [c]) :: m) w := by
  have h1 := (h.perm (List.Perm.swap _ _ _)).lstOpen
  refine St.lstShut (h1.perm ?_)
  rw [List.append_assoc]
  exact List.Perm.refl _
theorem tab_succ {α : Type} (n : Nat) (f : Nat → α) : tab (n + 1) f = tab n f ++ [f n] := by simp [tab, List.range_succ]
abbrev Wks (n : Nat) (pw : Nat → Nat) (dvw : Nat → Value) (X : Nat → WkL) : Chunk := Lst (tab n fun i => Lst (wkH (pw i) (dvw i) (X i)))
abbrev Hds (n : Nat) (ph : Nat → Nat) (dvh svh : Nat → Value) (X : Nat → WkL) (sh : Nat → DeedL) : Chunk := Lst (tab n fun i => Lst (hdH (ph i) (dvh i) (svh i) (X i) (sh i)))
theorem St.wkTake {w0 w : World} {F : Nat → Prop} {m : Hp} {n k : Nat} {pw : Nat → Nat} {dvw : Nat → Value} {X : Nat → WkL} (hk : k < n) (h : St w0 F (Wks n pw dvw X :: m) w) :
    St w0 F (wkH (pw k) (dvw k) (X k) ++ (Lst ((tab n fun i => Lst (wkH (pw i) (dvw i) (X i))).set k Emp) :: m)) w := (h.lstTake (tab_get hk)).lstOpen
theorem St.wkPut {w0 w : World} {F : Nat → Prop} {m : Hp} {n k : Nat} {pw : Nat → Nat} {dvw : Nat → Value} {X : Nat → WkL} {x : WkL} (h : St w0 F (wkH (pw k) (dvw k) x ++ (Lst ((tab n fun i => Lst (wkH (pw i) (dvw i) (X i))).set k Emp) :: m)) w) :
    St w0 F (Wks n pw dvw (upd X k x) :: m) w := by
  have h1 := (St.lstShut h).lstPut (k := k)
  rw [List.set_set, tab_set] at h1
  have e1 : tab n (upd (fun i => Lst (wkH (pw i) (dvw i) (X i))) k (Lst (wkH (pw k) (dvw k) x))) = tab n fun i => Lst (wkH (pw i) (dvw i) (upd X k x i)) := tab_congr fun j _ => by
    by_cases hj : j = k
    · subst hj; simp only [upd_same]
    · simp only [upd_other hj]
  rw [e1] at h1
  exact h1
theorem wk_mem {w0 w : World} {F : Nat → Prop} {m : Hp} {n k : Nat} {pw : Nat → Nat} {dvw : Nat → Value} {X : Nat → WkL} (h : St w0 F m w) (hm : Wks n pw dvw X ∈ m) (hk : k < n) : (wkB (pw k) (dvw k) (X k)).holds w := by
  have h1 := (h.hold _ hm).1 _ (List.mem_of_getElem? (tab_get (g := fun i => Lst (wkH (pw i) (dvw i) (X i))) hk))
  exact h1.1 _ List.mem_cons_self
theorem InvR.wkV {s : List Int} {r : RoundL} {X : Nat → WkL} {T : TabL} (hi : InvR s r X T) {w0 w : World} {F : Nat → Prop} {m : Hp} {n k : Nat} {pw : Nat → Nat} {dvw : Nat → Value} (h : St w0 F m w) (hm : Wks n pw dvw X ∈ m) (hk : k < n) : WkV w.cell? (pw k) (X k) :=
  WkV.of (wkB_cells (wk_mem h hm hk)) (hi.w k).glen (hi.w k).rlen
/-- how far hands are -/
def HdsOk (X : Nat → WkL) (sh : Nat → DeedL) : Prop := ∀ i, StOk (X i) (sh i) ∧ (X i).at_ ≤ 900
theorem HdsOk.step {X : Nat → WkL} {sh : Nat → DeedL} {k : Nat} {x : WkL} {sl : DeedL} (h : HdsOk X sh) (hx : StOk x sl) (ha : x.at_ ≤ 900) : HdsOk (upd X k x) (upd sh k sl) := fun i => by
  by_cases hi : i = k
  · subst hi; rw [upd_same, upd_same]; exact ⟨hx, ha⟩
  · rw [upd_other hi, upd_other hi]; exact h i
theorem HdsOk.new (r : RoundL) : HdsOk (fun i => wk0 (r.getD i []) i) (fun _ => []) := fun i => ⟨⟨fun k => rfl, Nat.le_refl _⟩, Nat.zero_le _⟩
theorem InvR.ck {s : List Int} {r : RoundL} {X : Nat → WkL} {T : TabL} (h : InvR s r X T) (i : Nat) : (checkL (X i).d).1 = 0 := by rw [(h.w i).d]; exact checked_at h.ok i
theorem InvR.short {s : List Int} {r : RoundL} {X : Nat → WkL} {T : TabL} (h : InvR s r X T) : ∀ k, k < 10 → (T k).length ≤ 1000 := fun k _ => Nat.le_trans (h.len k) (by decide)
theorem InvR.good {s : List Int} {r : RoundL} {X : Nat → WkL} {T : TabL} (h : InvR s r X T) : GoodT T := fun k _ x hx ho => ((h.okT k).opn x hx ho).2
section
variable {N : Nat} {w0 : World} {F : Nat → Prop} {Q0 : Exit → Act → World → Prop} {D : List Deferred} {l : Fr} {m : Hp} {ty : TypeId} {pos : String} {after : Array Edge} {d : Nat}
/-- a step of one of the workers -/
theorem x_wkStep {Φ : Act → World → Prop} {Q : Exit → Act → World → Prop} {fx : Operand} {xs : Array Operand} {ats : Array TypeId} {n k pt : Nat} {pw : Nat → Nat} {dvw : Nat → Value} {X : Nat → WkL} {hs : Nat → Value} {T : TabL} {mr : Hp} {s : List Int} {r : RoundL}
    (hi : InvR s r X T) (hk : k < n) (hm : ∀ w, St w0 F m w → St w0 F (Wks n pw dvw X :: (tbH pt 137 hs T ++ mr)) w)
    (hf : rd l fx = some (.func (.func 19) #[] #[])) (hx : rdAll l xs.toList = some [.pointer (some ⟨pw k, 0, none⟩), .pointer (some ⟨pt, 0, none⟩)]) (hd : Nat.blt d N = true)
    (h : G ⟨Try.prog, N, w0, F, Q0, D⟩ ((d, .tuple #[.int .i64 (stepW (X k) T).1.1, .int .i64 (stepW (X k) T).1.2]) :: l) (Wks n pw dvw (upd X k (stepW (X k) T).2.1) :: (tbH pt 137 hs (stepW (X k) T).2.2 ++ mr)) Φ) :
    G ⟨Try.prog, N, w0, F, Q0, D⟩ l m (fun a w => Oper.wp Try.prog ⟨some d, .call ⟨.value fx, xs, ats⟩, ty, pos, after, none⟩ a w Φ Q) := by
  refine g_heap (m' := (wkH (pw k) (dvw k) (X k) ++ tbH pt 137 hs T) ++ (Lst ((tab n fun i => Lst (wkH (pw i) (dvw i) (X i))).set k Emp) :: mr)) (fun w hw => ?_) ?_
  · refine ((hm w hw).wkTake hk).perm ?_
    rw [List.append_assoc]
    refine List.Perm.append_left _ ?_
    exact (List.perm_middle (a := Lst ((tab n fun i => Lst (wkH (pw i) (dvw i) (X i))).set k Emp)) (l₁ := tbH pt 137 hs T) (l₂ := mr)).symm
  · refine x_call (C := ⟨Try.prog, N, w0, F, Q0, D⟩) (dst := some d) (mc := wkH (pw k) (dvw k) (X k) ++ tbH pt 137 hs T) (mr := Lst ((tab n fun i => Lst (wkH (pw i) (dvw i) (X i))).set k Emp) :: mr) (σ := Unit) (fun _ => True) (fun _ => .tuple #[.int .i64 (stepW (X k) T).1.1, .int .i64 (stepW (X k) T).1.2]) (fun _ => wkH (pw k) (dvw k) (stepW (X k) T).2.1 ++ tbH pt 137 hs (stepW (X k) T).2.2) hf hx rfl Try.call19 (fun w hw => wkStep_spec (pw k) (dvw k) (X k) pt hs T w (res_part hw).1 (res_part hw).2 hi.short hi.good (hi.ck k) (hi.w k).glen (hi.w k).rlen) hd (fun _ _ => ?_)
    refine g_heap (fun w hw => ?_) h
    refine St.wkPut (k := k) ?_
    refine hw.perm ?_
    rw [List.append_assoc]
    refine List.Perm.append_left _ ?_
    exact List.perm_middle (a := Lst ((tab n fun i => Lst (wkH (pw i) (dvw i) (X i))).set k Emp)) (l₁ := tbH pt 137 hs (stepW (X k) T).2.2) (l₂ := mr)
end
end Go.SL
end
section

open Go Go.Proofs Go.SL
set_option maxRecDepth 100000
set_option maxHeartbeats 1000000
namespace Go.SL
/-- some chunks, in whatever order -/
def pickL (m : Hp) (is : List Nat) : Hp := is.filterMap fun i => m[i]?
theorem St.pick {w0 w : World} {F : Nat → Prop} {m : Hp} (h : St w0 F m w) (is : List Nat) (hn : is.Nodup) : St w0 F (pickL m is) w := by
  have hmem : ∀ c ∈ pickL m is, c ∈ m := fun c hc => by
    obtain ⟨i, _, hi⟩ := List.mem_filterMap.1 hc
    exact List.mem_of_getElem? hi
  refine ⟨h.chg, fun c hc => h.hold c (hmem c hc), ?_, fun c hc => h.own c (hmem c hc)⟩
  unfold pickL
  rw [List.pairwise_filterMap]
  exact List.Pairwise.imp (fun {i j} hne c hc d hd => lst_disj h.sep hc hd (Ne.symm hne)) hn
theorem St.wkGrow {w0 w : World} {F : Nat → Prop} {m : Hp} {j p : Nat} {dv : Value} {pw : Nat → Nat} {dvw : Nat → Value} {X : Nat → WkL} (h : St w0 F (wkH p dv (X j) ++ (Wks j pw dvw X :: m)) w) : St w0 F (Wks (j + 1) (upd pw j p) (upd dvw j dv) X :: m) w := by
  have h1 := (St.lstShut h).lstSnoc
  have e : tab j (fun i => Lst (wkH (pw i) (dvw i) (X i))) = tab j (fun i => Lst (wkH (upd pw j p i) (upd dvw j dv i) (X i))) := tab_congr fun i hi => by rw [upd_other (by omega), upd_other (by omega)]
  unfold Wks
  rw [tab_succ, ← e, upd_same, upd_same]
  exact h1
theorem St.hdGrow {w0 w : World} {F : Nat → Prop} {m : Hp} {j p : Nat} {ph : Nat → Nat} {dvh svh : Nat → Value} {X : Nat → WkL} {sh : Nat → DeedL} (h : St w0 F (hdH p (dvh j) (svh j) (X j) (sh j) ++ (Hds j ph dvh svh X sh :: m)) w) : St w0 F (Hds (j + 1) (upd ph j p) dvh svh X sh :: m) w := by
  have h1 := (St.lstShut h).lstSnoc
  have e : tab j (fun i => Lst (hdH (ph i) (dvh i) (svh i) (X i) (sh i))) = tab j (fun i => Lst (hdH (upd ph j p i) (dvh i) (svh i) (X i) (sh i))) := tab_congr fun i hi => by rw [upd_other (by omega)]
  unfold Hds
  rw [tab_succ, ← e, upd_same]
  exact h1
theorem wkNew_ok (v : Value) (d : DeedL) (i : Nat) (w : World) (h : IsDeed w.cell? v d) (hck : (checkL d).1 = 0) (hi : i < 8) :
    Calls Try.prog 17 #[v, .int .i64 (i : Int)] w fun e w' => ∃ x : Nat × Value, True ∧ e = .returned (.pointer (some ⟨x.1, 0, none⟩)) ∧ Res w [] (wkH x.1 x.2 (wk0 d i)) w' := by
  refine (wkNew_spec v d i w h).mono ?_
  rintro e w' (⟨h1, _⟩ | ⟨_, x, h2, h3⟩)
  · exact absurd ⟨hck, by omega, by omega⟩ h1
  · rw [Int.toNat_natCast] at h3
    exact ⟨x, trivial, h2, h3⟩
def ptrV (p : Nat) : Value := .pointer (some ⟨p, 0, none⟩)
def ptrs (n : Nat) (f : Nat → Nat) : List Value := tab n fun i => ptrV (f i)
theorem ptrs_get {n k : Nat} {f : Nat → Nat} (h : k < n) : (ptrs n f)[k]? = some (ptrV (f k)) := tab_get h
theorem ptrs_grow {n p : Nat} {f : Nat → Nat} : ptrs n f ++ [ptrV p] = ptrs (n + 1) (upd f n p) := by
  unfold ptrs
  rw [tab_succ, upd_same]
  congr 1
  exact tab_congr fun i hi => by rw [upd_other (by omega)]
structure CrewP where
  pc : Nat
  pt : Nat
  pb : Nat
  ht : Nat → Value
  hb : Nat → Value
  pw : Nat → Nat
  dvw : Nat → Value
  ph : Nat → Nat
  wv : Value
  hv : Value
abbrev crewB (y : CrewP) : Chunk := .blk y.pc 45 [ptrV y.pt, ptrV y.pb, y.wv, y.hv]
abbrev crH (y : CrewP) (n : Nat) (X : Nat → WkL) (T : TabL) (dvh svh : Nat → Value) (sh : Nat → DeedL) : Hp :=
  Wks n y.pw y.dvw X :: (tbH y.pt 137 y.ht T ++ (Hds n y.ph dvh svh X sh :: (tbH y.pb 142 y.hb T ++ [crewB y, Own y.wv 33 1 n (ptrs n y.pw), Own y.hv 79 1 n (ptrs n y.ph)])))
abbrev nilS : Value := .slice none 0 0
theorem newCrew_spec (s : List Int) (v : Value) (r : RoundL) (vs : List Value) (w : World) (h : Rds w.cell? v 1 r.length vs) (hds : ∀ i (h : i < r.length), ∃ u, vs[i]? = some u ∧ IsDeed w.cell? u r[i]) (hs10 : s.length = 10) (hf : roundFaultL r = 0) :
    Calls Try.prog 18 #[intsV s, v] w fun e w' => ∃ y : CrewP, True ∧ e = .returned (.pointer (some ⟨y.pc, 0, none⟩)) ∧ Res w [] (crH y r.length (fun i => wk0 (r.getD i []) i) (newT s r) (fun i => vs.getD i nilS) (fun _ => nilS) (fun _ => [])) w' := by
  obtain ⟨h8, hck⟩ := roundFault_ok hf
  have hlz : (intCells s).length = 10 := by rw [intCells, List.length_map]; exact hs10
  have hsr : IsRound w.cell? v r := ⟨vs, h, hds⟩
  have hb14 : ∀ d ∈ r, d.length ≤ 4398046511104 := fun d hd => Nat.le_trans (checked (hck d hd)).1 (by decide)
  rw [← off_none w] at h hds hsr
  obtain ⟨A, kp, rfl, hle, hvl, hcl⟩ := h
  refine enter0 (N := 69) Try.func18 rfl rfl rfl ?_
  refine e_seq ?_
  refine e_region ?_
  refine w_op rfl ?_
  refine x_box rfl rfl (fun b2 => ?_)
  refine w_val (v_assign rfl) rfl ?_
  refine w_nil ?_
  refine e_seq ?_
  refine e_region ?_
  refine w_val (v_loadBA 0 rfl Try.underlying23 rfl Try.hi23 (Try.cz23.trans hlz.symm) rfl) rfl ?_
  refine w_val (v_move rfl) rfl ?_
  refine w_op rfl ?_
  refine x_call (dst := some 13) (mc := []) (σ := Nat × (Nat → Value)) (fun _ => True) (fun x => .tuple #[.pointer (some ⟨x.1, 0, none⟩), .int .i64 0]) (fun x => tbH x.1 137 x.2 (newT s r)) rfl rfl rfl Try.call64 (fun w hw => tabNew_ok s _ r w (hsr.mono hw.off) hs10 hf) rfl (fun x _ => ?_)
  obtain ⟨pt, ht⟩ := x
  dsimp only
  refine w_val (v_move rfl) rfl ?_
  refine w_val (v_extract rfl rfl) rfl ?_
  refine w_val (v_extract rfl rfl) rfl ?_
  refine w_val (v_assign rfl) rfl ?_
  refine w_val (v_assign rfl) rfl ?_
  refine w_nil ?_
  refine e_seq ?_
  refine e_seq ?_
  refine e_region ?_
  refine w_val (v_move rfl) rfl ?_
  refine w_val (v_is (v' := .bool false) (v_neq rfl rfl) (by rfl)) rfl ?_
  refine w_val (v_move rfl) rfl ?_
  refine w_want rfl rfl ?_
  refine w_val (v_move rfl) rfl ?_
  refine w_want rfl rfl ?_
  refine w_val (v_is (v' := .bool false) (v_eqlPtr Try.underlying40 rfl rfl) (by rfl)) rfl ?_
  refine w_val (v_pickF rfl rfl) rfl ?_
  refine w_nil ?_
  refine e_condF rfl ?_
  refine e_skip ?_
  refine e_seq ?_
  refine e_region ?_
  refine w_val (v_move rfl) rfl ?_
  refine w_val (v_loadBA 2 rfl Try.underlying23 rfl Try.hi23 (Try.cz23.trans hlz.symm) rfl) rfl ?_
  refine w_val (v_move rfl) rfl ?_
  refine w_op rfl ?_
  refine x_call (dst := some 25) (mc := []) (σ := Nat × (Nat → Value)) (fun _ => True) (fun x => .pointer (some ⟨x.1, 0, none⟩)) (fun x => tbH x.1 142 x.2 (newT s r)) rfl rfl rfl Try.call39 (fun w hw => newBoard_spec s _ r w (hsr.mono hw.off) hs10 (by omega) hb14) rfl (fun x _ => ?_)
  obtain ⟨pb, hb⟩ := x
  dsimp only
  refine w_val (v_build (v := .agg #[ptrV pt, ptrV pb, nilS, nilS]) _ rfl (by intro _; simp [Instr.build, Instr.fill, Try.zeroValue45, ptrV, go_sem])) rfl ?_
  refine w_op rfl ?_
  refine x_box rfl rfl (fun b27 => ?_)
  refine w_val (v_assign rfl) rfl ?_
  refine w_nil ?_
  refine e_seq ?_
  refine e_seq ?_
  refine e_region ?_
  refine w_val (v_assign rfl) rfl ?_
  refine w_nil ?_
  refine e_block ?_
  generalize newT s r = T0 at *
  refine e_loopH (σ := Nat × (Nat → Nat) × (Nat → Value) × (Nat → Nat) × Value × Value) [1, 7] (.cons rfl (.cons rfl .nil)) (fun x => [(8, .int .i64 (x.1 : Int))]) (fun x => crH ⟨b27, pt, pb, ht, hb, x.2.1, x.2.2.1, x.2.2.2.1, x.2.2.2.2.1, x.2.2.2.2.2⟩ x.1 (fun i => wk0 (r.getD i []) i) T0 (fun i => vs.getD i nilS) (fun _ => nilS) (fun _ => [])) (fun x => x.1 ≤ r.length) (fun x => r.length - x.1) (0, fun _ => 0, fun _ => nilS, fun _ => 0, nilS, nilS) (Nat.zero_le _) (by repeat (first | exact Sub.nil _ | refine Sub.cons rfl ?_)) (fun _ hw => ?hinit) ?_
  case hinit =>
    have h1 := (((hw.pick [3, 4, 1, 2, 0] (by decide)).ownNil 33 1).ownNil 79 1)
    have h2 := St.lstShut (cs := []) (St.lstShut (cs := []) h1)
    exact h2.pick [0, 4, 5, 1, 6, 7, 8, 3, 2] (by decide)
  rintro ⟨j, pw, dvw, ph, wv, hv⟩ hj
  dsimp only at hj ⊢
  refine e_seq ?_
  refine e_seq ?_
  refine e_region ?_
  refine w_val (v_move rfl) rfl ?_
  refine w_val (v_move rfl) rfl ?_
  refine w_val (v_lenS Try.underlying38 rfl) rfl ?_
  refine w_val (v_lss rfl rfl) rfl ?_
  refine w_nil ?_
  refine e_condD rfl (fun hlt => ?_) (fun hlt => ?_)
  · have hj' : j < r.length := by omega
    obtain ⟨u, hu, hud⟩ := hds j hj'
    obtain ⟨ad, rfl, hcells⟩ := hcl (by omega)
    have hcell := hcells (((j : Nat) : Int).toNat * 1) _ (by simpa using hu)
    have hgd : r.getD j [] = r[j] := by simp [List.getD, hj']
    have hvd : vs.getD j nilS = u := by simp [List.getD, hu]
    have hckj := hck _ (List.getElem_mem hj')
    rw [← hgd] at hud hckj
    obtain ⟨Au, ku, rfl, _⟩ := hud.form
    refine e_skip ?_
    refine e_seq ?_
    refine e_block ?_
    refine e_seq ?_
    refine e_region ?_
    refine w_val (v_move rfl) rfl ?_
    refine w_val (v_move rfl) rfl ?_
    refine w_val (v_indexS Try.underlying38 Try.hi25 Try.cz25 rfl rfl (by first | omega | decide)) rfl ?_
    refine w_val (v_loadO Try.underlying25 rfl rfl (hcell)) rfl ?_
    refine w_val (v_move rfl) rfl ?_
    refine w_op rfl ?_
    refine x_call (dst := some 39) (mc := []) (σ := Nat × Value) (fun _ => True) (fun x => .pointer (some ⟨x.1, 0, none⟩)) (fun x => wkH x.1 x.2 (wk0 (r.getD j []) j)) rfl rfl rfl Try.call17 (fun w hw => wkNew_ok _ (r.getD j []) j w (hud.mono hw.off) hckj (by omega)) rfl (fun x _ => ?_)
    obtain ⟨p, dv⟩ := x
    dsimp only
    refine w_val (v_assign rfl) rfl ?_
    refine w_nil ?_
    refine e_seq ?_
    refine e_seq ?_
    refine e_region ?_
    refine w_val (v_move rfl) rfl ?_
    refine w_val (v_is (v' := .bool false) (v_eqlPtr Try.underlying33 rfl rfl) (by rfl)) rfl ?_
    refine w_nil ?_
    refine e_condF rfl ?_
    refine e_skip ?_
    refine e_seq ?_
    refine e_region ?_
    refine w_val (v_move rfl) rfl ?_
    refine w_val (v_move rfl) rfl ?_
    refine w_val (v_nilCheck rfl) rfl ?_
    refine w_val (v_fieldAddrB (o := 2) Try.underlying45 rfl rfl Try.nz42 rfl) rfl ?_
    refine w_val (v_loadB 8 rfl Try.underlying42 rfl rfl rfl) rfl ?_
    refine w_val (v_move rfl) rfl ?_
    refine w_op rfl ?_
    refine x_buildSlice _ ([ptrV p]) rfl (run_buildSlice Try.underlying42 Try.hi33 Try.cz33 Try.zeroValue33 rfl (by kernel_rfl)) rfl (fun b48 => ?_)
    refine w_op rfl ?_
    refine x_appendIS (z := .pointer none) (n := j) (xs := ptrs j pw) (size := 1) (bytes := 8) (k := 1) (news := [ptrV p]) 10 rfl rfl rfl Try.underlying42 (by kernel_rfl) rfl (by decide) (fun w hw => blk_rds (hw.hold _ (List.mem_cons_self ..)) rfl) (by intro u hu; rw [List.mem_singleton.1 hu]; rfl) (by omega) (by simp only [maxLen]; omega) rfl (fun Aw kw _ => ?_)
    refine w_val (v_nilCheck rfl) rfl ?_
    refine w_val (v_fieldAddrB (o := 2) Try.underlying45 rfl rfl Try.nz42 rfl) rfl ?_
    refine w_op rfl ?_
    refine x_store1 9 rfl rfl rfl Try.hi42 Try.cz42 rfl (by first | (simp; done) | (simp [intCells_len]; omega) | exact Nat.zero_lt_succ _) rfl ?_
    refine w_nil ?_
    rw [ptrs_grow]
    refine g_heap (m' := Wks (j + 1) (upd pw j p) (upd dvw j dv) (fun i => wk0 (r.getD i []) i) :: (tbH pt 137 ht T0 ++ (Hds j ph (fun i => vs.getD i nilS) (fun _ => nilS) (fun i => wk0 (r.getD i []) i) (fun _ => []) :: (tbH pb 142 hb T0 ++ [.blk b27 45 [ptrV pt, ptrV pb, .slice Aw (j + 1) kw, hv], Own (.slice Aw (j + 1) kw) 33 1 (j + 1) (ptrs (j + 1) (upd pw j p)), Own hv 79 1 j (ptrs j ph)])))) (fun _ hw => St.wkGrow (hw.pick [1, 2, 3, 4, 5, 6, 7, 8, 9, 10, 11] (by decide))) ?_
    refine e_cutH (σ := Nat × Value) [1, 7, 8] (.cons rfl (.cons rfl (.cons rfl .nil))) (fun _ => []) (fun y => .blk y.1 81 (hdC (wk0 (r.getD j []) j) (.slice Au (r.getD j []).length ku) nilS) :: Wks (j + 1) (upd pw j p) (upd dvw j dv) (fun i => wk0 (r.getD i []) i) :: (tbH pt 137 ht T0 ++ (Hds j ph (fun i => vs.getD i nilS) (fun _ => nilS) (fun i => wk0 (r.getD i []) i) (fun _ => []) :: (tbH pb 142 hb T0 ++ [.blk b27 45 [ptrV pt, ptrV pb, .slice Aw (j + 1) kw, y.2], Own (.slice Aw (j + 1) kw) 33 1 (j + 1) (ptrs (j + 1) (upd pw j p)), Own y.2 79 1 (j + 1) (ptrs (j + 1) (upd ph j y.1))])))) (fun _ => True) ?_ ?_
    · refine e_draw ([]) Try.mixed ?_
      refine a_take 0 pan_cx (by kernel_rfl) (fun _ hw => hw.sub (by repeat (first | exact List.Sublist.slnil | exact List.Sublist.refl _ | apply List.Sublist.cons_cons | apply List.Sublist.cons))) rfl (by kernel_rfl) (by kernel_rfl) (v_move rfl) rfl ?_
      refine a_take 1 pan_cx (by kernel_rfl) (fun _ hw => hw.sub (by repeat (first | exact List.Sublist.slnil | exact List.Sublist.refl _ | apply List.Sublist.cons_cons | apply List.Sublist.cons))) rfl (by kernel_rfl) (by kernel_rfl) (v_move rfl) rfl ?_
      refine a_take 2 pan_cx (by kernel_rfl) (fun _ hw => hw.sub (by repeat (first | exact List.Sublist.slnil | exact List.Sublist.refl _ | apply List.Sublist.cons_cons | apply List.Sublist.cons))) rfl (by kernel_rfl) (by kernel_rfl) (v_nilCheck rfl) rfl ?_
      refine a_take 3 pan_cx (by kernel_rfl) (fun _ hw => hw.sub (by repeat (first | exact List.Sublist.slnil | exact List.Sublist.refl _ | apply List.Sublist.cons_cons | apply List.Sublist.cons))) rfl (by kernel_rfl) (by kernel_rfl) (v_fieldAddrB (o := 3) Try.underlying45 rfl rfl Try.nz43 rfl) rfl ?_
      refine a_take 5 pan_cx (by kernel_rfl) (fun _ hw => hw.sub (by repeat (first | exact List.Sublist.slnil | exact List.Sublist.refl _ | apply List.Sublist.cons_cons | apply List.Sublist.cons))) rfl (by kernel_rfl) (by kernel_rfl) (v_move rfl) rfl ?_
      refine a_take 6 pan_cx (by kernel_rfl) (fun _ hw => hw.sub (by repeat (first | exact List.Sublist.slnil | exact List.Sublist.refl _ | apply List.Sublist.cons_cons | apply List.Sublist.cons))) rfl (by kernel_rfl) (by kernel_rfl) (v_move rfl) rfl ?_
      refine a_take 7 pan_cx (by kernel_rfl) (fun _ hw => hw.sub (by repeat (first | exact List.Sublist.slnil | exact List.Sublist.refl _ | apply List.Sublist.cons_cons | apply List.Sublist.cons))) rfl (by kernel_rfl) (by kernel_rfl) (v_indexS Try.underlying38 Try.hi25 Try.cz25 rfl rfl (by first | omega | decide)) rfl ?_
      refine a_take 8 pan_cx (by kernel_rfl) (fun _ hw => hw.sub (by repeat (first | exact List.Sublist.slnil | exact List.Sublist.refl _ | apply List.Sublist.cons_cons | apply List.Sublist.cons))) rfl (by kernel_rfl) (by kernel_rfl) (v_loadO Try.underlying25 rfl rfl (hcell)) rfl ?_
      refine a_take 9 pan_cx (by kernel_rfl) (fun _ hw => hw.sub (by repeat (first | exact List.Sublist.slnil | exact List.Sublist.refl _ | apply List.Sublist.cons_cons | apply List.Sublist.cons))) rfl (by kernel_rfl) (by kernel_rfl) (v_move rfl) rfl ?_
      refine a_take 10 pan_cx (by kernel_rfl) (fun _ hw => hw.sub (by repeat (first | exact List.Sublist.slnil | exact List.Sublist.refl _ | apply List.Sublist.cons_cons | apply List.Sublist.cons))) rfl (by kernel_rfl) (by kernel_rfl) (v_build (v := .agg (hdC (wk0 (r.getD j []) j) (.slice Au (r.getD j []).length ku) nilS).toArray) _ rfl (by intro _; simp [Instr.build, Instr.fill, Try.zeroValue81, go_sem]; rfl)) rfl ?_
      refine a_all [4, 11] (by kernel_rfl) rfl ?_
      intro i hi
      simp only [List.mem_cons, List.not_mem_nil, or_false] at hi
      rcases hi with rfl | rfl
      · refine a_op rfl rfl ?_
        refine x_val (v_loadB 6 rfl Try.underlying43 rfl rfl rfl) rfl ?_
        refine a_and (fun _ hw => hw.sub (by repeat (first | exact List.Sublist.slnil | exact List.Sublist.refl _ | apply List.Sublist.cons_cons | apply List.Sublist.cons))) ?_
        refine a_one 11 (by kernel_rfl) rfl rfl ?_
        refine x_box rfl rfl (fun b63 => ?_)
        refine a_and (fun _ hw => hw.sub (by repeat (first | exact List.Sublist.slnil | exact List.Sublist.refl _ | apply List.Sublist.cons_cons | apply List.Sublist.cons))) ?_
        refine a_one 12 (by kernel_rfl) rfl rfl ?_
        refine x_buildSlice _ ([ptrV b63]) rfl (run_buildSlice Try.underlying43 Try.hi79 Try.cz79 Try.zeroValue79 rfl (by kernel_rfl)) rfl (fun b64 => ?_)
        refine a_and (fun _ hw => hw.sub (by repeat (first | exact List.Sublist.slnil | exact List.Sublist.refl _ | apply List.Sublist.cons_cons | apply List.Sublist.cons))) ?_
        refine a_one 13 (by kernel_rfl) rfl rfl ?_
        refine x_appendIS (z := .pointer none) (n := j) (xs := ptrs j ph) (size := 1) (bytes := 8) (k := 1) (news := [ptrV b63]) 10 rfl rfl rfl Try.underlying43 (by kernel_rfl) rfl (by decide) (fun w hw => blk_rds (hw.hold _ (List.mem_cons_self ..)) rfl) (by intro u hu; rw [List.mem_singleton.1 hu]; rfl) (by omega) (by simp only [maxLen]; omega) rfl (fun A4 cap4 _ => ?_)
        refine a_and (fun _ hw => hw.sub (by repeat (first | exact List.Sublist.slnil | exact List.Sublist.refl _ | apply List.Sublist.cons_cons | apply List.Sublist.cons))) ?_
        refine a_take 14 pan_cx (by kernel_rfl) (fun _ hw => hw.sub (by repeat (first | exact List.Sublist.slnil | exact List.Sublist.refl _ | apply List.Sublist.cons_cons | apply List.Sublist.cons))) rfl (by kernel_rfl) (by kernel_rfl) (v_nilCheck rfl) rfl ?_
        refine a_take 15 pan_cx (by kernel_rfl) (fun _ hw => hw.sub (by repeat (first | exact List.Sublist.slnil | exact List.Sublist.refl _ | apply List.Sublist.cons_cons | apply List.Sublist.cons))) rfl (by kernel_rfl) (by kernel_rfl) (v_fieldAddrB (o := 3) Try.underlying45 rfl rfl Try.nz43 rfl) rfl ?_
        refine a_one 16 (by kernel_rfl) rfl rfl ?_
        refine x_store1 8 rfl rfl rfl Try.hi43 Try.cz43 rfl (by first | (simp; done) | (simp [intCells_len]; omega) | exact Nat.zero_lt_succ _) rfl ?_
        refine a_and (fun _ hw => hw.sub (by repeat (first | exact List.Sublist.slnil | exact List.Sublist.refl _ | apply List.Sublist.cons_cons | apply List.Sublist.cons))) ?_
        refine a_done (by kernel_rfl) ?_
        exact e_cutEnd (b63, Value.slice A4 (j + 1) cap4) trivial (by repeat (first | exact Sub.nil _ | refine Sub.cons rfl ?_)) (fun _ hw => by rw [ptrs_grow] at hw; exact hw.sub (List.sublist_cons_self _ _))
      · refine a_op rfl rfl ?_
        refine x_box rfl rfl (fun b63 => ?_)
        refine a_and (fun _ hw => hw.sub (by repeat (first | exact List.Sublist.slnil | exact List.Sublist.refl _ | apply List.Sublist.cons_cons | apply List.Sublist.cons))) ?_
        refine a_all [4, 12] (by kernel_rfl) rfl ?_
        intro i hi
        simp only [List.mem_cons, List.not_mem_nil, or_false] at hi
        rcases hi with rfl | rfl
        · refine a_op rfl rfl ?_
          refine x_val (v_loadB 7 rfl Try.underlying43 rfl rfl rfl) rfl ?_
          refine a_and (fun _ hw => hw.sub (by repeat (first | exact List.Sublist.slnil | exact List.Sublist.refl _ | apply List.Sublist.cons_cons | apply List.Sublist.cons))) ?_
          refine a_one 12 (by kernel_rfl) rfl rfl ?_
          refine x_buildSlice _ ([ptrV b63]) rfl (run_buildSlice Try.underlying43 Try.hi79 Try.cz79 Try.zeroValue79 rfl (by kernel_rfl)) rfl (fun b64 => ?_)
          refine a_and (fun _ hw => hw.sub (by repeat (first | exact List.Sublist.slnil | exact List.Sublist.refl _ | apply List.Sublist.cons_cons | apply List.Sublist.cons))) ?_
          refine a_one 13 (by kernel_rfl) rfl rfl ?_
          refine x_appendIS (z := .pointer none) (n := j) (xs := ptrs j ph) (size := 1) (bytes := 8) (k := 1) (news := [ptrV b63]) 10 rfl rfl rfl Try.underlying43 (by kernel_rfl) rfl (by decide) (fun w hw => blk_rds (hw.hold _ (List.mem_cons_self ..)) rfl) (by intro u hu; rw [List.mem_singleton.1 hu]; rfl) (by omega) (by simp only [maxLen]; omega) rfl (fun A4 cap4 _ => ?_)
          refine a_and (fun _ hw => hw.sub (by repeat (first | exact List.Sublist.slnil | exact List.Sublist.refl _ | apply List.Sublist.cons_cons | apply List.Sublist.cons))) ?_
          refine a_take 14 pan_cx (by kernel_rfl) (fun _ hw => hw.sub (by repeat (first | exact List.Sublist.slnil | exact List.Sublist.refl _ | apply List.Sublist.cons_cons | apply List.Sublist.cons))) rfl (by kernel_rfl) (by kernel_rfl) (v_nilCheck rfl) rfl ?_
          refine a_take 15 pan_cx (by kernel_rfl) (fun _ hw => hw.sub (by repeat (first | exact List.Sublist.slnil | exact List.Sublist.refl _ | apply List.Sublist.cons_cons | apply List.Sublist.cons))) rfl (by kernel_rfl) (by kernel_rfl) (v_fieldAddrB (o := 3) Try.underlying45 rfl rfl Try.nz43 rfl) rfl ?_
          refine a_one 16 (by kernel_rfl) rfl rfl ?_
          refine x_store1 8 rfl rfl rfl Try.hi43 Try.cz43 rfl (by first | (simp; done) | (simp [intCells_len]; omega) | exact Nat.zero_lt_succ _) rfl ?_
          refine a_and (fun _ hw => hw.sub (by repeat (first | exact List.Sublist.slnil | exact List.Sublist.refl _ | apply List.Sublist.cons_cons | apply List.Sublist.cons))) ?_
          refine a_done (by kernel_rfl) ?_
          exact e_cutEnd (b63, Value.slice A4 (j + 1) cap4) trivial (by repeat (first | exact Sub.nil _ | refine Sub.cons rfl ?_)) (fun _ hw => by rw [ptrs_grow] at hw; exact hw.sub (List.sublist_cons_self _ _))
        · refine a_op rfl rfl ?_
          refine x_buildSlice _ ([ptrV b63]) rfl (run_buildSlice Try.underlying43 Try.hi79 Try.cz79 Try.zeroValue79 rfl (by kernel_rfl)) rfl (fun b64 => ?_)
          refine a_and (fun _ hw => hw.sub (by repeat (first | exact List.Sublist.slnil | exact List.Sublist.refl _ | apply List.Sublist.cons_cons | apply List.Sublist.cons))) ?_
          refine a_one 4 (by kernel_rfl) rfl rfl ?_
          refine x_val (v_loadB 8 rfl Try.underlying43 rfl rfl rfl) rfl ?_
          refine a_and (fun _ hw => hw.sub (by repeat (first | exact List.Sublist.slnil | exact List.Sublist.refl _ | apply List.Sublist.cons_cons | apply List.Sublist.cons))) ?_
          refine a_one 13 (by kernel_rfl) rfl rfl ?_
          refine x_appendIS (z := .pointer none) (n := j) (xs := ptrs j ph) (size := 1) (bytes := 8) (k := 1) (news := [ptrV b63]) 10 rfl rfl rfl Try.underlying43 (by kernel_rfl) rfl (by decide) (fun w hw => blk_rds (hw.hold _ (List.mem_cons_self ..)) rfl) (by intro u hu; rw [List.mem_singleton.1 hu]; rfl) (by omega) (by simp only [maxLen]; omega) rfl (fun A4 cap4 _ => ?_)
          refine a_and (fun _ hw => hw.sub (by repeat (first | exact List.Sublist.slnil | exact List.Sublist.refl _ | apply List.Sublist.cons_cons | apply List.Sublist.cons))) ?_
          refine a_take 14 pan_cx (by kernel_rfl) (fun _ hw => hw.sub (by repeat (first | exact List.Sublist.slnil | exact List.Sublist.refl _ | apply List.Sublist.cons_cons | apply List.Sublist.cons))) rfl (by kernel_rfl) (by kernel_rfl) (v_nilCheck rfl) rfl ?_
          refine a_take 15 pan_cx (by kernel_rfl) (fun _ hw => hw.sub (by repeat (first | exact List.Sublist.slnil | exact List.Sublist.refl _ | apply List.Sublist.cons_cons | apply List.Sublist.cons))) rfl (by kernel_rfl) (by kernel_rfl) (v_fieldAddrB (o := 3) Try.underlying45 rfl rfl Try.nz43 rfl) rfl ?_
          refine a_one 16 (by kernel_rfl) rfl rfl ?_
          refine x_store1 8 rfl rfl rfl Try.hi43 Try.cz43 rfl (by first | (simp; done) | (simp [intCells_len]; omega) | exact Nat.zero_lt_succ _) rfl ?_
          refine a_and (fun _ hw => hw.sub (by repeat (first | exact List.Sublist.slnil | exact List.Sublist.refl _ | apply List.Sublist.cons_cons | apply List.Sublist.cons))) ?_
          refine a_done (by kernel_rfl) ?_
          exact e_cutEnd (b63, Value.slice A4 (j + 1) cap4) trivial (by repeat (first | exact Sub.nil _ | refine Sub.cons rfl ?_)) (fun _ hw => by rw [ptrs_grow] at hw; exact hw.sub (List.sublist_cons_self _ _))
    · rintro ⟨b63, hv'⟩ -
      dsimp only
      refine e_blk ?_
      refine e_region ?_
      refine w_val (v_move rfl) rfl ?_
      refine w_val (v_add rfl rfl (by omega)) rfl ?_
      refine w_val (v_assign rfl) rfl ?_
      refine w_nil ?_
      exact e_round ((j + 1, upd pw j p, upd dvw j dv, upd ph j b63, .slice Aw (j + 1) kw, hv')) (by dsimp only; omega) (by dsimp only; omega) (by repeat (first | exact Sub.nil _ | refine Sub.cons rfl ?_)) (fun _ hw => St.pick (St.hdGrow (svh := fun _ => nilS) (X := fun i => wk0 (r.getD i []) i) (sh := fun _ => []) (dvh := fun i => vs.getD i nilS) (j := j) (p := b63) (by rw [hvd]; exact (hw.ownNil 118 5).pick [1, 0, 5, 2, 3, 4, 6, 7, 8, 9, 10] (by decide))) [1, 2, 3, 0, 4, 5, 6, 7, 8] (by decide))
  · have e : j = r.length := by omega
    subst e
    refine e_exit rfl ?_
    refine e_seq ?_
    refine e_region ?_
    refine w_val (v_move rfl) rfl ?_
    refine w_val (v_assign rfl) rfl ?_
    refine w_nil ?_
    refine e_retQ (q_ret1 rfl (.tmp rfl) ?_)
    exact fun w' hw' => ⟨⟨b27, pt, pb, ht, hb, pw, dvw, ph, wv, hv⟩, trivial, rfl, hw'.res⟩
end Go.SL
end
section

open Go Go.Proofs Go.SL
set_option maxRecDepth 100000
set_option maxHeartbeats 1000000
namespace Go.SL
theorem lit_round2 {w : World} {b12 b1 b2 e e1 e2 : Nat} {d1 d2 : DeedL} (h12 : (Chunk.blk b12 e [.slice (some ⟨b1, 0, none⟩) d1.length d1.length, .slice (some ⟨b2, 0, none⟩) d2.length d2.length]).holds w) (h1 : (Chunk.blk b1 e1 (deedCells d1)).holds w) (h2 : (Chunk.blk b2 e2 (deedCells d2)).holds w) :
    IsRound w.cell? (.slice (some ⟨b12, 0, none⟩) 2 2) [d1, d2] :=
  ⟨[.slice (some ⟨b1, 0, none⟩) d1.length d1.length, .slice (some ⟨b2, 0, none⟩) d2.length d2.length], blk_rds h12 rfl, fun i hi => by
    have : i = 0 ∨ i = 1 := by
      simp only [List.length_cons, List.length_nil] at hi
      omega
    rcases this with rfl | rfl
    · exact ⟨_, rfl, isDeed_blk h1 (Nat.le_refl _)⟩
    · exact ⟨_, rfl, isDeed_blk h2 (Nat.le_refl _)⟩⟩
abbrev RunS := (Nat → WkL) × TabL
def runP (P : RunS) (k : Nat) : RunS := (upd P.1 k (stepW (P.1 k) P.2).2.1, (stepW (P.1 k) P.2).2.2)
theorem InvR.run {s : List Int} {r : RoundL} {P : RunS} (h : InvR s r P.1 P.2) {k : Nat} (hk : k < r.length) : InvR s r (runP P k).1 (runP P k).2 := h.step hk
abbrev wgr : RoundL := [[⟨1, 0, 0, 0, 5⟩, ⟨7, 2, 0, 0, 0⟩], [⟨2, 0, 2, 0, 0⟩]]
def newP (s : List Int) (r : RoundL) : RunS := (fun i => wk0 (r.getD i []) i, newT s r)
abbrev wg0 : RunS := newP zero10 wgr
def wgI : Nat → RunS
  | 0 => runP wg0 1
  | n + 1 => runP (wgI n) 0
abbrev wg5 : RunS := runP (wgI 3) 1
abbrev wg6 : RunS := runP wg5 1
theorem wg_fault : roundFaultL wgr = 0 := by decide +kernel
theorem wg_inv0 : InvR zero10 wgr wg0.1 wg0.2 := inv_new rfl wg_fault
theorem wg_invI : ∀ n, InvR zero10 wgr (wgI n).1 (wgI n).2
  | 0 => wg_inv0.run (by decide)
  | n + 1 => (wg_invI n).run (by decide)
theorem wg_inv5 : InvR zero10 wgr wg5.1 wg5.2 := (wg_invI 3).run (by decide)
theorem wg_inv6 : InvR zero10 wgr wg6.1 wg6.2 := wg_inv5.run (by decide)
theorem wg_s0 : (stepW (wg0.1 1) wg0.2).1 = (2, 0) := by decide +kernel
theorem wg_s4 : (stepW ((wgI 3).1 1) (wgI 3).2).1 = (1, -1) := by decide +kernel
theorem wg_s5 : (stepW (wg5.1 1) wg5.2).1 = (3, -1) := by decide +kernel
theorem wg_r : (wg6.1 1).rc = 0 ∧ (wg6.1 1).rg = [5, 0, 0, 0] ∧ (wg6.1 1).ov = true := by decide +kernel
theorem wg_ck1 : (checkL ([⟨1, 0, 0, 0, 5⟩, ⟨7, 2, 0, 0, 0⟩] : DeedL)).1 = 0 := by decide +kernel
theorem wg_ck2 : (checkL ([⟨2, 0, 2, 0, 0⟩] : DeedL)).1 = 0 := by decide +kernel
theorem workerBegun_spec (w : World) : Calls Try.prog 15 #[] w fun e w' => e = .returned (.bool true) ∧ Res w [] [] w' := by
  refine enter0 (N := 106) Try.func15 rfl rfl rfl ?_
  refine e_seq ?_
  refine e_region ?_
  refine w_val (v_assign rfl) rfl ?_
  refine w_nil ?_
  refine e_seq ?_
  refine e_region ?_
  refine w_val (v_build (v := opV ⟨1, 0, 0, 0, 5⟩) _ rfl (by intro _; simp [Instr.build, Instr.fill, Try.zeroValue118, go_sem]; rfl)) rfl ?_
  refine w_val (v_build (v := opV ⟨7, 2, 0, 0, 0⟩) _ rfl (by intro _; simp [Instr.build, Instr.fill, Try.zeroValue118, go_sem]; rfl)) rfl ?_
  refine w_op rfl ?_
  refine x_buildSlice _ (deedCells [⟨1, 0, 0, 0, 5⟩, ⟨7, 2, 0, 0, 0⟩]) rfl (run_buildSlice Try.underlying25 Try.hi118 Try.cz118 Try.zeroValue118 rfl (by kernel_rfl)) rfl (fun b17 => ?_)
  refine w_val (v_build (v := opV ⟨2, 0, 2, 0, 0⟩) _ rfl (by intro _; simp [Instr.build, Instr.fill, Try.zeroValue118, go_sem]; rfl)) rfl ?_
  refine w_op rfl ?_
  refine x_buildSlice _ (deedCells [⟨2, 0, 2, 0, 0⟩]) rfl (run_buildSlice Try.underlying25 Try.hi118 Try.cz118 Try.zeroValue118 rfl (by kernel_rfl)) rfl (fun b19 => ?_)
  refine w_op rfl ?_
  refine x_buildSlice _ ([Value.slice (some ⟨b17, 0, none⟩) 2 2, Value.slice (some ⟨b19, 0, none⟩) 1 1]) rfl (run_buildSlice Try.underlying38 Try.hi25 Try.cz25 Try.zeroValue25 rfl (by kernel_rfl)) rfl (fun b20 => ?_)
  refine w_val (v_assign rfl) rfl ?_
  refine w_nil ?_
  refine e_seq ?_
  refine e_region ?_
  refine w_val (v_build (v := intsV zero10) _ rfl (by intro _; simp [Instr.build, Instr.fill, Try.zeroValue23, go_sem]; rfl)) rfl ?_
  refine w_val (v_move rfl) rfl ?_
  refine w_op rfl ?_
  refine x_call (dst := some 24) (mc := []) (σ := Nat × (Nat → Value)) (fun _ => True) (fun x => .tuple #[.pointer (some ⟨x.1, 0, none⟩), .int .i64 0]) (fun x => tbH x.1 137 x.2 wg0.2) rfl rfl rfl Try.call64 (fun w hw => tabNew_ok zero10 _ wgr w (lit_round2 (d1 := [⟨1, 0, 0, 0, 5⟩, ⟨7, 2, 0, 0, 0⟩]) (d2 := [⟨2, 0, 2, 0, 0⟩]) (hw.mem (i := 0) rfl) (hw.mem (i := 2) rfl) (hw.mem (i := 1) rfl)) rfl wg_fault) rfl (fun x _ => ?_)
  obtain ⟨pt, ht⟩ := x
  dsimp only
  refine w_val (v_move rfl) rfl ?_
  refine w_val (v_extract rfl rfl) rfl ?_
  refine w_val (v_extract rfl rfl) rfl ?_
  refine w_val (v_assign rfl) rfl ?_
  refine w_val (v_assign rfl) rfl ?_
  refine w_nil ?_
  refine e_seq ?_
  refine e_draw ([.blk b20 25 [Value.slice (some ⟨b17, 0, none⟩) 2 2, Value.slice (some ⟨b19, 0, none⟩) 1 1]]) Try.mixed ?_
  refine a_take 0 pan_cx (by kernel_rfl) (fun _ hw => hw.sub (by repeat (first | exact List.Sublist.slnil | exact List.Sublist.refl _ | apply List.Sublist.cons_cons | apply List.Sublist.cons))) rfl (by kernel_rfl) (by kernel_rfl) (v_move rfl) rfl ?_
  refine a_take 1 pan_cx (by kernel_rfl) (fun _ hw => hw.sub (by repeat (first | exact List.Sublist.slnil | exact List.Sublist.refl _ | apply List.Sublist.cons_cons | apply List.Sublist.cons))) rfl (by kernel_rfl) (by kernel_rfl) (v_indexSB Try.underlying38 Try.hi25 Try.cz25 rfl rfl (by first | omega | decide)) rfl ?_
  refine a_take 2 pan_cx (by kernel_rfl) (fun _ hw => hw.sub (by repeat (first | exact List.Sublist.slnil | exact List.Sublist.refl _ | apply List.Sublist.cons_cons | apply List.Sublist.cons))) rfl (by kernel_rfl) (by kernel_rfl) (v_loadB 0 rfl Try.underlying25 rfl rfl rfl) rfl ?_
  refine a_take 4 pan_cx (by kernel_rfl) (fun _ hw => hw.sub (by repeat (first | exact List.Sublist.slnil | exact List.Sublist.refl _ | apply List.Sublist.cons_cons | apply List.Sublist.cons))) rfl (by kernel_rfl) (by kernel_rfl) (v_move rfl) rfl ?_
  refine a_take 5 pan_cx (by kernel_rfl) (fun _ hw => hw.sub (by repeat (first | exact List.Sublist.slnil | exact List.Sublist.refl _ | apply List.Sublist.cons_cons | apply List.Sublist.cons))) rfl (by kernel_rfl) (by kernel_rfl) (v_indexSB Try.underlying38 Try.hi25 Try.cz25 rfl rfl (by first | omega | decide)) rfl ?_
  refine a_take 6 pan_cx (by kernel_rfl) (fun _ hw => hw.sub (by repeat (first | exact List.Sublist.slnil | exact List.Sublist.refl _ | apply List.Sublist.cons_cons | apply List.Sublist.cons))) rfl (by kernel_rfl) (by kernel_rfl) (v_loadB 0 rfl Try.underlying25 rfl rfl rfl) rfl ?_
  refine a_one 3 (by kernel_rfl) rfl rfl ?_
  refine x_call (dst := some 30) (mc := []) (σ := Nat × Value) (fun _ => True) (fun x => .pointer (some ⟨x.1, 0, none⟩)) (fun x => wkH x.1 x.2 (wk0 [⟨1, 0, 0, 0, 5⟩, ⟨7, 2, 0, 0, 0⟩] 0)) rfl rfl rfl Try.call17 (fun w hw => wkNew_ok _ [⟨1, 0, 0, 0, 5⟩, ⟨7, 2, 0, 0, 0⟩] 0 w (isDeed_blk (hw.mem (i := 4) rfl) (Nat.le_refl _)) wg_ck1 (by decide)) rfl (fun x0 _ => ?_); obtain ⟨p0, dv0⟩ := x0; dsimp only
  refine a_and (fun _ hw => hw.sub (by repeat (first | exact List.Sublist.slnil | exact List.Sublist.refl _ | apply List.Sublist.cons_cons | apply List.Sublist.cons))) ?_
  refine a_one 7 (by kernel_rfl) rfl rfl ?_
  refine x_call (dst := some 34) (mc := []) (σ := Nat × Value) (fun _ => True) (fun x => .pointer (some ⟨x.1, 0, none⟩)) (fun x => wkH x.1 x.2 (wk0 [⟨2, 0, 2, 0, 0⟩] 1)) rfl rfl rfl Try.call17 (fun w hw => wkNew_ok _ [⟨2, 0, 2, 0, 0⟩] 1 w (isDeed_blk (hw.mem (i := 5) rfl) (Nat.le_refl _)) wg_ck2 (by decide)) rfl (fun x1 _ => ?_); obtain ⟨p1, dv1⟩ := x1; dsimp only
  refine a_and (fun _ hw => hw.sub (by repeat (first | exact List.Sublist.slnil | exact List.Sublist.refl _ | apply List.Sublist.cons_cons | apply List.Sublist.cons))) ?_
  refine a_take 8 pan_cx (by kernel_rfl) (fun _ hw => hw.sub (by repeat (first | exact List.Sublist.slnil | exact List.Sublist.refl _ | apply List.Sublist.cons_cons | apply List.Sublist.cons))) rfl (by kernel_rfl) (by kernel_rfl) (v_assign rfl) rfl ?_
  refine a_take 9 pan_cx (by kernel_rfl) (fun _ hw => hw.sub (by repeat (first | exact List.Sublist.slnil | exact List.Sublist.refl _ | apply List.Sublist.cons_cons | apply List.Sublist.cons))) rfl (by kernel_rfl) (by kernel_rfl) (v_assign rfl) rfl ?_
  refine a_done (by kernel_rfl) ?_
  obtain ⟨pw, hpw⟩ : ∃ pw : Nat → Nat, pw = upd (upd (fun _ => 0) 0 p0) 1 p1 := ⟨_, rfl⟩
  obtain ⟨dvw, hdvw⟩ : ∃ dvw : Nat → Value, dvw = upd (upd (fun _ => nilS) 0 dv0) 1 dv1 := ⟨_, rfl⟩
  have hp0 : p0 = pw 0 := by rw [hpw]; rfl
  have hp1 : p1 = pw 1 := by rw [hpw]; rfl
  refine g_heap (m' := Wks 2 pw dvw wg0.1 :: (tbH pt 137 ht wg0.2)) (fun _ hw => by rw [hpw, hdvw]; exact St.wkGrow (j := 1) (X := wg0.1) ((St.wkGrow (j := 0) (X := wg0.1) ((St.lstShut (cs := []) hw).pick [3, 4, 0, 1, 2, 5, 6] (by decide))).pick [1, 2, 0, 3, 4] (by decide))) ?_
  subst hp0
  subst hp1
  refine e_seq ?_
  refine e_seq ?_
  refine e_region ?_
  refine w_val (v_move rfl) rfl ?_
  refine w_val (v_is (v' := .bool false) (v_neq rfl rfl) (by rfl)) rfl ?_
  refine w_val (v_move rfl) rfl ?_
  refine w_want rfl rfl ?_
  refine w_val (v_move rfl) rfl ?_
  refine w_want rfl rfl ?_
  refine w_val (v_is (v' := .bool false) (v_eqlPtr Try.underlying40 rfl rfl) (by rfl)) rfl ?_
  refine w_val (v_pickF rfl rfl) rfl ?_
  refine w_val (v_move rfl) rfl ?_
  refine w_want rfl rfl ?_
  refine w_val (v_move rfl) rfl ?_
  refine w_want rfl rfl ?_
  refine w_val (v_is (v' := .bool false) (v_eqlPtr Try.underlying33 rfl rfl) (by rfl)) rfl ?_
  refine w_val (v_pickF rfl rfl) rfl ?_
  refine w_val (v_move rfl) rfl ?_
  refine w_want rfl rfl ?_
  refine w_val (v_move rfl) rfl ?_
  refine w_want rfl rfl ?_
  refine w_val (v_is (v' := .bool false) (v_eqlPtr Try.underlying33 rfl rfl) (by rfl)) rfl ?_
  refine w_val (v_pickF rfl rfl) rfl ?_
  refine w_nil ?_
  refine e_condF rfl ?_
  refine e_skip ?_
  refine e_seq ?_
  refine e_region ?_
  refine w_val (v_move rfl) rfl ?_
  refine w_val (v_move rfl) rfl ?_
  refine w_op rfl ?_
  refine x_wkStep (mr := []) wg_inv0 (by decide : 1 < 2) (fun _ hw => hw) rfl rfl rfl ?_
  refine w_val (v_move rfl) rfl ?_
  refine w_val (v_is (v' := .int .i64 2) (v_extract rfl rfl) (congrArg (fun z : Int × Int => Value.int .i64 z.1) wg_s0)) rfl ?_
  refine w_val (v_is (v' := .int .i64 0) (v_extract rfl rfl) (congrArg (fun z : Int × Int => Value.int .i64 z.2) wg_s0)) rfl ?_
  refine w_val (v_assign rfl) rfl ?_
  refine w_val (v_assign rfl) rfl ?_
  refine w_nil ?_
  refine e_seq ?_
  refine e_seq ?_
  refine e_region ?_
  refine w_val (v_assign rfl) rfl ?_
  refine w_nil ?_
  refine e_block ?_
  refine e_loopH (σ := Nat) [2, 4, 5, 6, 7] (.cons rfl (.cons rfl (.cons rfl (.cons rfl (.cons rfl .nil))))) (fun j => [(8, .int .i64 (j : Int))]) (fun j => Wks 2 pw dvw (wgI j).1 :: (tbH pt 137 ht (wgI j).2)) (fun j => j ≤ 3) (fun j => 3 - j) 0 (Nat.zero_le _) (by repeat (first | exact Sub.nil _ | refine Sub.cons rfl ?_)) (fun _ hw => hw) ?_
  rintro j hj
  refine e_seq ?_
  refine e_seq ?_
  refine e_region ?_
  refine w_val (v_move rfl) rfl ?_
  refine w_val (v_lss rfl rfl) rfl ?_
  refine w_nil ?_
  refine e_condD rfl (fun hlt => ?_) (fun hlt => ?_)
  · refine e_skip ?_
    refine e_seq ?_
    refine e_block ?_
    refine e_region ?_
    refine w_val (v_move rfl) rfl ?_
    refine w_val (v_move rfl) rfl ?_
    refine w_op rfl ?_
    refine x_wkStep (mr := []) (wg_invI j) (by decide : 0 < 2) (fun _ hw => hw) rfl rfl rfl ?_
    refine w_nil ?_
    refine e_blk ?_
    refine e_region ?_
    refine w_val (v_move rfl) rfl ?_
    refine w_val (v_add rfl rfl (by omega)) rfl ?_
    refine w_val (v_assign rfl) rfl ?_
    refine w_nil ?_
    exact e_round (j + 1) (by omega) (by omega) (by repeat (first | exact Sub.nil _ | refine Sub.cons rfl ?_)) (fun _ hw => hw)
  · have e : j = 3 := by omega
    subst e
    refine e_exit rfl ?_
    refine e_seq ?_
    refine e_region ?_
    refine w_val (v_move rfl) rfl ?_
    refine w_val (v_move rfl) rfl ?_
    refine w_op rfl ?_
    refine x_wkStep (mr := []) (wg_invI 3) (by decide : 1 < 2) (fun _ hw => hw) rfl rfl rfl ?_
    refine w_val (v_move rfl) rfl ?_
    refine w_val (v_is (v' := .int .i64 1) (v_extract rfl rfl) (congrArg (fun z : Int × Int => Value.int .i64 z.1) wg_s4)) rfl ?_
    refine w_val (v_extract rfl rfl) rfl ?_
    refine w_val (v_assign rfl) rfl ?_
    refine w_val (v_assign rfl) rfl ?_
    refine w_nil ?_
    refine e_seq ?_
    refine e_region ?_
    refine w_val (v_move rfl) rfl ?_
    refine w_val (v_move rfl) rfl ?_
    refine w_op rfl ?_
    refine x_wkStep (mr := []) wg_inv5 (by decide : 1 < 2) (fun _ hw => hw) rfl rfl rfl ?_
    refine w_val (v_move rfl) rfl ?_
    refine w_val (v_is (v' := .int .i64 3) (v_extract rfl rfl) (congrArg (fun z : Int × Int => Value.int .i64 z.1) wg_s5)) rfl ?_
    refine w_val (v_extract rfl rfl) rfl ?_
    refine w_val (v_assign rfl) rfl ?_
    refine w_val (v_assign rfl) rfl ?_
    refine w_nil ?_
    refine e_seq ?_
    refine e_region ?_
    refine w_val (v_move rfl) rfl ?_
    refine w_op rfl ?_
    refine x_call0 (v := .tuple #[.agg (resCells 0 [5, 0, 0, 0]).toArray, .bool true]) rfl rfl rfl Try.call20 rfl (fun w hw => by have := wkResult_spec (pw 1) (wg6.1 1) w (wg_inv6.wkV hw List.mem_cons_self (by decide : 1 < 2)) (wg_inv6.w 1).rlen; rwa [wg_r.1, wg_r.2.1, wg_r.2.2] at this) ?_
    refine w_val (v_move rfl) rfl ?_
    refine w_val (v_extract rfl rfl) rfl ?_
    refine w_val (v_extract rfl rfl) rfl ?_
    refine w_op rfl ?_
    refine x_alloc (z := .agg #[.int .i64 0, .int .i64 0, .int .i64 0, .int .i64 0, .int .i64 0]) (by intro w; exact Try.zeroValue30 w) rfl (fun b13 => ?_)
    refine w_op rfl ?_
    refine x_storeA 0 rfl rfl rfl Try.hi30 Try.cz30 rfl (by first | (simp [Value.oneCell', opCells]; done) | assumption | exact one_ints _ | exact one_resCells _ _ | exact one_slotC _) ?_
    refine w_val (v_assign rfl) rfl ?_
    refine w_nil ?_
    refine e_seq ?_
    refine e_region ?_
    refine w_val (v_move rfl) rfl ?_
    refine w_val (v_is (v' := .bool true) (v_eql rfl rfl) (by rfl)) rfl ?_
    refine w_val (v_move rfl) rfl ?_
    refine w_want rfl rfl ?_
    refine w_val (v_move rfl) rfl ?_
    refine w_want rfl rfl ?_
    refine w_val (v_is (v' := .bool true) (v_eql rfl rfl) (by rfl)) rfl ?_
    refine w_val (v_pickT rfl rfl) rfl ?_
    refine w_val (v_move rfl) rfl ?_
    refine w_want rfl rfl ?_
    refine w_val (v_move rfl) rfl ?_
    refine w_want rfl rfl ?_
    refine w_val (v_is (v' := .bool true) (v_eql rfl rfl) (by rfl)) rfl ?_
    refine w_val (v_pickT rfl rfl) rfl ?_
    refine w_val (v_move rfl) rfl ?_
    refine w_want rfl rfl ?_
    refine w_val (v_move rfl) rfl ?_
    refine w_want rfl rfl ?_
    refine w_val (v_is (v' := .bool true) (v_eql rfl rfl) (by rfl)) rfl ?_
    refine w_val (v_pickT rfl rfl) rfl ?_
    refine w_val (v_move rfl) rfl ?_
    refine w_want rfl rfl ?_
    refine w_val (v_move rfl) rfl ?_
    refine w_val (v_pickT rfl rfl) rfl ?_
    refine w_val (v_move rfl) rfl ?_
    refine w_want rfl rfl ?_
    refine w_val (v_fieldAddrB (o := 1) Try.underlying30 rfl rfl Try.nz28 rfl) rfl ?_
    refine w_want rfl rfl ?_
    refine w_val (v_indexAB Try.underlying28 Try.hi2 Try.cz2 rfl rfl (by first | omega | decide)) rfl ?_
    refine w_want rfl rfl ?_
    refine w_val (v_loadB 0 rfl Try.underlying2 rfl rfl rfl) rfl ?_
    refine w_want rfl rfl ?_
    refine w_val (v_is (v' := .bool true) (v_eql rfl rfl) (by rfl)) rfl ?_
    refine w_val (v_pickT rfl rfl) rfl ?_
    refine w_val (v_move rfl) rfl ?_
    refine w_want rfl rfl ?_
    refine w_op rfl ?_
    refine x_call0 (v := .pointer none) rfl rfl rfl Try.call17 rfl (fun w hw => (wkNew_spec (.slice none 0 0) [] 8 w ⟨none, 0, rfl, Nat.le_refl _, rfl, fun h => absurd h (Nat.lt_irrefl _)⟩).mono (by rintro e w' (⟨_, h1, h2⟩ | ⟨⟨_, _, h⟩, _⟩); exact ⟨h1, h2⟩; exact absurd h (by decide))) ?_
    refine w_want rfl rfl ?_
    refine w_val (v_is (v' := .bool true) (v_eqlPtr Try.underlying33 rfl rfl) (by rfl)) rfl ?_
    refine w_val (v_pickT rfl rfl) rfl ?_
    refine w_val (v_assign rfl) rfl ?_
    refine w_nil ?_
    refine e_retQ (q_ret1 rfl (.tmp rfl) ?_)
    exact fun w' hw' => ⟨rfl, hw'.res.nil⟩
end Go.SL
end
