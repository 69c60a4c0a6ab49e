/- Ytebdkaadbakhlac: part WK of this seat's own texts. -/
import Derived.Test.YtebdkaadbakhlacWJ
set_option linter.unusedVariables false
set_option linter.unusedSimpArgs false
section

open Go Go.Proofs Go.SL
set_option maxRecDepth 100000
namespace Go.SL
/-- a hand's cells -/
def hdC (x : WkL) (dv sv : Value) : List Value := [dv, .int .i64 (x.by_ : Int), .int .i64 (x.at_ : Int)] ++ (intCells x.g ++ (sv :: .bool x.ov :: resCells x.rc x.rg))
section
variable {x : WkL} {dv sv : Value}
theorem hdC_len (hg : x.g.length = 4) (hr : x.rg.length = 4) : (hdC x dv sv).length = 14 := by simp [hdC, intCells, resCells, hg, hr]
theorem hd_split : hdC x dv sv = ([dv, .int .i64 (x.by_ : Int), .int .i64 (x.at_ : Int)] ++ intCells x.g) ++ (sv :: .bool x.ov :: resCells x.rc x.rg) := by unfold hdC; rw [List.append_assoc]
theorem hd_g (hg : x.g.length = 4) {a : Int} (h0 : 0 ≤ a) (h4 : a < 4) : (hdC x dv sv)[0 + 3 + a.toNat * 1]? = some (.int .i64 (gt x.g a)) := by
  unfold hdC
  rw [at_app (j := a.toNat) (by simp), List.getElem?_append_left (by simp [intCells, hg]; omega)]
  have : a.toNat < x.g.length := by omega
  simp [intCells, gt, List.getD, this]
theorem hd_g_set (hg : x.g.length = 4) {a : Int} (n : Int) (h0 : 0 ≤ a) (h4 : a < 4) : (hdC x dv sv).set (0 + 3 + a.toNat * 1) (.int .i64 n) = hdC { x with g := st x.g a n } dv sv := by
  unfold hdC
  rw [set_app (j := a.toNat) (by simp), List.set_append_left _ _ (by simp [intCells, hg]; omega)]
  simp [intCells, st, List.map_set]
theorem hd_sv (hg : x.g.length = 4) : (hdC x dv sv)[0 + 7]? = some sv := by rw [hd_split, at_app (j := 0) (by simp [intCells, hg])]; rfl
theorem hd_sv_set (hg : x.g.length = 4) (v : Value) : (hdC x dv sv).set (0 + 7) v = hdC x dv v := by rw [hd_split, set_app (j := 0) (by simp [intCells, hg]), hd_split]; rfl
theorem hd_ov (hg : x.g.length = 4) : (hdC x dv sv)[0 + 8]? = some (.bool x.ov) := by rw [hd_split, at_app (j := 1) (by simp [intCells, hg])]; rfl
theorem hd_ov_set (hg : x.g.length = 4) (b : Bool) : (hdC x dv sv).set (0 + 8) (.bool b) = hdC { x with ov := b } dv sv := by rw [hd_split, set_app (j := 1) (by simp [intCells, hg]), hd_split]; rfl
theorem hd_regs (hg : x.g.length = 4) : ((hdC x dv sv).drop (0 + 3)).take 4 = intCells x.g := by
  unfold hdC
  rw [List.drop_left' (by rfl), List.take_left' (by simp [intCells, hg])]
theorem hd_split2 : hdC x dv sv = ([dv, .int .i64 (x.by_ : Int), .int .i64 (x.at_ : Int)] ++ intCells x.g ++ [sv, .bool x.ov]) ++ resCells x.rc x.rg := by unfold hdC; simp only [List.append_assoc, List.cons_append, List.nil_append]
theorem hd_res_set (hg : x.g.length = 4) (hr : x.rg.length = 4) (c : Int) (l : List Int) : (hdC x dv sv).take (0 + 9) ++ resCells c l ++ (hdC x dv sv).drop (0 + 9 + 5) = hdC { x with rc := c, rg := l } dv sv := by
  have h0 : (hdC x dv sv).drop (0 + 9 + 5) = [] := List.drop_eq_nil_of_le (by rw [hdC_len hg hr]; decide)
  rw [h0, List.append_nil, hd_split2, hd_split2, List.take_left' (by simp [intCells, hg])]
theorem hd_lt2 : 0 + 2 < (hdC x dv sv).length := by unfold hdC; simp only [List.length_append, List.length_cons]; omega
structure HdV (c : View) (p : Nat) (x : WkL) : Prop where
  ov : c ⟨p, 0 + 8, none⟩ = some (.bool x.ov)
  res : Cells c ⟨p, 0 + 9, none⟩ (resCells x.rc x.rg)
theorem HdV.of {c : View} {p : Nat} (h : Cells c ⟨p, 0, none⟩ (hdC x dv sv)) (hg : x.g.length = 4) : HdV c p x := by
  refine ⟨?_, fun j v hj => ?_⟩
  · have := h (0 + 8) _ (hd_ov hg)
    rwa [add_mk] at this
  · have h2 := h (0 + 9 + j) v (by rw [hd_split2, at_app (j := j) (by simp [intCells, hg])]; exact hj)
    rw [add_mk] at h2 ⊢
    rwa [show 0 + (0 + 9 + j) = 0 + 9 + j from by omega] at h2
theorem HdV.mono {c c' : View} {p : Nat} (hl : Le c c') (h : HdV c p x) : HdV c' p x := ⟨hl _ _ h.ov, h.res.mono hl⟩
end
/-- the last that was stored to a key -/
def putF (st : DeedL) (k : Int) : Int × Bool := st.foldl (fun acc o => if o.a = k then (o.n, true) else acc) (0, false)
theorem putF_snoc (st : DeedL) (o : OpL) (k : Int) : putF (st ++ [o]) k = if o.a = k then (o.n, true) else putF st k := by simp [putF, List.foldl_append]
structure StOk (x : WkL) (st : DeedL) : Prop where
  put : ∀ k : Nat, putF st k = (if x.put k = true then x.has k else 0, x.put k)
  len : st.length ≤ x.at_
abbrev hdH (p : Nat) (dv sv : Value) (x : WkL) (st : DeedL) : Hp := [.blk p 81 (hdC x dv sv), Own sv 118 5 st.length (deedCells st)]
theorem hdPut_spec (p : Nat) (dv sv : Value) (x : WkL) (st : DeedL) (k : Int) (w : World) (h : ∀ c ∈ hdH p dv sv x st, c.holds w) (hsep : (hdH p dv sv x st).Pairwise Disj) (hg4 : x.g.length = 4) (hl : st.length ≤ 1000) :
    Calls Try.prog 78 #[.pointer (some ⟨p, 0, none⟩), .int .i64 k] w fun e w' => ∃ _ : Unit, True ∧ e = .returned (.tuple #[.int .i64 (putF st k).1, .bool (putF st k).2]) ∧ Res w (hdH p dv sv x st) (hdH p dv sv x st) w' := by
  refine enter (mc := hdH p dv sv x st) (N := 35) Try.func78 rfl rfl rfl ?_ ?_ ?_
  · exact h
  · exact hsep
  refine g_shape2 1 rfl fun A kp hv hk hA => ?_
  subst hv
  refine e_seq ?_
  refine e_region ?_
  refine w_val (v_assign rfl) rfl ?_
  refine w_val (v_assign rfl) rfl ?_
  refine w_nil ?_
  refine e_seq ?_
  refine e_seq ?_
  refine e_region ?_
  refine w_val (v_move rfl) rfl ?_
  refine w_val (v_nilCheck rfl) rfl ?_
  refine w_val (v_fieldAddrB (o := 7) Try.underlying81 rfl rfl Try.nz24 rfl) rfl ?_
  refine w_val (v_loadB 0 rfl Try.underlying24 rfl rfl (hd_sv hg4)) rfl ?_
  refine w_val (v_lenS Try.underlying24 rfl) rfl ?_
  refine w_val (v_sub rfl rfl (by omega)) rfl ?_
  refine w_val (v_assign rfl) rfl ?_
  refine w_nil ?_
  refine e_block ?_
  refine e_loopK (σ := Nat) [0, 1] (.cons rfl (.cons rfl .nil)) (fun j => [(6, .int .i64 ((j : Int) - 1))]) (fun j => j ≤ st.length ∧ putF st k = putF (st.take j) k) (fun j => j) st.length ⟨Nat.le_refl _, by rw [List.take_length]⟩ (by repeat (first | exact Sub.nil _ | refine Sub.cons rfl ?_)) ?_
  rintro j ⟨hj, hput⟩
  refine e_seq ?_
  refine e_seq ?_
  refine e_region ?_
  refine w_val (v_move rfl) rfl ?_
  refine w_val (v_geq rfl rfl) rfl ?_
  refine w_nil ?_
  refine e_condD rfl (fun hge => ?_) (fun hge => ?_)
  · obtain ⟨m, rfl⟩ : ∃ m, j = m + 1 := ⟨j - 1, by omega⟩
    have hm : m < st.length := by omega
    have hnext : st.take (m + 1) = st.take m ++ [st[m]] := List.take_succ_eq_append_getElem hm
    obtain ⟨ad, rfl⟩ := hA (by omega)
    rw [hnext, putF_snoc] at hput
    have hcell := fun (w : World) (hw : (Own (.slice (some ad) st.length kp) 118 5 st.length (deedCells st)).holds w) => own_op hw rfl (List.getElem?_eq_getElem hm)
    generalize st[m] = o at *
    refine e_skip ?_
    refine e_seq ?_
    refine e_block ?_
    refine e_seq ?_
    refine e_region ?_
    refine w_val (v_move rfl) rfl ?_
    refine w_val (v_nilCheck rfl) rfl ?_
    refine w_val (v_fieldAddrB (o := 7) Try.underlying81 rfl rfl Try.nz24 rfl) rfl ?_
    refine w_val (v_loadB 0 rfl Try.underlying24 rfl rfl (hd_sv hg4)) rfl ?_
    refine w_val (v_is (v' := .int .i64 (m : Int)) (v_move rfl) (by congr 1; omega)) rfl ?_
    refine w_val (v_indexS Try.underlying24 Try.hi118 Try.cz118 rfl rfl (by first | omega | decide)) rfl ?_
    refine w_val (v_fieldAddr (o := 1) Try.underlying118 rfl rfl Try.nz3 rfl) rfl ?_
    refine w_val (v_load1 Try.underlying3 rfl rfl (fun w hw => hcell w (hw.mem (i := 1) rfl) 1 (.int .i64 o.a) rfl)) rfl ?_
    refine w_val (v_move rfl) rfl ?_
    refine w_val (v_eql rfl rfl) rfl ?_
    refine w_nil ?_
    refine e_condD rfl (fun he => ?_) (fun he => ?_)
    · rw [if_pos he] at hput
      refine e_seq ?_
      refine e_region ?_
      refine w_val (v_move rfl) rfl ?_
      refine w_val (v_nilCheck rfl) rfl ?_
      refine w_val (v_fieldAddrB (o := 7) Try.underlying81 rfl rfl Try.nz24 rfl) rfl ?_
      refine w_val (v_loadB 0 rfl Try.underlying24 rfl rfl (hd_sv hg4)) rfl ?_
      refine w_val (v_is (v' := .int .i64 (m : Int)) (v_move rfl) (by congr 1; omega)) rfl ?_
      refine w_val (v_indexS Try.underlying24 Try.hi118 Try.cz118 rfl rfl (by first | omega | decide)) rfl ?_
      refine w_val (v_fieldAddr (o := 4) Try.underlying118 rfl rfl Try.nz2 rfl) rfl ?_
      refine w_val (v_load1 Try.underlying2 rfl rfl (fun w hw => hcell w (hw.mem (i := 1) rfl) 4 (.int .i64 o.n) rfl)) rfl ?_
      refine w_val (v_assign rfl) rfl ?_
      refine w_val (v_assign rfl) rfl ?_
      refine w_nil ?_
      refine e_retQ (q_ret2 rfl (.tmp rfl) (.tmp rfl) ?_)
      exact fun w' hw' => ⟨(), trivial, by rw [hput], hw'.res⟩
    · rw [if_neg he] at hput
      refine e_skip ?_
      refine e_blk ?_
      refine e_region ?_
      refine w_val (v_move rfl) rfl ?_
      refine w_val (v_is (v' := .int .i64 ((m : Int) - 1)) (v_sub rfl rfl (by omega)) (by congr 1; omega)) rfl ?_
      refine w_val (v_assign rfl) rfl ?_
      refine w_nil ?_
      exact e_round (m) (⟨by omega, hput⟩) (by omega) (by repeat (first | exact Sub.nil _ | refine Sub.cons rfl ?_)) (fun _ hw => hw)
  · have : j = 0 := by omega
    subst this
    rw [List.take_zero] at hput
    refine e_exit rfl ?_
    refine e_seq ?_
    refine e_region ?_
    refine w_val (v_assign rfl) rfl ?_
    refine w_val (v_assign rfl) rfl ?_
    refine w_nil ?_
    refine e_retQ (q_ret2 rfl (.tmp rfl) (.tmp rfl) ?_)
    exact fun w' hw' => ⟨(), trivial, by rw [hput]; rfl, hw'.res⟩
end Go.SL
end
section

open Go Go.Proofs Go.SL
set_option maxRecDepth 100000
set_option maxHeartbeats 1000000
namespace Go.SL
def endUp (x : WkL) (c : Int) (T : TabL) (n : Nat) : TabL := fun k => if k < n ∧ (k : Int) ∈ storesOf x.d then chgL (T k) x.by_ (endSlot x c k) else T k
theorem endUp_zero {x : WkL} {c : Int} {T : TabL} : endUp x c T 0 = T := by
  funext k; unfold endUp; rw [if_neg (by omega)]
theorem endUp_all {x : WkL} {c : Int} {T : TabL} : endUp x c T 10 = endT x c T := rfl
theorem endUp_no {x : WkL} {c : Int} {T : TabL} {k : Nat} (h : (k : Int) ∉ storesOf x.d) : endUp x c T k = endUp x c T (k + 1) := by
  funext j
  unfold endUp
  by_cases hj : j = k
  · subst hj; rw [if_neg (by omega), if_neg (fun h' => h h'.2)]
  · have : (j < k ∧ (j : Int) ∈ storesOf x.d) ↔ (j < k + 1 ∧ (j : Int) ∈ storesOf x.d) := by constructor <;> (rintro ⟨h1, h2⟩; exact ⟨by omega, h2⟩)
    simp only [this]
theorem endUp_step {x : WkL} {c : Int} {T : TabL} {k : Nat} (hk : k < 10) (h : (k : Int) ∈ storesOf x.d) : chgT (endUp x c T k) k x.by_ (endSlot x c k) = endUp x c T (k + 1) := by
  rw [chgT_nat hk]
  funext j
  unfold upd
  by_cases hj : j = k
  · subst hj
    rw [if_pos rfl]
    unfold endUp
    rw [if_neg (by omega), if_pos ⟨by omega, h⟩]
  · rw [if_neg hj]
    unfold endUp
    have : (j < k ∧ (j : Int) ∈ storesOf x.d) ↔ (j < k + 1 ∧ (j : Int) ∈ storesOf x.d) := by constructor <;> (rintro ⟨h1, h2⟩; exact ⟨by omega, h2⟩)
    simp only [this]
theorem endUp_len {x : WkL} {c : Int} {T : TabL} {n k : Nat} : (endUp x c T n k).length = (T k).length := by
  unfold endUp
  split
  · exact chgL_len
  · rfl
theorem hdEnd_spec (p : Nat) (dv sv : Value) (x : WkL) (st : DeedL) (pt : Nat) (hs : Nat → Value) (T : TabL) (c : Int) (w : World) (h : ∀ k ∈ hdH p dv sv x st ++ tbH pt 142 hs T, k.holds w) (hsep : (hdH p dv sv x st ++ tbH pt 142 hs T).Pairwise Disj)
    (hd : IsDeed (off w (feet (hdH p dv sv x st ++ tbH pt 142 hs T))) dv x.d) (hn : ∀ k, k < 10 → (T k).length ≤ 1000) (hb : x.d.length ≤ 1000) (hg4 : x.g.length = 4) (hr4 : x.rg.length = 4) (hst : StOk x st) (hl : st.length ≤ 1000) :
    Calls Try.prog 77 #[.pointer (some ⟨p, 0, none⟩), .pointer (some ⟨pt, 0, none⟩), .int .i64 c] w fun e w' => ∃ _ : Unit, True ∧ e = .returned (.tuple #[]) ∧ Res w (hdH p dv sv x st ++ tbH pt 142 hs T) (hdH p dv sv (endX x c) st ++ tbH pt 142 hs (endT x c T)) w' := by
  obtain ⟨g0, g1, g2, g3, hge⟩ := list4 hg4
  refine enter (mc := hdH p dv sv x st ++ tbH pt 142 hs T) (N := 58) Try.func77 rfl rfl rfl ?_ ?_ ?_
  · exact h
  · exact hsep
  refine e_seq ?_
  refine e_region ?_
  refine w_val (v_move rfl) rfl ?_
  refine w_val (v_nilCheck rfl) rfl ?_
  refine w_val (v_fieldAddrB (o := 8) Try.underlying81 rfl rfl Try.nz4 rfl) rfl ?_
  refine w_op rfl ?_
  refine x_store1 0 rfl rfl rfl Try.hi4 Try.cz4 rfl (by rw [hdC_len hg4 hr4]; decide) rfl ?_; rw [hd_ov_set hg4]
  refine w_nil ?_
  refine e_seq ?_
  refine e_region ?_
  refine w_val (v_move rfl) rfl ?_
  refine w_val (v_move rfl) rfl ?_
  refine w_val (v_move rfl) rfl ?_
  refine w_val (v_nilCheck rfl) rfl ?_
  refine w_val (v_fieldAddrB (o := 3) Try.underlying81 rfl rfl Try.nz28 rfl) rfl ?_
  refine w_val (v_loadBN 0 rfl Try.underlying28 rfl Try.hi28 Try.cz28 rfl (cs' := intCells [g0, g1, g2, g3]) (by rw [← hge]; exact hd_regs (x := { x with ov := true }) hg4) rfl) rfl ?_
  refine w_val (v_build (v := .agg (resCells c [g0, g1, g2, g3]).toArray) _ rfl (by intro _; simp [Instr.build, Instr.fill, Try.zeroValue30, intCells, go_sem]; rfl)) rfl ?_
  refine w_val (v_nilCheck rfl) rfl ?_
  refine w_val (v_fieldAddrB (o := 9) Try.underlying81 rfl rfl Try.nz30 rfl) rfl ?_
  refine w_op rfl ?_
  refine x_store 0 rfl rfl rfl Try.hi30 Try.cz30 (by rw [hdC_len (x := { x with ov := true }) hg4 hr4]; exact (by decide : 0 + 9 + 5 ≤ 14)) (one_resCells c [g0, g1, g2, g3]) (hdC (endX x c) dv sv) (by rw [show endX x c = { ({ x with ov := true } : WkL) with rc := c, rg := [g0, g1, g2, g3] } from by rw [← hge]; rfl]; exact hd_res_set (x := { x with ov := true }) hg4 hr4 c [g0, g1, g2, g3]) ?_
  refine w_nil ?_
  refine e_seq ?_
  refine e_region ?_
  refine w_heap (m' := hdH p dv sv (endX x c) st ++ tbH pt 142 hs (endUp x c T 0)) (fun _ hw => by rw [endUp_zero]; exact hw) ?_
  refine w_val (v_assign rfl) rfl ?_
  refine w_nil ?_
  refine e_block ?_
  refine e_loopH (σ := Nat) [0, 1, 2] (.cons rfl (.cons rfl (.cons rfl .nil))) (fun j => [(6, .int .i64 (j : Int))]) (fun j => hdH p dv sv (endX x c) st ++ tbH pt 142 hs (endUp x c T j)) (fun j => j ≤ 10) (fun j => 10 - j) 0 (Nat.zero_le _) (by repeat (first | exact Sub.nil _ | refine Sub.cons rfl ?_)) (fun _ hw => hw) ?_
  rintro kk hkk
  refine e_seq ?_
  refine e_seq ?_
  refine e_region ?_
  refine w_val (v_move rfl) rfl ?_
  refine w_val (v_lss rfl rfl) rfl ?_
  refine w_nil ?_
  refine e_condD rfl (fun hlt => ?_) (fun hlt => ?_)
  · have hkk' : kk < 10 := by omega
    have hnT : ∀ k, k < 10 → (endUp x c T kk k).length ≤ 1000 := fun k hk => by rw [endUp_len]; exact hn k hk
    have hno := endUp_no (x := x) (c := c) (T := T) (k := kk)
    have hyes := endUp_step (x := x) (c := c) (T := T) hkk'
    have hpf := hst.put kk
    generalize endUp x c T kk = T1 at *
    have hstl := storesL_is x.d kk
    refine e_skip ?_
    refine e_seq ?_
    refine e_block ?_
    refine e_seq ?_
    refine e_seq ?_
    refine e_region ?_
    refine w_val (v_move rfl) rfl ?_
    refine w_val (v_nilCheck rfl) rfl ?_
    refine w_val (v_fieldAddrB (o := 0) Try.underlying81 rfl rfl Try.nz25 rfl) rfl ?_
    refine w_val (v_loadB 0 rfl Try.underlying25 rfl rfl rfl) rfl ?_
    refine w_val (v_move rfl) rfl ?_
    refine w_op rfl ?_
    refine x_call0 (v := .bool (storesL x.d kk)) rfl rfl rfl Try.call26 rfl (fun w hw => stores_spec dv x.d kk w (hd.mono hw.off) (by omega)) ?_
    refine w_val (v_not rfl) rfl ?_
    refine w_nil ?_
    by_cases hk : (kk : Int) ∈ storesOf x.d
    · rw [decide_eq_true hk] at hstl
      have hyes := hyes hk
      rw [hstl]
      refine e_condF rfl ?_
      refine e_skip ?_
      refine e_seq ?_
      refine e_region ?_
      refine w_val (v_move rfl) rfl ?_
      refine w_val (v_move rfl) rfl ?_
      refine w_op rfl ?_
      refine x_callM (dst := some 35) (hdH p dv sv (endX x c) st) (tbH pt 142 hs T1) (σ := Unit) (fun _ => True) (fun _ => .tuple #[.int .i64 (putF st kk).1, .bool (putF st kk).2]) (fun _ => hdH p dv sv (endX x c) st) (List.Perm.refl _) rfl rfl rfl Try.call78 (fun w hw => hdPut_spec p dv sv (endX x c) st kk w (res_part hw).1 (res_part hw).2 hg4 hl) rfl (fun _ _ => ?_)
      rw [hpf]
      by_cases hsp : c = 0 ∧ x.put kk = true
      · have he : endSlot x c kk = ⟨x.by_, false, false, x.has kk⟩ := by unfold endSlot; rw [if_pos hsp]
        rw [he] at hyes
        obtain ⟨hc0, hp⟩ := hsp
        rw [if_pos hp, hp]
        refine w_val (v_move rfl) rfl ?_
        refine w_val (v_is (v' := .int .i64 (x.has kk)) (v_extract rfl rfl) rfl) rfl ?_
        refine w_val (v_is (v' := .bool true) (v_extract rfl rfl) rfl) rfl ?_
        refine w_val (v_assign rfl) rfl ?_
        refine w_val (v_assign rfl) rfl ?_
        refine w_nil ?_
        refine e_seq ?_
        refine e_region ?_
        refine w_val (v_move rfl) rfl ?_
        refine w_val (v_move rfl) rfl ?_
        refine w_want rfl rfl ?_
        refine w_val (v_move rfl) rfl ?_
        refine w_want rfl rfl ?_
        refine w_val (v_is (v' := .bool true) (v_eql rfl rfl) (by rw [decide_eq_true hc0])) rfl ?_
        refine w_val (v_pickT rfl rfl) rfl ?_
        refine w_nil ?_
        refine e_condT rfl ?_
        refine e_region ?_
        refine w_val (v_move rfl) rfl ?_
        refine w_val (v_move rfl) rfl ?_
        refine w_val (v_move rfl) rfl ?_
        refine w_val (v_nilCheck rfl) rfl ?_
        refine w_val (v_fieldAddrB (o := 1) Try.underlying81 rfl rfl Try.nz3 rfl) rfl ?_
        refine w_val (v_loadB 0 rfl Try.underlying3 rfl rfl rfl) rfl ?_
        refine w_val (v_move rfl) rfl ?_
        refine w_op rfl ?_
        refine x_callM (dst := some 50) (tbH pt 142 hs T1) (hdH p dv sv (endX x c) st) (σ := Unit) (fun _ => True) (fun _ => .bool (hasT T1 kk x.by_)) (fun _ => tbH pt 142 hs (chgT T1 kk x.by_ ⟨x.by_, false, false, x.has kk⟩)) (List.perm_append_comm (l₁ := [_, _])) rfl rfl rfl Try.call103 (fun w hw => brdSet_spec pt hs T1 kk x.by_ (x.has kk) w (res_part hw).1 (res_part hw).2 hnT) rfl (fun _ _ => ?_); rw [hyes]
        refine w_nil ?_
        refine e_blk ?_
        refine e_region ?_
        refine w_val (v_move rfl) rfl ?_
        refine w_val (v_add rfl rfl (by omega)) rfl ?_
        refine w_val (v_assign rfl) rfl ?_
        refine w_nil ?_
        exact e_round (kk + 1) (by omega) (by omega) (by repeat (first | exact Sub.nil _ | refine Sub.cons rfl ?_)) (fun _ hw => hw.perm (List.perm_append_comm (l₂ := [_, _])))
      · have he : endSlot x c kk = ⟨x.by_, false, true, 0⟩ := by unfold endSlot; rw [if_neg hsp]
        rw [he] at hyes
        cases hp : x.put kk with
        | false =>
          refine w_val (v_move rfl) rfl ?_
          refine w_val (v_extract rfl rfl) rfl ?_
          refine w_val (v_is (v' := .bool false) (v_extract rfl rfl) rfl) rfl ?_
          refine w_val (v_assign rfl) rfl ?_
          refine w_val (v_assign rfl) rfl ?_
          refine w_nil ?_
          refine e_seq ?_
          refine e_region ?_
          refine w_val (v_move rfl) rfl ?_
          refine w_val (v_move rfl) rfl ?_
          refine w_skip rfl rfl rfl rfl ?_
          refine w_skip rfl rfl rfl rfl ?_
          refine w_val (v_pickF rfl rfl) rfl ?_
          refine w_nil ?_
          refine e_condF rfl ?_
          refine e_region ?_
          refine w_val (v_move rfl) rfl ?_
          refine w_val (v_move rfl) rfl ?_
          refine w_val (v_move rfl) rfl ?_
          refine w_val (v_nilCheck rfl) rfl ?_
          refine w_val (v_fieldAddrB (o := 1) Try.underlying81 rfl rfl Try.nz3 rfl) rfl ?_
          refine w_val (v_loadB 0 rfl Try.underlying3 rfl rfl rfl) rfl ?_
          refine w_op rfl ?_
          refine x_callM (dst := some 57) (tbH pt 142 hs T1) (hdH p dv sv (endX x c) st) (σ := Unit) (fun _ => True) (fun _ => .bool (hasT T1 kk x.by_)) (fun _ => tbH pt 142 hs (chgT T1 kk x.by_ ⟨x.by_, false, true, 0⟩)) (List.perm_append_comm (l₁ := [_, _])) rfl rfl rfl Try.call104 (fun w hw => brdVoid_spec pt hs T1 kk x.by_ w (res_part hw).1 (res_part hw).2 hnT) rfl (fun _ _ => ?_); rw [hyes]
          refine w_nil ?_
          refine e_blk ?_
          refine e_region ?_
          refine w_val (v_move rfl) rfl ?_
          refine w_val (v_add rfl rfl (by omega)) rfl ?_
          refine w_val (v_assign rfl) rfl ?_
          refine w_nil ?_
          exact e_round (kk + 1) (by omega) (by omega) (by repeat (first | exact Sub.nil _ | refine Sub.cons rfl ?_)) (fun _ hw => hw.perm (List.perm_append_comm (l₂ := [_, _])))
        | true =>
          have hc0 : ¬ c = 0 := fun h => hsp ⟨h, hp⟩
          refine w_val (v_move rfl) rfl ?_
          refine w_val (v_extract rfl rfl) rfl ?_
          refine w_val (v_is (v' := .bool true) (v_extract rfl rfl) rfl) rfl ?_
          refine w_val (v_assign rfl) rfl ?_
          refine w_val (v_assign rfl) rfl ?_
          refine w_nil ?_
          refine e_seq ?_
          refine e_region ?_
          refine w_val (v_move rfl) rfl ?_
          refine w_val (v_move rfl) rfl ?_
          refine w_want rfl rfl ?_
          refine w_val (v_move rfl) rfl ?_
          refine w_want rfl rfl ?_
          refine w_val (v_is (v' := .bool false) (v_eql rfl rfl) (by rw [decide_eq_false hc0])) rfl ?_
          refine w_val (v_pickT rfl rfl) rfl ?_
          refine w_nil ?_
          refine e_condF rfl ?_
          refine e_region ?_
          refine w_val (v_move rfl) rfl ?_
          refine w_val (v_move rfl) rfl ?_
          refine w_val (v_move rfl) rfl ?_
          refine w_val (v_nilCheck rfl) rfl ?_
          refine w_val (v_fieldAddrB (o := 1) Try.underlying81 rfl rfl Try.nz3 rfl) rfl ?_
          refine w_val (v_loadB 0 rfl Try.underlying3 rfl rfl rfl) rfl ?_
          refine w_op rfl ?_
          refine x_callM (dst := some 57) (tbH pt 142 hs T1) (hdH p dv sv (endX x c) st) (σ := Unit) (fun _ => True) (fun _ => .bool (hasT T1 kk x.by_)) (fun _ => tbH pt 142 hs (chgT T1 kk x.by_ ⟨x.by_, false, true, 0⟩)) (List.perm_append_comm (l₁ := [_, _])) rfl rfl rfl Try.call104 (fun w hw => brdVoid_spec pt hs T1 kk x.by_ w (res_part hw).1 (res_part hw).2 hnT) rfl (fun _ _ => ?_); rw [hyes]
          refine w_nil ?_
          refine e_blk ?_
          refine e_region ?_
          refine w_val (v_move rfl) rfl ?_
          refine w_val (v_add rfl rfl (by omega)) rfl ?_
          refine w_val (v_assign rfl) rfl ?_
          refine w_nil ?_
          exact e_round (kk + 1) (by omega) (by omega) (by repeat (first | exact Sub.nil _ | refine Sub.cons rfl ?_)) (fun _ hw => hw.perm (List.perm_append_comm (l₂ := [_, _])))
    · rw [decide_eq_false hk] at hstl
      have hno := hno hk
      subst hno
      rw [hstl]
      refine e_condT rfl ?_
      refine e_exit rfl ?_
      refine e_region ?_
      refine w_val (v_move rfl) rfl ?_
      refine w_val (v_add rfl rfl (by omega)) rfl ?_
      refine w_val (v_assign rfl) rfl ?_
      refine w_nil ?_
      exact e_round (kk + 1) (by omega) (by omega) (by repeat (first | exact Sub.nil _ | refine Sub.cons rfl ?_)) (fun _ hw => hw)
  · have e : kk = 10 := by omega
    subst e
    rw [endUp_all]
    refine e_exit rfl ?_
    refine e_endQ (q_ret0 rfl ?_)
    exact fun w' hw' => ⟨(), trivial, rfl, hw'.res⟩
end Go.SL
end
section

open Go Go.Proofs Go.SL
set_option maxRecDepth 100000
set_option maxHeartbeats 1000000
namespace Go.SL
theorem StOk.store {x : WkL} {sl : DeedL} {a n : Int} (h : StOk x sl) (h0 : 0 ≤ a) : StOk { x with put := upd x.put a.toNat true, has := upd x.has a.toNat n, at_ := x.at_ + 1 } (sl ++ [⟨0, a, 0, 0, n⟩]) := by
  refine ⟨fun k => ?_, ?_⟩
  · rw [putF_snoc]
    unfold upd
    by_cases hk : a = k
    · subst hk
      simp
    · have : k ≠ a.toNat := by omega
      simp only [if_neg hk, if_neg this]
      exact h.put k
  · have := h.len
    simp only [List.length_append, List.length_singleton]
    omega
theorem StOk.next {x x' : WkL} {sl : DeedL} (h : StOk x sl) (hp : x'.put = x.put) (hh : x'.has = x.has) (ha : x.at_ ≤ x'.at_) : StOk x' sl := ⟨fun k => by rw [hp, hh]; exact h.put k, Nat.le_trans h.len ha⟩
theorem deedCells_one (o : OpL) : deedCells [o] = opCells o := by simp [deedCells]
theorem hdStep_spec (p : Nat) (dv sv : Value) (x : WkL) (sl : DeedL) (pt : Nat) (hs : Nat → Value) (T : TabL) (w : World) (h : ∀ k ∈ hdH p dv sv x sl ++ tbH pt 142 hs T, k.holds w) (hsep : (hdH p dv sv x sl ++ tbH pt 142 hs T).Pairwise Disj)
    (hd : IsDeed (off w (feet (hdH p dv sv x sl ++ tbH pt 142 hs T))) dv x.d) (hn : ∀ k, k < 10 → (T k).length ≤ 1000) (hck : (checkL x.d).1 = 0) (hg4 : x.g.length = 4) (hr4 : x.rg.length = 4) (hst : StOk x sl) (hat : x.at_ ≤ 900) :
    Calls Try.prog 46 #[.pointer (some ⟨p, 0, none⟩), .pointer (some ⟨pt, 0, none⟩)] w fun e w' => ∃ y : Value × DeedL, StOk (stepW x T).2.1 y.2 ∧ e = .returned (.tuple #[.int .i64 (stepW x T).1.1, .int .i64 (stepW x T).1.2]) ∧ Res w (hdH p dv sv x sl ++ tbH pt 142 hs T) (hdH p dv y.1 (stepW x T).2.1 y.2 ++ tbH pt 142 hs (stepW x T).2.2) w' := by
  obtain ⟨hd14, hchk⟩ := checked hck
  have hstl := hst.len
  obtain ⟨A, kp, hvd, hle, hc⟩ := hd.form
  refine enter (mc := hdH p dv sv x sl ++ tbH pt 142 hs T) (N := 164) Try.func46 rfl rfl rfl ?_ ?_ ?_
  · exact h
  · exact hsep
  refine e_seq ?_
  refine e_region ?_
  refine w_val (v_assign rfl) rfl ?_
  refine w_val (v_assign rfl) rfl ?_
  refine w_nil ?_
  refine e_seq ?_
  refine e_seq ?_
  refine e_region ?_
  refine w_val (v_move rfl) rfl ?_
  refine w_val (v_nilCheck rfl) rfl ?_
  refine w_val (v_fieldAddrB (o := 8) Try.underlying81 rfl rfl Try.nz4 rfl) rfl ?_
  cases ho : x.ov with
  | true =>
    rw [step_over ho]
    refine w_val (v_is (v' := .bool true) (v_loadB 0 rfl Try.underlying4 rfl rfl (hd_ov hg4)) (by rw [ho])) rfl ?_
    refine w_nil ?_
    refine e_condT rfl ?_
    refine e_seq ?_
    refine e_region ?_
    refine w_val (v_assign rfl) rfl ?_
    refine w_val (v_assign rfl) rfl ?_
    refine w_nil ?_
    refine e_retQ (q_ret2 rfl (.tmp rfl) (.tmp rfl) ?_)
    exact fun w' hw' => ⟨(sv, sl), hst, rfl, hw'.res⟩
  | false =>
    refine w_val (v_is (v' := .bool false) (v_loadB 0 rfl Try.underlying4 rfl rfl (hd_ov hg4)) (by rw [ho])) rfl ?_
    refine w_nil ?_
    refine e_condF rfl ?_
    refine e_skip ?_
    refine e_seq ?_
    refine e_seq ?_
    refine g_heap (m' := hdH p dv sv x sl ++ tbH pt 142 hs T) (fun _ hw => hw) ?_
    refine e_draw ([.blk p 81 (hdC x dv sv)]) Try.mixed ?_
    refine a_take 0 pan_cx (by kernel_rfl) (fun _ hw => hw.sub (by repeat (first | exact List.Sublist.slnil | exact List.Sublist.refl _ | apply List.Sublist.cons_cons | apply List.Sublist.cons))) rfl (by kernel_rfl) (by kernel_rfl) (v_move rfl) rfl ?_
    refine a_take 1 pan_cx (by kernel_rfl) (fun _ hw => hw.sub (by repeat (first | exact List.Sublist.slnil | exact List.Sublist.refl _ | apply List.Sublist.cons_cons | apply List.Sublist.cons))) rfl (by kernel_rfl) (by kernel_rfl) (v_nilCheck rfl) rfl ?_
    refine a_take 2 pan_cx (by kernel_rfl) (fun _ hw => hw.sub (by repeat (first | exact List.Sublist.slnil | exact List.Sublist.refl _ | apply List.Sublist.cons_cons | apply List.Sublist.cons))) rfl (by kernel_rfl) (by kernel_rfl) (v_fieldAddrB (o := 2) Try.underlying81 rfl rfl Try.nz3 rfl) rfl ?_
    refine a_take 3 pan_cx (by kernel_rfl) (fun _ hw => hw.sub (by repeat (first | exact List.Sublist.slnil | exact List.Sublist.refl _ | apply List.Sublist.cons_cons | apply List.Sublist.cons))) rfl (by kernel_rfl) (by kernel_rfl) (v_loadB 0 rfl Try.underlying3 rfl rfl rfl) rfl ?_
    refine a_take 4 pan_cx (by kernel_rfl) (fun _ hw => hw.sub (by repeat (first | exact List.Sublist.slnil | exact List.Sublist.refl _ | apply List.Sublist.cons_cons | apply List.Sublist.cons))) rfl (by kernel_rfl) (by kernel_rfl) (v_move rfl) rfl ?_
    refine a_take 5 pan_cx (by kernel_rfl) (fun _ hw => hw.sub (by repeat (first | exact List.Sublist.slnil | exact List.Sublist.refl _ | apply List.Sublist.cons_cons | apply List.Sublist.cons))) rfl (by kernel_rfl) (by kernel_rfl) (v_nilCheck rfl) rfl ?_
    refine a_take 6 pan_cx (by kernel_rfl) (fun _ hw => hw.sub (by repeat (first | exact List.Sublist.slnil | exact List.Sublist.refl _ | apply List.Sublist.cons_cons | apply List.Sublist.cons))) rfl (by kernel_rfl) (by kernel_rfl) (v_fieldAddrB (o := 0) Try.underlying81 rfl rfl Try.nz25 rfl) rfl ?_
    refine a_take 7 pan_cx (by kernel_rfl) (fun _ hw => hw.sub (by repeat (first | exact List.Sublist.slnil | exact List.Sublist.refl _ | apply List.Sublist.cons_cons | apply List.Sublist.cons))) rfl (by kernel_rfl) (by kernel_rfl) (v_is (v' := .slice A x.d.length kp) (v_loadB 0 rfl Try.underlying25 rfl rfl rfl) hvd) rfl ?_
    refine a_take 8 pan_cx (by kernel_rfl) (fun _ hw => hw.sub (by repeat (first | exact List.Sublist.slnil | exact List.Sublist.refl _ | apply List.Sublist.cons_cons | apply List.Sublist.cons))) rfl (by kernel_rfl) (by kernel_rfl) (v_lenS Try.underlying25 rfl) rfl ?_
    refine a_take 9 pan_cx (by kernel_rfl) (fun _ hw => hw.sub (by repeat (first | exact List.Sublist.slnil | exact List.Sublist.refl _ | apply List.Sublist.cons_cons | apply List.Sublist.cons))) rfl (by kernel_rfl) (by kernel_rfl) (v_geq rfl rfl) rfl ?_
    refine a_done (by kernel_rfl) ?_
    refine e_condD rfl (fun hge => ?_) (fun hge => ?_)
    · have hR := step_end (T := T) ho (by omega : x.d.length ≤ x.at_)
      rw [hR]
      refine e_seq ?_
      refine e_region ?_
      refine w_val (v_move rfl) rfl ?_
      refine w_val (v_move rfl) rfl ?_
      refine w_op rfl ?_
      refine x_callM (dst := some 28) (hdH p dv sv x sl ++ tbH pt 142 hs T) [] (σ := Unit) (fun _ => True) (fun _ => .tuple #[]) (fun _ => hdH p dv sv (endX x 0) sl ++ tbH pt 142 hs (endT x 0 T)) (List.Perm.refl _) rfl rfl rfl Try.call77 (fun w hw => hdEnd_spec p _ sv x sl pt hs T 0 w (res_part hw).1 (res_part hw).2 (hd.mono (hw.offm (fun c hc => List.mem_append_left _ hc))) hn (by omega) hg4 hr4 hst (by omega)) rfl (fun _ _ => ?_)
      refine w_nil ?_
      refine e_seq ?_
      refine e_region ?_
      refine w_val (v_assign rfl) rfl ?_
      refine w_val (v_assign rfl) rfl ?_
      refine w_nil ?_
      refine e_retQ (q_ret2 rfl (.tmp rfl) (.tmp rfl) ?_)
      exact fun w' hw' => ⟨(sv, sl), hst.next rfl rfl (Nat.le_refl _), rfl, hw'.res⟩
    · have ha : x.at_ < x.d.length := by omega
      have hR := step_op (T := T) ho (List.getElem?_eq_getElem ha)
      obtain ⟨hf, h9⟩ := hchk _ ha
      obtain ⟨ad, rfl, hcell⟩ := IsDeed.cells hc ha
      generalize x.d[x.at_] = o at *
      unfold opW at hR
      have hdv := hd
      refine e_skip ?_
      refine e_seq ?_
      refine e_draw ([.blk p 81 (hdC x dv sv)]) Try.mixed ?_
      refine a_take 0 pan_cx (by kernel_rfl) (fun _ hw => hw.sub (by repeat (first | exact List.Sublist.slnil | exact List.Sublist.refl _ | apply List.Sublist.cons_cons | apply List.Sublist.cons))) rfl (by kernel_rfl) (by kernel_rfl) (v_move rfl) rfl ?_
      refine a_take 1 pan_cx (by kernel_rfl) (fun _ hw => hw.sub (by repeat (first | exact List.Sublist.slnil | exact List.Sublist.refl _ | apply List.Sublist.cons_cons | apply List.Sublist.cons))) rfl (by kernel_rfl) (by kernel_rfl) (v_nilCheck rfl) rfl ?_
      refine a_take 2 pan_cx (by kernel_rfl) (fun _ hw => hw.sub (by repeat (first | exact List.Sublist.slnil | exact List.Sublist.refl _ | apply List.Sublist.cons_cons | apply List.Sublist.cons))) rfl (by kernel_rfl) (by kernel_rfl) (v_fieldAddrB (o := 0) Try.underlying81 rfl rfl Try.nz25 rfl) rfl ?_
      refine a_take 3 pan_cx (by kernel_rfl) (fun _ hw => hw.sub (by repeat (first | exact List.Sublist.slnil | exact List.Sublist.refl _ | apply List.Sublist.cons_cons | apply List.Sublist.cons))) rfl (by kernel_rfl) (by kernel_rfl) (v_is (v' := .slice (some ad) x.d.length kp) (v_loadB 0 rfl Try.underlying25 rfl rfl rfl) hvd) rfl ?_
      refine a_take 4 pan_cx (by kernel_rfl) (fun _ hw => hw.sub (by repeat (first | exact List.Sublist.slnil | exact List.Sublist.refl _ | apply List.Sublist.cons_cons | apply List.Sublist.cons))) rfl (by kernel_rfl) (by kernel_rfl) (v_move rfl) rfl ?_
      refine a_take 5 pan_cx (by kernel_rfl) (fun _ hw => hw.sub (by repeat (first | exact List.Sublist.slnil | exact List.Sublist.refl _ | apply List.Sublist.cons_cons | apply List.Sublist.cons))) rfl (by kernel_rfl) (by kernel_rfl) (v_nilCheck rfl) rfl ?_
      refine a_take 6 pan_cx (by kernel_rfl) (fun _ hw => hw.sub (by repeat (first | exact List.Sublist.slnil | exact List.Sublist.refl _ | apply List.Sublist.cons_cons | apply List.Sublist.cons))) rfl (by kernel_rfl) (by kernel_rfl) (v_fieldAddrB (o := 2) Try.underlying81 rfl rfl Try.nz3 rfl) rfl ?_
      refine a_take 7 pan_cx (by kernel_rfl) (fun _ hw => hw.sub (by repeat (first | exact List.Sublist.slnil | exact List.Sublist.refl _ | apply List.Sublist.cons_cons | apply List.Sublist.cons))) rfl (by kernel_rfl) (by kernel_rfl) (v_loadB 0 rfl Try.underlying3 rfl rfl rfl) rfl ?_
      refine a_take 8 pan_cx (by kernel_rfl) (fun _ hw => hw.sub (by repeat (first | exact List.Sublist.slnil | exact List.Sublist.refl _ | apply List.Sublist.cons_cons | apply List.Sublist.cons))) rfl (by kernel_rfl) (by kernel_rfl) (v_indexS Try.underlying25 Try.hi118 Try.cz118 rfl rfl (by first | omega | decide)) rfl ?_
      refine a_take 9 pan_cx (by kernel_rfl) (fun _ hw => hw.sub (by repeat (first | exact List.Sublist.slnil | exact List.Sublist.refl _ | apply List.Sublist.cons_cons | apply List.Sublist.cons))) rfl (by kernel_rfl) (by kernel_rfl) (v_loadON (cs := opCells o) Try.underlying118 rfl Try.hi118 rfl (by rw [Int.toNat_natCast]; exact hcell) Try.cz118) rfl ?_
      refine a_one 10 (by kernel_rfl) rfl rfl ?_
      refine x_alloc (z := .agg #[.int .i64 0, .int .i64 0, .int .i64 0, .int .i64 0, .int .i64 0]) (by intro w; exact Try.zeroValue118 w) rfl (fun b6 => ?_)
      refine a_and (fun _ hw => hw.sub (by repeat (first | exact List.Sublist.slnil | exact List.Sublist.refl _ | apply List.Sublist.cons_cons | apply List.Sublist.cons))) ?_
      refine a_one 11 (by kernel_rfl) rfl rfl ?_
      refine x_storeA 0 rfl rfl rfl Try.hi118 Try.cz118 rfl (by first | (simp [Value.oneCell', opCells]; done) | assumption | exact one_ints _ | exact one_resCells _ _ | exact one_slotC _) ?_
      refine a_and (fun _ hw => hw.sub (by repeat (first | exact List.Sublist.slnil | exact List.Sublist.refl _ | apply List.Sublist.cons_cons | apply List.Sublist.cons))) ?_
      refine a_done (by kernel_rfl) ?_
      refine g_heap (m' := .blk b6 118 (opCells o) :: (hdH p dv sv x sl ++ tbH pt 142 hs T)) (fun _ hw => hw) ?_
      have hlen := hdC_len (x := x) (dv := dv) (sv := sv) hg4 hr4
      refine e_seq ?_
      refine e_region ?_
      refine w_val (v_move rfl) rfl ?_
      refine w_val (v_nilCheck rfl) rfl ?_
      refine w_val (v_fieldAddrB (o := 2) Try.underlying81 rfl rfl Try.nz3 rfl) rfl ?_
      refine w_val (v_loadB 1 rfl Try.underlying3 rfl rfl rfl) rfl ?_
      refine w_val (v_is (v' := .int .i64 ((x.at_ + 1 : Nat) : Int)) (v_add (p := (x.at_ : Int)) (q := 1) rfl rfl (by omega)) (congrArg (Value.int .i64) (by omega))) rfl ?_
      refine w_val (v_assign rfl) rfl ?_
      refine w_nil ?_
      refine e_seq ?_
      refine e_seq ?_
      refine e_region ?_
      refine w_val (v_fieldAddrB (o := 0) Try.underlying118 rfl rfl Try.nz3 rfl) rfl ?_
      refine w_val (v_loadB 0 rfl Try.underlying3 rfl rfl rfl) rfl ?_
      refine w_nil ?_
      refine e_block ?_
      refine e_seq ?_
      refine e_region ?_
      refine w_val (v_eql rfl rfl) rfl ?_
      refine w_val (v_assign rfl) rfl ?_
      refine w_nil ?_
      rcases rng_all hf with ⟨hk, ha1⟩ | ⟨hk, ha1⟩ | ⟨hk, ha1, ha2, hb1⟩ | ⟨hk, ha1, ha2, hb1⟩ | ⟨hk, ha1, ha2, hb1⟩ | ⟨hk, ha1, ha2, hb1, hb2, hc2⟩
      · rw [if_pos hk] at hR
        rw [hR]
        refine e_condDT rfl (by omega) ?_
        refine e_draw ([.blk b6 118 (opCells o)]) Try.mixed ?_
        refine a_take 0 pan_cx (by kernel_rfl) (fun _ hw => hw.sub (by repeat (first | exact List.Sublist.slnil | exact List.Sublist.refl _ | apply List.Sublist.cons_cons | apply List.Sublist.cons))) rfl (by kernel_rfl) (by kernel_rfl) (v_move rfl) rfl ?_
        refine a_take 1 pan_cx (by kernel_rfl) (fun _ hw => hw.sub (by repeat (first | exact List.Sublist.slnil | exact List.Sublist.refl _ | apply List.Sublist.cons_cons | apply List.Sublist.cons))) rfl (by kernel_rfl) (by kernel_rfl) (v_fieldAddrB (o := 1) Try.underlying118 rfl rfl Try.nz3 rfl) rfl ?_
        refine a_take 2 pan_cx (by kernel_rfl) (fun _ hw => hw.sub (by repeat (first | exact List.Sublist.slnil | exact List.Sublist.refl _ | apply List.Sublist.cons_cons | apply List.Sublist.cons))) rfl (by kernel_rfl) (by kernel_rfl) (v_loadB 0 rfl Try.underlying3 rfl rfl rfl) rfl ?_
        refine a_take 3 pan_cx (by kernel_rfl) (fun _ hw => hw.sub (by repeat (first | exact List.Sublist.slnil | exact List.Sublist.refl _ | apply List.Sublist.cons_cons | apply List.Sublist.cons))) rfl (by kernel_rfl) (by kernel_rfl) (v_fieldAddrB (o := 4) Try.underlying118 rfl rfl Try.nz2 rfl) rfl ?_
        refine a_take 4 pan_cx (by kernel_rfl) (fun _ hw => hw.sub (by repeat (first | exact List.Sublist.slnil | exact List.Sublist.refl _ | apply List.Sublist.cons_cons | apply List.Sublist.cons))) rfl (by kernel_rfl) (by kernel_rfl) (v_loadB 0 rfl Try.underlying2 rfl rfl rfl) rfl ?_
        refine a_take 5 pan_cx (by kernel_rfl) (fun _ hw => hw.sub (by repeat (first | exact List.Sublist.slnil | exact List.Sublist.refl _ | apply List.Sublist.cons_cons | apply List.Sublist.cons))) rfl (by kernel_rfl) (by kernel_rfl) (v_nilCheck rfl) rfl ?_
        refine a_take 6 pan_cx (by kernel_rfl) (fun _ hw => hw.sub (by repeat (first | exact List.Sublist.slnil | exact List.Sublist.refl _ | apply List.Sublist.cons_cons | apply List.Sublist.cons))) rfl (by kernel_rfl) (by kernel_rfl) (v_fieldAddrB (o := 3) Try.underlying81 rfl rfl Try.nz28 rfl) rfl ?_
        refine a_take 7 pan_cx (by kernel_rfl) (fun _ hw => hw.sub (by repeat (first | exact List.Sublist.slnil | exact List.Sublist.refl _ | apply List.Sublist.cons_cons | apply List.Sublist.cons))) rfl (by kernel_rfl) (by kernel_rfl) (v_indexAB Try.underlying28 Try.hi2 Try.cz2 rfl rfl (by first | omega | decide)) rfl ?_
        refine a_one 8 (by kernel_rfl) rfl rfl ?_
        refine x_store1 1 rfl rfl rfl Try.hi2 Try.cz2 rfl (by rw [hlen]; omega) rfl ?_; rw [hd_g_set hg4 _ (by omega) (by omega)]
        refine a_and (fun _ hw => hw.sub (by repeat (first | exact List.Sublist.slnil | exact List.Sublist.refl _ | apply List.Sublist.cons_cons | apply List.Sublist.cons))) ?_
        refine a_done (by kernel_rfl) ?_
        refine g_heap (m' := .blk b6 118 (opCells o) :: (hdH p dv sv { x with g := st x.g o.a o.n } sl ++ tbH pt 142 hs T)) (fun _ hw => hw) ?_
        refine e_blk ?_
        refine e_seq ?_
        refine e_region ?_
        refine w_val (v_move rfl) rfl ?_
        refine w_val (v_move rfl) rfl ?_
        refine w_val (v_nilCheck rfl) rfl ?_
        refine w_val (v_fieldAddrB (o := 2) Try.underlying81 rfl rfl Try.nz3 rfl) rfl ?_
        refine w_op rfl ?_
        refine x_store1 1 rfl rfl rfl Try.hi3 Try.cz3 rfl hd_lt2 rfl ?_
        refine w_nil ?_
        refine e_seq ?_
        refine e_region ?_
        refine w_val (v_assign rfl) rfl ?_
        refine w_val (v_assign rfl) rfl ?_
        refine w_nil ?_
        refine e_retQ (q_ret2 rfl (.tmp rfl) (.tmp rfl) ?_)
        exact fun w' hw' => ⟨(sv, sl), hst.next rfl rfl (Nat.le_succ _), rfl, (hw'.sub (List.sublist_cons_self _ _)).res⟩
      · rw [if_neg (by omega), if_neg (by omega), if_neg (by omega), if_pos hk] at hR
        refine e_condDF rfl (by omega) ?_
        refine e_seq ?_
        refine e_region ?_
        refine w_val (v_eql rfl rfl) rfl ?_
        refine w_val (v_assign rfl) rfl ?_
        refine w_nil ?_
        refine e_condDF rfl (by omega) ?_
        refine e_seq ?_
        refine e_region ?_
        refine w_val (v_eql rfl rfl) rfl ?_
        refine w_val (v_assign rfl) rfl ?_
        refine w_nil ?_
        refine e_condDF rfl (by omega) ?_
        refine e_seq ?_
        refine e_region ?_
        refine w_val (v_eql rfl rfl) rfl ?_
        refine w_val (v_assign rfl) rfl ?_
        refine w_nil ?_
        refine e_condDT rfl (by omega) ?_
        refine e_seq ?_
        refine e_draw ([.blk b6 118 (opCells o), .blk p 81 (hdC x dv sv)]) Try.mixed ?_
        refine a_take 0 pan_cx (by kernel_rfl) (fun _ hw => hw.sub (by repeat (first | exact List.Sublist.slnil | exact List.Sublist.refl _ | apply List.Sublist.cons_cons | apply List.Sublist.cons))) rfl (by kernel_rfl) (by kernel_rfl) (v_move rfl) rfl ?_
        refine a_take 1 pan_cx (by kernel_rfl) (fun _ hw => hw.sub (by repeat (first | exact List.Sublist.slnil | exact List.Sublist.refl _ | apply List.Sublist.cons_cons | apply List.Sublist.cons))) rfl (by kernel_rfl) (by kernel_rfl) (v_fieldAddrB (o := 1) Try.underlying118 rfl rfl Try.nz3 rfl) rfl ?_
        refine a_take 2 pan_cx (by kernel_rfl) (fun _ hw => hw.sub (by repeat (first | exact List.Sublist.slnil | exact List.Sublist.refl _ | apply List.Sublist.cons_cons | apply List.Sublist.cons))) rfl (by kernel_rfl) (by kernel_rfl) (v_loadB 0 rfl Try.underlying3 rfl rfl rfl) rfl ?_
        refine a_take 3 pan_cx (by kernel_rfl) (fun _ hw => hw.sub (by repeat (first | exact List.Sublist.slnil | exact List.Sublist.refl _ | apply List.Sublist.cons_cons | apply List.Sublist.cons))) rfl (by kernel_rfl) (by kernel_rfl) (v_nilCheck rfl) rfl ?_
        refine a_take 4 pan_cx (by kernel_rfl) (fun _ hw => hw.sub (by repeat (first | exact List.Sublist.slnil | exact List.Sublist.refl _ | apply List.Sublist.cons_cons | apply List.Sublist.cons))) rfl (by kernel_rfl) (by kernel_rfl) (v_fieldAddrB (o := 3) Try.underlying81 rfl rfl Try.nz28 rfl) rfl ?_
        refine a_take 5 pan_cx (by kernel_rfl) (fun _ hw => hw.sub (by repeat (first | exact List.Sublist.slnil | exact List.Sublist.refl _ | apply List.Sublist.cons_cons | apply List.Sublist.cons))) rfl (by kernel_rfl) (by kernel_rfl) (v_indexAB Try.underlying28 Try.hi2 Try.cz2 rfl rfl (by omega)) rfl ?_
        refine a_take 6 pan_cx (by kernel_rfl) (fun _ hw => hw.sub (by repeat (first | exact List.Sublist.slnil | exact List.Sublist.refl _ | apply List.Sublist.cons_cons | apply List.Sublist.cons))) rfl (by kernel_rfl) (by kernel_rfl) (v_loadB 1 rfl Try.underlying2 rfl rfl (hd_g hg4 (by omega) (by omega))) rfl ?_
        refine a_take 7 pan_cx (by kernel_rfl) (fun _ hw => hw.sub (by repeat (first | exact List.Sublist.slnil | exact List.Sublist.refl _ | apply List.Sublist.cons_cons | apply List.Sublist.cons))) rfl (by kernel_rfl) (by kernel_rfl) (v_neq rfl rfl) rfl ?_
        refine a_done (by kernel_rfl) ?_
        refine e_condD rfl (fun hz => ?_) (fun hz => ?_)
        · rw [if_pos hz] at hR
          rw [hR]
          refine e_seq ?_
          refine e_region ?_
          refine w_val (v_move rfl) rfl ?_
          refine w_val (v_move rfl) rfl ?_
          refine w_op rfl ?_
          refine x_callM (dst := some 145) (hdH p dv sv x sl ++ tbH pt 142 hs T) [.blk b6 118 (opCells o)] (σ := Unit) (fun _ => True) (fun _ => .tuple #[]) (fun _ => hdH p dv sv (endX x 9) sl ++ tbH pt 142 hs (endT x 9 T)) (List.perm_append_comm (l₁ := [_])) rfl rfl rfl Try.call77 (fun w hw => hdEnd_spec p _ sv x sl pt hs T 9 w (res_part hw).1 (res_part hw).2 (hd.mono (hw.offm (fun c hc => List.mem_append_left _ hc))) hn (by omega) hg4 hr4 hst (by omega)) rfl (fun _ _ => ?_)
          refine w_nil ?_
          refine e_seq ?_
          refine e_region ?_
          refine w_val (v_assign rfl) rfl ?_
          refine w_val (v_assign rfl) rfl ?_
          refine w_nil ?_
          refine e_retQ (q_ret2 rfl (.tmp rfl) (.tmp rfl) ?_)
          exact fun w' hw' => ⟨(sv, sl), hst.next rfl rfl (Nat.le_refl _), rfl, (hw'.sub (List.sublist_append_left _ _)).res⟩
        · rw [if_neg hz] at hR
          rw [hR]
          refine e_skip ?_
          refine e_blk ?_
          refine e_seq ?_
          refine e_region ?_
          refine w_val (v_move rfl) rfl ?_
          refine w_val (v_move rfl) rfl ?_
          refine w_val (v_nilCheck rfl) rfl ?_
          refine w_val (v_fieldAddrB (o := 2) Try.underlying81 rfl rfl Try.nz3 rfl) rfl ?_
          refine w_op rfl ?_
          refine x_store1 1 rfl rfl rfl Try.hi3 Try.cz3 rfl hd_lt2 rfl ?_
          refine w_nil ?_
          refine e_seq ?_
          refine e_region ?_
          refine w_val (v_assign rfl) rfl ?_
          refine w_val (v_assign rfl) rfl ?_
          refine w_nil ?_
          refine e_retQ (q_ret2 rfl (.tmp rfl) (.tmp rfl) ?_)
          exact fun w' hw' => ⟨(sv, sl), hst.next rfl rfl (Nat.le_succ _), rfl, (hw'.sub (List.sublist_cons_self _ _)).res⟩
      · rw [if_neg (by omega), if_pos hk] at hR
        refine e_condDF rfl (by omega) ?_
        refine e_seq ?_
        refine e_region ?_
        refine w_val (v_eql rfl rfl) rfl ?_
        refine w_val (v_assign rfl) rfl ?_
        refine w_nil ?_
        refine e_condDT rfl (by omega) ?_
        refine e_seq ?_
        refine e_region ?_
        refine w_val (v_move rfl) rfl ?_
        refine w_val (v_fieldAddrB (o := 2) Try.underlying118 rfl rfl Try.nz3 rfl) rfl ?_
        refine w_val (v_loadB 0 rfl Try.underlying3 rfl rfl rfl) rfl ?_
        have hpf := hst.put o.b.toNat
        rw [Int.toNat_of_nonneg (by omega)] at hpf
        refine w_op rfl ?_
        refine x_callM (dst := some 85) (hdH p dv sv x sl) ([Chunk.blk b6 118 (opCells o)] ++ tbH pt 142 hs T) (σ := Unit) (fun _ => True) (fun _ => .tuple #[.int .i64 (putF sl o.b).1, .bool (putF sl o.b).2]) (fun _ => hdH p dv sv x sl) (pair_front [_] _) rfl rfl rfl Try.call78 (fun w hw => hdPut_spec p dv sv x sl o.b w (res_part hw).1 (res_part hw).2 hg4 (by omega)) rfl (fun _ _ => ?_)
        rw [hpf]
        cases hp : x.put o.b.toNat with
        | true =>
          have hsn : seen x T o.b = (x.has o.b.toNat, -1) := by unfold seen; rw [if_pos hp]
          rw [hsn, if_neg (by simp)] at hR
          rw [hR, if_pos rfl]
          refine w_val (v_move rfl) rfl ?_
          refine w_val (v_is (v' := .int .i64 (x.has o.b.toNat)) (v_extract rfl rfl) rfl) rfl ?_
          refine w_val (v_is (v' := .bool true) (v_extract rfl rfl) rfl) rfl ?_
          refine w_val (v_assign rfl) rfl ?_
          refine w_val (v_assign rfl) rfl ?_
          refine w_nil ?_
          refine e_seq ?_
          refine e_seq ?_
          refine e_region ?_
          refine w_val (v_move rfl) rfl ?_
          refine w_val (v_not rfl) rfl ?_
          refine w_nil ?_
          refine e_condF rfl ?_
          refine e_skip ?_
          refine e_draw ([.blk b6 118 (opCells o)]) Try.mixed ?_
          refine a_take 0 pan_cx (by kernel_rfl) (fun _ hw => hw.sub (by repeat (first | exact List.Sublist.slnil | exact List.Sublist.refl _ | apply List.Sublist.cons_cons | apply List.Sublist.cons))) rfl (by kernel_rfl) (by kernel_rfl) (v_move rfl) rfl ?_
          refine a_take 1 pan_cx (by kernel_rfl) (fun _ hw => hw.sub (by repeat (first | exact List.Sublist.slnil | exact List.Sublist.refl _ | apply List.Sublist.cons_cons | apply List.Sublist.cons))) rfl (by kernel_rfl) (by kernel_rfl) (v_fieldAddrB (o := 1) Try.underlying118 rfl rfl Try.nz3 rfl) rfl ?_
          refine a_take 2 pan_cx (by kernel_rfl) (fun _ hw => hw.sub (by repeat (first | exact List.Sublist.slnil | exact List.Sublist.refl _ | apply List.Sublist.cons_cons | apply List.Sublist.cons))) rfl (by kernel_rfl) (by kernel_rfl) (v_loadB 0 rfl Try.underlying3 rfl rfl rfl) rfl ?_
          refine a_take 3 pan_cx (by kernel_rfl) (fun _ hw => hw.sub (by repeat (first | exact List.Sublist.slnil | exact List.Sublist.refl _ | apply List.Sublist.cons_cons | apply List.Sublist.cons))) rfl (by kernel_rfl) (by kernel_rfl) (v_move rfl) rfl ?_
          refine a_take 4 pan_cx (by kernel_rfl) (fun _ hw => hw.sub (by repeat (first | exact List.Sublist.slnil | exact List.Sublist.refl _ | apply List.Sublist.cons_cons | apply List.Sublist.cons))) rfl (by kernel_rfl) (by kernel_rfl) (v_nilCheck rfl) rfl ?_
          refine a_take 5 pan_cx (by kernel_rfl) (fun _ hw => hw.sub (by repeat (first | exact List.Sublist.slnil | exact List.Sublist.refl _ | apply List.Sublist.cons_cons | apply List.Sublist.cons))) rfl (by kernel_rfl) (by kernel_rfl) (v_fieldAddrB (o := 3) Try.underlying81 rfl rfl Try.nz28 rfl) rfl ?_
          refine a_take 6 pan_cx (by kernel_rfl) (fun _ hw => hw.sub (by repeat (first | exact List.Sublist.slnil | exact List.Sublist.refl _ | apply List.Sublist.cons_cons | apply List.Sublist.cons))) rfl (by kernel_rfl) (by kernel_rfl) (v_indexAB Try.underlying28 Try.hi2 Try.cz2 rfl rfl (by first | omega | decide)) rfl ?_
          refine a_one 7 (by kernel_rfl) rfl rfl ?_
          refine x_store1 0 rfl rfl rfl Try.hi2 Try.cz2 rfl (by rw [hlen]; omega) rfl ?_; rw [hd_g_set hg4 _ (by omega) (by omega)]
          refine a_and (fun _ hw => hw.sub (by repeat (first | exact List.Sublist.slnil | exact List.Sublist.refl _ | apply List.Sublist.cons_cons | apply List.Sublist.cons))) ?_
          refine a_done (by kernel_rfl) ?_
          refine e_blk ?_
          refine e_seq ?_
          refine e_region ?_
          refine w_val (v_move rfl) rfl ?_
          refine w_val (v_move rfl) rfl ?_
          refine w_val (v_nilCheck rfl) rfl ?_
          refine w_val (v_fieldAddrB (o := 2) Try.underlying81 rfl rfl Try.nz3 rfl) rfl ?_
          refine w_op rfl ?_
          refine x_store1 0 rfl rfl rfl Try.hi3 Try.cz3 rfl hd_lt2 rfl ?_
          refine w_nil ?_
          refine e_seq ?_
          refine e_region ?_
          refine w_val (v_assign rfl) rfl ?_
          refine w_val (v_assign rfl) rfl ?_
          refine w_nil ?_
          refine e_retQ (q_ret2 rfl (.tmp rfl) (.tmp rfl) ?_)
          exact fun w' hw' => ⟨(sv, sl), hst.next rfl rfl (Nat.le_succ _), rfl, (hw'.sub (.cons_cons _ (.cons_cons _ (List.sublist_cons_self _ _)))).res⟩
        | false =>
          have hsn : seen x T o.b = befT T o.b x.by_ := by unfold seen; rw [if_neg (by simp [hp])]
          rw [if_neg (by simp)]
          refine w_val (v_move rfl) rfl ?_
          refine w_val (v_is (v' := .int .i64 0) (v_extract rfl rfl) rfl) rfl ?_
          refine w_val (v_is (v' := .bool false) (v_extract rfl rfl) rfl) rfl ?_
          refine w_val (v_assign rfl) rfl ?_
          refine w_val (v_assign rfl) rfl ?_
          refine w_nil ?_
          refine e_seq ?_
          refine e_seq ?_
          refine e_region ?_
          refine w_val (v_move rfl) rfl ?_
          refine w_val (v_not rfl) rfl ?_
          refine w_nil ?_
          refine e_condT rfl ?_
          refine e_seq ?_
          refine e_draw ([.blk p 81 (hdC x dv sv), .blk b6 118 (opCells o)]) Try.mixed ?_
          refine a_take 0 pan_cx (by kernel_rfl) (fun _ hw => hw.sub (by repeat (first | exact List.Sublist.slnil | exact List.Sublist.refl _ | apply List.Sublist.cons_cons | apply List.Sublist.cons))) rfl (by kernel_rfl) (by kernel_rfl) (v_move rfl) rfl ?_
          refine a_take 1 pan_cx (by kernel_rfl) (fun _ hw => hw.sub (by repeat (first | exact List.Sublist.slnil | exact List.Sublist.refl _ | apply List.Sublist.cons_cons | apply List.Sublist.cons))) rfl (by kernel_rfl) (by kernel_rfl) (v_fieldAddrB (o := 2) Try.underlying118 rfl rfl Try.nz3 rfl) rfl ?_
          refine a_take 2 pan_cx (by kernel_rfl) (fun _ hw => hw.sub (by repeat (first | exact List.Sublist.slnil | exact List.Sublist.refl _ | apply List.Sublist.cons_cons | apply List.Sublist.cons))) rfl (by kernel_rfl) (by kernel_rfl) (v_loadB 1 rfl Try.underlying3 rfl rfl rfl) rfl ?_
          refine a_take 3 pan_cx (by kernel_rfl) (fun _ hw => hw.sub (by repeat (first | exact List.Sublist.slnil | exact List.Sublist.refl _ | apply List.Sublist.cons_cons | apply List.Sublist.cons))) rfl (by kernel_rfl) (by kernel_rfl) (v_move rfl) rfl ?_
          refine a_take 4 pan_cx (by kernel_rfl) (fun _ hw => hw.sub (by repeat (first | exact List.Sublist.slnil | exact List.Sublist.refl _ | apply List.Sublist.cons_cons | apply List.Sublist.cons))) rfl (by kernel_rfl) (by kernel_rfl) (v_nilCheck rfl) rfl ?_
          refine a_take 5 pan_cx (by kernel_rfl) (fun _ hw => hw.sub (by repeat (first | exact List.Sublist.slnil | exact List.Sublist.refl _ | apply List.Sublist.cons_cons | apply List.Sublist.cons))) rfl (by kernel_rfl) (by kernel_rfl) (v_fieldAddrB (o := 1) Try.underlying81 rfl rfl Try.nz3 rfl) rfl ?_
          refine a_take 6 pan_cx (by kernel_rfl) (fun _ hw => hw.sub (by repeat (first | exact List.Sublist.slnil | exact List.Sublist.refl _ | apply List.Sublist.cons_cons | apply List.Sublist.cons))) rfl (by kernel_rfl) (by kernel_rfl) (v_loadB 0 rfl Try.underlying3 rfl rfl rfl) rfl ?_
          refine a_one 7 (by kernel_rfl) rfl rfl ?_
          refine x_call0 (v := .tuple #[.int .i64 (befT T o.b x.by_).1, .int .i64 (befT T o.b x.by_).2]) rfl rfl rfl Try.call79 rfl (fun w hw => brdBefore_spec pt hs T o.b x.by_ w (hw.tbV 3 rfl rfl) hn) ?_
          refine a_and (fun _ hw => hw.sub (by repeat (first | exact List.Sublist.slnil | exact List.Sublist.refl _ | apply List.Sublist.cons_cons | apply List.Sublist.cons))) ?_
          refine a_take 8 pan_cx (by kernel_rfl) (fun _ hw => hw.sub (by repeat (first | exact List.Sublist.slnil | exact List.Sublist.refl _ | apply List.Sublist.cons_cons | apply List.Sublist.cons))) rfl (by kernel_rfl) (by kernel_rfl) (v_move rfl) rfl ?_
          refine a_take 9 pan_cx (by kernel_rfl) (fun _ hw => hw.sub (by repeat (first | exact List.Sublist.slnil | exact List.Sublist.refl _ | apply List.Sublist.cons_cons | apply List.Sublist.cons))) rfl (by kernel_rfl) (by kernel_rfl) (v_is (v' := .int .i64 (befT T o.b x.by_).1) (v_extract rfl rfl) rfl) rfl ?_
          refine a_take 10 pan_cx (by kernel_rfl) (fun _ hw => hw.sub (by repeat (first | exact List.Sublist.slnil | exact List.Sublist.refl _ | apply List.Sublist.cons_cons | apply List.Sublist.cons))) rfl (by kernel_rfl) (by kernel_rfl) (v_is (v' := .int .i64 (befT T o.b x.by_).2) (v_extract rfl rfl) rfl) rfl ?_
          refine a_take 11 pan_cx (by kernel_rfl) (fun _ hw => hw.sub (by repeat (first | exact List.Sublist.slnil | exact List.Sublist.refl _ | apply List.Sublist.cons_cons | apply List.Sublist.cons))) rfl (by kernel_rfl) (by kernel_rfl) (v_assign rfl) rfl ?_
          refine a_take 12 pan_cx (by kernel_rfl) (fun _ hw => hw.sub (by repeat (first | exact List.Sublist.slnil | exact List.Sublist.refl _ | apply List.Sublist.cons_cons | apply List.Sublist.cons))) rfl (by kernel_rfl) (by kernel_rfl) (v_assign rfl) rfl ?_
          refine a_done (by kernel_rfl) ?_
          refine e_seq ?_
          refine e_seq ?_
          refine e_region ?_
          refine w_val (v_move rfl) rfl ?_
          refine w_val (v_geq rfl rfl) rfl ?_
          refine w_nil ?_
          rw [hsn] at hR
          refine e_condD rfl (fun hw0 => ?_) (fun hw0 => ?_)
          · rw [if_pos hw0] at hR
            rw [hR]
            refine e_seq ?_
            refine e_region ?_
            refine w_val (v_move rfl) rfl ?_
            refine w_val (v_assign rfl) rfl ?_
            refine w_val (v_assign rfl) rfl ?_
            refine w_nil ?_
            refine e_retQ (q_ret2 rfl (.tmp rfl) (.tmp rfl) ?_)
            exact fun w' hw' => ⟨(sv, sl), hst, rfl, (hw'.sub (.cons_cons _ (.cons_cons _ (List.sublist_cons_self _ _)))).res⟩
          · rw [if_neg hw0] at hR
            rw [hR]
            refine e_skip ?_
            refine e_region ?_
            refine w_val (v_move rfl) rfl ?_
            refine w_val (v_assign rfl) rfl ?_
            refine w_nil ?_
            refine e_draw ([.blk b6 118 (opCells o)]) Try.mixed ?_
            refine a_take 0 pan_cx (by kernel_rfl) (fun _ hw => hw.sub (by repeat (first | exact List.Sublist.slnil | exact List.Sublist.refl _ | apply List.Sublist.cons_cons | apply List.Sublist.cons))) rfl (by kernel_rfl) (by kernel_rfl) (v_move rfl) rfl ?_
            refine a_take 1 pan_cx (by kernel_rfl) (fun _ hw => hw.sub (by repeat (first | exact List.Sublist.slnil | exact List.Sublist.refl _ | apply List.Sublist.cons_cons | apply List.Sublist.cons))) rfl (by kernel_rfl) (by kernel_rfl) (v_fieldAddrB (o := 1) Try.underlying118 rfl rfl Try.nz3 rfl) rfl ?_
            refine a_take 2 pan_cx (by kernel_rfl) (fun _ hw => hw.sub (by repeat (first | exact List.Sublist.slnil | exact List.Sublist.refl _ | apply List.Sublist.cons_cons | apply List.Sublist.cons))) rfl (by kernel_rfl) (by kernel_rfl) (v_loadB 0 rfl Try.underlying3 rfl rfl rfl) rfl ?_
            refine a_take 3 pan_cx (by kernel_rfl) (fun _ hw => hw.sub (by repeat (first | exact List.Sublist.slnil | exact List.Sublist.refl _ | apply List.Sublist.cons_cons | apply List.Sublist.cons))) rfl (by kernel_rfl) (by kernel_rfl) (v_move rfl) rfl ?_
            refine a_take 4 pan_cx (by kernel_rfl) (fun _ hw => hw.sub (by repeat (first | exact List.Sublist.slnil | exact List.Sublist.refl _ | apply List.Sublist.cons_cons | apply List.Sublist.cons))) rfl (by kernel_rfl) (by kernel_rfl) (v_nilCheck rfl) rfl ?_
            refine a_take 5 pan_cx (by kernel_rfl) (fun _ hw => hw.sub (by repeat (first | exact List.Sublist.slnil | exact List.Sublist.refl _ | apply List.Sublist.cons_cons | apply List.Sublist.cons))) rfl (by kernel_rfl) (by kernel_rfl) (v_fieldAddrB (o := 3) Try.underlying81 rfl rfl Try.nz28 rfl) rfl ?_
            refine a_take 6 pan_cx (by kernel_rfl) (fun _ hw => hw.sub (by repeat (first | exact List.Sublist.slnil | exact List.Sublist.refl _ | apply List.Sublist.cons_cons | apply List.Sublist.cons))) rfl (by kernel_rfl) (by kernel_rfl) (v_indexAB Try.underlying28 Try.hi2 Try.cz2 rfl rfl (by first | omega | decide)) rfl ?_
            refine a_one 7 (by kernel_rfl) rfl rfl ?_
            refine x_store1 0 rfl rfl rfl Try.hi2 Try.cz2 rfl (by rw [hlen]; omega) rfl ?_; rw [hd_g_set hg4 _ (by omega) (by omega)]
            refine a_and (fun _ hw => hw.sub (by repeat (first | exact List.Sublist.slnil | exact List.Sublist.refl _ | apply List.Sublist.cons_cons | apply List.Sublist.cons))) ?_
            refine a_done (by kernel_rfl) ?_
            refine e_blk ?_
            refine e_seq ?_
            refine e_region ?_
            refine w_val (v_move rfl) rfl ?_
            refine w_val (v_move rfl) rfl ?_
            refine w_val (v_nilCheck rfl) rfl ?_
            refine w_val (v_fieldAddrB (o := 2) Try.underlying81 rfl rfl Try.nz3 rfl) rfl ?_
            refine w_op rfl ?_
            refine x_store1 0 rfl rfl rfl Try.hi3 Try.cz3 rfl hd_lt2 rfl ?_
            refine w_nil ?_
            refine e_seq ?_
            refine e_region ?_
            refine w_val (v_assign rfl) rfl ?_
            refine w_val (v_assign rfl) rfl ?_
            refine w_nil ?_
            refine e_retQ (q_ret2 rfl (.tmp rfl) (.tmp rfl) ?_)
            exact fun w' hw' => ⟨(sv, sl), hst.next rfl rfl (Nat.le_succ _), rfl, (hw'.sub (.cons_cons _ (.cons_cons _ (List.sublist_cons_self _ _)))).res⟩
      · rw [if_neg (by omega), if_neg (by omega), if_pos hk] at hR
        rw [hR]
        refine e_condDF rfl (by omega) ?_
        refine e_seq ?_
        refine e_region ?_
        refine w_val (v_eql rfl rfl) rfl ?_
        refine w_val (v_assign rfl) rfl ?_
        refine w_nil ?_
        refine e_condDF rfl (by omega) ?_
        refine e_seq ?_
        refine e_region ?_
        refine w_val (v_eql rfl rfl) rfl ?_
        refine w_val (v_assign rfl) rfl ?_
        refine w_nil ?_
        refine e_condDT rfl (by omega) ?_
        refine e_cutH (σ := Value) [0, 1, 6, 7] (.cons rfl (.cons rfl (.cons rfl (.cons rfl .nil)))) (fun _ => []) (fun sv' => .blk b6 118 (opCells o) :: (hdH p dv sv' x (sl ++ [⟨0, o.a, 0, 0, gt x.g o.b⟩]) ++ tbH pt 142 hs T)) (fun _ => True) ?_ ?_
        · refine e_draw ([.blk b6 118 (opCells o)]) Try.mixed ?_
          refine a_take 0 pan_cx (by kernel_rfl) (fun _ hw => hw.sub (by repeat (first | exact List.Sublist.slnil | exact List.Sublist.refl _ | apply List.Sublist.cons_cons | apply List.Sublist.cons))) rfl (by kernel_rfl) (by kernel_rfl) (v_move rfl) rfl ?_
          refine a_take 1 pan_cx (by kernel_rfl) (fun _ hw => hw.sub (by repeat (first | exact List.Sublist.slnil | exact List.Sublist.refl _ | apply List.Sublist.cons_cons | apply List.Sublist.cons))) rfl (by kernel_rfl) (by kernel_rfl) (v_move rfl) rfl ?_
          refine a_take 2 pan_cx (by kernel_rfl) (fun _ hw => hw.sub (by repeat (first | exact List.Sublist.slnil | exact List.Sublist.refl _ | apply List.Sublist.cons_cons | apply List.Sublist.cons))) rfl (by kernel_rfl) (by kernel_rfl) (v_nilCheck rfl) rfl ?_
          refine a_take 3 pan_cx (by kernel_rfl) (fun _ hw => hw.sub (by repeat (first | exact List.Sublist.slnil | exact List.Sublist.refl _ | apply List.Sublist.cons_cons | apply List.Sublist.cons))) rfl (by kernel_rfl) (by kernel_rfl) (v_fieldAddrB (o := 7) Try.underlying81 rfl rfl Try.nz24 rfl) rfl ?_
          refine a_take 5 pan_cx (by kernel_rfl) (fun _ hw => hw.sub (by repeat (first | exact List.Sublist.slnil | exact List.Sublist.refl _ | apply List.Sublist.cons_cons | apply List.Sublist.cons))) rfl (by kernel_rfl) (by kernel_rfl) (v_fieldAddrB (o := 1) Try.underlying118 rfl rfl Try.nz3 rfl) rfl ?_
          refine a_take 6 pan_cx (by kernel_rfl) (fun _ hw => hw.sub (by repeat (first | exact List.Sublist.slnil | exact List.Sublist.refl _ | apply List.Sublist.cons_cons | apply List.Sublist.cons))) rfl (by kernel_rfl) (by kernel_rfl) (v_loadB 0 rfl Try.underlying3 rfl rfl rfl) rfl ?_
          refine a_take 7 pan_cx (by kernel_rfl) (fun _ hw => hw.sub (by repeat (first | exact List.Sublist.slnil | exact List.Sublist.refl _ | apply List.Sublist.cons_cons | apply List.Sublist.cons))) rfl (by kernel_rfl) (by kernel_rfl) (v_move rfl) rfl ?_
          refine a_take 8 pan_cx (by kernel_rfl) (fun _ hw => hw.sub (by repeat (first | exact List.Sublist.slnil | exact List.Sublist.refl _ | apply List.Sublist.cons_cons | apply List.Sublist.cons))) rfl (by kernel_rfl) (by kernel_rfl) (v_fieldAddrB (o := 2) Try.underlying118 rfl rfl Try.nz3 rfl) rfl ?_
          refine a_take 9 pan_cx (by kernel_rfl) (fun _ hw => hw.sub (by repeat (first | exact List.Sublist.slnil | exact List.Sublist.refl _ | apply List.Sublist.cons_cons | apply List.Sublist.cons))) rfl (by kernel_rfl) (by kernel_rfl) (v_loadB 0 rfl Try.underlying3 rfl rfl rfl) rfl ?_
          refine a_take 10 pan_cx (by kernel_rfl) (fun _ hw => hw.sub (by repeat (first | exact List.Sublist.slnil | exact List.Sublist.refl _ | apply List.Sublist.cons_cons | apply List.Sublist.cons))) rfl (by kernel_rfl) (by kernel_rfl) (v_nilCheck rfl) rfl ?_
          refine a_take 11 pan_cx (by kernel_rfl) (fun _ hw => hw.sub (by repeat (first | exact List.Sublist.slnil | exact List.Sublist.refl _ | apply List.Sublist.cons_cons | apply List.Sublist.cons))) rfl (by kernel_rfl) (by kernel_rfl) (v_fieldAddrB (o := 3) Try.underlying81 rfl rfl Try.nz28 rfl) rfl ?_
          refine a_take 12 pan_cx (by kernel_rfl) (fun _ hw => hw.sub (by repeat (first | exact List.Sublist.slnil | exact List.Sublist.refl _ | apply List.Sublist.cons_cons | apply List.Sublist.cons))) rfl (by kernel_rfl) (by kernel_rfl) (v_indexAB Try.underlying28 Try.hi2 Try.cz2 rfl rfl (by omega)) rfl ?_
          refine a_all [4, 13] (by kernel_rfl) rfl ?_
          intro i hi
          simp only [List.mem_cons, List.not_mem_nil, or_false] at hi
          rcases hi with rfl | rfl
          · refine a_op rfl rfl ?_
            refine x_val (v_loadB 1 rfl Try.underlying24 rfl rfl (hd_sv hg4)) rfl ?_
            refine a_and (fun _ hw => hw.sub (by repeat (first | exact List.Sublist.slnil | exact List.Sublist.refl _ | apply List.Sublist.cons_cons | apply List.Sublist.cons))) ?_
            refine a_one 13 (by kernel_rfl) rfl rfl ?_
            refine x_val (v_loadB 1 rfl Try.underlying2 rfl rfl (hd_g hg4 (by omega) (by omega))) rfl ?_
            refine a_and (fun _ hw => hw.sub (by repeat (first | exact List.Sublist.slnil | exact List.Sublist.refl _ | apply List.Sublist.cons_cons | apply List.Sublist.cons))) ?_
            refine a_take 14 pan_cx (by kernel_rfl) (fun _ hw => hw.sub (by repeat (first | exact List.Sublist.slnil | exact List.Sublist.refl _ | apply List.Sublist.cons_cons | apply List.Sublist.cons))) rfl (by kernel_rfl) (by kernel_rfl) (v_build (v := opV ⟨0, o.a, 0, 0, gt x.g o.b⟩) _ rfl (by intro _; simp [Instr.build, Instr.fill, Try.zeroValue118, go_sem]; rfl)) rfl ?_
            refine a_one 15 (by kernel_rfl) rfl rfl ?_
            refine x_buildSlice _ (opCells ⟨0, o.a, 0, 0, gt x.g o.b⟩) rfl (run_buildSlice Try.underlying24 Try.hi118 Try.cz118 Try.zeroValue118 rfl (by kernel_rfl)) rfl (fun b129 => ?_)
            refine a_and (fun _ hw => hw.sub (by repeat (first | exact List.Sublist.slnil | exact List.Sublist.refl _ | apply List.Sublist.cons_cons | apply List.Sublist.cons))) ?_
            refine a_one 16 (by kernel_rfl) rfl rfl ?_
            refine x_appendIS (z := .agg #[.int .i64 0, .int .i64 0, .int .i64 0, .int .i64 0, .int .i64 0]) (n := sl.length) (xs := deedCells sl) (size := 5) (bytes := 40) (k := 1) (news := opCells ⟨0, o.a, 0, 0, gt x.g o.b⟩) 3 rfl rfl rfl Try.underlying24 (by kernel_rfl) rfl (by decide) (fun w hw => blk_rds (hw.hold _ (List.mem_cons_self ..)) rfl) (by rw [← deedCells_one]; exact one_deedCells _) (by omega) (by simp only [maxLen]; omega) rfl (fun A4 cap4 _ => ?_)
            refine a_and (fun _ hw => hw.sub (by repeat (first | exact List.Sublist.slnil | exact List.Sublist.refl _ | apply List.Sublist.cons_cons | apply List.Sublist.cons))) ?_
            refine a_take 17 pan_cx (by kernel_rfl) (fun _ hw => hw.sub (by repeat (first | exact List.Sublist.slnil | exact List.Sublist.refl _ | apply List.Sublist.cons_cons | apply List.Sublist.cons))) rfl (by kernel_rfl) (by kernel_rfl) (v_nilCheck rfl) rfl ?_
            refine a_take 18 pan_cx (by kernel_rfl) (fun _ hw => hw.sub (by repeat (first | exact List.Sublist.slnil | exact List.Sublist.refl _ | apply List.Sublist.cons_cons | apply List.Sublist.cons))) rfl (by kernel_rfl) (by kernel_rfl) (v_fieldAddrB (o := 7) Try.underlying81 rfl rfl Try.nz24 rfl) rfl ?_
            refine a_one 19 (by kernel_rfl) rfl rfl ?_
            refine x_store1 2 rfl rfl rfl Try.hi24 Try.cz24 rfl (by rw [hlen]; decide) rfl ?_; rw [hd_sv_set hg4]
            refine a_and (fun _ hw => hw.sub (by repeat (first | exact List.Sublist.slnil | exact List.Sublist.refl _ | apply List.Sublist.cons_cons | apply List.Sublist.cons))) ?_
            refine a_done (by kernel_rfl) ?_
            exact e_cutEnd (.slice A4 (sl.length + 1) cap4) trivial (by repeat (first | exact Sub.nil _ | refine Sub.cons rfl ?_)) (fun _ hw => by simp only [hdH, deedCells_snoc, List.length_append, List.length_singleton]; exact hw.sub (List.sublist_cons_self _ _))
          · refine a_op rfl rfl ?_
            refine x_val (v_loadB 1 rfl Try.underlying2 rfl rfl (hd_g hg4 (by omega) (by omega))) rfl ?_
            refine a_and (fun _ hw => hw.sub (by repeat (first | exact List.Sublist.slnil | exact List.Sublist.refl _ | apply List.Sublist.cons_cons | apply List.Sublist.cons))) ?_
            refine a_take 14 pan_cx (by kernel_rfl) (fun _ hw => hw.sub (by repeat (first | exact List.Sublist.slnil | exact List.Sublist.refl _ | apply List.Sublist.cons_cons | apply List.Sublist.cons))) rfl (by kernel_rfl) (by kernel_rfl) (v_build (v := opV ⟨0, o.a, 0, 0, gt x.g o.b⟩) _ rfl (by intro _; simp [Instr.build, Instr.fill, Try.zeroValue118, go_sem]; rfl)) rfl ?_
            refine a_all [4, 15] (by kernel_rfl) rfl ?_
            intro i hi
            simp only [List.mem_cons, List.not_mem_nil, or_false] at hi
            rcases hi with rfl | rfl
            · refine a_op rfl rfl ?_
              refine x_val (v_loadB 1 rfl Try.underlying24 rfl rfl (hd_sv hg4)) rfl ?_
              refine a_and (fun _ hw => hw.sub (by repeat (first | exact List.Sublist.slnil | exact List.Sublist.refl _ | apply List.Sublist.cons_cons | apply List.Sublist.cons))) ?_
              refine a_one 15 (by kernel_rfl) rfl rfl ?_
              refine x_buildSlice _ (opCells ⟨0, o.a, 0, 0, gt x.g o.b⟩) rfl (run_buildSlice Try.underlying24 Try.hi118 Try.cz118 Try.zeroValue118 rfl (by kernel_rfl)) rfl (fun b129 => ?_)
              refine a_and (fun _ hw => hw.sub (by repeat (first | exact List.Sublist.slnil | exact List.Sublist.refl _ | apply List.Sublist.cons_cons | apply List.Sublist.cons))) ?_
              refine a_one 16 (by kernel_rfl) rfl rfl ?_
              refine x_appendIS (z := .agg #[.int .i64 0, .int .i64 0, .int .i64 0, .int .i64 0, .int .i64 0]) (n := sl.length) (xs := deedCells sl) (size := 5) (bytes := 40) (k := 1) (news := opCells ⟨0, o.a, 0, 0, gt x.g o.b⟩) 3 rfl rfl rfl Try.underlying24 (by kernel_rfl) rfl (by decide) (fun w hw => blk_rds (hw.hold _ (List.mem_cons_self ..)) rfl) (by rw [← deedCells_one]; exact one_deedCells _) (by omega) (by simp only [maxLen]; omega) rfl (fun A4 cap4 _ => ?_)
              refine a_and (fun _ hw => hw.sub (by repeat (first | exact List.Sublist.slnil | exact List.Sublist.refl _ | apply List.Sublist.cons_cons | apply List.Sublist.cons))) ?_
              refine a_take 17 pan_cx (by kernel_rfl) (fun _ hw => hw.sub (by repeat (first | exact List.Sublist.slnil | exact List.Sublist.refl _ | apply List.Sublist.cons_cons | apply List.Sublist.cons))) rfl (by kernel_rfl) (by kernel_rfl) (v_nilCheck rfl) rfl ?_
              refine a_take 18 pan_cx (by kernel_rfl) (fun _ hw => hw.sub (by repeat (first | exact List.Sublist.slnil | exact List.Sublist.refl _ | apply List.Sublist.cons_cons | apply List.Sublist.cons))) rfl (by kernel_rfl) (by kernel_rfl) (v_fieldAddrB (o := 7) Try.underlying81 rfl rfl Try.nz24 rfl) rfl ?_
              refine a_one 19 (by kernel_rfl) rfl rfl ?_
              refine x_store1 2 rfl rfl rfl Try.hi24 Try.cz24 rfl (by rw [hlen]; decide) rfl ?_; rw [hd_sv_set hg4]
              refine a_and (fun _ hw => hw.sub (by repeat (first | exact List.Sublist.slnil | exact List.Sublist.refl _ | apply List.Sublist.cons_cons | apply List.Sublist.cons))) ?_
              refine a_done (by kernel_rfl) ?_
              exact e_cutEnd (.slice A4 (sl.length + 1) cap4) trivial (by repeat (first | exact Sub.nil _ | refine Sub.cons rfl ?_)) (fun _ hw => by simp only [hdH, deedCells_snoc, List.length_append, List.length_singleton]; exact hw.sub (List.sublist_cons_self _ _))
            · refine a_op rfl rfl ?_
              refine x_buildSlice _ (opCells ⟨0, o.a, 0, 0, gt x.g o.b⟩) rfl (run_buildSlice Try.underlying24 Try.hi118 Try.cz118 Try.zeroValue118 rfl (by kernel_rfl)) rfl (fun b129 => ?_)
              refine a_and (fun _ hw => hw.sub (by repeat (first | exact List.Sublist.slnil | exact List.Sublist.refl _ | apply List.Sublist.cons_cons | apply List.Sublist.cons))) ?_
              refine a_one 4 (by kernel_rfl) rfl rfl ?_
              refine x_val (v_loadB 2 rfl Try.underlying24 rfl rfl (hd_sv hg4)) rfl ?_
              refine a_and (fun _ hw => hw.sub (by repeat (first | exact List.Sublist.slnil | exact List.Sublist.refl _ | apply List.Sublist.cons_cons | apply List.Sublist.cons))) ?_
              refine a_one 16 (by kernel_rfl) rfl rfl ?_
              refine x_appendIS (z := .agg #[.int .i64 0, .int .i64 0, .int .i64 0, .int .i64 0, .int .i64 0]) (n := sl.length) (xs := deedCells sl) (size := 5) (bytes := 40) (k := 1) (news := opCells ⟨0, o.a, 0, 0, gt x.g o.b⟩) 3 rfl rfl rfl Try.underlying24 (by kernel_rfl) rfl (by decide) (fun w hw => blk_rds (hw.hold _ (List.mem_cons_self ..)) rfl) (by rw [← deedCells_one]; exact one_deedCells _) (by omega) (by simp only [maxLen]; omega) rfl (fun A4 cap4 _ => ?_)
              refine a_and (fun _ hw => hw.sub (by repeat (first | exact List.Sublist.slnil | exact List.Sublist.refl _ | apply List.Sublist.cons_cons | apply List.Sublist.cons))) ?_
              refine a_take 17 pan_cx (by kernel_rfl) (fun _ hw => hw.sub (by repeat (first | exact List.Sublist.slnil | exact List.Sublist.refl _ | apply List.Sublist.cons_cons | apply List.Sublist.cons))) rfl (by kernel_rfl) (by kernel_rfl) (v_nilCheck rfl) rfl ?_
              refine a_take 18 pan_cx (by kernel_rfl) (fun _ hw => hw.sub (by repeat (first | exact List.Sublist.slnil | exact List.Sublist.refl _ | apply List.Sublist.cons_cons | apply List.Sublist.cons))) rfl (by kernel_rfl) (by kernel_rfl) (v_fieldAddrB (o := 7) Try.underlying81 rfl rfl Try.nz24 rfl) rfl ?_
              refine a_one 19 (by kernel_rfl) rfl rfl ?_
              refine x_store1 2 rfl rfl rfl Try.hi24 Try.cz24 rfl (by rw [hlen]; decide) rfl ?_; rw [hd_sv_set hg4]
              refine a_and (fun _ hw => hw.sub (by repeat (first | exact List.Sublist.slnil | exact List.Sublist.refl _ | apply List.Sublist.cons_cons | apply List.Sublist.cons))) ?_
              refine a_done (by kernel_rfl) ?_
              exact e_cutEnd (.slice A4 (sl.length + 1) cap4) trivial (by repeat (first | exact Sub.nil _ | refine Sub.cons rfl ?_)) (fun _ hw => by simp only [hdH, deedCells_snoc, List.length_append, List.length_singleton]; exact hw.sub (List.sublist_cons_self _ _))
        · rintro sv' -
          refine e_blk ?_
          refine e_seq ?_
          refine e_region ?_
          refine w_val (v_move rfl) rfl ?_
          refine w_val (v_move rfl) rfl ?_
          refine w_val (v_nilCheck rfl) rfl ?_
          refine w_val (v_fieldAddrB (o := 2) Try.underlying81 rfl rfl Try.nz3 rfl) rfl ?_
          refine w_op rfl ?_
          refine x_store1 1 rfl rfl rfl Try.hi3 Try.cz3 rfl hd_lt2 rfl ?_
          refine w_nil ?_
          refine e_seq ?_
          refine e_region ?_
          refine w_val (v_assign rfl) rfl ?_
          refine w_val (v_assign rfl) rfl ?_
          refine w_nil ?_
          refine e_retQ (q_ret2 rfl (.tmp rfl) (.tmp rfl) ?_)
          exact fun w' hw' => ⟨(sv', sl ++ [(⟨0, o.a, 0, 0, gt x.g o.b⟩ : OpL)]), hst.store (by omega), rfl, (hw'.sub (List.sublist_cons_self _ _)).res⟩
      · rw [if_neg (by omega), if_neg (by omega), if_neg (by omega), if_neg (by omega), if_pos hk] at hR
        refine e_condDF rfl (by omega) ?_
        refine e_seq ?_
        refine e_region ?_
        refine w_val (v_eql rfl rfl) rfl ?_
        refine w_val (v_assign rfl) rfl ?_
        refine w_nil ?_
        refine e_condDF rfl (by omega) ?_
        refine e_seq ?_
        refine e_region ?_
        refine w_val (v_eql rfl rfl) rfl ?_
        refine w_val (v_assign rfl) rfl ?_
        refine w_nil ?_
        refine e_condDF rfl (by omega) ?_
        refine e_seq ?_
        refine e_region ?_
        refine w_val (v_eql rfl rfl) rfl ?_
        refine w_val (v_assign rfl) rfl ?_
        refine w_nil ?_
        refine e_condDF rfl (by omega) ?_
        refine e_seq ?_
        refine e_region ?_
        refine w_val (v_eql rfl rfl) rfl ?_
        refine w_val (v_assign rfl) rfl ?_
        refine w_nil ?_
        refine e_condDT rfl (by omega) ?_
        refine e_seq ?_
        refine e_draw ([.blk b6 118 (opCells o), .blk p 81 (hdC x dv sv)]) Try.mixed ?_
        refine a_take 0 pan_cx (by kernel_rfl) (fun _ hw => hw.sub (by repeat (first | exact List.Sublist.slnil | exact List.Sublist.refl _ | apply List.Sublist.cons_cons | apply List.Sublist.cons))) rfl (by kernel_rfl) (by kernel_rfl) (v_move rfl) rfl ?_
        refine a_take 1 pan_cx (by kernel_rfl) (fun _ hw => hw.sub (by repeat (first | exact List.Sublist.slnil | exact List.Sublist.refl _ | apply List.Sublist.cons_cons | apply List.Sublist.cons))) rfl (by kernel_rfl) (by kernel_rfl) (v_fieldAddrB (o := 1) Try.underlying118 rfl rfl Try.nz3 rfl) rfl ?_
        refine a_take 2 pan_cx (by kernel_rfl) (fun _ hw => hw.sub (by repeat (first | exact List.Sublist.slnil | exact List.Sublist.refl _ | apply List.Sublist.cons_cons | apply List.Sublist.cons))) rfl (by kernel_rfl) (by kernel_rfl) (v_loadB 0 rfl Try.underlying3 rfl rfl rfl) rfl ?_
        refine a_take 3 pan_cx (by kernel_rfl) (fun _ hw => hw.sub (by repeat (first | exact List.Sublist.slnil | exact List.Sublist.refl _ | apply List.Sublist.cons_cons | apply List.Sublist.cons))) rfl (by kernel_rfl) (by kernel_rfl) (v_nilCheck rfl) rfl ?_
        refine a_take 4 pan_cx (by kernel_rfl) (fun _ hw => hw.sub (by repeat (first | exact List.Sublist.slnil | exact List.Sublist.refl _ | apply List.Sublist.cons_cons | apply List.Sublist.cons))) rfl (by kernel_rfl) (by kernel_rfl) (v_fieldAddrB (o := 3) Try.underlying81 rfl rfl Try.nz28 rfl) rfl ?_
        refine a_take 5 pan_cx (by kernel_rfl) (fun _ hw => hw.sub (by repeat (first | exact List.Sublist.slnil | exact List.Sublist.refl _ | apply List.Sublist.cons_cons | apply List.Sublist.cons))) rfl (by kernel_rfl) (by kernel_rfl) (v_indexAB Try.underlying28 Try.hi2 Try.cz2 rfl rfl (by omega)) rfl ?_
        refine a_take 6 pan_cx (by kernel_rfl) (fun _ hw => hw.sub (by repeat (first | exact List.Sublist.slnil | exact List.Sublist.refl _ | apply List.Sublist.cons_cons | apply List.Sublist.cons))) rfl (by kernel_rfl) (by kernel_rfl) (v_loadB 1 rfl Try.underlying2 rfl rfl (hd_g hg4 (by omega) (by omega))) rfl ?_
        refine a_take 7 pan_cx (by kernel_rfl) (fun _ hw => hw.sub (by repeat (first | exact List.Sublist.slnil | exact List.Sublist.refl _ | apply List.Sublist.cons_cons | apply List.Sublist.cons))) rfl (by kernel_rfl) (by kernel_rfl) (v_eql rfl rfl) rfl ?_
        refine a_done (by kernel_rfl) ?_
        refine e_condD rfl (fun hz => ?_) (fun hz => ?_)
        · rw [if_pos hz] at hR
          rw [hR]
          obtain ⟨bb, hbb⟩ : ∃ bb : Nat, o.b = bb := ⟨o.b.toNat, by omega⟩
          rw [hbb, Int.toNat_natCast]
          refine e_region ?_
          refine w_val (v_move rfl) rfl ?_
          refine w_val (v_fieldAddrB (o := 2) Try.underlying118 rfl rfl Try.nz3 rfl) rfl ?_
          refine w_val (v_loadB 0 rfl Try.underlying3 rfl rfl rfl) rfl ?_
          refine w_val (v_is (v' := .int .i64 ((x.at_ + 1 + bb : Nat) : Int)) (v_add (p := ((x.at_ + 1 : Nat) : Int)) (q := o.b) rfl rfl (by omega)) (congrArg (Value.int .i64) (by omega))) rfl ?_
          refine w_val (v_assign rfl) rfl ?_
          refine w_nil ?_
          refine e_blk ?_
          refine e_seq ?_
          refine e_region ?_
          refine w_val (v_move rfl) rfl ?_
          refine w_val (v_move rfl) rfl ?_
          refine w_val (v_nilCheck rfl) rfl ?_
          refine w_val (v_fieldAddrB (o := 2) Try.underlying81 rfl rfl Try.nz3 rfl) rfl ?_
          refine w_op rfl ?_
          refine x_store1 1 rfl rfl rfl Try.hi3 Try.cz3 rfl hd_lt2 rfl ?_
          refine w_nil ?_
          refine e_seq ?_
          refine e_region ?_
          refine w_val (v_assign rfl) rfl ?_
          refine w_val (v_assign rfl) rfl ?_
          refine w_nil ?_
          refine e_retQ (q_ret2 rfl (.tmp rfl) (.tmp rfl) ?_)
          exact fun w' hw' => ⟨(sv, sl), hst.next rfl rfl (show x.at_ ≤ x.at_ + 1 + bb by omega), rfl, (hw'.sub (List.sublist_cons_self _ _)).res⟩
        · rw [if_neg hz] at hR
          rw [hR]
          refine e_skip ?_
          refine e_blk ?_
          refine e_seq ?_
          refine e_region ?_
          refine w_val (v_move rfl) rfl ?_
          refine w_val (v_move rfl) rfl ?_
          refine w_val (v_nilCheck rfl) rfl ?_
          refine w_val (v_fieldAddrB (o := 2) Try.underlying81 rfl rfl Try.nz3 rfl) rfl ?_
          refine w_op rfl ?_
          refine x_store1 1 rfl rfl rfl Try.hi3 Try.cz3 rfl hd_lt2 rfl ?_
          refine w_nil ?_
          refine e_seq ?_
          refine e_region ?_
          refine w_val (v_assign rfl) rfl ?_
          refine w_val (v_assign rfl) rfl ?_
          refine w_nil ?_
          refine e_retQ (q_ret2 rfl (.tmp rfl) (.tmp rfl) ?_)
          exact fun w' hw' => ⟨(sv, sl), hst.next rfl rfl (Nat.le_succ _), rfl, (hw'.sub (List.sublist_cons_self _ _)).res⟩
      · rw [if_neg (by omega), if_neg (by omega), if_neg (by omega), if_neg (by omega), if_neg (by omega)] at hR
        rw [hR]
        refine e_condDF rfl (by omega) ?_
        refine e_seq ?_
        refine e_region ?_
        refine w_val (v_eql rfl rfl) rfl ?_
        refine w_val (v_assign rfl) rfl ?_
        refine w_nil ?_
        refine e_condDF rfl (by omega) ?_
        refine e_seq ?_
        refine e_region ?_
        refine w_val (v_eql rfl rfl) rfl ?_
        refine w_val (v_assign rfl) rfl ?_
        refine w_nil ?_
        refine e_condDF rfl (by omega) ?_
        refine e_seq ?_
        refine e_region ?_
        refine w_val (v_eql rfl rfl) rfl ?_
        refine w_val (v_assign rfl) rfl ?_
        refine w_nil ?_
        refine e_condDF rfl (by omega) ?_
        refine e_seq ?_
        refine e_region ?_
        refine w_val (v_eql rfl rfl) rfl ?_
        refine w_val (v_assign rfl) rfl ?_
        refine w_nil ?_
        refine e_condDF rfl (by omega) ?_
        refine e_cutH (σ := Unit) [0, 1, 6, 7] (.cons rfl (.cons rfl (.cons rfl (.cons rfl .nil)))) (fun _ => []) (fun _ => .blk b6 118 (opCells o) :: (hdH p dv sv { x with g := st x.g o.a (arithL o.kind (gt x.g o.b) (gt x.g o.c)) } sl ++ tbH pt 142 hs T)) (fun _ => True) ?_ ?_
        · refine e_draw ([.blk b6 118 (opCells o)]) Try.mixed ?_
          refine a_take 0 pan_cx (by kernel_rfl) (fun _ hw => hw.sub (by repeat (first | exact List.Sublist.slnil | exact List.Sublist.refl _ | apply List.Sublist.cons_cons | apply List.Sublist.cons))) rfl (by kernel_rfl) (by kernel_rfl) (v_move rfl) rfl ?_
          refine a_take 1 pan_cx (by kernel_rfl) (fun _ hw => hw.sub (by repeat (first | exact List.Sublist.slnil | exact List.Sublist.refl _ | apply List.Sublist.cons_cons | apply List.Sublist.cons))) rfl (by kernel_rfl) (by kernel_rfl) (v_fieldAddrB (o := 1) Try.underlying118 rfl rfl Try.nz3 rfl) rfl ?_
          refine a_take 2 pan_cx (by kernel_rfl) (fun _ hw => hw.sub (by repeat (first | exact List.Sublist.slnil | exact List.Sublist.refl _ | apply List.Sublist.cons_cons | apply List.Sublist.cons))) rfl (by kernel_rfl) (by kernel_rfl) (v_loadB 0 rfl Try.underlying3 rfl rfl rfl) rfl ?_
          refine a_take 3 pan_cx (by kernel_rfl) (fun _ hw => hw.sub (by repeat (first | exact List.Sublist.slnil | exact List.Sublist.refl _ | apply List.Sublist.cons_cons | apply List.Sublist.cons))) rfl (by kernel_rfl) (by kernel_rfl) (v_fieldAddrB (o := 0) Try.underlying118 rfl rfl Try.nz3 rfl) rfl ?_
          refine a_take 4 pan_cx (by kernel_rfl) (fun _ hw => hw.sub (by repeat (first | exact List.Sublist.slnil | exact List.Sublist.refl _ | apply List.Sublist.cons_cons | apply List.Sublist.cons))) rfl (by kernel_rfl) (by kernel_rfl) (v_loadB 0 rfl Try.underlying3 rfl rfl rfl) rfl ?_
          refine a_take 5 pan_cx (by kernel_rfl) (fun _ hw => hw.sub (by repeat (first | exact List.Sublist.slnil | exact List.Sublist.refl _ | apply List.Sublist.cons_cons | apply List.Sublist.cons))) rfl (by kernel_rfl) (by kernel_rfl) (v_move rfl) rfl ?_
          refine a_take 6 pan_cx (by kernel_rfl) (fun _ hw => hw.sub (by repeat (first | exact List.Sublist.slnil | exact List.Sublist.refl _ | apply List.Sublist.cons_cons | apply List.Sublist.cons))) rfl (by kernel_rfl) (by kernel_rfl) (v_fieldAddrB (o := 2) Try.underlying118 rfl rfl Try.nz3 rfl) rfl ?_
          refine a_take 7 pan_cx (by kernel_rfl) (fun _ hw => hw.sub (by repeat (first | exact List.Sublist.slnil | exact List.Sublist.refl _ | apply List.Sublist.cons_cons | apply List.Sublist.cons))) rfl (by kernel_rfl) (by kernel_rfl) (v_loadB 0 rfl Try.underlying3 rfl rfl rfl) rfl ?_
          refine a_take 8 pan_cx (by kernel_rfl) (fun _ hw => hw.sub (by repeat (first | exact List.Sublist.slnil | exact List.Sublist.refl _ | apply List.Sublist.cons_cons | apply List.Sublist.cons))) rfl (by kernel_rfl) (by kernel_rfl) (v_nilCheck rfl) rfl ?_
          refine a_take 9 pan_cx (by kernel_rfl) (fun _ hw => hw.sub (by repeat (first | exact List.Sublist.slnil | exact List.Sublist.refl _ | apply List.Sublist.cons_cons | apply List.Sublist.cons))) rfl (by kernel_rfl) (by kernel_rfl) (v_fieldAddrB (o := 3) Try.underlying81 rfl rfl Try.nz28 rfl) rfl ?_
          refine a_take 10 pan_cx (by kernel_rfl) (fun _ hw => hw.sub (by repeat (first | exact List.Sublist.slnil | exact List.Sublist.refl _ | apply List.Sublist.cons_cons | apply List.Sublist.cons))) rfl (by kernel_rfl) (by kernel_rfl) (v_indexAB Try.underlying28 Try.hi2 Try.cz2 rfl rfl (by omega)) rfl ?_
          refine a_take 12 pan_cx (by kernel_rfl) (fun _ hw => hw.sub (by repeat (first | exact List.Sublist.slnil | exact List.Sublist.refl _ | apply List.Sublist.cons_cons | apply List.Sublist.cons))) rfl (by kernel_rfl) (by kernel_rfl) (v_move rfl) rfl ?_
          refine a_take 13 pan_cx (by kernel_rfl) (fun _ hw => hw.sub (by repeat (first | exact List.Sublist.slnil | exact List.Sublist.refl _ | apply List.Sublist.cons_cons | apply List.Sublist.cons))) rfl (by kernel_rfl) (by kernel_rfl) (v_fieldAddrB (o := 3) Try.underlying118 rfl rfl Try.nz3 rfl) rfl ?_
          refine a_take 14 pan_cx (by kernel_rfl) (fun _ hw => hw.sub (by repeat (first | exact List.Sublist.slnil | exact List.Sublist.refl _ | apply List.Sublist.cons_cons | apply List.Sublist.cons))) rfl (by kernel_rfl) (by kernel_rfl) (v_loadB 0 rfl Try.underlying3 rfl rfl rfl) rfl ?_
          refine a_take 15 pan_cx (by kernel_rfl) (fun _ hw => hw.sub (by repeat (first | exact List.Sublist.slnil | exact List.Sublist.refl _ | apply List.Sublist.cons_cons | apply List.Sublist.cons))) rfl (by kernel_rfl) (by kernel_rfl) (v_nilCheck rfl) rfl ?_
          refine a_take 16 pan_cx (by kernel_rfl) (fun _ hw => hw.sub (by repeat (first | exact List.Sublist.slnil | exact List.Sublist.refl _ | apply List.Sublist.cons_cons | apply List.Sublist.cons))) rfl (by kernel_rfl) (by kernel_rfl) (v_fieldAddrB (o := 3) Try.underlying81 rfl rfl Try.nz28 rfl) rfl ?_
          refine a_take 17 pan_cx (by kernel_rfl) (fun _ hw => hw.sub (by repeat (first | exact List.Sublist.slnil | exact List.Sublist.refl _ | apply List.Sublist.cons_cons | apply List.Sublist.cons))) rfl (by kernel_rfl) (by kernel_rfl) (v_indexAB Try.underlying28 Try.hi2 Try.cz2 rfl rfl (by omega)) rfl ?_
          refine a_take 20 pan_cx (by kernel_rfl) (fun _ hw => hw.sub (by repeat (first | exact List.Sublist.slnil | exact List.Sublist.refl _ | apply List.Sublist.cons_cons | apply List.Sublist.cons))) rfl (by kernel_rfl) (by kernel_rfl) (v_nilCheck rfl) rfl ?_
          refine a_take 21 pan_cx (by kernel_rfl) (fun _ hw => hw.sub (by repeat (first | exact List.Sublist.slnil | exact List.Sublist.refl _ | apply List.Sublist.cons_cons | apply List.Sublist.cons))) rfl (by kernel_rfl) (by kernel_rfl) (v_fieldAddrB (o := 3) Try.underlying81 rfl rfl Try.nz28 rfl) rfl ?_
          refine a_all [11, 18] (by kernel_rfl) rfl ?_
          intro i hi
          simp only [List.mem_cons, List.not_mem_nil, or_false] at hi
          rcases hi with rfl | rfl
          · refine a_op rfl rfl ?_
            refine x_val (v_loadB 1 rfl Try.underlying2 rfl rfl (hd_g hg4 (by omega) (by omega))) rfl ?_
            refine a_and (fun _ hw => hw.sub (by repeat (first | exact List.Sublist.slnil | exact List.Sublist.refl _ | apply List.Sublist.cons_cons | apply List.Sublist.cons))) ?_
            refine a_one 18 (by kernel_rfl) rfl rfl ?_
            refine x_val (v_loadB 1 rfl Try.underlying2 rfl rfl (hd_g hg4 (by omega) (by omega))) rfl ?_
            refine a_and (fun _ hw => hw.sub (by repeat (first | exact List.Sublist.slnil | exact List.Sublist.refl _ | apply List.Sublist.cons_cons | apply List.Sublist.cons))) ?_
            refine a_one 19 (by kernel_rfl) rfl rfl ?_
            refine x_call0 (v := .int .i64 (arithL o.kind (gt x.g o.b) (gt x.g o.c))) rfl rfl rfl Try.call74 rfl (fun w hw => reckon_spec _ _ _ w) ?_
            refine a_and (fun _ hw => hw.sub (by repeat (first | exact List.Sublist.slnil | exact List.Sublist.refl _ | apply List.Sublist.cons_cons | apply List.Sublist.cons))) ?_
            refine a_take 22 pan_cx (by kernel_rfl) (fun _ hw => hw.sub (by repeat (first | exact List.Sublist.slnil | exact List.Sublist.refl _ | apply List.Sublist.cons_cons | apply List.Sublist.cons))) rfl (by kernel_rfl) (by kernel_rfl) (v_indexAB Try.underlying28 Try.hi2 Try.cz2 rfl rfl (by omega)) rfl ?_
            refine a_one 23 (by kernel_rfl) rfl rfl ?_
            refine x_store1 1 rfl rfl rfl Try.hi2 Try.cz2 rfl (by rw [hlen]; omega) rfl ?_; rw [hd_g_set hg4 _ (by omega) (by omega)]
            refine a_and (fun _ hw => hw.sub (by repeat (first | exact List.Sublist.slnil | exact List.Sublist.refl _ | apply List.Sublist.cons_cons | apply List.Sublist.cons))) ?_
            refine a_done (by kernel_rfl) ?_
            exact e_cutEnd () trivial (by repeat (first | exact Sub.nil _ | refine Sub.cons rfl ?_)) (fun _ hw => hw)
          · refine a_op rfl rfl ?_
            refine x_val (v_loadB 1 rfl Try.underlying2 rfl rfl (hd_g hg4 (by omega) (by omega))) rfl ?_
            refine a_and (fun _ hw => hw.sub (by repeat (first | exact List.Sublist.slnil | exact List.Sublist.refl _ | apply List.Sublist.cons_cons | apply List.Sublist.cons))) ?_
            refine a_one 11 (by kernel_rfl) rfl rfl ?_
            refine x_val (v_loadB 1 rfl Try.underlying2 rfl rfl (hd_g hg4 (by omega) (by omega))) rfl ?_
            refine a_and (fun _ hw => hw.sub (by repeat (first | exact List.Sublist.slnil | exact List.Sublist.refl _ | apply List.Sublist.cons_cons | apply List.Sublist.cons))) ?_
            refine a_one 19 (by kernel_rfl) rfl rfl ?_
            refine x_call0 (v := .int .i64 (arithL o.kind (gt x.g o.b) (gt x.g o.c))) rfl rfl rfl Try.call74 rfl (fun w hw => reckon_spec _ _ _ w) ?_
            refine a_and (fun _ hw => hw.sub (by repeat (first | exact List.Sublist.slnil | exact List.Sublist.refl _ | apply List.Sublist.cons_cons | apply List.Sublist.cons))) ?_
            refine a_take 22 pan_cx (by kernel_rfl) (fun _ hw => hw.sub (by repeat (first | exact List.Sublist.slnil | exact List.Sublist.refl _ | apply List.Sublist.cons_cons | apply List.Sublist.cons))) rfl (by kernel_rfl) (by kernel_rfl) (v_indexAB Try.underlying28 Try.hi2 Try.cz2 rfl rfl (by omega)) rfl ?_
            refine a_one 23 (by kernel_rfl) rfl rfl ?_
            refine x_store1 1 rfl rfl rfl Try.hi2 Try.cz2 rfl (by rw [hlen]; omega) rfl ?_; rw [hd_g_set hg4 _ (by omega) (by omega)]
            refine a_and (fun _ hw => hw.sub (by repeat (first | exact List.Sublist.slnil | exact List.Sublist.refl _ | apply List.Sublist.cons_cons | apply List.Sublist.cons))) ?_
            refine a_done (by kernel_rfl) ?_
            exact e_cutEnd () trivial (by repeat (first | exact Sub.nil _ | refine Sub.cons rfl ?_)) (fun _ hw => hw)
        · rintro - -
          refine e_blk ?_
          refine e_seq ?_
          refine e_region ?_
          refine w_val (v_move rfl) rfl ?_
          refine w_val (v_move rfl) rfl ?_
          refine w_val (v_nilCheck rfl) rfl ?_
          refine w_val (v_fieldAddrB (o := 2) Try.underlying81 rfl rfl Try.nz3 rfl) rfl ?_
          refine w_op rfl ?_
          refine x_store1 1 rfl rfl rfl Try.hi3 Try.cz3 rfl hd_lt2 rfl ?_
          refine w_nil ?_
          refine e_seq ?_
          refine e_region ?_
          refine w_val (v_assign rfl) rfl ?_
          refine w_val (v_assign rfl) rfl ?_
          refine w_nil ?_
          refine e_retQ (q_ret2 rfl (.tmp rfl) (.tmp rfl) ?_)
          exact fun w' hw' => ⟨(sv, sl), hst.next rfl rfl (Nat.le_succ _), rfl, (hw'.sub (List.sublist_cons_self _ _)).res⟩
end Go.SL
end
