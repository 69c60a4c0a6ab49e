/- Ytebdkaadbakhlac: part J8 of this seat's own texts. -/
import Derived.Test.YtebdkaadbakhlacJ3
import Derived.Test.YtebdkaadbakhlacWC
set_option linter.unusedVariables false
set_option linter.unusedSimpArgs false

open Go Go.Proofs Go.SL
set_option maxRecDepth 100000
set_option maxHeartbeats 4000000
namespace Go.SL
/-- what the law's own comparison reads -/
structure DoesV (c : View) (b13 b9 b5 b12 b7 pr pt pb : Nat) (ht hb : Nat → Value) (lv : Value) (by_ : Int) (n : Nat) (X1 X2 : Nat → WkL) (T1 T2 : TabL) : Prop where
  hv : ∃ (ph : Nat → Nat) (A : Option Addr) (k : Nat), c ⟨b13, 0, none⟩ = some (.slice A n k) ∧ n ≤ k ∧ (0 < n → ∃ ad, A = some ad) ∧ (∀ i, i < n → ∀ ad, A = some ad → c (ad.add (((i : Nat) : Int).toNat * 1)) = some (ptrV (ph i))) ∧ ∀ i, i < n → HdV c (ph i) (X2 i)
  rp : c ⟨b9, 0, none⟩ = some (ptrV pr)
  lp : c ⟨b5, 0, none⟩ = some lv
  bp : c ⟨b12, 0, none⟩ = some (ptrV pb)
  yp : c ⟨b7, 0, none⟩ = some (.int .i64 by_)
  rd : RdV c pr n X1
  tp : c ⟨pr, 0 + 0, none⟩ = some (ptrV pt)
  tb1 : TbV c pt ht T1
  tb2 : TbV c pb hb T2
theorem DoesV.mono {c c' : View} {b13 b9 b5 b12 b7 pr pt pb : Nat} {ht hb : Nat → Value} {lv : Value} {by_ : Int} {n : Nat} {X1 X2 : Nat → WkL} {T1 T2 : TabL} (hl : Le c c') (h : DoesV c b13 b9 b5 b12 b7 pr pt pb ht hb lv by_ n X1 X2 T1 T2) : DoesV c' b13 b9 b5 b12 b7 pr pt pb ht hb lv by_ n X1 X2 T1 T2 := by
  obtain ⟨ph, A, k, h1, h2, h3, h4, h5⟩ := h.hv
  exact ⟨⟨ph, A, k, hl _ _ h1, h2, h3, fun i hi ad ha => hl _ _ (h4 i hi ad ha), fun i hi => (h5 i hi).mono hl⟩, hl _ _ h.rp, hl _ _ h.lp, hl _ _ h.bp, hl _ _ h.yp, h.rd.mono hl, hl _ _ h.tp, h.tb1.mono hl, h.tb2.mono hl⟩
theorem does1_spec (b13 b9 b5 b12 b7 pr pt pb : Nat) (ht hb : Nat → Value) (Al : Option Addr) (kl : Nat) (by_ : Int) (n : Nat) (X1 X2 : Nat → WkL) (T1 T2 : TabL) (w : World) (h : DoesV w.cell? b13 b9 b5 b12 b7 pr pt pb ht hb (.slice Al n kl) by_ n X1 X2 T1 T2)
    (hn8 : n ≤ 8) (hov : ∀ i, i < n → (X1 i).ov = (X2 i).ov) (hrs : ∀ i, i < n → (X1 i).rc = (X2 i).rc ∧ (X1 i).rg = (X2 i).rg) (hst : stateT T2 = stateT T1) (hovt : overT T2 = overT T1) (hn1 : ∀ k, k < 10 → (T1 k).length ≤ 1000) (hn2 : ∀ k, k < 10 → (T2 k).length ≤ 1000) :
    Calls Try.prog 40 #[ptrV b13, ptrV b9, ptrV b5, ptrV b12, ptrV b7] w fun e w' => e = .returned (.bool true) ∧ Res w [] [] w' := by
  have hrl1 := h.rd.rl
  rw [← off_none w] at h
  obtain ⟨ph, A, k, h13, hk, hA, hcell, hhd⟩ := h.hv
  have h9 := h.rp
  have h5 := h.lp
  have h12 := h.bp
  have h7 := h.yp
  have htp := h.tp
  have hsl := stateT_len T1
  have hle : leftX n X2 = leftX n X1 := (left_congr hov).symm
  have hre : resX n X2 = resX n X1 := by
    unfold resX
    exact tab_congr fun i hi => by rw [(hrs i hi).1, (hrs i hi).2]
  have hrr : ∀ x ∈ resX n X1, x.2.length = 4 := fun x hx => by
    obtain ⟨i, hi, rfl⟩ := tab_mem.1 hx
    exact hrl1 i hi
  unfold ptrV at *
  refine enter0 (N := 97) Try.func40 rfl rfl rfl ?_
  refine e_seq ?_
  refine e_region ?_
  refine w_val (v_assign rfl) rfl ?_
  refine w_nil ?_
  refine e_seq ?_
  refine e_region ?_
  refine w_val (v_assign rfl) rfl ?_
  refine w_nil ?_
  refine e_seq ?_
  refine e_region ?_
  refine w_val (v_assign rfl) rfl ?_
  refine w_nil ?_
  refine e_seq ?_
  refine e_seq ?_
  refine e_region ?_
  refine w_val (v_assign rfl) rfl ?_
  refine w_nil ?_
  refine e_block ?_
  refine e_loopH (σ := Nat × Value × Value) [0, 1, 2, 3, 4] (.cons rfl (.cons rfl (.cons rfl (.cons rfl (.cons rfl .nil))))) (fun x => [(6, x.2.1), (7, x.2.2), (8, .int .i64 (x.1 : Int))]) (fun x => [Own x.2.1 3 1 (leftX x.1 X2).length (intsC (leftX x.1 X2)), Own x.2.2 30 5 x.1 (resL (resX x.1 X2))]) (fun x => x.1 ≤ n) (fun x => n - x.1) (0, .slice none 0 0, .slice none 0 0) (Nat.zero_le _) (by repeat (first | exact Sub.nil _ | refine Sub.cons rfl ?_)) (fun _ hw => (hw.ownNil 30 5).ownNil 3 1) ?_
  rintro ⟨i, sl, rv⟩ hi
  dsimp only at hi ⊢
  refine e_seq ?_
  refine e_seq ?_
  refine e_region ?_
  refine w_val (v_move rfl) rfl ?_
  refine w_val (v_loadO Try.underlying43 rfl rfl (h13)) rfl ?_
  refine w_val (v_lenS Try.underlying43 rfl) rfl ?_
  refine w_val (v_lss rfl rfl) rfl ?_
  refine w_nil ?_
  refine e_condD rfl (fun hlt => ?_) (fun hlt => ?_)
  · have hi' : i < n := by omega
    obtain ⟨ad, rfl⟩ := hA (by omega)
    have hc := hcell i hi' ad rfl
    have hov2 := (hhd i hi').ov
    have hres2 := (hhd i hi').res
    have hrl := hrl1 i hi'
    rw [(hrs i hi').2] at hrl
    obtain ⟨g0, g1, g2, g3, hg⟩ := list4 hrl
    have hls := left_succ (n := i) (X := X2)
    have hll := left_len (n := i) (X := X2)
    have hrn := resX_succ (n := i) (X := X2)
    rw [hg] at hrn hres2
    cases ho : (X2 i).ov with
    | true =>
      rw [ho, if_pos rfl, List.append_nil] at hls
      rw [ho] at hov2
      refine e_skip ?_
      refine e_seq ?_
      refine e_block ?_
      refine e_seq ?_
      refine e_seq ?_
      refine e_region ?_
      refine w_val (v_loadO Try.underlying43 rfl rfl (h13)) rfl ?_
      refine w_val (v_move rfl) rfl ?_
      refine w_val (v_indexS Try.underlying43 Try.hi79 Try.cz79 rfl rfl (by first | omega | decide)) rfl ?_
      refine w_val (v_loadO Try.underlying79 rfl rfl (hc)) rfl ?_
      refine w_val (v_nilCheck rfl) rfl ?_
      refine w_val (v_fieldAddrB (o := 8) Try.underlying81 rfl rfl Try.nz4 rfl) rfl ?_
      refine w_val (v_loadO Try.underlying4 rfl rfl (hov2)) rfl ?_
      refine w_val (v_not rfl) rfl ?_
      refine w_nil ?_
      refine e_condF rfl ?_
      refine e_skip ?_
      refine e_region ?_
      refine w_val (v_move rfl) rfl ?_
      refine w_val (v_loadO Try.underlying43 rfl rfl (h13)) rfl ?_
      refine w_val (v_move rfl) rfl ?_
      refine w_val (v_indexS Try.underlying43 Try.hi79 Try.cz79 rfl rfl (by first | omega | decide)) rfl ?_
      refine w_val (v_loadO Try.underlying79 rfl rfl (hc)) rfl ?_
      refine w_val (v_nilCheck rfl) rfl ?_
      refine w_val (v_fieldAddrB (o := 9) Try.underlying81 rfl rfl Try.nz30 rfl) rfl ?_
      refine w_val (v_loadON Try.underlying30 rfl Try.hi30 rfl (hres2) Try.cz30) rfl ?_
      refine w_op rfl ?_
      refine x_buildSlice _ (resCells (X2 i).rc [g0, g1, g2, g3]) rfl (run_buildSlice Try.underlying57 Try.hi30 Try.cz30 Try.zeroValue30 rfl (by kernel_rfl)) rfl (fun b35 => ?_)
      refine w_op rfl ?_
      refine x_appendIS (z := .agg #[.int .i64 0, .int .i64 0, .int .i64 0, .int .i64 0, .int .i64 0]) (n := i) (xs := resL (resX i X2)) (size := 5) (bytes := 40) (k := 1) (news := resCells (X2 i).rc [g0, g1, g2, g3]) 2 rfl rfl rfl Try.underlying57 (by kernel_rfl) rfl (by decide) (fun w hw => blk_rds (hw.hold _ (List.mem_cons_self ..)) rfl) (by intro u hu; exact one_resCells (X2 i).rc [g0, g1, g2, g3] u (by simpa using hu)) (by omega) (by simp only [maxLen]; omega) rfl (fun A5 cap5 _ => ?_)
      refine w_val (v_assign rfl) rfl ?_
      refine w_nil ?_
      refine e_blk ?_
      refine e_region ?_
      refine w_val (v_move rfl) rfl ?_
      refine w_val (v_add rfl rfl (by omega)) rfl ?_
      refine w_val (v_assign rfl) rfl ?_
      refine w_nil ?_
      exact e_round ((i + 1, sl, .slice A5 (i + 1) cap5)) (by dsimp only; omega) (by dsimp only; omega) (by repeat (first | exact Sub.nil _ | refine Sub.cons rfl ?_)) (fun _ hw => by dsimp only; rw [hrn, hls, resL_app, resL_one]; exact hw.sub (List.sublist_cons_self _ _))
    | false =>
      rw [ho, if_neg (by simp)] at hls
      rw [ho] at hov2
      refine e_skip ?_
      refine e_seq ?_
      refine e_block ?_
      refine e_seq ?_
      refine e_seq ?_
      refine e_region ?_
      refine w_val (v_loadO Try.underlying43 rfl rfl (h13)) rfl ?_
      refine w_val (v_move rfl) rfl ?_
      refine w_val (v_indexS Try.underlying43 Try.hi79 Try.cz79 rfl rfl (by first | omega | decide)) rfl ?_
      refine w_val (v_loadO Try.underlying79 rfl rfl (hc)) rfl ?_
      refine w_val (v_nilCheck rfl) rfl ?_
      refine w_val (v_fieldAddrB (o := 8) Try.underlying81 rfl rfl Try.nz4 rfl) rfl ?_
      refine w_val (v_loadO Try.underlying4 rfl rfl (hov2)) rfl ?_
      refine w_val (v_not rfl) rfl ?_
      refine w_nil ?_
      refine e_condT rfl ?_
      refine e_region ?_
      refine w_val (v_move rfl) rfl ?_
      refine w_val (v_move rfl) rfl ?_
      refine w_op rfl ?_
      refine x_buildSlice _ ([.int .i64 (i : Int)]) rfl (run_buildSlice Try.underlying51 Try.hi3 Try.cz3 Try.zeroValue3 rfl (by kernel_rfl)) rfl (fun b25 => ?_)
      refine w_op rfl ?_
      refine x_appendIS (z := .int .i64 0) (n := (leftX i X2).length) (xs := intsC (leftX i X2)) (size := 1) (bytes := 8) (k := 1) (news := [.int .i64 (i : Int)]) 1 rfl rfl rfl Try.underlying51 (by kernel_rfl) rfl (by decide) (fun w hw => blk_rds (hw.hold _ (List.mem_cons_self ..)) rfl) (by intro u hu; rw [List.mem_singleton.1 hu]; rfl) (by omega) (by simp only [maxLen]; omega) rfl (fun A4 cap4 _ => ?_)
      refine w_val (v_assign rfl) rfl ?_
      refine w_nil ?_
      refine e_region ?_
      refine w_val (v_move rfl) rfl ?_
      refine w_val (v_loadO Try.underlying43 rfl rfl (h13)) rfl ?_
      refine w_val (v_move rfl) rfl ?_
      refine w_val (v_indexS Try.underlying43 Try.hi79 Try.cz79 rfl rfl (by first | omega | decide)) rfl ?_
      refine w_val (v_loadO Try.underlying79 rfl rfl (hc)) rfl ?_
      refine w_val (v_nilCheck rfl) rfl ?_
      refine w_val (v_fieldAddrB (o := 9) Try.underlying81 rfl rfl Try.nz30 rfl) rfl ?_
      refine w_val (v_loadON Try.underlying30 rfl Try.hi30 rfl (hres2) Try.cz30) rfl ?_
      refine w_op rfl ?_
      refine x_buildSlice _ (resCells (X2 i).rc [g0, g1, g2, g3]) rfl (run_buildSlice Try.underlying57 Try.hi30 Try.cz30 Try.zeroValue30 rfl (by kernel_rfl)) rfl (fun b35 => ?_)
      refine w_op rfl ?_
      refine x_appendIS (z := .agg #[.int .i64 0, .int .i64 0, .int .i64 0, .int .i64 0, .int .i64 0]) (n := i) (xs := resL (resX i X2)) (size := 5) (bytes := 40) (k := 1) (news := resCells (X2 i).rc [g0, g1, g2, g3]) 3 rfl rfl rfl Try.underlying57 (by kernel_rfl) rfl (by decide) (fun w hw => blk_rds (hw.hold _ (List.mem_cons_self ..)) rfl) (by intro u hu; exact one_resCells (X2 i).rc [g0, g1, g2, g3] u (by simpa using hu)) (by omega) (by simp only [maxLen]; omega) rfl (fun A5 cap5 _ => ?_)
      refine w_val (v_assign rfl) rfl ?_
      refine w_nil ?_
      refine e_blk ?_
      refine e_region ?_
      refine w_val (v_move rfl) rfl ?_
      refine w_val (v_add rfl rfl (by omega)) rfl ?_
      refine w_val (v_assign rfl) rfl ?_
      refine w_nil ?_
      exact e_round ((i + 1, .slice A4 ((leftX i X2).length + 1) cap4, .slice A5 (i + 1) cap5)) (by dsimp only; omega) (by dsimp only; omega) (by repeat (first | exact Sub.nil _ | refine Sub.cons rfl ?_)) (fun _ hw => by dsimp only; rw [hrn, hls, resL_app, resL_one, List.length_append, intsC_app]; exact hw.sub (.cons _ (.cons _ (List.Sublist.refl _))))
  · have e : i = n := by omega
    subst e
    rw [hle, hre]
    have hll := left_len (n := i) (X := X1)
    refine g_shape2 0 rfl fun A6 k6 hv6 hk6 hA6 => ?_
    subst hv6
    refine g_shape2 1 rfl fun A7 k7 hv7 hk7 hA7 => ?_
    subst hv7
    by_cases h0 : by_ < 0
    · have e : doneX i X1 by_ = false := by unfold doneX; rw [decide_eq_false (by omega), Bool.false_and]
      refine e_exit rfl ?_
      refine e_seq ?_
      refine e_draw ([]) Try.mixed ?_
      refine a_take 0 pan_cx (by kernel_rfl) (fun _ hw => hw.sub (by repeat (first | exact List.Sublist.slnil | exact List.Sublist.refl _ | apply List.Sublist.cons_cons | apply List.Sublist.cons))) rfl (by kernel_rfl) (by kernel_rfl) (v_loadO Try.underlying62 rfl rfl (h9)) rfl ?_
      refine a_take 2 pan_cx (by kernel_rfl) (fun _ hw => hw.sub (by repeat (first | exact List.Sublist.slnil | exact List.Sublist.refl _ | apply List.Sublist.cons_cons | apply List.Sublist.cons))) rfl (by kernel_rfl) (by kernel_rfl) (v_loadO Try.underlying38 rfl rfl (h5)) rfl ?_
      refine a_take 3 pan_cx (by kernel_rfl) (fun _ hw => hw.sub (by repeat (first | exact List.Sublist.slnil | exact List.Sublist.refl _ | apply List.Sublist.cons_cons | apply List.Sublist.cons))) rfl (by kernel_rfl) (by kernel_rfl) (v_lenS Try.underlying38 rfl) rfl ?_
      refine a_one 1 (by kernel_rfl) rfl rfl ?_
      refine x_call0 (v := .int .i64 (i : Int)) rfl rfl rfl Try.call41 rfl (fun w hw => rdLen_spec pr i X1 w (h.rd.mono hw.off)) ?_
      refine a_and (fun _ hw => hw.sub (by repeat (first | exact List.Sublist.slnil | exact List.Sublist.refl _ | apply List.Sublist.cons_cons | apply List.Sublist.cons))) ?_
      refine a_take 4 pan_cx (by kernel_rfl) (fun _ hw => hw.sub (by repeat (first | exact List.Sublist.slnil | exact List.Sublist.refl _ | apply List.Sublist.cons_cons | apply List.Sublist.cons))) rfl (by kernel_rfl) (by kernel_rfl) (v_is (v' := .bool true) (v_eql rfl rfl) (by rw [decide_eq_true rfl])) rfl ?_
      refine a_take 5 pan_cx (by kernel_rfl) (fun _ hw => hw.sub (by repeat (first | exact List.Sublist.slnil | exact List.Sublist.refl _ | apply List.Sublist.cons_cons | apply List.Sublist.cons))) rfl (by kernel_rfl) (by kernel_rfl) (v_move rfl) rfl ?_
      refine a_want 6 pan_cx (by kernel_rfl) (fun _ hw => hw.sub (by repeat (first | exact List.Sublist.slnil | exact List.Sublist.refl _ | apply List.Sublist.cons_cons | apply List.Sublist.cons))) rfl (by kernel_rfl) (by kernel_rfl) rfl rfl (v_loadO Try.underlying62 rfl rfl (h9)) rfl ?_
      refine a_want 8 pan_cx (by kernel_rfl) (fun _ hw => hw.sub (by repeat (first | exact List.Sublist.slnil | exact List.Sublist.refl _ | apply List.Sublist.cons_cons | apply List.Sublist.cons))) rfl (by kernel_rfl) (by kernel_rfl) rfl rfl (v_move rfl) rfl ?_
      refine a_oneW 7 (by kernel_rfl) rfl rfl rfl ?_
      refine x_call (dst := some 44) (mc := []) (σ := Value) (fun _ => True) (fun sl => sl) (fun sl => [Own sl 3 1 (leftX i X1).length (intsC (leftX i X1))]) rfl rfl rfl Try.call43 (fun w hw => rdLeft_spec pr i X1 w (h.rd.mono hw.off) (by omega)) rfl (fun sl2 _ => ?_)
      refine a_and (fun _ hw => hw.sub (by repeat (first | exact List.Sublist.slnil | exact List.Sublist.refl _ | apply List.Sublist.cons_cons | apply List.Sublist.cons))) ?_
      refine a_oneW 9 (by kernel_rfl) rfl rfl rfl ?_
      refine x_call0 (v := .bool true) rfl rfl rfl Try.call42 rfl (fun w hw => by have := sameInts_spec sl2 (.slice A6 (leftX i X1).length k6) (leftX i X1) (leftX i X1) w (own_rds (hw.mem (i := 0) rfl)) (own_rds (hw.mem (i := 1) rfl)) (by omega); rwa [decide_eq_true rfl] at this) ?_
      refine a_and (fun _ hw => hw.sub (by repeat (first | exact List.Sublist.slnil | exact List.Sublist.refl _ | apply List.Sublist.cons_cons | apply List.Sublist.cons))) ?_
      refine a_take 10 pan_cx (by kernel_rfl) (fun _ hw => hw.sub (by repeat (first | exact List.Sublist.slnil | exact List.Sublist.refl _ | apply List.Sublist.cons_cons | apply List.Sublist.cons))) rfl (by kernel_rfl) (by kernel_rfl) (v_pickT rfl rfl) rfl ?_
      refine a_take 11 pan_cx (by kernel_rfl) (fun _ hw => hw.sub (by repeat (first | exact List.Sublist.slnil | exact List.Sublist.refl _ | apply List.Sublist.cons_cons | apply List.Sublist.cons))) rfl (by kernel_rfl) (by kernel_rfl) (v_move rfl) rfl ?_
      refine a_want 12 pan_cx (by kernel_rfl) (fun _ hw => hw.sub (by repeat (first | exact List.Sublist.slnil | exact List.Sublist.refl _ | apply List.Sublist.cons_cons | apply List.Sublist.cons))) rfl (by kernel_rfl) (by kernel_rfl) rfl rfl (v_loadO Try.underlying62 rfl rfl (h9)) rfl ?_
      refine a_want 14 pan_cx (by kernel_rfl) (fun _ hw => hw.sub (by repeat (first | exact List.Sublist.slnil | exact List.Sublist.refl _ | apply List.Sublist.cons_cons | apply List.Sublist.cons))) rfl (by kernel_rfl) (by kernel_rfl) rfl rfl (v_move rfl) rfl ?_
      refine a_oneW 13 (by kernel_rfl) rfl rfl rfl ?_
      refine x_call (dst := some 50) (mc := []) (σ := Option Addr × Nat) (fun x => i ≤ x.2) (fun x => .slice x.1 i i) (fun x => [Own (.slice x.1 i x.2) 30 5 i (resL (resX i X1))]) rfl rfl rfl Try.call33 (fun w hw => rdResults_spec pr i X1 w (h.rd.mono hw.off) (by omega)) rfl (fun x hx => ?_); obtain ⟨ya, yk⟩ := x; dsimp only at hx; dsimp only
      refine a_and (fun _ hw => hw.sub (by repeat (first | exact List.Sublist.slnil | exact List.Sublist.refl _ | apply List.Sublist.cons_cons | apply List.Sublist.cons))) ?_
      refine a_oneW 15 (by kernel_rfl) rfl rfl rfl ?_
      refine x_call0 (v := .bool true) rfl rfl rfl Try.call30 rfl (fun w hw => by have := sameResults_spec (.slice ya i i) (.slice A7 i k7) (resX i X1) (resX i X1) w (by rw [resX_len]; exact rds_clip (own_rds (hw.mem (i := 0) rfl))) (by rw [resX_len]; exact own_rds (hw.mem (i := 3) rfl)) hrr hrr (by rw [resX_len]; omega); rwa [decide_eq_true rfl] at this) ?_
      refine a_and (fun _ hw => hw.sub (by repeat (first | exact List.Sublist.slnil | exact List.Sublist.refl _ | apply List.Sublist.cons_cons | apply List.Sublist.cons))) ?_
      refine a_take 16 pan_cx (by kernel_rfl) (fun _ hw => hw.sub (by repeat (first | exact List.Sublist.slnil | exact List.Sublist.refl _ | apply List.Sublist.cons_cons | apply List.Sublist.cons))) rfl (by kernel_rfl) (by kernel_rfl) (v_pickT rfl rfl) rfl ?_
      refine a_take 17 pan_cx (by kernel_rfl) (fun _ hw => hw.sub (by repeat (first | exact List.Sublist.slnil | exact List.Sublist.refl _ | apply List.Sublist.cons_cons | apply List.Sublist.cons))) rfl (by kernel_rfl) (by kernel_rfl) (v_move rfl) rfl ?_
      refine a_want 18 pan_cx (by kernel_rfl) (fun _ hw => hw.sub (by repeat (first | exact List.Sublist.slnil | exact List.Sublist.refl _ | apply List.Sublist.cons_cons | apply List.Sublist.cons))) rfl (by kernel_rfl) (by kernel_rfl) rfl rfl (v_loadO Try.underlying62 rfl rfl (h9)) rfl ?_
      refine a_want 19 pan_cx (by kernel_rfl) (fun _ hw => hw.sub (by repeat (first | exact List.Sublist.slnil | exact List.Sublist.refl _ | apply List.Sublist.cons_cons | apply List.Sublist.cons))) rfl (by kernel_rfl) (by kernel_rfl) rfl rfl (v_nilCheck rfl) rfl ?_
      refine a_want 20 pan_cx (by kernel_rfl) (fun _ hw => hw.sub (by repeat (first | exact List.Sublist.slnil | exact List.Sublist.refl _ | apply List.Sublist.cons_cons | apply List.Sublist.cons))) rfl (by kernel_rfl) (by kernel_rfl) rfl rfl (v_fieldAddrB (o := 0) Try.underlying70 rfl rfl Try.nz40 rfl) rfl ?_
      refine a_want 21 pan_cx (by kernel_rfl) (fun _ hw => hw.sub (by repeat (first | exact List.Sublist.slnil | exact List.Sublist.refl _ | apply List.Sublist.cons_cons | apply List.Sublist.cons))) rfl (by kernel_rfl) (by kernel_rfl) rfl rfl (v_loadO Try.underlying40 rfl rfl (htp)) rfl ?_
      refine a_want 23 pan_cx (by kernel_rfl) (fun _ hw => hw.sub (by repeat (first | exact List.Sublist.slnil | exact List.Sublist.refl _ | apply List.Sublist.cons_cons | apply List.Sublist.cons))) rfl (by kernel_rfl) (by kernel_rfl) rfl rfl (v_loadO Try.underlying41 rfl rfl (h12)) rfl ?_
      refine a_oneW 22 (by kernel_rfl) rfl rfl rfl ?_
      refine x_call0 (v := intsV (stateT T1)) rfl rfl rfl Try.call21 rfl (fun w hw => tabState_spec pt ht T1 w (h.tb1.mono hw.off) hn1) ?_
      refine a_and (fun _ hw => hw.sub (by repeat (first | exact List.Sublist.slnil | exact List.Sublist.refl _ | apply List.Sublist.cons_cons | apply List.Sublist.cons))) ?_
      refine a_oneW 24 (by kernel_rfl) rfl rfl rfl ?_
      refine x_call0 (v := intsV (stateT T1)) rfl rfl rfl Try.call44 rfl (fun w hw => by have := brdState_spec pb hb T2 w (h.tb2.mono hw.off) hn2; rwa [hst] at this) ?_
      refine a_and (fun _ hw => hw.sub (by repeat (first | exact List.Sublist.slnil | exact List.Sublist.refl _ | apply List.Sublist.cons_cons | apply List.Sublist.cons))) ?_
      refine a_want 25 pan_cx (by kernel_rfl) (fun _ hw => hw.sub (by repeat (first | exact List.Sublist.slnil | exact List.Sublist.refl _ | apply List.Sublist.cons_cons | apply List.Sublist.cons))) rfl (by kernel_rfl) (by kernel_rfl) rfl rfl (v_is (v' := .bool true) (v_eqlInts (p := stateT T1) (q := stateT T1) Try.underlying23 (by kernel_rfl) Try.underlying2 Try.hi2 Try.cz2 hsl hsl rfl rfl) (congrArg Value.bool (decide_eq_true rfl))) rfl ?_
      refine a_take 26 pan_cx (by kernel_rfl) (fun _ hw => hw.sub (by repeat (first | exact List.Sublist.slnil | exact List.Sublist.refl _ | apply List.Sublist.cons_cons | apply List.Sublist.cons))) rfl (by kernel_rfl) (by kernel_rfl) (v_pickT rfl rfl) rfl ?_
      refine a_take 27 pan_cx (by kernel_rfl) (fun _ hw => hw.sub (by repeat (first | exact List.Sublist.slnil | exact List.Sublist.refl _ | apply List.Sublist.cons_cons | apply List.Sublist.cons))) rfl (by kernel_rfl) (by kernel_rfl) (v_move rfl) rfl ?_
      refine a_want 28 pan_cx (by kernel_rfl) (fun _ hw => hw.sub (by repeat (first | exact List.Sublist.slnil | exact List.Sublist.refl _ | apply List.Sublist.cons_cons | apply List.Sublist.cons))) rfl (by kernel_rfl) (by kernel_rfl) rfl rfl (v_loadO Try.underlying62 rfl rfl (h9)) rfl ?_
      refine a_want 29 pan_cx (by kernel_rfl) (fun _ hw => hw.sub (by repeat (first | exact List.Sublist.slnil | exact List.Sublist.refl _ | apply List.Sublist.cons_cons | apply List.Sublist.cons))) rfl (by kernel_rfl) (by kernel_rfl) rfl rfl (v_nilCheck rfl) rfl ?_
      refine a_want 30 pan_cx (by kernel_rfl) (fun _ hw => hw.sub (by repeat (first | exact List.Sublist.slnil | exact List.Sublist.refl _ | apply List.Sublist.cons_cons | apply List.Sublist.cons))) rfl (by kernel_rfl) (by kernel_rfl) rfl rfl (v_fieldAddrB (o := 0) Try.underlying70 rfl rfl Try.nz40 rfl) rfl ?_
      refine a_want 31 pan_cx (by kernel_rfl) (fun _ hw => hw.sub (by repeat (first | exact List.Sublist.slnil | exact List.Sublist.refl _ | apply List.Sublist.cons_cons | apply List.Sublist.cons))) rfl (by kernel_rfl) (by kernel_rfl) rfl rfl (v_loadO Try.underlying40 rfl rfl (htp)) rfl ?_
      refine a_want 33 pan_cx (by kernel_rfl) (fun _ hw => hw.sub (by repeat (first | exact List.Sublist.slnil | exact List.Sublist.refl _ | apply List.Sublist.cons_cons | apply List.Sublist.cons))) rfl (by kernel_rfl) (by kernel_rfl) rfl rfl (v_loadO Try.underlying41 rfl rfl (h12)) rfl ?_
      refine a_oneW 32 (by kernel_rfl) rfl rfl rfl ?_
      refine x_call0 (v := .bool (overT T1)) rfl rfl rfl Try.call22 rfl (fun w hw => tabOver_spec pt ht T1 w (h.tb1.mono hw.off) hn1) ?_
      refine a_and (fun _ hw => hw.sub (by repeat (first | exact List.Sublist.slnil | exact List.Sublist.refl _ | apply List.Sublist.cons_cons | apply List.Sublist.cons))) ?_
      refine a_oneW 34 (by kernel_rfl) rfl rfl rfl ?_
      refine x_call0 (v := .bool (overT T1)) rfl rfl rfl Try.call45 rfl (fun w hw => by have := brdOver_spec pb hb T2 w (h.tb2.mono hw.off) hn2; rwa [hovt] at this) ?_
      refine a_and (fun _ hw => hw.sub (by repeat (first | exact List.Sublist.slnil | exact List.Sublist.refl _ | apply List.Sublist.cons_cons | apply List.Sublist.cons))) ?_
      refine a_want 35 pan_cx (by kernel_rfl) (fun _ hw => hw.sub (by repeat (first | exact List.Sublist.slnil | exact List.Sublist.refl _ | apply List.Sublist.cons_cons | apply List.Sublist.cons))) rfl (by kernel_rfl) (by kernel_rfl) rfl rfl (v_is (v' := .bool true) (v_eqlBool Try.underlying4 rfl rfl) (by simp)) rfl ?_
      refine a_take 36 pan_cx (by kernel_rfl) (fun _ hw => hw.sub (by repeat (first | exact List.Sublist.slnil | exact List.Sublist.refl _ | apply List.Sublist.cons_cons | apply List.Sublist.cons))) rfl (by kernel_rfl) (by kernel_rfl) (v_pickT rfl rfl) rfl ?_
      refine a_take 37 pan_cx (by kernel_rfl) (fun _ hw => hw.sub (by repeat (first | exact List.Sublist.slnil | exact List.Sublist.refl _ | apply List.Sublist.cons_cons | apply List.Sublist.cons))) rfl (by kernel_rfl) (by kernel_rfl) (v_move rfl) rfl ?_
      refine a_want 38 pan_cx (by kernel_rfl) (fun _ hw => hw.sub (by repeat (first | exact List.Sublist.slnil | exact List.Sublist.refl _ | apply List.Sublist.cons_cons | apply List.Sublist.cons))) rfl (by kernel_rfl) (by kernel_rfl) rfl rfl (v_loadO Try.underlying62 rfl rfl (h9)) rfl ?_
      refine a_want 39 pan_cx (by kernel_rfl) (fun _ hw => hw.sub (by repeat (first | exact List.Sublist.slnil | exact List.Sublist.refl _ | apply List.Sublist.cons_cons | apply List.Sublist.cons))) rfl (by kernel_rfl) (by kernel_rfl) rfl rfl (v_loadO Try.underlying3 rfl rfl (h7)) rfl ?_
      refine a_want 41 pan_cx (by kernel_rfl) (fun _ hw => hw.sub (by repeat (first | exact List.Sublist.slnil | exact List.Sublist.refl _ | apply List.Sublist.cons_cons | apply List.Sublist.cons))) rfl (by kernel_rfl) (by kernel_rfl) rfl rfl (v_loadO Try.underlying3 rfl rfl (h7)) rfl ?_
      refine a_want 42 pan_cx (by kernel_rfl) (fun _ hw => hw.sub (by repeat (first | exact List.Sublist.slnil | exact List.Sublist.refl _ | apply List.Sublist.cons_cons | apply List.Sublist.cons))) rfl (by kernel_rfl) (by kernel_rfl) rfl rfl (v_is (v' := .bool false) (v_geq rfl rfl) (by rw [decide_eq_false (by omega)])) rfl ?_
      refine a_oneW 40 (by kernel_rfl) rfl rfl rfl ?_
      refine x_call0 (v := .bool false) rfl rfl rfl Try.call34 rfl (fun w hw => by have := rdDone_spec pr i X1 by_ w (h.rd.mono hw.off) (by omega); rwa [e] at this) ?_
      refine a_and (fun _ hw => hw.sub (by repeat (first | exact List.Sublist.slnil | exact List.Sublist.refl _ | apply List.Sublist.cons_cons | apply List.Sublist.cons))) ?_
      refine a_want 43 pan_cx (by kernel_rfl) (fun _ hw => hw.sub (by repeat (first | exact List.Sublist.slnil | exact List.Sublist.refl _ | apply List.Sublist.cons_cons | apply List.Sublist.cons))) rfl (by kernel_rfl) (by kernel_rfl) rfl rfl (v_move rfl) rfl ?_
      refine a_skip 44 pan_cx (by kernel_rfl) (fun _ hw => hw.sub (by repeat (first | exact List.Sublist.slnil | exact List.Sublist.refl _ | apply List.Sublist.cons_cons | apply List.Sublist.cons))) rfl (by kernel_rfl) (by kernel_rfl) rfl rfl rfl rfl ?_
      refine a_skip 45 pan_cx (by kernel_rfl) (fun _ hw => hw.sub (by repeat (first | exact List.Sublist.slnil | exact List.Sublist.refl _ | apply List.Sublist.cons_cons | apply List.Sublist.cons))) rfl (by kernel_rfl) (by kernel_rfl) rfl rfl rfl rfl ?_
      refine a_skip 46 pan_cx (by kernel_rfl) (fun _ hw => hw.sub (by repeat (first | exact List.Sublist.slnil | exact List.Sublist.refl _ | apply List.Sublist.cons_cons | apply List.Sublist.cons))) rfl (by kernel_rfl) (by kernel_rfl) rfl rfl rfl rfl ?_
      refine a_skip 47 pan_cx (by kernel_rfl) (fun _ hw => hw.sub (by repeat (first | exact List.Sublist.slnil | exact List.Sublist.refl _ | apply List.Sublist.cons_cons | apply List.Sublist.cons))) rfl (by kernel_rfl) (by kernel_rfl) rfl rfl rfl rfl ?_
      refine a_want 48 pan_cx (by kernel_rfl) (fun _ hw => hw.sub (by repeat (first | exact List.Sublist.slnil | exact List.Sublist.refl _ | apply List.Sublist.cons_cons | apply List.Sublist.cons))) rfl (by kernel_rfl) (by kernel_rfl) rfl rfl (v_pickF rfl rfl) rfl ?_
      refine a_want 49 pan_cx (by kernel_rfl) (fun _ hw => hw.sub (by repeat (first | exact List.Sublist.slnil | exact List.Sublist.refl _ | apply List.Sublist.cons_cons | apply List.Sublist.cons))) rfl (by kernel_rfl) (by kernel_rfl) rfl rfl (v_move rfl) rfl ?_
      refine a_skip 50 pan_cx (by kernel_rfl) (fun _ hw => hw.sub (by repeat (first | exact List.Sublist.slnil | exact List.Sublist.refl _ | apply List.Sublist.cons_cons | apply List.Sublist.cons))) rfl (by kernel_rfl) (by kernel_rfl) rfl rfl rfl rfl ?_
      refine a_skip 51 pan_cx (by kernel_rfl) (fun _ hw => hw.sub (by repeat (first | exact List.Sublist.slnil | exact List.Sublist.refl _ | apply List.Sublist.cons_cons | apply List.Sublist.cons))) rfl (by kernel_rfl) (by kernel_rfl) rfl rfl rfl rfl ?_
      refine a_skip 52 pan_cx (by kernel_rfl) (fun _ hw => hw.sub (by repeat (first | exact List.Sublist.slnil | exact List.Sublist.refl _ | apply List.Sublist.cons_cons | apply List.Sublist.cons))) rfl (by kernel_rfl) (by kernel_rfl) rfl rfl rfl rfl ?_
      refine a_skip 53 pan_cx (by kernel_rfl) (fun _ hw => hw.sub (by repeat (first | exact List.Sublist.slnil | exact List.Sublist.refl _ | apply List.Sublist.cons_cons | apply List.Sublist.cons))) rfl (by kernel_rfl) (by kernel_rfl) rfl rfl rfl rfl ?_
      refine a_skip 54 pan_cx (by kernel_rfl) (fun _ hw => hw.sub (by repeat (first | exact List.Sublist.slnil | exact List.Sublist.refl _ | apply List.Sublist.cons_cons | apply List.Sublist.cons))) rfl (by kernel_rfl) (by kernel_rfl) rfl rfl rfl rfl ?_
      refine a_skip 55 pan_cx (by kernel_rfl) (fun _ hw => hw.sub (by repeat (first | exact List.Sublist.slnil | exact List.Sublist.refl _ | apply List.Sublist.cons_cons | apply List.Sublist.cons))) rfl (by kernel_rfl) (by kernel_rfl) rfl rfl rfl rfl ?_
      refine a_skip 56 pan_cx (by kernel_rfl) (fun _ hw => hw.sub (by repeat (first | exact List.Sublist.slnil | exact List.Sublist.refl _ | apply List.Sublist.cons_cons | apply List.Sublist.cons))) rfl (by kernel_rfl) (by kernel_rfl) rfl rfl rfl rfl ?_
      refine a_want 57 pan_cx (by kernel_rfl) (fun _ hw => hw.sub (by repeat (first | exact List.Sublist.slnil | exact List.Sublist.refl _ | apply List.Sublist.cons_cons | apply List.Sublist.cons))) rfl (by kernel_rfl) (by kernel_rfl) rfl rfl (v_pickF rfl rfl) rfl ?_
      refine a_want 58 pan_cx (by kernel_rfl) (fun _ hw => hw.sub (by repeat (first | exact List.Sublist.slnil | exact List.Sublist.refl _ | apply List.Sublist.cons_cons | apply List.Sublist.cons))) rfl (by kernel_rfl) (by kernel_rfl) rfl rfl (v_is (v' := .bool true) (v_eqlBool Try.underlying4 rfl rfl) rfl) rfl ?_
      refine a_take 59 pan_cx (by kernel_rfl) (fun _ hw => hw.sub (by repeat (first | exact List.Sublist.slnil | exact List.Sublist.refl _ | apply List.Sublist.cons_cons | apply List.Sublist.cons))) rfl (by kernel_rfl) (by kernel_rfl) (v_pickT rfl rfl) rfl ?_
      refine a_take 60 pan_cx (by kernel_rfl) (fun _ hw => hw.sub (by repeat (first | exact List.Sublist.slnil | exact List.Sublist.refl _ | apply List.Sublist.cons_cons | apply List.Sublist.cons))) rfl (by kernel_rfl) (by kernel_rfl) (v_assign rfl) rfl ?_
      refine a_done (by kernel_rfl) ?_
      refine e_retQ (q_ret1 rfl (.tmp rfl) ?_)
      exact fun w' hw' => ⟨rfl, hw'.res.nil⟩
    · by_cases h2 : (i : Int) ≤ by_
      · have e : doneX i X1 by_ = false := by unfold doneX; rw [decide_eq_false (by omega), Bool.false_and]
        refine e_exit rfl ?_
        refine e_seq ?_
        refine e_draw ([]) Try.mixed ?_
        refine a_take 0 pan_cx (by kernel_rfl) (fun _ hw => hw.sub (by repeat (first | exact List.Sublist.slnil | exact List.Sublist.refl _ | apply List.Sublist.cons_cons | apply List.Sublist.cons))) rfl (by kernel_rfl) (by kernel_rfl) (v_loadO Try.underlying62 rfl rfl (h9)) rfl ?_
        refine a_take 2 pan_cx (by kernel_rfl) (fun _ hw => hw.sub (by repeat (first | exact List.Sublist.slnil | exact List.Sublist.refl _ | apply List.Sublist.cons_cons | apply List.Sublist.cons))) rfl (by kernel_rfl) (by kernel_rfl) (v_loadO Try.underlying38 rfl rfl (h5)) rfl ?_
        refine a_take 3 pan_cx (by kernel_rfl) (fun _ hw => hw.sub (by repeat (first | exact List.Sublist.slnil | exact List.Sublist.refl _ | apply List.Sublist.cons_cons | apply List.Sublist.cons))) rfl (by kernel_rfl) (by kernel_rfl) (v_lenS Try.underlying38 rfl) rfl ?_
        refine a_one 1 (by kernel_rfl) rfl rfl ?_
        refine x_call0 (v := .int .i64 (i : Int)) rfl rfl rfl Try.call41 rfl (fun w hw => rdLen_spec pr i X1 w (h.rd.mono hw.off)) ?_
        refine a_and (fun _ hw => hw.sub (by repeat (first | exact List.Sublist.slnil | exact List.Sublist.refl _ | apply List.Sublist.cons_cons | apply List.Sublist.cons))) ?_
        refine a_take 4 pan_cx (by kernel_rfl) (fun _ hw => hw.sub (by repeat (first | exact List.Sublist.slnil | exact List.Sublist.refl _ | apply List.Sublist.cons_cons | apply List.Sublist.cons))) rfl (by kernel_rfl) (by kernel_rfl) (v_is (v' := .bool true) (v_eql rfl rfl) (by rw [decide_eq_true rfl])) rfl ?_
        refine a_take 5 pan_cx (by kernel_rfl) (fun _ hw => hw.sub (by repeat (first | exact List.Sublist.slnil | exact List.Sublist.refl _ | apply List.Sublist.cons_cons | apply List.Sublist.cons))) rfl (by kernel_rfl) (by kernel_rfl) (v_move rfl) rfl ?_
        refine a_want 6 pan_cx (by kernel_rfl) (fun _ hw => hw.sub (by repeat (first | exact List.Sublist.slnil | exact List.Sublist.refl _ | apply List.Sublist.cons_cons | apply List.Sublist.cons))) rfl (by kernel_rfl) (by kernel_rfl) rfl rfl (v_loadO Try.underlying62 rfl rfl (h9)) rfl ?_
        refine a_want 8 pan_cx (by kernel_rfl) (fun _ hw => hw.sub (by repeat (first | exact List.Sublist.slnil | exact List.Sublist.refl _ | apply List.Sublist.cons_cons | apply List.Sublist.cons))) rfl (by kernel_rfl) (by kernel_rfl) rfl rfl (v_move rfl) rfl ?_
        refine a_oneW 7 (by kernel_rfl) rfl rfl rfl ?_
        refine x_call (dst := some 44) (mc := []) (σ := Value) (fun _ => True) (fun sl => sl) (fun sl => [Own sl 3 1 (leftX i X1).length (intsC (leftX i X1))]) rfl rfl rfl Try.call43 (fun w hw => rdLeft_spec pr i X1 w (h.rd.mono hw.off) (by omega)) rfl (fun sl2 _ => ?_)
        refine a_and (fun _ hw => hw.sub (by repeat (first | exact List.Sublist.slnil | exact List.Sublist.refl _ | apply List.Sublist.cons_cons | apply List.Sublist.cons))) ?_
        refine a_oneW 9 (by kernel_rfl) rfl rfl rfl ?_
        refine x_call0 (v := .bool true) rfl rfl rfl Try.call42 rfl (fun w hw => by have := sameInts_spec sl2 (.slice A6 (leftX i X1).length k6) (leftX i X1) (leftX i X1) w (own_rds (hw.mem (i := 0) rfl)) (own_rds (hw.mem (i := 1) rfl)) (by omega); rwa [decide_eq_true rfl] at this) ?_
        refine a_and (fun _ hw => hw.sub (by repeat (first | exact List.Sublist.slnil | exact List.Sublist.refl _ | apply List.Sublist.cons_cons | apply List.Sublist.cons))) ?_
        refine a_take 10 pan_cx (by kernel_rfl) (fun _ hw => hw.sub (by repeat (first | exact List.Sublist.slnil | exact List.Sublist.refl _ | apply List.Sublist.cons_cons | apply List.Sublist.cons))) rfl (by kernel_rfl) (by kernel_rfl) (v_pickT rfl rfl) rfl ?_
        refine a_take 11 pan_cx (by kernel_rfl) (fun _ hw => hw.sub (by repeat (first | exact List.Sublist.slnil | exact List.Sublist.refl _ | apply List.Sublist.cons_cons | apply List.Sublist.cons))) rfl (by kernel_rfl) (by kernel_rfl) (v_move rfl) rfl ?_
        refine a_want 12 pan_cx (by kernel_rfl) (fun _ hw => hw.sub (by repeat (first | exact List.Sublist.slnil | exact List.Sublist.refl _ | apply List.Sublist.cons_cons | apply List.Sublist.cons))) rfl (by kernel_rfl) (by kernel_rfl) rfl rfl (v_loadO Try.underlying62 rfl rfl (h9)) rfl ?_
        refine a_want 14 pan_cx (by kernel_rfl) (fun _ hw => hw.sub (by repeat (first | exact List.Sublist.slnil | exact List.Sublist.refl _ | apply List.Sublist.cons_cons | apply List.Sublist.cons))) rfl (by kernel_rfl) (by kernel_rfl) rfl rfl (v_move rfl) rfl ?_
        refine a_oneW 13 (by kernel_rfl) rfl rfl rfl ?_
        refine x_call (dst := some 50) (mc := []) (σ := Option Addr × Nat) (fun x => i ≤ x.2) (fun x => .slice x.1 i i) (fun x => [Own (.slice x.1 i x.2) 30 5 i (resL (resX i X1))]) rfl rfl rfl Try.call33 (fun w hw => rdResults_spec pr i X1 w (h.rd.mono hw.off) (by omega)) rfl (fun x hx => ?_); obtain ⟨ya, yk⟩ := x; dsimp only at hx; dsimp only
        refine a_and (fun _ hw => hw.sub (by repeat (first | exact List.Sublist.slnil | exact List.Sublist.refl _ | apply List.Sublist.cons_cons | apply List.Sublist.cons))) ?_
        refine a_oneW 15 (by kernel_rfl) rfl rfl rfl ?_
        refine x_call0 (v := .bool true) rfl rfl rfl Try.call30 rfl (fun w hw => by have := sameResults_spec (.slice ya i i) (.slice A7 i k7) (resX i X1) (resX i X1) w (by rw [resX_len]; exact rds_clip (own_rds (hw.mem (i := 0) rfl))) (by rw [resX_len]; exact own_rds (hw.mem (i := 3) rfl)) hrr hrr (by rw [resX_len]; omega); rwa [decide_eq_true rfl] at this) ?_
        refine a_and (fun _ hw => hw.sub (by repeat (first | exact List.Sublist.slnil | exact List.Sublist.refl _ | apply List.Sublist.cons_cons | apply List.Sublist.cons))) ?_
        refine a_take 16 pan_cx (by kernel_rfl) (fun _ hw => hw.sub (by repeat (first | exact List.Sublist.slnil | exact List.Sublist.refl _ | apply List.Sublist.cons_cons | apply List.Sublist.cons))) rfl (by kernel_rfl) (by kernel_rfl) (v_pickT rfl rfl) rfl ?_
        refine a_take 17 pan_cx (by kernel_rfl) (fun _ hw => hw.sub (by repeat (first | exact List.Sublist.slnil | exact List.Sublist.refl _ | apply List.Sublist.cons_cons | apply List.Sublist.cons))) rfl (by kernel_rfl) (by kernel_rfl) (v_move rfl) rfl ?_
        refine a_want 18 pan_cx (by kernel_rfl) (fun _ hw => hw.sub (by repeat (first | exact List.Sublist.slnil | exact List.Sublist.refl _ | apply List.Sublist.cons_cons | apply List.Sublist.cons))) rfl (by kernel_rfl) (by kernel_rfl) rfl rfl (v_loadO Try.underlying62 rfl rfl (h9)) rfl ?_
        refine a_want 19 pan_cx (by kernel_rfl) (fun _ hw => hw.sub (by repeat (first | exact List.Sublist.slnil | exact List.Sublist.refl _ | apply List.Sublist.cons_cons | apply List.Sublist.cons))) rfl (by kernel_rfl) (by kernel_rfl) rfl rfl (v_nilCheck rfl) rfl ?_
        refine a_want 20 pan_cx (by kernel_rfl) (fun _ hw => hw.sub (by repeat (first | exact List.Sublist.slnil | exact List.Sublist.refl _ | apply List.Sublist.cons_cons | apply List.Sublist.cons))) rfl (by kernel_rfl) (by kernel_rfl) rfl rfl (v_fieldAddrB (o := 0) Try.underlying70 rfl rfl Try.nz40 rfl) rfl ?_
        refine a_want 21 pan_cx (by kernel_rfl) (fun _ hw => hw.sub (by repeat (first | exact List.Sublist.slnil | exact List.Sublist.refl _ | apply List.Sublist.cons_cons | apply List.Sublist.cons))) rfl (by kernel_rfl) (by kernel_rfl) rfl rfl (v_loadO Try.underlying40 rfl rfl (htp)) rfl ?_
        refine a_want 23 pan_cx (by kernel_rfl) (fun _ hw => hw.sub (by repeat (first | exact List.Sublist.slnil | exact List.Sublist.refl _ | apply List.Sublist.cons_cons | apply List.Sublist.cons))) rfl (by kernel_rfl) (by kernel_rfl) rfl rfl (v_loadO Try.underlying41 rfl rfl (h12)) rfl ?_
        refine a_oneW 22 (by kernel_rfl) rfl rfl rfl ?_
        refine x_call0 (v := intsV (stateT T1)) rfl rfl rfl Try.call21 rfl (fun w hw => tabState_spec pt ht T1 w (h.tb1.mono hw.off) hn1) ?_
        refine a_and (fun _ hw => hw.sub (by repeat (first | exact List.Sublist.slnil | exact List.Sublist.refl _ | apply List.Sublist.cons_cons | apply List.Sublist.cons))) ?_
        refine a_oneW 24 (by kernel_rfl) rfl rfl rfl ?_
        refine x_call0 (v := intsV (stateT T1)) rfl rfl rfl Try.call44 rfl (fun w hw => by have := brdState_spec pb hb T2 w (h.tb2.mono hw.off) hn2; rwa [hst] at this) ?_
        refine a_and (fun _ hw => hw.sub (by repeat (first | exact List.Sublist.slnil | exact List.Sublist.refl _ | apply List.Sublist.cons_cons | apply List.Sublist.cons))) ?_
        refine a_want 25 pan_cx (by kernel_rfl) (fun _ hw => hw.sub (by repeat (first | exact List.Sublist.slnil | exact List.Sublist.refl _ | apply List.Sublist.cons_cons | apply List.Sublist.cons))) rfl (by kernel_rfl) (by kernel_rfl) rfl rfl (v_is (v' := .bool true) (v_eqlInts (p := stateT T1) (q := stateT T1) Try.underlying23 (by kernel_rfl) Try.underlying2 Try.hi2 Try.cz2 hsl hsl rfl rfl) (congrArg Value.bool (decide_eq_true rfl))) rfl ?_
        refine a_take 26 pan_cx (by kernel_rfl) (fun _ hw => hw.sub (by repeat (first | exact List.Sublist.slnil | exact List.Sublist.refl _ | apply List.Sublist.cons_cons | apply List.Sublist.cons))) rfl (by kernel_rfl) (by kernel_rfl) (v_pickT rfl rfl) rfl ?_
        refine a_take 27 pan_cx (by kernel_rfl) (fun _ hw => hw.sub (by repeat (first | exact List.Sublist.slnil | exact List.Sublist.refl _ | apply List.Sublist.cons_cons | apply List.Sublist.cons))) rfl (by kernel_rfl) (by kernel_rfl) (v_move rfl) rfl ?_
        refine a_want 28 pan_cx (by kernel_rfl) (fun _ hw => hw.sub (by repeat (first | exact List.Sublist.slnil | exact List.Sublist.refl _ | apply List.Sublist.cons_cons | apply List.Sublist.cons))) rfl (by kernel_rfl) (by kernel_rfl) rfl rfl (v_loadO Try.underlying62 rfl rfl (h9)) rfl ?_
        refine a_want 29 pan_cx (by kernel_rfl) (fun _ hw => hw.sub (by repeat (first | exact List.Sublist.slnil | exact List.Sublist.refl _ | apply List.Sublist.cons_cons | apply List.Sublist.cons))) rfl (by kernel_rfl) (by kernel_rfl) rfl rfl (v_nilCheck rfl) rfl ?_
        refine a_want 30 pan_cx (by kernel_rfl) (fun _ hw => hw.sub (by repeat (first | exact List.Sublist.slnil | exact List.Sublist.refl _ | apply List.Sublist.cons_cons | apply List.Sublist.cons))) rfl (by kernel_rfl) (by kernel_rfl) rfl rfl (v_fieldAddrB (o := 0) Try.underlying70 rfl rfl Try.nz40 rfl) rfl ?_
        refine a_want 31 pan_cx (by kernel_rfl) (fun _ hw => hw.sub (by repeat (first | exact List.Sublist.slnil | exact List.Sublist.refl _ | apply List.Sublist.cons_cons | apply List.Sublist.cons))) rfl (by kernel_rfl) (by kernel_rfl) rfl rfl (v_loadO Try.underlying40 rfl rfl (htp)) rfl ?_
        refine a_want 33 pan_cx (by kernel_rfl) (fun _ hw => hw.sub (by repeat (first | exact List.Sublist.slnil | exact List.Sublist.refl _ | apply List.Sublist.cons_cons | apply List.Sublist.cons))) rfl (by kernel_rfl) (by kernel_rfl) rfl rfl (v_loadO Try.underlying41 rfl rfl (h12)) rfl ?_
        refine a_oneW 32 (by kernel_rfl) rfl rfl rfl ?_
        refine x_call0 (v := .bool (overT T1)) rfl rfl rfl Try.call22 rfl (fun w hw => tabOver_spec pt ht T1 w (h.tb1.mono hw.off) hn1) ?_
        refine a_and (fun _ hw => hw.sub (by repeat (first | exact List.Sublist.slnil | exact List.Sublist.refl _ | apply List.Sublist.cons_cons | apply List.Sublist.cons))) ?_
        refine a_oneW 34 (by kernel_rfl) rfl rfl rfl ?_
        refine x_call0 (v := .bool (overT T1)) rfl rfl rfl Try.call45 rfl (fun w hw => by have := brdOver_spec pb hb T2 w (h.tb2.mono hw.off) hn2; rwa [hovt] at this) ?_
        refine a_and (fun _ hw => hw.sub (by repeat (first | exact List.Sublist.slnil | exact List.Sublist.refl _ | apply List.Sublist.cons_cons | apply List.Sublist.cons))) ?_
        refine a_want 35 pan_cx (by kernel_rfl) (fun _ hw => hw.sub (by repeat (first | exact List.Sublist.slnil | exact List.Sublist.refl _ | apply List.Sublist.cons_cons | apply List.Sublist.cons))) rfl (by kernel_rfl) (by kernel_rfl) rfl rfl (v_is (v' := .bool true) (v_eqlBool Try.underlying4 rfl rfl) (by simp)) rfl ?_
        refine a_take 36 pan_cx (by kernel_rfl) (fun _ hw => hw.sub (by repeat (first | exact List.Sublist.slnil | exact List.Sublist.refl _ | apply List.Sublist.cons_cons | apply List.Sublist.cons))) rfl (by kernel_rfl) (by kernel_rfl) (v_pickT rfl rfl) rfl ?_
        refine a_take 37 pan_cx (by kernel_rfl) (fun _ hw => hw.sub (by repeat (first | exact List.Sublist.slnil | exact List.Sublist.refl _ | apply List.Sublist.cons_cons | apply List.Sublist.cons))) rfl (by kernel_rfl) (by kernel_rfl) (v_move rfl) rfl ?_
        refine a_want 38 pan_cx (by kernel_rfl) (fun _ hw => hw.sub (by repeat (first | exact List.Sublist.slnil | exact List.Sublist.refl _ | apply List.Sublist.cons_cons | apply List.Sublist.cons))) rfl (by kernel_rfl) (by kernel_rfl) rfl rfl (v_loadO Try.underlying62 rfl rfl (h9)) rfl ?_
        refine a_want 39 pan_cx (by kernel_rfl) (fun _ hw => hw.sub (by repeat (first | exact List.Sublist.slnil | exact List.Sublist.refl _ | apply List.Sublist.cons_cons | apply List.Sublist.cons))) rfl (by kernel_rfl) (by kernel_rfl) rfl rfl (v_loadO Try.underlying3 rfl rfl (h7)) rfl ?_
        refine a_want 41 pan_cx (by kernel_rfl) (fun _ hw => hw.sub (by repeat (first | exact List.Sublist.slnil | exact List.Sublist.refl _ | apply List.Sublist.cons_cons | apply List.Sublist.cons))) rfl (by kernel_rfl) (by kernel_rfl) rfl rfl (v_loadO Try.underlying3 rfl rfl (h7)) rfl ?_
        refine a_want 42 pan_cx (by kernel_rfl) (fun _ hw => hw.sub (by repeat (first | exact List.Sublist.slnil | exact List.Sublist.refl _ | apply List.Sublist.cons_cons | apply List.Sublist.cons))) rfl (by kernel_rfl) (by kernel_rfl) rfl rfl (v_is (v' := .bool true) (v_geq rfl rfl) (by rw [decide_eq_true (by omega)])) rfl ?_
        refine a_oneW 40 (by kernel_rfl) rfl rfl rfl ?_
        refine x_call0 (v := .bool false) rfl rfl rfl Try.call34 rfl (fun w hw => by have := rdDone_spec pr i X1 by_ w (h.rd.mono hw.off) (by omega); rwa [e] at this) ?_
        refine a_and (fun _ hw => hw.sub (by repeat (first | exact List.Sublist.slnil | exact List.Sublist.refl _ | apply List.Sublist.cons_cons | apply List.Sublist.cons))) ?_
        refine a_want 43 pan_cx (by kernel_rfl) (fun _ hw => hw.sub (by repeat (first | exact List.Sublist.slnil | exact List.Sublist.refl _ | apply List.Sublist.cons_cons | apply List.Sublist.cons))) rfl (by kernel_rfl) (by kernel_rfl) rfl rfl (v_move rfl) rfl ?_
        refine a_want 44 pan_cx (by kernel_rfl) (fun _ hw => hw.sub (by repeat (first | exact List.Sublist.slnil | exact List.Sublist.refl _ | apply List.Sublist.cons_cons | apply List.Sublist.cons))) rfl (by kernel_rfl) (by kernel_rfl) rfl rfl (v_loadO Try.underlying3 rfl rfl (h7)) rfl ?_
        refine a_want 45 pan_cx (by kernel_rfl) (fun _ hw => hw.sub (by repeat (first | exact List.Sublist.slnil | exact List.Sublist.refl _ | apply List.Sublist.cons_cons | apply List.Sublist.cons))) rfl (by kernel_rfl) (by kernel_rfl) rfl rfl (v_loadO Try.underlying43 rfl rfl (h13)) rfl ?_
        refine a_want 46 pan_cx (by kernel_rfl) (fun _ hw => hw.sub (by repeat (first | exact List.Sublist.slnil | exact List.Sublist.refl _ | apply List.Sublist.cons_cons | apply List.Sublist.cons))) rfl (by kernel_rfl) (by kernel_rfl) rfl rfl (v_lenS Try.underlying43 rfl) rfl ?_
        refine a_want 47 pan_cx (by kernel_rfl) (fun _ hw => hw.sub (by repeat (first | exact List.Sublist.slnil | exact List.Sublist.refl _ | apply List.Sublist.cons_cons | apply List.Sublist.cons))) rfl (by kernel_rfl) (by kernel_rfl) rfl rfl (v_is (v' := .bool false) (v_lss rfl rfl) (by rw [decide_eq_false (by omega)])) rfl ?_
        refine a_want 48 pan_cx (by kernel_rfl) (fun _ hw => hw.sub (by repeat (first | exact List.Sublist.slnil | exact List.Sublist.refl _ | apply List.Sublist.cons_cons | apply List.Sublist.cons))) rfl (by kernel_rfl) (by kernel_rfl) rfl rfl (v_pickT rfl rfl) rfl ?_
        refine a_want 49 pan_cx (by kernel_rfl) (fun _ hw => hw.sub (by repeat (first | exact List.Sublist.slnil | exact List.Sublist.refl _ | apply List.Sublist.cons_cons | apply List.Sublist.cons))) rfl (by kernel_rfl) (by kernel_rfl) rfl rfl (v_move rfl) rfl ?_
        refine a_skip 50 pan_cx (by kernel_rfl) (fun _ hw => hw.sub (by repeat (first | exact List.Sublist.slnil | exact List.Sublist.refl _ | apply List.Sublist.cons_cons | apply List.Sublist.cons))) rfl (by kernel_rfl) (by kernel_rfl) rfl rfl rfl rfl ?_
        refine a_skip 51 pan_cx (by kernel_rfl) (fun _ hw => hw.sub (by repeat (first | exact List.Sublist.slnil | exact List.Sublist.refl _ | apply List.Sublist.cons_cons | apply List.Sublist.cons))) rfl (by kernel_rfl) (by kernel_rfl) rfl rfl rfl rfl ?_
        refine a_skip 52 pan_cx (by kernel_rfl) (fun _ hw => hw.sub (by repeat (first | exact List.Sublist.slnil | exact List.Sublist.refl _ | apply List.Sublist.cons_cons | apply List.Sublist.cons))) rfl (by kernel_rfl) (by kernel_rfl) rfl rfl rfl rfl ?_
        refine a_skip 53 pan_cx (by kernel_rfl) (fun _ hw => hw.sub (by repeat (first | exact List.Sublist.slnil | exact List.Sublist.refl _ | apply List.Sublist.cons_cons | apply List.Sublist.cons))) rfl (by kernel_rfl) (by kernel_rfl) rfl rfl rfl rfl ?_
        refine a_skip 54 pan_cx (by kernel_rfl) (fun _ hw => hw.sub (by repeat (first | exact List.Sublist.slnil | exact List.Sublist.refl _ | apply List.Sublist.cons_cons | apply List.Sublist.cons))) rfl (by kernel_rfl) (by kernel_rfl) rfl rfl rfl rfl ?_
        refine a_skip 55 pan_cx (by kernel_rfl) (fun _ hw => hw.sub (by repeat (first | exact List.Sublist.slnil | exact List.Sublist.refl _ | apply List.Sublist.cons_cons | apply List.Sublist.cons))) rfl (by kernel_rfl) (by kernel_rfl) rfl rfl rfl rfl ?_
        refine a_skip 56 pan_cx (by kernel_rfl) (fun _ hw => hw.sub (by repeat (first | exact List.Sublist.slnil | exact List.Sublist.refl _ | apply List.Sublist.cons_cons | apply List.Sublist.cons))) rfl (by kernel_rfl) (by kernel_rfl) rfl rfl rfl rfl ?_
        refine a_want 57 pan_cx (by kernel_rfl) (fun _ hw => hw.sub (by repeat (first | exact List.Sublist.slnil | exact List.Sublist.refl _ | apply List.Sublist.cons_cons | apply List.Sublist.cons))) rfl (by kernel_rfl) (by kernel_rfl) rfl rfl (v_pickF rfl rfl) rfl ?_
        refine a_want 58 pan_cx (by kernel_rfl) (fun _ hw => hw.sub (by repeat (first | exact List.Sublist.slnil | exact List.Sublist.refl _ | apply List.Sublist.cons_cons | apply List.Sublist.cons))) rfl (by kernel_rfl) (by kernel_rfl) rfl rfl (v_is (v' := .bool true) (v_eqlBool Try.underlying4 rfl rfl) rfl) rfl ?_
        refine a_take 59 pan_cx (by kernel_rfl) (fun _ hw => hw.sub (by repeat (first | exact List.Sublist.slnil | exact List.Sublist.refl _ | apply List.Sublist.cons_cons | apply List.Sublist.cons))) rfl (by kernel_rfl) (by kernel_rfl) (v_pickT rfl rfl) rfl ?_
        refine a_take 60 pan_cx (by kernel_rfl) (fun _ hw => hw.sub (by repeat (first | exact List.Sublist.slnil | exact List.Sublist.refl _ | apply List.Sublist.cons_cons | apply List.Sublist.cons))) rfl (by kernel_rfl) (by kernel_rfl) (v_assign rfl) rfl ?_
        refine a_done (by kernel_rfl) ?_
        refine e_retQ (q_ret1 rfl (.tmp rfl) ?_)
        exact fun w' hw' => ⟨rfl, hw'.res.nil⟩
      · obtain ⟨j, rfl⟩ : ∃ j : Nat, by_ = j := ⟨by_.toNat, by omega⟩
        have hj : j < i := by omega
        obtain ⟨ad, rfl⟩ := hA (by omega)
        have hc := hcell j hj ad rfl
        have hov2 := (hhd j hj).ov
        rw [← hov j hj] at hov2
        refine e_exit rfl ?_
        refine e_seq ?_
        refine e_draw ([]) Try.mixed ?_
        refine a_take 0 pan_cx (by kernel_rfl) (fun _ hw => hw.sub (by repeat (first | exact List.Sublist.slnil | exact List.Sublist.refl _ | apply List.Sublist.cons_cons | apply List.Sublist.cons))) rfl (by kernel_rfl) (by kernel_rfl) (v_loadO Try.underlying62 rfl rfl (h9)) rfl ?_
        refine a_take 2 pan_cx (by kernel_rfl) (fun _ hw => hw.sub (by repeat (first | exact List.Sublist.slnil | exact List.Sublist.refl _ | apply List.Sublist.cons_cons | apply List.Sublist.cons))) rfl (by kernel_rfl) (by kernel_rfl) (v_loadO Try.underlying38 rfl rfl (h5)) rfl ?_
        refine a_take 3 pan_cx (by kernel_rfl) (fun _ hw => hw.sub (by repeat (first | exact List.Sublist.slnil | exact List.Sublist.refl _ | apply List.Sublist.cons_cons | apply List.Sublist.cons))) rfl (by kernel_rfl) (by kernel_rfl) (v_lenS Try.underlying38 rfl) rfl ?_
        refine a_one 1 (by kernel_rfl) rfl rfl ?_
        refine x_call0 (v := .int .i64 (i : Int)) rfl rfl rfl Try.call41 rfl (fun w hw => rdLen_spec pr i X1 w (h.rd.mono hw.off)) ?_
        refine a_and (fun _ hw => hw.sub (by repeat (first | exact List.Sublist.slnil | exact List.Sublist.refl _ | apply List.Sublist.cons_cons | apply List.Sublist.cons))) ?_
        refine a_take 4 pan_cx (by kernel_rfl) (fun _ hw => hw.sub (by repeat (first | exact List.Sublist.slnil | exact List.Sublist.refl _ | apply List.Sublist.cons_cons | apply List.Sublist.cons))) rfl (by kernel_rfl) (by kernel_rfl) (v_is (v' := .bool true) (v_eql rfl rfl) (by rw [decide_eq_true rfl])) rfl ?_
        refine a_take 5 pan_cx (by kernel_rfl) (fun _ hw => hw.sub (by repeat (first | exact List.Sublist.slnil | exact List.Sublist.refl _ | apply List.Sublist.cons_cons | apply List.Sublist.cons))) rfl (by kernel_rfl) (by kernel_rfl) (v_move rfl) rfl ?_
        refine a_want 6 pan_cx (by kernel_rfl) (fun _ hw => hw.sub (by repeat (first | exact List.Sublist.slnil | exact List.Sublist.refl _ | apply List.Sublist.cons_cons | apply List.Sublist.cons))) rfl (by kernel_rfl) (by kernel_rfl) rfl rfl (v_loadO Try.underlying62 rfl rfl (h9)) rfl ?_
        refine a_want 8 pan_cx (by kernel_rfl) (fun _ hw => hw.sub (by repeat (first | exact List.Sublist.slnil | exact List.Sublist.refl _ | apply List.Sublist.cons_cons | apply List.Sublist.cons))) rfl (by kernel_rfl) (by kernel_rfl) rfl rfl (v_move rfl) rfl ?_
        refine a_oneW 7 (by kernel_rfl) rfl rfl rfl ?_
        refine x_call (dst := some 44) (mc := []) (σ := Value) (fun _ => True) (fun sl => sl) (fun sl => [Own sl 3 1 (leftX i X1).length (intsC (leftX i X1))]) rfl rfl rfl Try.call43 (fun w hw => rdLeft_spec pr i X1 w (h.rd.mono hw.off) (by omega)) rfl (fun sl2 _ => ?_)
        refine a_and (fun _ hw => hw.sub (by repeat (first | exact List.Sublist.slnil | exact List.Sublist.refl _ | apply List.Sublist.cons_cons | apply List.Sublist.cons))) ?_
        refine a_oneW 9 (by kernel_rfl) rfl rfl rfl ?_
        refine x_call0 (v := .bool true) rfl rfl rfl Try.call42 rfl (fun w hw => by have := sameInts_spec sl2 (.slice A6 (leftX i X1).length k6) (leftX i X1) (leftX i X1) w (own_rds (hw.mem (i := 0) rfl)) (own_rds (hw.mem (i := 1) rfl)) (by omega); rwa [decide_eq_true rfl] at this) ?_
        refine a_and (fun _ hw => hw.sub (by repeat (first | exact List.Sublist.slnil | exact List.Sublist.refl _ | apply List.Sublist.cons_cons | apply List.Sublist.cons))) ?_
        refine a_take 10 pan_cx (by kernel_rfl) (fun _ hw => hw.sub (by repeat (first | exact List.Sublist.slnil | exact List.Sublist.refl _ | apply List.Sublist.cons_cons | apply List.Sublist.cons))) rfl (by kernel_rfl) (by kernel_rfl) (v_pickT rfl rfl) rfl ?_
        refine a_take 11 pan_cx (by kernel_rfl) (fun _ hw => hw.sub (by repeat (first | exact List.Sublist.slnil | exact List.Sublist.refl _ | apply List.Sublist.cons_cons | apply List.Sublist.cons))) rfl (by kernel_rfl) (by kernel_rfl) (v_move rfl) rfl ?_
        refine a_want 12 pan_cx (by kernel_rfl) (fun _ hw => hw.sub (by repeat (first | exact List.Sublist.slnil | exact List.Sublist.refl _ | apply List.Sublist.cons_cons | apply List.Sublist.cons))) rfl (by kernel_rfl) (by kernel_rfl) rfl rfl (v_loadO Try.underlying62 rfl rfl (h9)) rfl ?_
        refine a_want 14 pan_cx (by kernel_rfl) (fun _ hw => hw.sub (by repeat (first | exact List.Sublist.slnil | exact List.Sublist.refl _ | apply List.Sublist.cons_cons | apply List.Sublist.cons))) rfl (by kernel_rfl) (by kernel_rfl) rfl rfl (v_move rfl) rfl ?_
        refine a_oneW 13 (by kernel_rfl) rfl rfl rfl ?_
        refine x_call (dst := some 50) (mc := []) (σ := Option Addr × Nat) (fun x => i ≤ x.2) (fun x => .slice x.1 i i) (fun x => [Own (.slice x.1 i x.2) 30 5 i (resL (resX i X1))]) rfl rfl rfl Try.call33 (fun w hw => rdResults_spec pr i X1 w (h.rd.mono hw.off) (by omega)) rfl (fun x hx => ?_); obtain ⟨ya, yk⟩ := x; dsimp only at hx; dsimp only
        refine a_and (fun _ hw => hw.sub (by repeat (first | exact List.Sublist.slnil | exact List.Sublist.refl _ | apply List.Sublist.cons_cons | apply List.Sublist.cons))) ?_
        refine a_oneW 15 (by kernel_rfl) rfl rfl rfl ?_
        refine x_call0 (v := .bool true) rfl rfl rfl Try.call30 rfl (fun w hw => by have := sameResults_spec (.slice ya i i) (.slice A7 i k7) (resX i X1) (resX i X1) w (by rw [resX_len]; exact rds_clip (own_rds (hw.mem (i := 0) rfl))) (by rw [resX_len]; exact own_rds (hw.mem (i := 3) rfl)) hrr hrr (by rw [resX_len]; omega); rwa [decide_eq_true rfl] at this) ?_
        refine a_and (fun _ hw => hw.sub (by repeat (first | exact List.Sublist.slnil | exact List.Sublist.refl _ | apply List.Sublist.cons_cons | apply List.Sublist.cons))) ?_
        refine a_take 16 pan_cx (by kernel_rfl) (fun _ hw => hw.sub (by repeat (first | exact List.Sublist.slnil | exact List.Sublist.refl _ | apply List.Sublist.cons_cons | apply List.Sublist.cons))) rfl (by kernel_rfl) (by kernel_rfl) (v_pickT rfl rfl) rfl ?_
        refine a_take 17 pan_cx (by kernel_rfl) (fun _ hw => hw.sub (by repeat (first | exact List.Sublist.slnil | exact List.Sublist.refl _ | apply List.Sublist.cons_cons | apply List.Sublist.cons))) rfl (by kernel_rfl) (by kernel_rfl) (v_move rfl) rfl ?_
        refine a_want 18 pan_cx (by kernel_rfl) (fun _ hw => hw.sub (by repeat (first | exact List.Sublist.slnil | exact List.Sublist.refl _ | apply List.Sublist.cons_cons | apply List.Sublist.cons))) rfl (by kernel_rfl) (by kernel_rfl) rfl rfl (v_loadO Try.underlying62 rfl rfl (h9)) rfl ?_
        refine a_want 19 pan_cx (by kernel_rfl) (fun _ hw => hw.sub (by repeat (first | exact List.Sublist.slnil | exact List.Sublist.refl _ | apply List.Sublist.cons_cons | apply List.Sublist.cons))) rfl (by kernel_rfl) (by kernel_rfl) rfl rfl (v_nilCheck rfl) rfl ?_
        refine a_want 20 pan_cx (by kernel_rfl) (fun _ hw => hw.sub (by repeat (first | exact List.Sublist.slnil | exact List.Sublist.refl _ | apply List.Sublist.cons_cons | apply List.Sublist.cons))) rfl (by kernel_rfl) (by kernel_rfl) rfl rfl (v_fieldAddrB (o := 0) Try.underlying70 rfl rfl Try.nz40 rfl) rfl ?_
        refine a_want 21 pan_cx (by kernel_rfl) (fun _ hw => hw.sub (by repeat (first | exact List.Sublist.slnil | exact List.Sublist.refl _ | apply List.Sublist.cons_cons | apply List.Sublist.cons))) rfl (by kernel_rfl) (by kernel_rfl) rfl rfl (v_loadO Try.underlying40 rfl rfl (htp)) rfl ?_
        refine a_want 23 pan_cx (by kernel_rfl) (fun _ hw => hw.sub (by repeat (first | exact List.Sublist.slnil | exact List.Sublist.refl _ | apply List.Sublist.cons_cons | apply List.Sublist.cons))) rfl (by kernel_rfl) (by kernel_rfl) rfl rfl (v_loadO Try.underlying41 rfl rfl (h12)) rfl ?_
        refine a_oneW 22 (by kernel_rfl) rfl rfl rfl ?_
        refine x_call0 (v := intsV (stateT T1)) rfl rfl rfl Try.call21 rfl (fun w hw => tabState_spec pt ht T1 w (h.tb1.mono hw.off) hn1) ?_
        refine a_and (fun _ hw => hw.sub (by repeat (first | exact List.Sublist.slnil | exact List.Sublist.refl _ | apply List.Sublist.cons_cons | apply List.Sublist.cons))) ?_
        refine a_oneW 24 (by kernel_rfl) rfl rfl rfl ?_
        refine x_call0 (v := intsV (stateT T1)) rfl rfl rfl Try.call44 rfl (fun w hw => by have := brdState_spec pb hb T2 w (h.tb2.mono hw.off) hn2; rwa [hst] at this) ?_
        refine a_and (fun _ hw => hw.sub (by repeat (first | exact List.Sublist.slnil | exact List.Sublist.refl _ | apply List.Sublist.cons_cons | apply List.Sublist.cons))) ?_
        refine a_want 25 pan_cx (by kernel_rfl) (fun _ hw => hw.sub (by repeat (first | exact List.Sublist.slnil | exact List.Sublist.refl _ | apply List.Sublist.cons_cons | apply List.Sublist.cons))) rfl (by kernel_rfl) (by kernel_rfl) rfl rfl (v_is (v' := .bool true) (v_eqlInts (p := stateT T1) (q := stateT T1) Try.underlying23 (by kernel_rfl) Try.underlying2 Try.hi2 Try.cz2 hsl hsl rfl rfl) (congrArg Value.bool (decide_eq_true rfl))) rfl ?_
        refine a_take 26 pan_cx (by kernel_rfl) (fun _ hw => hw.sub (by repeat (first | exact List.Sublist.slnil | exact List.Sublist.refl _ | apply List.Sublist.cons_cons | apply List.Sublist.cons))) rfl (by kernel_rfl) (by kernel_rfl) (v_pickT rfl rfl) rfl ?_
        refine a_take 27 pan_cx (by kernel_rfl) (fun _ hw => hw.sub (by repeat (first | exact List.Sublist.slnil | exact List.Sublist.refl _ | apply List.Sublist.cons_cons | apply List.Sublist.cons))) rfl (by kernel_rfl) (by kernel_rfl) (v_move rfl) rfl ?_
        refine a_want 28 pan_cx (by kernel_rfl) (fun _ hw => hw.sub (by repeat (first | exact List.Sublist.slnil | exact List.Sublist.refl _ | apply List.Sublist.cons_cons | apply List.Sublist.cons))) rfl (by kernel_rfl) (by kernel_rfl) rfl rfl (v_loadO Try.underlying62 rfl rfl (h9)) rfl ?_
        refine a_want 29 pan_cx (by kernel_rfl) (fun _ hw => hw.sub (by repeat (first | exact List.Sublist.slnil | exact List.Sublist.refl _ | apply List.Sublist.cons_cons | apply List.Sublist.cons))) rfl (by kernel_rfl) (by kernel_rfl) rfl rfl (v_nilCheck rfl) rfl ?_
        refine a_want 30 pan_cx (by kernel_rfl) (fun _ hw => hw.sub (by repeat (first | exact List.Sublist.slnil | exact List.Sublist.refl _ | apply List.Sublist.cons_cons | apply List.Sublist.cons))) rfl (by kernel_rfl) (by kernel_rfl) rfl rfl (v_fieldAddrB (o := 0) Try.underlying70 rfl rfl Try.nz40 rfl) rfl ?_
        refine a_want 31 pan_cx (by kernel_rfl) (fun _ hw => hw.sub (by repeat (first | exact List.Sublist.slnil | exact List.Sublist.refl _ | apply List.Sublist.cons_cons | apply List.Sublist.cons))) rfl (by kernel_rfl) (by kernel_rfl) rfl rfl (v_loadO Try.underlying40 rfl rfl (htp)) rfl ?_
        refine a_want 33 pan_cx (by kernel_rfl) (fun _ hw => hw.sub (by repeat (first | exact List.Sublist.slnil | exact List.Sublist.refl _ | apply List.Sublist.cons_cons | apply List.Sublist.cons))) rfl (by kernel_rfl) (by kernel_rfl) rfl rfl (v_loadO Try.underlying41 rfl rfl (h12)) rfl ?_
        refine a_oneW 32 (by kernel_rfl) rfl rfl rfl ?_
        refine x_call0 (v := .bool (overT T1)) rfl rfl rfl Try.call22 rfl (fun w hw => tabOver_spec pt ht T1 w (h.tb1.mono hw.off) hn1) ?_
        refine a_and (fun _ hw => hw.sub (by repeat (first | exact List.Sublist.slnil | exact List.Sublist.refl _ | apply List.Sublist.cons_cons | apply List.Sublist.cons))) ?_
        refine a_oneW 34 (by kernel_rfl) rfl rfl rfl ?_
        refine x_call0 (v := .bool (overT T1)) rfl rfl rfl Try.call45 rfl (fun w hw => by have := brdOver_spec pb hb T2 w (h.tb2.mono hw.off) hn2; rwa [hovt] at this) ?_
        refine a_and (fun _ hw => hw.sub (by repeat (first | exact List.Sublist.slnil | exact List.Sublist.refl _ | apply List.Sublist.cons_cons | apply List.Sublist.cons))) ?_
        refine a_want 35 pan_cx (by kernel_rfl) (fun _ hw => hw.sub (by repeat (first | exact List.Sublist.slnil | exact List.Sublist.refl _ | apply List.Sublist.cons_cons | apply List.Sublist.cons))) rfl (by kernel_rfl) (by kernel_rfl) rfl rfl (v_is (v' := .bool true) (v_eqlBool Try.underlying4 rfl rfl) (by simp)) rfl ?_
        refine a_take 36 pan_cx (by kernel_rfl) (fun _ hw => hw.sub (by repeat (first | exact List.Sublist.slnil | exact List.Sublist.refl _ | apply List.Sublist.cons_cons | apply List.Sublist.cons))) rfl (by kernel_rfl) (by kernel_rfl) (v_pickT rfl rfl) rfl ?_
        refine a_take 37 pan_cx (by kernel_rfl) (fun _ hw => hw.sub (by repeat (first | exact List.Sublist.slnil | exact List.Sublist.refl _ | apply List.Sublist.cons_cons | apply List.Sublist.cons))) rfl (by kernel_rfl) (by kernel_rfl) (v_move rfl) rfl ?_
        refine a_want 38 pan_cx (by kernel_rfl) (fun _ hw => hw.sub (by repeat (first | exact List.Sublist.slnil | exact List.Sublist.refl _ | apply List.Sublist.cons_cons | apply List.Sublist.cons))) rfl (by kernel_rfl) (by kernel_rfl) rfl rfl (v_loadO Try.underlying62 rfl rfl (h9)) rfl ?_
        refine a_want 39 pan_cx (by kernel_rfl) (fun _ hw => hw.sub (by repeat (first | exact List.Sublist.slnil | exact List.Sublist.refl _ | apply List.Sublist.cons_cons | apply List.Sublist.cons))) rfl (by kernel_rfl) (by kernel_rfl) rfl rfl (v_loadO Try.underlying3 rfl rfl (h7)) rfl ?_
        refine a_want 41 pan_cx (by kernel_rfl) (fun _ hw => hw.sub (by repeat (first | exact List.Sublist.slnil | exact List.Sublist.refl _ | apply List.Sublist.cons_cons | apply List.Sublist.cons))) rfl (by kernel_rfl) (by kernel_rfl) rfl rfl (v_loadO Try.underlying3 rfl rfl (h7)) rfl ?_
        refine a_want 42 pan_cx (by kernel_rfl) (fun _ hw => hw.sub (by repeat (first | exact List.Sublist.slnil | exact List.Sublist.refl _ | apply List.Sublist.cons_cons | apply List.Sublist.cons))) rfl (by kernel_rfl) (by kernel_rfl) rfl rfl (v_is (v' := .bool true) (v_geq rfl rfl) (by rw [decide_eq_true (by omega)])) rfl ?_
        refine a_oneW 40 (by kernel_rfl) rfl rfl rfl ?_
        refine x_call0 (v := .bool (X1 j).ov) rfl rfl rfl Try.call34 rfl (fun w hw => by have := rdDone_spec pr i X1 j w (h.rd.mono hw.off) (by omega); rwa [doneX_at hj] at this) ?_
        refine a_and (fun _ hw => hw.sub (by repeat (first | exact List.Sublist.slnil | exact List.Sublist.refl _ | apply List.Sublist.cons_cons | apply List.Sublist.cons))) ?_
        refine a_want 43 pan_cx (by kernel_rfl) (fun _ hw => hw.sub (by repeat (first | exact List.Sublist.slnil | exact List.Sublist.refl _ | apply List.Sublist.cons_cons | apply List.Sublist.cons))) rfl (by kernel_rfl) (by kernel_rfl) rfl rfl (v_move rfl) rfl ?_
        refine a_want 44 pan_cx (by kernel_rfl) (fun _ hw => hw.sub (by repeat (first | exact List.Sublist.slnil | exact List.Sublist.refl _ | apply List.Sublist.cons_cons | apply List.Sublist.cons))) rfl (by kernel_rfl) (by kernel_rfl) rfl rfl (v_loadO Try.underlying3 rfl rfl (h7)) rfl ?_
        refine a_want 45 pan_cx (by kernel_rfl) (fun _ hw => hw.sub (by repeat (first | exact List.Sublist.slnil | exact List.Sublist.refl _ | apply List.Sublist.cons_cons | apply List.Sublist.cons))) rfl (by kernel_rfl) (by kernel_rfl) rfl rfl (v_loadO Try.underlying43 rfl rfl (h13)) rfl ?_
        refine a_want 46 pan_cx (by kernel_rfl) (fun _ hw => hw.sub (by repeat (first | exact List.Sublist.slnil | exact List.Sublist.refl _ | apply List.Sublist.cons_cons | apply List.Sublist.cons))) rfl (by kernel_rfl) (by kernel_rfl) rfl rfl (v_lenS Try.underlying43 rfl) rfl ?_
        refine a_want 47 pan_cx (by kernel_rfl) (fun _ hw => hw.sub (by repeat (first | exact List.Sublist.slnil | exact List.Sublist.refl _ | apply List.Sublist.cons_cons | apply List.Sublist.cons))) rfl (by kernel_rfl) (by kernel_rfl) rfl rfl (v_is (v' := .bool true) (v_lss rfl rfl) (by rw [decide_eq_true (by omega)])) rfl ?_
        refine a_want 48 pan_cx (by kernel_rfl) (fun _ hw => hw.sub (by repeat (first | exact List.Sublist.slnil | exact List.Sublist.refl _ | apply List.Sublist.cons_cons | apply List.Sublist.cons))) rfl (by kernel_rfl) (by kernel_rfl) rfl rfl (v_pickT rfl rfl) rfl ?_
        refine a_want 49 pan_cx (by kernel_rfl) (fun _ hw => hw.sub (by repeat (first | exact List.Sublist.slnil | exact List.Sublist.refl _ | apply List.Sublist.cons_cons | apply List.Sublist.cons))) rfl (by kernel_rfl) (by kernel_rfl) rfl rfl (v_move rfl) rfl ?_
        refine a_want 50 pan_cx (by kernel_rfl) (fun _ hw => hw.sub (by repeat (first | exact List.Sublist.slnil | exact List.Sublist.refl _ | apply List.Sublist.cons_cons | apply List.Sublist.cons))) rfl (by kernel_rfl) (by kernel_rfl) rfl rfl (v_loadO Try.underlying43 rfl rfl (h13)) rfl ?_
        refine a_want 51 pan_cx (by kernel_rfl) (fun _ hw => hw.sub (by repeat (first | exact List.Sublist.slnil | exact List.Sublist.refl _ | apply List.Sublist.cons_cons | apply List.Sublist.cons))) rfl (by kernel_rfl) (by kernel_rfl) rfl rfl (v_loadO Try.underlying3 rfl rfl (h7)) rfl ?_
        refine a_want 52 pan_cx (by kernel_rfl) (fun _ hw => hw.sub (by repeat (first | exact List.Sublist.slnil | exact List.Sublist.refl _ | apply List.Sublist.cons_cons | apply List.Sublist.cons))) rfl (by kernel_rfl) (by kernel_rfl) rfl rfl (v_indexS Try.underlying43 Try.hi79 Try.cz79 rfl rfl (by first | omega | decide)) rfl ?_
        refine a_want 53 pan_cx (by kernel_rfl) (fun _ hw => hw.sub (by repeat (first | exact List.Sublist.slnil | exact List.Sublist.refl _ | apply List.Sublist.cons_cons | apply List.Sublist.cons))) rfl (by kernel_rfl) (by kernel_rfl) rfl rfl (v_loadO Try.underlying79 rfl rfl (hc)) rfl ?_
        refine a_want 54 pan_cx (by kernel_rfl) (fun _ hw => hw.sub (by repeat (first | exact List.Sublist.slnil | exact List.Sublist.refl _ | apply List.Sublist.cons_cons | apply List.Sublist.cons))) rfl (by kernel_rfl) (by kernel_rfl) rfl rfl (v_nilCheck rfl) rfl ?_
        refine a_want 55 pan_cx (by kernel_rfl) (fun _ hw => hw.sub (by repeat (first | exact List.Sublist.slnil | exact List.Sublist.refl _ | apply List.Sublist.cons_cons | apply List.Sublist.cons))) rfl (by kernel_rfl) (by kernel_rfl) rfl rfl (v_fieldAddrB (o := 8) Try.underlying81 rfl rfl Try.nz4 rfl) rfl ?_
        refine a_want 56 pan_cx (by kernel_rfl) (fun _ hw => hw.sub (by repeat (first | exact List.Sublist.slnil | exact List.Sublist.refl _ | apply List.Sublist.cons_cons | apply List.Sublist.cons))) rfl (by kernel_rfl) (by kernel_rfl) rfl rfl (v_loadO Try.underlying4 rfl rfl (hov2)) rfl ?_
        refine a_want 57 pan_cx (by kernel_rfl) (fun _ hw => hw.sub (by repeat (first | exact List.Sublist.slnil | exact List.Sublist.refl _ | apply List.Sublist.cons_cons | apply List.Sublist.cons))) rfl (by kernel_rfl) (by kernel_rfl) rfl rfl (v_pickT rfl rfl) rfl ?_
        refine a_want 58 pan_cx (by kernel_rfl) (fun _ hw => hw.sub (by repeat (first | exact List.Sublist.slnil | exact List.Sublist.refl _ | apply List.Sublist.cons_cons | apply List.Sublist.cons))) rfl (by kernel_rfl) (by kernel_rfl) rfl rfl (v_is (v' := .bool true) (v_eqlBool Try.underlying4 rfl rfl) (by simp)) rfl ?_
        refine a_take 59 pan_cx (by kernel_rfl) (fun _ hw => hw.sub (by repeat (first | exact List.Sublist.slnil | exact List.Sublist.refl _ | apply List.Sublist.cons_cons | apply List.Sublist.cons))) rfl (by kernel_rfl) (by kernel_rfl) (v_pickT rfl rfl) rfl ?_
        refine a_take 60 pan_cx (by kernel_rfl) (fun _ hw => hw.sub (by repeat (first | exact List.Sublist.slnil | exact List.Sublist.refl _ | apply List.Sublist.cons_cons | apply List.Sublist.cons))) rfl (by kernel_rfl) (by kernel_rfl) (v_assign rfl) rfl ?_
        refine a_done (by kernel_rfl) ?_
        refine e_retQ (q_ret1 rfl (.tmp rfl) ?_)
        exact fun w' hw' => ⟨rfl, hw'.res.nil⟩
end Go.SL

