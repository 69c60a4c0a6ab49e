/- Ytebdkaadbakhlac: part LX6 of this seat's own texts. -/
import Derived.Test.YtebdkaadbakhlacW6
set_option linter.unusedVariables false
set_option linter.unusedSimpArgs false

open Go Go.Proofs Go.SL
set_option maxRecDepth 100000
namespace Go.SL
/-- a scroll that is the first part of something greater -/
abbrev scX (s e0 : Nat) (tl : List Value) (lv : Value) (k : Nat) : Chunk := .blk s e0 (lv :: .int .i64 (k : Int) :: tl)
abbrev scHX (s e0 : Nat) (tl : List Value) (lv : Value) (L : List RoundL) (k : Nat) (vs : List Value) (G : Nat → Prop) : Hp := [scX s e0 tl lv k, Rw lv 38 1 L.length vs, Keep G (Rounds vs L)]
theorem ScV.ofX {s e0 : Nat} {tl : List Value} {lv : Value} {L : List RoundL} {k : Nat} {vs : List Value} {G : Nat → Prop} {w : World} (h : ∀ c ∈ scHX s e0 tl lv L k vs G, c.holds w) : ScV w.cell? s lv L k vs :=
  ⟨blk_cells (h _ (List.mem_cons_self ..)) 0 (fun j v hj => by
    match j with
    | 0 => simpa using hj
    | 1 => simpa using hj
    | j + 2 => simp at hj), row_rds (h _ (List.mem_cons_of_mem _ (List.mem_cons_self ..))), keep_all (Rounds.up _ _) (h _ (List.mem_cons_of_mem _ (List.mem_cons_of_mem _ (List.mem_cons_self ..))))⟩
theorem scPutX_spec (s e0 : Nat) (tl : List Value) (lv : Value) (L : List RoundL) (k : Nat) (vs : List Value) (G : Nat → Prop) (v : Value) (r : RoundL) (w : World) (h : ∀ c ∈ scHX s e0 tl lv L k vs G, c.holds w) (hsep : (scHX s e0 tl lv L k vs G).Pairwise Disj) (hok : LogOk L k)
    (hr : IsRound (off w (feet (scHX s e0 tl lv L k vs G))) v r) (hin : ∀ d ∈ r, ∀ o ∈ d, OpIn o) :
    Calls Try.prog 86 #[.pointer (some ⟨s, 0, none⟩), v] w fun e w' => ∃ x : Value × List Value × (Nat → Prop), True ∧ e = .returned (.tuple #[.int .i64 (putL L r).2.1, .int .i64 (putL L r).2.2]) ∧ Res w (scHX s e0 tl lv L k vs G) (scHX s e0 tl x.1 (putL L r).1 k x.2.1 x.2.2) w' := by
  have hB := hok.bytes
  have h25 := hok.len
  obtain ⟨A, kp, rfl, hle, _⟩ := hr.form
  refine enter (mc := scHX s e0 tl lv L k vs G) (N := 50) Try.func86 rfl rfl rfl ?_ ?_ ?_
  · exact h
  · exact hsep
  refine g_shapeR2 1 rfl fun Al kl hlv hkl _ => ?_
  subst hlv
  refine e_seq ?_
  refine e_region ?_
  refine w_val (v_assign rfl) rfl ?_
  refine w_val (v_assign rfl) rfl ?_
  refine w_nil ?_
  refine e_seq ?_
  refine e_seq ?_
  refine e_region ?_
  refine w_val (v_move rfl) rfl ?_
  refine w_op rfl ?_
  refine x_call0 (v := .int .i64 (roundFaultL r)) rfl rfl rfl Try.call25 rfl (fun w hw => RoundFault_spec _ r w (hr.mono hw.off)) ?_
  refine w_val (v_assign rfl) rfl ?_
  refine w_nil ?_
  refine e_seq ?_
  refine e_region ?_
  refine w_val (v_move rfl) rfl ?_
  refine w_val (v_neq rfl rfl) rfl ?_
  refine w_nil ?_
  by_cases hf : roundFaultL r ≠ 0
  · rw [putL_bad hf]
    refine e_condDT rfl (by omega) ?_
    refine e_seq ?_
    refine e_region ?_
    refine w_val (v_move rfl) rfl ?_
    refine w_val (v_assign rfl) rfl ?_
    refine w_val (v_assign rfl) rfl ?_
    refine w_nil ?_
    refine e_retQ (q_ret2 rfl (.tmp rfl) (.tmp rfl) ?_)
    exact fun w' hw' => ⟨(.slice Al L.length kl, vs, G), trivial, rfl, hw'.res⟩
  · have hok2 := okRound_of (by omega) hin
    have hlen := encL_len r
    have hlen2 := encBody_len hok2
    have hlen3 := encL_pos r
    have hsm := small_of (z := r) (by omega)
    by_cases hl25 : L.length = 25
    · rw [putL_full hf (.inl hl25)]
      refine e_condDF rfl (by omega) ?_
      refine e_skip ?_
      refine e_seq ?_
      refine e_seq ?_
      refine e_region ?_
      refine w_val (v_move rfl) rfl ?_
      refine w_val (v_nilCheck rfl) rfl ?_
      refine w_val (v_fieldAddrB (o := 0) Try.underlying95 rfl rfl Try.nz93 rfl) rfl ?_
      refine w_val (v_loadB 0 rfl Try.underlying93 rfl rfl rfl) rfl ?_
      refine w_val (v_lenS Try.underlying93 rfl) rfl ?_
      refine w_val (v_is (v' := .bool true) (v_geq rfl rfl) (by rw [decide_eq_true (by omega)])) rfl ?_
      refine w_val (v_move rfl) rfl ?_
      refine w_skip rfl rfl rfl rfl ?_
      refine w_skip rfl rfl rfl rfl ?_
      refine w_skip rfl rfl rfl rfl ?_
      refine w_skip rfl rfl rfl rfl ?_
      refine w_skip rfl rfl rfl rfl ?_
      refine w_skip rfl rfl rfl rfl ?_
      refine w_skip rfl rfl rfl rfl ?_
      refine w_skip rfl rfl rfl rfl ?_
      refine w_skip rfl rfl rfl rfl ?_
      refine w_skip rfl rfl rfl rfl ?_
      refine w_skip rfl rfl rfl rfl ?_
      refine w_skip rfl rfl rfl rfl ?_
      refine w_skip rfl rfl rfl rfl ?_
      refine w_val (v_pickT rfl rfl) rfl ?_
      refine w_nil ?_
      refine e_condT rfl ?_
      refine e_seq ?_
      refine e_region ?_
      refine w_val (v_assign rfl) rfl ?_
      refine w_val (v_assign rfl) rfl ?_
      refine w_nil ?_
      refine e_retQ (q_ret2 rfl (.tmp rfl) (.tmp rfl) ?_)
      exact fun w' hw' => ⟨(.slice Al L.length kl, vs, G), trivial, rfl, hw'.res⟩
    · have hcB := fun (w1 : World) (hw : ∀ c ∈ scHX s e0 tl (.slice Al L.length kl) L k vs G, c.holds w1) => scBytes_spec s _ L k vs L.length w1 (ScV.ofX hw) (Nat.le_refl _) hok
      rw [List.take_length] at hcB
      by_cases hbig : 4000 < (bytesOf L).length + (encL r).length
      · rw [putL_full hf (.inr hbig)]
        refine e_condDF rfl (by omega) ?_
        refine e_skip ?_
        refine e_seq ?_
        refine e_seq ?_
        refine e_region ?_
        refine w_val (v_move rfl) rfl ?_
        refine w_val (v_nilCheck rfl) rfl ?_
        refine w_val (v_fieldAddrB (o := 0) Try.underlying95 rfl rfl Try.nz93 rfl) rfl ?_
        refine w_val (v_loadB 0 rfl Try.underlying93 rfl rfl rfl) rfl ?_
        refine w_val (v_lenS Try.underlying93 rfl) rfl ?_
        refine w_val (v_is (v' := .bool false) (v_geq rfl rfl) (by rw [decide_eq_false (by omega)])) rfl ?_
        refine w_val (v_move rfl) rfl ?_
        refine w_want rfl rfl ?_
        refine w_val (v_move rfl) rfl ?_
        refine w_want rfl rfl ?_
        refine w_val (v_move rfl) rfl ?_
        refine w_want rfl rfl ?_
        refine w_val (v_nilCheck rfl) rfl ?_
        refine w_want rfl rfl ?_
        refine w_val (v_fieldAddrB (o := 0) Try.underlying95 rfl rfl Try.nz93 rfl) rfl ?_
        refine w_want rfl rfl ?_
        refine w_val (v_loadB 0 rfl Try.underlying93 rfl rfl rfl) rfl ?_
        refine w_want rfl rfl ?_
        refine w_val (v_lenS Try.underlying93 rfl) rfl ?_
        refine w_want rfl rfl ?_
        refine w_op rfl ?_
        refine x_call (dst := some 25) (mc := []) (σ := (Option Addr × Nat)) (fun _ => True) (fun sl => .slice sl.1 (bytesOf L).length sl.2) (fun sl => [Own (.slice sl.1 (bytesOf L).length sl.2) 5 1 (bytesOf L).length (byteCells (bytesOf L))]) rfl rfl rfl Try.call107 (fun w hw => own_shape (hcB w (fun c hc => hw.hold c hc))) rfl (fun sl1 _ => ?_)
        refine w_want rfl rfl ?_
        refine w_val (v_lenS Try.underlying110 rfl) rfl ?_
        refine w_want rfl rfl ?_
        refine w_val (v_move rfl) rfl ?_
        refine w_want rfl rfl ?_
        refine w_op rfl ?_
        refine x_call (dst := some 28) (mc := []) (σ := (Option Addr × Nat)) (fun _ => True) (fun sl => .slice sl.1 (encL r).length sl.2) (fun sl => [Own (.slice sl.1 (encL r).length sl.2) 5 1 (encL r).length (byteCells (encL r))]) rfl rfl rfl Try.call108 (fun w hw => own_shape (bytesOf_spec _ r w (hr.mono hw.off) hok2 hin)) rfl (fun sl2 _ => ?_)
        refine w_want rfl rfl ?_
        refine w_val (v_lenS Try.underlying110 rfl) rfl ?_
        refine w_want rfl rfl ?_
        refine w_val (v_add rfl rfl (by omega)) rfl ?_
        refine w_want rfl rfl ?_
        refine w_val (v_is (v' := .bool true) (v_gtr rfl rfl) (by rw [decide_eq_true (by omega)])) rfl ?_
        refine w_val (v_pickF rfl rfl) rfl ?_
        refine w_nil ?_
        refine e_condDT rfl (by omega) ?_
        refine e_seq ?_
        refine e_region ?_
        refine w_val (v_assign rfl) rfl ?_
        refine w_val (v_assign rfl) rfl ?_
        refine w_nil ?_
        refine e_retQ (q_ret2 rfl (.tmp rfl) (.tmp rfl) ?_)
        exact fun w' hw' => ⟨(.slice Al L.length kl, vs, G), trivial, rfl, (hw'.sub (.cons _ (.cons _ (List.Sublist.refl _)))).res⟩
      · rw [putL_ok hf (by omega)]
        have e4 : (L ++ [r]).length = L.length + 1 := by simp
        refine e_condDF rfl (by omega) ?_
        refine e_skip ?_
        refine e_seq ?_
        refine e_seq ?_
        refine e_region ?_
        refine w_val (v_move rfl) rfl ?_
        refine w_val (v_nilCheck rfl) rfl ?_
        refine w_val (v_fieldAddrB (o := 0) Try.underlying95 rfl rfl Try.nz93 rfl) rfl ?_
        refine w_val (v_loadB 0 rfl Try.underlying93 rfl rfl rfl) rfl ?_
        refine w_val (v_lenS Try.underlying93 rfl) rfl ?_
        refine w_val (v_is (v' := .bool false) (v_geq rfl rfl) (by rw [decide_eq_false (by omega)])) rfl ?_
        refine w_val (v_move rfl) rfl ?_
        refine w_want rfl rfl ?_
        refine w_val (v_move rfl) rfl ?_
        refine w_want rfl rfl ?_
        refine w_val (v_move rfl) rfl ?_
        refine w_want rfl rfl ?_
        refine w_val (v_nilCheck rfl) rfl ?_
        refine w_want rfl rfl ?_
        refine w_val (v_fieldAddrB (o := 0) Try.underlying95 rfl rfl Try.nz93 rfl) rfl ?_
        refine w_want rfl rfl ?_
        refine w_val (v_loadB 0 rfl Try.underlying93 rfl rfl rfl) rfl ?_
        refine w_want rfl rfl ?_
        refine w_val (v_lenS Try.underlying93 rfl) rfl ?_
        refine w_want rfl rfl ?_
        refine w_op rfl ?_
        refine x_call (dst := some 25) (mc := []) (σ := (Option Addr × Nat)) (fun _ => True) (fun sl => .slice sl.1 (bytesOf L).length sl.2) (fun sl => [Own (.slice sl.1 (bytesOf L).length sl.2) 5 1 (bytesOf L).length (byteCells (bytesOf L))]) rfl rfl rfl Try.call107 (fun w hw => own_shape (hcB w (fun c hc => hw.hold c hc))) rfl (fun sl1 _ => ?_)
        refine w_want rfl rfl ?_
        refine w_val (v_lenS Try.underlying110 rfl) rfl ?_
        refine w_want rfl rfl ?_
        refine w_val (v_move rfl) rfl ?_
        refine w_want rfl rfl ?_
        refine w_op rfl ?_
        refine x_call (dst := some 28) (mc := []) (σ := (Option Addr × Nat)) (fun _ => True) (fun sl => .slice sl.1 (encL r).length sl.2) (fun sl => [Own (.slice sl.1 (encL r).length sl.2) 5 1 (encL r).length (byteCells (encL r))]) rfl rfl rfl Try.call108 (fun w hw => own_shape (bytesOf_spec _ r w (hr.mono hw.off) hok2 hin)) rfl (fun sl2 _ => ?_)
        refine w_want rfl rfl ?_
        refine w_val (v_lenS Try.underlying110 rfl) rfl ?_
        refine w_want rfl rfl ?_
        refine w_val (v_add rfl rfl (by omega)) rfl ?_
        refine w_want rfl rfl ?_
        refine w_val (v_is (v' := .bool false) (v_gtr rfl rfl) (by rw [decide_eq_false (by omega)])) rfl ?_
        refine w_val (v_pickF rfl rfl) rfl ?_
        refine w_nil ?_
        refine e_condF rfl ?_
        refine e_skip ?_
        refine e_seq ?_
        refine g_sub (m' := scHX s e0 tl (.slice Al L.length kl) L k vs G) (.cons _ (.cons _ (List.Sublist.refl _))) ?_
        refine e_cutH (σ := Option Addr × Nat × List Value × (Nat → Prop)) [0] (.cons rfl .nil) (fun _ => []) (fun x => [scX s e0 tl (.slice x.1 (L.length + 1) x.2.1) k, Rw (.slice x.1 (L.length + 1) x.2.1) 38 1 (L.length + 1) x.2.2.1, Keep x.2.2.2 (Rounds x.2.2.1 (L ++ [r]))]) (fun _ => True) ?_ ?_
        · refine e_draw ([]) Try.mixed ?_
          refine a_take 0 pan_cx (by kernel_rfl) (fun _ hw => hw.sub (by repeat (first | exact List.Sublist.slnil | exact List.Sublist.refl _ | apply List.Sublist.cons_cons | apply List.Sublist.cons))) rfl (by kernel_rfl) (by kernel_rfl) (v_move rfl) rfl ?_
          refine a_take 1 pan_cx (by kernel_rfl) (fun _ hw => hw.sub (by repeat (first | exact List.Sublist.slnil | exact List.Sublist.refl _ | apply List.Sublist.cons_cons | apply List.Sublist.cons))) rfl (by kernel_rfl) (by kernel_rfl) (v_move rfl) rfl ?_
          refine a_take 2 pan_cx (by kernel_rfl) (fun _ hw => hw.sub (by repeat (first | exact List.Sublist.slnil | exact List.Sublist.refl _ | apply List.Sublist.cons_cons | apply List.Sublist.cons))) rfl (by kernel_rfl) (by kernel_rfl) (v_nilCheck rfl) rfl ?_
          refine a_take 3 pan_cx (by kernel_rfl) (fun _ hw => hw.sub (by repeat (first | exact List.Sublist.slnil | exact List.Sublist.refl _ | apply List.Sublist.cons_cons | apply List.Sublist.cons))) rfl (by kernel_rfl) (by kernel_rfl) (v_fieldAddrB (o := 0) Try.underlying95 rfl rfl Try.nz93 rfl) rfl ?_
          refine a_take 5 pan_cx (by kernel_rfl) (fun _ hw => hw.sub (by repeat (first | exact List.Sublist.slnil | exact List.Sublist.refl _ | apply List.Sublist.cons_cons | apply List.Sublist.cons))) rfl (by kernel_rfl) (by kernel_rfl) (v_move rfl) rfl ?_
          refine a_all [4, 6] (by kernel_rfl) rfl ?_
          intro i hi
          simp only [List.mem_cons, List.not_mem_nil, or_false] at hi
          rcases hi with rfl | rfl
          · refine a_op rfl rfl ?_
            refine x_val (v_loadB 0 rfl Try.underlying93 rfl rfl rfl) rfl ?_
            refine a_and (fun _ hw => hw.sub (by repeat (first | exact List.Sublist.slnil | exact List.Sublist.refl _ | apply List.Sublist.cons_cons | apply List.Sublist.cons))) ?_
            refine a_one 6 (by kernel_rfl) rfl rfl ?_
            refine x_call (dst := some 39) (mc := []) (σ := Option Addr × Nat × (Nat → Prop)) (fun _ => True) (fun s => .slice s.1 r.length s.2.1) (fun s => [Keep s.2.2 (fun c => IsRound c (.slice s.1 r.length s.2.1) r)]) rfl rfl rfl Try.call28 (fun w hw => refOwn_spec' _ r w (hr.mono hw.off) (by omega) (fun d hd => by have := hsm.2 d hd; omega)) rfl (fun so _ => ?_)
            refine a_and (fun _ hw => hw.sub (by repeat (first | exact List.Sublist.slnil | exact List.Sublist.refl _ | apply List.Sublist.cons_cons | apply List.Sublist.cons))) ?_
            refine a_one 7 (by kernel_rfl) rfl rfl ?_
            refine x_buildSlice _ ([.slice so.1 r.length so.2.1]) rfl (run_buildSlice Try.underlying93 Try.hi38 Try.cz38 Try.zeroValue38 rfl (by kernel_rfl)) rfl (fun b40 => ?_)
            refine a_and (fun _ hw => hw.sub (by repeat (first | exact List.Sublist.slnil | exact List.Sublist.refl _ | apply List.Sublist.cons_cons | apply List.Sublist.cons))) ?_
            refine a_one 8 (by kernel_rfl) rfl rfl ?_
            refine x_appendRS (z := .slice none 0 0) (n := L.length) (xs := vs) (size := 1) (bytes := 24) (k := 1) (news := [.slice so.1 r.length so.2.1]) 3 rfl rfl rfl Try.underlying93 (by kernel_rfl) rfl (by decide) (by omega) (fun w hw => blk_rds (hw.hold _ (List.mem_cons_self ..)) rfl) (by intro u hu; simp only [List.mem_singleton] at hu; subst hu; rfl) (by omega) (by simp only [maxLen]; omega) rfl (fun Al2 kl2 hkl2 => ?_)
            refine a_and (fun _ hw => hw.sub (by repeat (first | exact List.Sublist.slnil | exact List.Sublist.refl _ | apply List.Sublist.cons_cons | apply List.Sublist.cons))) ?_
            refine a_take 9 pan_cx (by kernel_rfl) (fun _ hw => hw.sub (by repeat (first | exact List.Sublist.slnil | exact List.Sublist.refl _ | apply List.Sublist.cons_cons | apply List.Sublist.cons))) rfl (by kernel_rfl) (by kernel_rfl) (v_nilCheck rfl) rfl ?_
            refine a_take 10 pan_cx (by kernel_rfl) (fun _ hw => hw.sub (by repeat (first | exact List.Sublist.slnil | exact List.Sublist.refl _ | apply List.Sublist.cons_cons | apply List.Sublist.cons))) rfl (by kernel_rfl) (by kernel_rfl) (v_fieldAddrB (o := 0) Try.underlying95 rfl rfl Try.nz93 rfl) rfl ?_
            refine a_one 11 (by kernel_rfl) rfl rfl ?_
            refine x_store1 2 rfl rfl rfl Try.hi93 Try.cz93 rfl (by first | (simp; done) | (simp [intCells_len]; omega) | exact Nat.zero_lt_succ _) rfl ?_
            refine a_and (fun _ hw => hw.sub (by repeat (first | exact List.Sublist.slnil | exact List.Sublist.refl _ | apply List.Sublist.cons_cons | apply List.Sublist.cons))) ?_
            refine a_done (by kernel_rfl) ?_
            refine e_cutEnd (Al2, kl2, vs ++ [.slice so.1 r.length so.2.1], feet [Keep so.2.2 (fun c => IsRound c (.slice so.1 r.length so.2.1) r), Keep G (Rounds vs L)]) trivial (by repeat (first | exact Sub.nil _ | refine Sub.cons rfl ?_)) (fun _ hw => ?_)
            simp only [List.cons_append, List.nil_append, List.set_cons_zero, List.set_cons_succ] at hw
            have h4 : St _ _ [Keep so.2.2 (fun c => IsRound c (.slice so.1 r.length so.2.1) r), scX s e0 tl (.slice Al2 (L.length + 1) kl2) k, Rw (.slice Al2 (L.length + 1) kl2) 38 1 (L.length + 1) (vs ++ [Value.slice so.1 r.length so.2.1]), Keep G (Rounds vs L)] _ := hw.sub (.cons _ (List.Sublist.refl _))
            have h5 := h4.perm (m' := [Keep so.2.2 (fun c => IsRound c (.slice so.1 r.length so.2.1) r), Keep G (Rounds vs L), scX s e0 tl (.slice Al2 (L.length + 1) kl2) k, Rw (.slice Al2 (L.length + 1) kl2) 38 1 (L.length + 1) (vs ++ [Value.slice so.1 r.length so.2.1])]) (.cons _ (List.perm_append_comm (l₁ := [_, _]) (l₂ := [_])))
            exact h5.roundsIn.perm (List.perm_append_comm (l₁ := [_]) (l₂ := [_, _]))
          · refine a_op rfl rfl ?_
            refine x_call (dst := some 39) (mc := []) (σ := Option Addr × Nat × (Nat → Prop)) (fun _ => True) (fun s => .slice s.1 r.length s.2.1) (fun s => [Keep s.2.2 (fun c => IsRound c (.slice s.1 r.length s.2.1) r)]) rfl rfl rfl Try.call28 (fun w hw => refOwn_spec' _ r w (hr.mono hw.off) (by omega) (fun d hd => by have := hsm.2 d hd; omega)) rfl (fun so _ => ?_)
            refine a_and (fun _ hw => hw.sub (by repeat (first | exact List.Sublist.slnil | exact List.Sublist.refl _ | apply List.Sublist.cons_cons | apply List.Sublist.cons))) ?_
            refine a_all [4, 7] (by kernel_rfl) rfl ?_
            intro i hi
            simp only [List.mem_cons, List.not_mem_nil, or_false] at hi
            rcases hi with rfl | rfl
            · refine a_op rfl rfl ?_
              refine x_val (v_loadB 1 rfl Try.underlying93 rfl rfl rfl) rfl ?_
              refine a_and (fun _ hw => hw.sub (by repeat (first | exact List.Sublist.slnil | exact List.Sublist.refl _ | apply List.Sublist.cons_cons | apply List.Sublist.cons))) ?_
              refine a_one 7 (by kernel_rfl) rfl rfl ?_
              refine x_buildSlice _ ([.slice so.1 r.length so.2.1]) rfl (run_buildSlice Try.underlying93 Try.hi38 Try.cz38 Try.zeroValue38 rfl (by kernel_rfl)) rfl (fun b40 => ?_)
              refine a_and (fun _ hw => hw.sub (by repeat (first | exact List.Sublist.slnil | exact List.Sublist.refl _ | apply List.Sublist.cons_cons | apply List.Sublist.cons))) ?_
              refine a_one 8 (by kernel_rfl) rfl rfl ?_
              refine x_appendRS (z := .slice none 0 0) (n := L.length) (xs := vs) (size := 1) (bytes := 24) (k := 1) (news := [.slice so.1 r.length so.2.1]) 3 rfl rfl rfl Try.underlying93 (by kernel_rfl) rfl (by decide) (by omega) (fun w hw => blk_rds (hw.hold _ (List.mem_cons_self ..)) rfl) (by intro u hu; simp only [List.mem_singleton] at hu; subst hu; rfl) (by omega) (by simp only [maxLen]; omega) rfl (fun Al2 kl2 hkl2 => ?_)
              refine a_and (fun _ hw => hw.sub (by repeat (first | exact List.Sublist.slnil | exact List.Sublist.refl _ | apply List.Sublist.cons_cons | apply List.Sublist.cons))) ?_
              refine a_take 9 pan_cx (by kernel_rfl) (fun _ hw => hw.sub (by repeat (first | exact List.Sublist.slnil | exact List.Sublist.refl _ | apply List.Sublist.cons_cons | apply List.Sublist.cons))) rfl (by kernel_rfl) (by kernel_rfl) (v_nilCheck rfl) rfl ?_
              refine a_take 10 pan_cx (by kernel_rfl) (fun _ hw => hw.sub (by repeat (first | exact List.Sublist.slnil | exact List.Sublist.refl _ | apply List.Sublist.cons_cons | apply List.Sublist.cons))) rfl (by kernel_rfl) (by kernel_rfl) (v_fieldAddrB (o := 0) Try.underlying95 rfl rfl Try.nz93 rfl) rfl ?_
              refine a_one 11 (by kernel_rfl) rfl rfl ?_
              refine x_store1 2 rfl rfl rfl Try.hi93 Try.cz93 rfl (by first | (simp; done) | (simp [intCells_len]; omega) | exact Nat.zero_lt_succ _) rfl ?_
              refine a_and (fun _ hw => hw.sub (by repeat (first | exact List.Sublist.slnil | exact List.Sublist.refl _ | apply List.Sublist.cons_cons | apply List.Sublist.cons))) ?_
              refine a_done (by kernel_rfl) ?_
              refine e_cutEnd (Al2, kl2, vs ++ [.slice so.1 r.length so.2.1], feet [Keep so.2.2 (fun c => IsRound c (.slice so.1 r.length so.2.1) r), Keep G (Rounds vs L)]) trivial (by repeat (first | exact Sub.nil _ | refine Sub.cons rfl ?_)) (fun _ hw => ?_)
              simp only [List.cons_append, List.nil_append, List.set_cons_zero, List.set_cons_succ] at hw
              have h4 : St _ _ [Keep so.2.2 (fun c => IsRound c (.slice so.1 r.length so.2.1) r), scX s e0 tl (.slice Al2 (L.length + 1) kl2) k, Rw (.slice Al2 (L.length + 1) kl2) 38 1 (L.length + 1) (vs ++ [Value.slice so.1 r.length so.2.1]), Keep G (Rounds vs L)] _ := hw.sub (.cons _ (List.Sublist.refl _))
              have h5 := h4.perm (m' := [Keep so.2.2 (fun c => IsRound c (.slice so.1 r.length so.2.1) r), Keep G (Rounds vs L), scX s e0 tl (.slice Al2 (L.length + 1) kl2) k, Rw (.slice Al2 (L.length + 1) kl2) 38 1 (L.length + 1) (vs ++ [Value.slice so.1 r.length so.2.1])]) (.cons _ (List.perm_append_comm (l₁ := [_, _]) (l₂ := [_])))
              exact h5.roundsIn.perm (List.perm_append_comm (l₁ := [_]) (l₂ := [_, _]))
            · refine a_op rfl rfl ?_
              refine x_buildSlice _ ([.slice so.1 r.length so.2.1]) rfl (run_buildSlice Try.underlying93 Try.hi38 Try.cz38 Try.zeroValue38 rfl (by kernel_rfl)) rfl (fun b40 => ?_)
              refine a_and (fun _ hw => hw.sub (by repeat (first | exact List.Sublist.slnil | exact List.Sublist.refl _ | apply List.Sublist.cons_cons | apply List.Sublist.cons))) ?_
              refine a_one 4 (by kernel_rfl) rfl rfl ?_
              refine x_val (v_loadB 2 rfl Try.underlying93 rfl rfl rfl) rfl ?_
              refine a_and (fun _ hw => hw.sub (by repeat (first | exact List.Sublist.slnil | exact List.Sublist.refl _ | apply List.Sublist.cons_cons | apply List.Sublist.cons))) ?_
              refine a_one 8 (by kernel_rfl) rfl rfl ?_
              refine x_appendRS (z := .slice none 0 0) (n := L.length) (xs := vs) (size := 1) (bytes := 24) (k := 1) (news := [.slice so.1 r.length so.2.1]) 3 rfl rfl rfl Try.underlying93 (by kernel_rfl) rfl (by decide) (by omega) (fun w hw => blk_rds (hw.hold _ (List.mem_cons_self ..)) rfl) (by intro u hu; simp only [List.mem_singleton] at hu; subst hu; rfl) (by omega) (by simp only [maxLen]; omega) rfl (fun Al2 kl2 hkl2 => ?_)
              refine a_and (fun _ hw => hw.sub (by repeat (first | exact List.Sublist.slnil | exact List.Sublist.refl _ | apply List.Sublist.cons_cons | apply List.Sublist.cons))) ?_
              refine a_take 9 pan_cx (by kernel_rfl) (fun _ hw => hw.sub (by repeat (first | exact List.Sublist.slnil | exact List.Sublist.refl _ | apply List.Sublist.cons_cons | apply List.Sublist.cons))) rfl (by kernel_rfl) (by kernel_rfl) (v_nilCheck rfl) rfl ?_
              refine a_take 10 pan_cx (by kernel_rfl) (fun _ hw => hw.sub (by repeat (first | exact List.Sublist.slnil | exact List.Sublist.refl _ | apply List.Sublist.cons_cons | apply List.Sublist.cons))) rfl (by kernel_rfl) (by kernel_rfl) (v_fieldAddrB (o := 0) Try.underlying95 rfl rfl Try.nz93 rfl) rfl ?_
              refine a_one 11 (by kernel_rfl) rfl rfl ?_
              refine x_store1 2 rfl rfl rfl Try.hi93 Try.cz93 rfl (by first | (simp; done) | (simp [intCells_len]; omega) | exact Nat.zero_lt_succ _) rfl ?_
              refine a_and (fun _ hw => hw.sub (by repeat (first | exact List.Sublist.slnil | exact List.Sublist.refl _ | apply List.Sublist.cons_cons | apply List.Sublist.cons))) ?_
              refine a_done (by kernel_rfl) ?_
              refine e_cutEnd (Al2, kl2, vs ++ [.slice so.1 r.length so.2.1], feet [Keep so.2.2 (fun c => IsRound c (.slice so.1 r.length so.2.1) r), Keep G (Rounds vs L)]) trivial (by repeat (first | exact Sub.nil _ | refine Sub.cons rfl ?_)) (fun _ hw => ?_)
              simp only [List.cons_append, List.nil_append, List.set_cons_zero, List.set_cons_succ] at hw
              have h4 : St _ _ [Keep so.2.2 (fun c => IsRound c (.slice so.1 r.length so.2.1) r), scX s e0 tl (.slice Al2 (L.length + 1) kl2) k, Rw (.slice Al2 (L.length + 1) kl2) 38 1 (L.length + 1) (vs ++ [Value.slice so.1 r.length so.2.1]), Keep G (Rounds vs L)] _ := hw.sub (.cons _ (List.Sublist.refl _))
              have h5 := h4.perm (m' := [Keep so.2.2 (fun c => IsRound c (.slice so.1 r.length so.2.1) r), Keep G (Rounds vs L), scX s e0 tl (.slice Al2 (L.length + 1) kl2) k, Rw (.slice Al2 (L.length + 1) kl2) 38 1 (L.length + 1) (vs ++ [Value.slice so.1 r.length so.2.1])]) (.cons _ (List.perm_append_comm (l₁ := [_, _]) (l₂ := [_])))
              exact h5.roundsIn.perm (List.perm_append_comm (l₁ := [_]) (l₂ := [_, _]))
        · rintro ⟨Al2, kl2, vs2, G2⟩ -
          dsimp only
          refine e_seq ?_
          refine e_region ?_
          refine w_val (v_move rfl) rfl ?_
          refine w_val (v_nilCheck rfl) rfl ?_
          refine w_val (v_fieldAddrB (o := 0) Try.underlying95 rfl rfl Try.nz93 rfl) rfl ?_
          refine w_val (v_loadB 0 rfl Try.underlying93 rfl rfl rfl) rfl ?_
          refine w_val (v_lenS Try.underlying93 rfl) rfl ?_
          refine w_val (v_is (v' := .int .i64 (L.length : Int)) (v_sub rfl rfl (by omega)) (by congr 1; omega)) rfl ?_
          refine w_val (v_assign rfl) rfl ?_
          refine w_val (v_assign rfl) rfl ?_
          refine w_nil ?_
          refine e_retQ (q_ret2 rfl (.tmp rfl) (.tmp rfl) ?_)
          refine fun w' hw' => ⟨(.slice Al2 (L.length + 1) kl2, vs2, G2), trivial, rfl, ?_⟩
          simp only [scHX, e4]
          exact hw'.res
end Go.SL

