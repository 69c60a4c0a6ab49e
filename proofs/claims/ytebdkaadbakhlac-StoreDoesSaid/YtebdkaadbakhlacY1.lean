/- Ytebdkaadbakhlac: part Y1 of this seat's own texts. -/
import Derived.Test.YtebdkaadbakhlacLX7
import Derived.Test.YtebdkaadbakhlacM5
import Derived.Test.YtebdkaadbakhlacU2
import Derived.Test.YtebdkaadbakhlacDr2
set_option linter.unusedVariables false
set_option linter.unusedSimpArgs false

open Go Go.Proofs Go.SL
set_option maxRecDepth 100000
set_option maxHeartbeats 4000000
namespace Go.SL
/-- a chest's own cells behind its scroll's -/
def chT (dn : Nat) (z : List Int) (lw : Value) : List Value := .int .i64 (dn : Int) :: (intCells z ++ [lw])
abbrev chR (lv : Value) (k dn : Nat) (z : List Int) (lw : Value) : List Value := lv :: .int .i64 (k : Int) :: chT dn z lw
section
variable {lv lw : Value} {k dn : Nat} {z : List Int}
theorem chR_len (h : z.length = 10) : (chR lv k dn z lw).length = 14 := by simp [chR, chT, intCells, h]
theorem chR_st (h : z.length = 10) : ((chR lv k dn z lw).drop (0 + 3)).take 10 = intCells z := by
  show (intCells z ++ [lw]).take 10 = _
  rw [List.take_left' (by simp [intCells, h])]
theorem chR_st_set (h : z.length = 10) (y : List Int) : (chR lv k dn z lw).take (0 + 3) ++ intCells y ++ (chR lv k dn z lw).drop (0 + 3 + 10) = chR lv k dn y lw := by
  have : (chR lv k dn z lw).drop (0 + 3 + 10) = [lw] := by
    show (intCells z ++ [lw]).drop 10 = _
    rw [List.drop_left' (by simp [intCells, h])]
  rw [this]
  rfl
theorem chR_last (h : z.length = 10) : (chR lv k dn z lw)[0 + 13]? = some lw := by
  show (intCells z ++ [lw])[10]? = _
  rw [at_app (j := 0) (by simp [intCells, h])]; rfl
theorem chR_last_set (h : z.length = 10) (v : Value) : (chR lv k dn z lw).set (0 + 13) v = chR lv k dn z v := by
  show lv :: .int .i64 (k : Int) :: .int .i64 (dn : Int) :: ((intCells z ++ [lw]).set 10 v) = _
  rw [set_app (j := 0) (by simp [intCells, h])]; rfl
theorem chR_dn0 : (chR lv k dn z lw).set (0 + 2) (.int .i64 0) = chR lv k 0 z lw := rfl
theorem chR_k_set (d : Nat) : (chR lv k dn z lw).set (0 + 0 + 1) (.int .i64 (d : Int)) = chR lv d dn z lw := rfl
end
structure ChP where
  c : Nat
  lv : Value
  vs : List Value
  G : Nat → Prop
  lw : Value
abbrev chB (y : ChP) (q : QL) : Chunk := .blk y.c 97 (chR y.lv q.k q.dn (stL q.L q.dn) y.lw)
abbrev chO (y : ChP) (q : QL) : Chunk := Own y.lw 30 5 (lastL q.L q.dn).length (resL (lastL q.L q.dn))
abbrev chW (y : ChP) (q : QL) : Chunk := Rw y.lv 38 1 q.L.length y.vs
abbrev chK (y : ChP) (q : QL) : Chunk := Keep y.G (Rounds y.vs q.L)
/-- a chest in memory -/
abbrev chH (y : ChP) (q : QL) : Hp := [chB y q, chW y q, chK y q, chO y q]
theorem lastL_next' (L : List RoundL) (n : Nat) : lastL L (n + 1) = (allL (stL L n) (L.getD n [])).2 := by rw [allL_is]; rfl
theorem stL_next' (L : List RoundL) (n : Nat) : stL L (n + 1) = (allL (stL L n) (L.getD n [])).1 := by rw [allL_is]; rfl
theorem chDo_spec (y : ChP) (q : QL) (x : SStepL) (u pv : Value) (w : World) (h : ∀ c ∈ chH y q, c.holds w) (hsep : (chH y q).Pairwise Disj) (hok : q.Ok) (hr : IsRound (off w (feet (chH y q))) u x.round) (hp : IsInts (off w (feet (chH y q))) pv x.picks) (hin : ∀ d ∈ x.round, ∀ o ∈ d, OpIn o) :
    Calls Try.prog 52 #[.pointer (some ⟨y.c, 0, none⟩), sstV x u pv] w fun e w' => ∃ z : Value × List Value × (Nat → Prop) × Value, True ∧ e = .returned (.int .i64 (doQ q x).2) ∧ Res w (chH y q) (chH ⟨y.c, z.1, z.2.1, z.2.2.1, z.2.2.2⟩ (doQ q x).1) w' := by
  obtain ⟨Au, ku, rfl, _, _⟩ := hr.form
  obtain ⟨Ap, kpp, rfl, _, _⟩ := hp.form
  obtain ⟨c, lv, vs, G, lw⟩ := y
  have hlen := hok.len
  have h25 := hok.log.len
  have hkl := hok.log.sure
  have hdk := hok.dn
  have hz := stL_len q.L q.dn
  unfold sstV
  refine enter (mc := chH ⟨c, lv, vs, G, lw⟩ q) (N := 141) Try.func52 rfl rfl rfl ?_ ?_ ?_
  · exact h
  · exact hsep
  dsimp only
  refine g_shapeR2 1 rfl fun Al kl hlv hkl had => ?_
  subst hlv
  refine g_rounds 2 rfl fun hvl => ?_
  dsimp only at hvl
  refine g_heap (m' := [.blk c 97 (chR (.slice Al q.L.length kl) q.k q.dn (stL q.L q.dn) lw), Rw (.slice Al q.L.length kl) 38 1 q.L.length vs, Keep G (Rounds vs q.L), Own lw 30 5 (lastL q.L q.dn).length (resL (lastL q.L q.dn))]) (fun _ hw => hw) ?_
  refine e_seq ?_
  refine e_region ?_
  refine w_op rfl ?_
  refine x_box rfl rfl (fun b3 => ?_)
  refine w_val (v_assign rfl) rfl ?_
  refine w_nil ?_
  refine e_seq ?_
  refine e_seq ?_
  refine e_region ?_
  refine w_val (v_fieldAddrB (o := 0) Try.underlying100 rfl rfl Try.nz3 rfl) rfl ?_
  refine w_val (v_loadB 0 rfl Try.underlying3 rfl rfl rfl) rfl ?_
  refine w_nil ?_
  refine e_block ?_
  refine e_seq ?_
  refine e_region ?_
  by_cases h1 : x.kind = 1
  · have hq : doQ q x = (⟨(putL q.L x.round).1, q.k, q.dn⟩, (putL q.L x.round).2.2) := by unfold doQ; rw [if_pos h1]
    rw [hq]
    dsimp only
    have hps := put_st (r := x.round) hlen
    refine w_val (v_is (v' := .bool true) (v_eql rfl rfl) (by rw [decide_eq_true h1])) rfl ?_
    refine w_val (v_assign rfl) rfl ?_
    refine w_nil ?_
    refine e_condT rfl ?_
    refine e_seq ?_
    refine e_draw ([.blk b3 100 [.int .i64 x.kind, .slice Au x.round.length ku, .slice Ap x.picks.length kpp, .int .i64 x.keep]]) Try.mixed ?_
    refine a_take 0 pan_cx (by kernel_rfl) (fun _ hw => hw.sub (by repeat (first | exact List.Sublist.slnil | exact List.Sublist.refl _ | apply List.Sublist.cons_cons | apply List.Sublist.cons))) rfl (by kernel_rfl) (by kernel_rfl) (v_move rfl) rfl ?_
    refine a_take 1 pan_cx (by kernel_rfl) (fun _ hw => hw.sub (by repeat (first | exact List.Sublist.slnil | exact List.Sublist.refl _ | apply List.Sublist.cons_cons | apply List.Sublist.cons))) rfl (by kernel_rfl) (by kernel_rfl) (v_nilCheck rfl) rfl ?_
    refine a_take 2 pan_cx (by kernel_rfl) (fun _ hw => hw.sub (by repeat (first | exact List.Sublist.slnil | exact List.Sublist.refl _ | apply List.Sublist.cons_cons | apply List.Sublist.cons))) rfl (by kernel_rfl) (by kernel_rfl) (v_fieldAddrB (o := 0) Try.underlying97 rfl rfl Try.nz95 rfl) rfl ?_
    refine a_take 3 pan_cx (by kernel_rfl) (fun _ hw => hw.sub (by repeat (first | exact List.Sublist.slnil | exact List.Sublist.refl _ | apply List.Sublist.cons_cons | apply List.Sublist.cons))) rfl (by kernel_rfl) (by kernel_rfl) (v_fieldAddrB (o := 1) Try.underlying100 rfl rfl Try.nz38 rfl) rfl ?_
    refine a_take 4 pan_cx (by kernel_rfl) (fun _ hw => hw.sub (by repeat (first | exact List.Sublist.slnil | exact List.Sublist.refl _ | apply List.Sublist.cons_cons | apply List.Sublist.cons))) rfl (by kernel_rfl) (by kernel_rfl) (v_loadB 0 rfl Try.underlying38 rfl rfl rfl) rfl ?_
    refine a_one 5 (by kernel_rfl) rfl rfl ?_
    refine x_callM (dst := some 17) (scHX c 97 (chT q.dn (stL q.L q.dn) lw) (.slice Al q.L.length kl) q.L q.k vs G) [.blk b3 100 [.int .i64 x.kind, .slice Au x.round.length ku, .slice Ap x.picks.length kpp, .int .i64 x.keep], Own lw 30 5 (lastL q.L q.dn).length (resL (lastL q.L q.dn))] (σ := Value × List Value × (Nat → Prop)) (fun _ => True) (fun _ => .tuple #[.int .i64 (putL q.L x.round).2.1, .int .i64 (putL q.L x.round).2.2]) (fun s => scHX c 97 (chT q.dn (stL q.L q.dn) lw) s.1 (putL q.L x.round).1 q.k s.2.1 s.2.2) ((List.perm_middle (l₁ := [_, _, _])).symm) rfl rfl rfl Try.call86 (fun w hw => scPutX_spec c _ _ _ q.L q.k vs G _ x.round w (res_part hw).1 (res_part hw).2 hok.log (hr.mono (hw.offm (fun c hc => List.mem_append_left _ hc))) hin) rfl (fun s _ => ?_); obtain ⟨lv2, vs2, G2⟩ := s; dsimp only
    refine a_and (fun _ hw => hw.sub (by repeat (first | exact List.Sublist.slnil | exact List.Sublist.refl _ | apply List.Sublist.cons_cons | apply List.Sublist.cons))) ?_
    refine a_take 6 pan_cx (by kernel_rfl) (fun _ hw => hw.sub (by repeat (first | exact List.Sublist.slnil | exact List.Sublist.refl _ | apply List.Sublist.cons_cons | apply List.Sublist.cons))) rfl (by kernel_rfl) (by kernel_rfl) (v_move rfl) rfl ?_
    refine a_take 7 pan_cx (by kernel_rfl) (fun _ hw => hw.sub (by repeat (first | exact List.Sublist.slnil | exact List.Sublist.refl _ | apply List.Sublist.cons_cons | apply List.Sublist.cons))) rfl (by kernel_rfl) (by kernel_rfl) (v_extract rfl rfl) rfl ?_
    refine a_take 8 pan_cx (by kernel_rfl) (fun _ hw => hw.sub (by repeat (first | exact List.Sublist.slnil | exact List.Sublist.refl _ | apply List.Sublist.cons_cons | apply List.Sublist.cons))) rfl (by kernel_rfl) (by kernel_rfl) (v_extract rfl rfl) rfl ?_
    refine a_take 9 pan_cx (by kernel_rfl) (fun _ hw => hw.sub (by repeat (first | exact List.Sublist.slnil | exact List.Sublist.refl _ | apply List.Sublist.cons_cons | apply List.Sublist.cons))) rfl (by kernel_rfl) (by kernel_rfl) (v_assign rfl) rfl ?_
    refine a_take 10 pan_cx (by kernel_rfl) (fun _ hw => hw.sub (by repeat (first | exact List.Sublist.slnil | exact List.Sublist.refl _ | apply List.Sublist.cons_cons | apply List.Sublist.cons))) rfl (by kernel_rfl) (by kernel_rfl) (v_assign rfl) rfl ?_
    refine a_done (by kernel_rfl) ?_
    refine e_seq ?_
    refine e_region ?_
    refine w_val (v_move rfl) rfl ?_
    refine w_val (v_assign rfl) rfl ?_
    refine w_nil ?_
    refine e_retQ (q_ret1 rfl (.tmp rfl) ?_)
    refine fun w' hw' => ⟨(lv2, vs2, G2, lw), trivial, rfl, ?_⟩
    show Res _ _ [.blk c 97 (chR lv2 q.k q.dn (stL (putL q.L x.round).1 q.dn) lw), Rw lv2 38 1 (putL q.L x.round).1.length vs2, Keep G2 (Rounds vs2 (putL q.L x.round).1), Own lw 30 5 (lastL (putL q.L x.round).1 q.dn).length (resL (lastL (putL q.L x.round).1 q.dn))] _
    rw [hps.1, hps.2]
    exact (hw'.pick [0, 1, 2, 4] (by decide)).res
  · by_cases h2 : x.kind = 2
    · have hq : doQ q x = (⟨q.L, q.L.length, q.dn⟩, 0) := by unfold doQ; rw [if_neg h1, if_pos h2]
      rw [hq]
      dsimp only
      refine w_val (v_is (v' := .bool false) (v_eql rfl rfl) (by rw [decide_eq_false h1])) rfl ?_
      refine w_val (v_assign rfl) rfl ?_
      refine w_nil ?_
      refine e_condF rfl ?_
      refine e_seq ?_
      refine e_region ?_
      refine w_val (v_is (v' := .bool true) (v_eql rfl rfl) (by rw [decide_eq_true h2])) rfl ?_
      refine w_val (v_assign rfl) rfl ?_
      refine w_nil ?_
      refine e_condT rfl ?_
      refine e_seq ?_
      refine e_region ?_
      refine w_val (v_move rfl) rfl ?_
      refine w_val (v_move rfl) rfl ?_
      refine w_val (v_nilCheck rfl) rfl ?_
      refine w_val (v_fieldAddrB (o := 0) Try.underlying97 rfl rfl Try.nz95 rfl) rfl ?_
      refine w_val (v_fieldAddrB (o := 0) Try.underlying95 rfl rfl Try.nz93 rfl) rfl ?_
      refine w_val (v_loadB 1 rfl Try.underlying93 rfl rfl rfl) rfl ?_
      refine w_val (v_lenS Try.underlying93 rfl) rfl ?_
      refine w_val (v_nilCheck rfl) rfl ?_
      refine w_val (v_fieldAddrB (o := 0) Try.underlying97 rfl rfl Try.nz95 rfl) rfl ?_
      refine w_val (v_fieldAddrB (o := 1) Try.underlying95 rfl rfl Try.nz3 rfl) rfl ?_
      refine w_op rfl ?_
      refine x_store1 1 rfl rfl rfl Try.hi3 Try.cz3 rfl (by rw [chR_len hz]; decide) rfl ?_; rw [chR_k_set]
      refine w_nil ?_
      refine e_seq ?_
      refine e_region ?_
      refine w_val (v_assign rfl) rfl ?_
      refine w_nil ?_
      refine e_retQ (q_ret1 rfl (.tmp rfl) ?_)
      exact fun w' hw' => ⟨(.slice Al q.L.length kl, vs, G, lw), trivial, rfl, (hw'.pick [1, 2, 3, 4] (by decide)).res⟩
    · by_cases h3 : x.kind = 3
      · have hq : doQ q x = runQ q x.picks.length := by unfold doQ; rw [if_neg h1, if_neg h2, if_pos h3]
        rw [hq]
        refine w_val (v_is (v' := .bool false) (v_eql rfl rfl) (by rw [decide_eq_false h1])) rfl ?_
        refine w_val (v_assign rfl) rfl ?_
        refine w_nil ?_
        refine e_condF rfl ?_
        refine e_seq ?_
        refine e_region ?_
        refine w_val (v_is (v' := .bool false) (v_eql rfl rfl) (by rw [decide_eq_false h2])) rfl ?_
        refine w_val (v_assign rfl) rfl ?_
        refine w_nil ?_
        refine e_condF rfl ?_
        refine e_seq ?_
        refine e_region ?_
        refine w_val (v_is (v' := .bool true) (v_eql rfl rfl) (by rw [decide_eq_true h3])) rfl ?_
        refine w_val (v_assign rfl) rfl ?_
        refine w_nil ?_
        refine e_condT rfl ?_
        refine e_seq ?_
        refine e_seq ?_
        refine e_draw ((Chunk.blk b3 100 [.int .i64 x.kind, .slice Au x.round.length ku, .slice Ap x.picks.length kpp, .int .i64 x.keep] :: [.blk c 97 (chR (.slice Al q.L.length kl) q.k q.dn (stL q.L q.dn) lw), Rw (.slice Al q.L.length kl) 38 1 q.L.length vs, Keep G (Rounds vs q.L)])) Try.mixed ?_
        refine a_take 0 pan_cx (by kernel_rfl) (fun _ hw => hw.sub (by repeat (first | exact List.Sublist.slnil | exact List.Sublist.refl _ | apply List.Sublist.cons_cons | apply List.Sublist.cons))) rfl (by kernel_rfl) (by kernel_rfl) (v_move rfl) rfl ?_
        refine a_take 1 pan_cx (by kernel_rfl) (fun _ hw => hw.sub (by repeat (first | exact List.Sublist.slnil | exact List.Sublist.refl _ | apply List.Sublist.cons_cons | apply List.Sublist.cons))) rfl (by kernel_rfl) (by kernel_rfl) (v_nilCheck rfl) rfl ?_
        refine a_take 2 pan_cx (by kernel_rfl) (fun _ hw => hw.sub (by repeat (first | exact List.Sublist.slnil | exact List.Sublist.refl _ | apply List.Sublist.cons_cons | apply List.Sublist.cons))) rfl (by kernel_rfl) (by kernel_rfl) (v_fieldAddrB (o := 2) Try.underlying97 rfl rfl Try.nz3 rfl) rfl ?_
        refine a_take 3 pan_cx (by kernel_rfl) (fun _ hw => hw.sub (by repeat (first | exact List.Sublist.slnil | exact List.Sublist.refl _ | apply List.Sublist.cons_cons | apply List.Sublist.cons))) rfl (by kernel_rfl) (by kernel_rfl) (v_loadB 1 rfl Try.underlying3 rfl rfl rfl) rfl ?_
        refine a_take 4 pan_cx (by kernel_rfl) (fun _ hw => hw.sub (by repeat (first | exact List.Sublist.slnil | exact List.Sublist.refl _ | apply List.Sublist.cons_cons | apply List.Sublist.cons))) rfl (by kernel_rfl) (by kernel_rfl) (v_move rfl) rfl ?_
        refine a_take 5 pan_cx (by kernel_rfl) (fun _ hw => hw.sub (by repeat (first | exact List.Sublist.slnil | exact List.Sublist.refl _ | apply List.Sublist.cons_cons | apply List.Sublist.cons))) rfl (by kernel_rfl) (by kernel_rfl) (v_nilCheck rfl) rfl ?_
        refine a_take 6 pan_cx (by kernel_rfl) (fun _ hw => hw.sub (by repeat (first | exact List.Sublist.slnil | exact List.Sublist.refl _ | apply List.Sublist.cons_cons | apply List.Sublist.cons))) rfl (by kernel_rfl) (by kernel_rfl) (v_fieldAddrB (o := 0) Try.underlying97 rfl rfl Try.nz95 rfl) rfl ?_
        refine a_take 7 pan_cx (by kernel_rfl) (fun _ hw => hw.sub (by repeat (first | exact List.Sublist.slnil | exact List.Sublist.refl _ | apply List.Sublist.cons_cons | apply List.Sublist.cons))) rfl (by kernel_rfl) (by kernel_rfl) (v_fieldAddrB (o := 1) Try.underlying95 rfl rfl Try.nz3 rfl) rfl ?_
        refine a_take 8 pan_cx (by kernel_rfl) (fun _ hw => hw.sub (by repeat (first | exact List.Sublist.slnil | exact List.Sublist.refl _ | apply List.Sublist.cons_cons | apply List.Sublist.cons))) rfl (by kernel_rfl) (by kernel_rfl) (v_loadB 1 rfl Try.underlying3 rfl rfl rfl) rfl ?_
        refine a_take 9 pan_cx (by kernel_rfl) (fun _ hw => hw.sub (by repeat (first | exact List.Sublist.slnil | exact List.Sublist.refl _ | apply List.Sublist.cons_cons | apply List.Sublist.cons))) rfl (by kernel_rfl) (by kernel_rfl) (v_geq rfl rfl) rfl ?_
        refine a_done (by kernel_rfl) ?_
        by_cases hdk2 : q.dn < q.k
        · by_cases h300 : x.picks.length ≤ 300
          · have hq2 : runQ q x.picks.length = (⟨q.L, q.k, q.dn + 1⟩, 0) := by unfold runQ; rw [if_pos hdk2, if_neg (by omega)]
            have hdl : q.dn < q.L.length := by omega
            have hst1 := stL_next' q.L q.dn
            have hla1 := lastL_next' q.L q.dn
            have hz2 := stL_len q.L (q.dn + 1)
            have hgd : q.L.getD q.dn [] = q.L[q.dn] := by simp [List.getD, hdl]
            have hcall := fun (w1 : World) (v1 : Value) (h1 : IsRound w1.cell? v1 (q.L.getD q.dn [])) => refAll_spec (stL q.L q.dn) v1 _ w1 h1 hz (hok.fault hdl)
            rw [← hst1, ← hla1] at hcall
            have hiv : q.dn < vs.length := by omega
            have hu : vs[((q.dn : Int)).toNat * 1]? = some vs[q.dn] := by rw [Int.toNat_natCast, Nat.mul_one]; exact List.getElem?_eq_getElem hiv
            obtain ⟨ad, rfl⟩ := had (by omega)
            rw [hq2]
            dsimp only
            refine e_condDF rfl (by omega) ?_
            refine e_skip ?_
            refine e_seq ?_
            refine e_seq ?_
            refine e_region ?_
            refine w_val (v_fieldAddrB (o := 2) Try.underlying100 rfl rfl Try.nz51 rfl) rfl ?_
            refine w_val (v_loadB 0 rfl Try.underlying51 rfl rfl rfl) rfl ?_
            refine w_val (v_lenS Try.underlying51 rfl) rfl ?_
            refine w_val (v_is (v' := .bool false) (v_gtr rfl rfl) (by rw [decide_eq_false (by omega)])) rfl ?_
            refine w_nil ?_
            refine e_condF rfl ?_
            refine e_skip ?_
            refine e_seq ?_
            refine e_cutH (σ := Value) [0, 3] (.cons rfl (.cons rfl .nil)) (fun _ => []) (fun s => ([.blk b3 100 [.int .i64 x.kind, .slice Au x.round.length ku, .slice Ap x.picks.length kpp, .int .i64 x.keep], .blk c 97 (chR (.slice (some ad) q.L.length kl) q.k q.dn (stL q.L (q.dn + 1)) s), Rw (.slice (some ad) q.L.length kl) 38 1 q.L.length vs, Keep G (Rounds vs q.L), Own s 30 5 (lastL q.L (q.dn + 1)).length (resL (lastL q.L (q.dn + 1)))] : Hp)) (fun _ => True) ?_ ?_
            · refine e_draw ([Rw (.slice (some ad) q.L.length kl) 38 1 q.L.length vs, Keep G (Rounds vs q.L)]) Try.mixed ?_
              refine a_take 0 pan_cx (by kernel_rfl) (fun _ hw => hw.sub (by repeat (first | exact List.Sublist.slnil | exact List.Sublist.refl _ | apply List.Sublist.cons_cons | apply List.Sublist.cons))) rfl (by kernel_rfl) (by kernel_rfl) (v_move rfl) rfl ?_
              refine a_take 1 pan_cx (by kernel_rfl) (fun _ hw => hw.sub (by repeat (first | exact List.Sublist.slnil | exact List.Sublist.refl _ | apply List.Sublist.cons_cons | apply List.Sublist.cons))) rfl (by kernel_rfl) (by kernel_rfl) (v_move rfl) rfl ?_
              refine a_take 2 pan_cx (by kernel_rfl) (fun _ hw => hw.sub (by repeat (first | exact List.Sublist.slnil | exact List.Sublist.refl _ | apply List.Sublist.cons_cons | apply List.Sublist.cons))) rfl (by kernel_rfl) (by kernel_rfl) (v_move rfl) rfl ?_
              refine a_take 3 pan_cx (by kernel_rfl) (fun _ hw => hw.sub (by repeat (first | exact List.Sublist.slnil | exact List.Sublist.refl _ | apply List.Sublist.cons_cons | apply List.Sublist.cons))) rfl (by kernel_rfl) (by kernel_rfl) (v_nilCheck rfl) rfl ?_
              refine a_take 4 pan_cx (by kernel_rfl) (fun _ hw => hw.sub (by repeat (first | exact List.Sublist.slnil | exact List.Sublist.refl _ | apply List.Sublist.cons_cons | apply List.Sublist.cons))) rfl (by kernel_rfl) (by kernel_rfl) (v_fieldAddrB (o := 3) Try.underlying97 rfl rfl Try.nz23 rfl) rfl ?_
              refine a_take 6 pan_cx (by kernel_rfl) (fun _ hw => hw.sub (by repeat (first | exact List.Sublist.slnil | exact List.Sublist.refl _ | apply List.Sublist.cons_cons | apply List.Sublist.cons))) rfl (by kernel_rfl) (by kernel_rfl) (v_move rfl) rfl ?_
              refine a_take 7 pan_cx (by kernel_rfl) (fun _ hw => hw.sub (by repeat (first | exact List.Sublist.slnil | exact List.Sublist.refl _ | apply List.Sublist.cons_cons | apply List.Sublist.cons))) rfl (by kernel_rfl) (by kernel_rfl) (v_nilCheck rfl) rfl ?_
              refine a_take 8 pan_cx (by kernel_rfl) (fun _ hw => hw.sub (by repeat (first | exact List.Sublist.slnil | exact List.Sublist.refl _ | apply List.Sublist.cons_cons | apply List.Sublist.cons))) rfl (by kernel_rfl) (by kernel_rfl) (v_fieldAddrB (o := 0) Try.underlying97 rfl rfl Try.nz95 rfl) rfl ?_
              refine a_take 9 pan_cx (by kernel_rfl) (fun _ hw => hw.sub (by repeat (first | exact List.Sublist.slnil | exact List.Sublist.refl _ | apply List.Sublist.cons_cons | apply List.Sublist.cons))) rfl (by kernel_rfl) (by kernel_rfl) (v_fieldAddrB (o := 0) Try.underlying95 rfl rfl Try.nz93 rfl) rfl ?_
              refine a_take 11 pan_cx (by kernel_rfl) (fun _ hw => hw.sub (by repeat (first | exact List.Sublist.slnil | exact List.Sublist.refl _ | apply List.Sublist.cons_cons | apply List.Sublist.cons))) rfl (by kernel_rfl) (by kernel_rfl) (v_move rfl) rfl ?_
              refine a_take 12 pan_cx (by kernel_rfl) (fun _ hw => hw.sub (by repeat (first | exact List.Sublist.slnil | exact List.Sublist.refl _ | apply List.Sublist.cons_cons | apply List.Sublist.cons))) rfl (by kernel_rfl) (by kernel_rfl) (v_nilCheck rfl) rfl ?_
              refine a_take 13 pan_cx (by kernel_rfl) (fun _ hw => hw.sub (by repeat (first | exact List.Sublist.slnil | exact List.Sublist.refl _ | apply List.Sublist.cons_cons | apply List.Sublist.cons))) rfl (by kernel_rfl) (by kernel_rfl) (v_fieldAddrB (o := 2) Try.underlying97 rfl rfl Try.nz3 rfl) rfl ?_
              refine a_all [5, 10, 14] (by kernel_rfl) rfl ?_
              intro i hi
              simp only [List.mem_cons, List.not_mem_nil, or_false] at hi
              rcases hi with rfl | rfl | rfl
              · refine a_op rfl rfl ?_
                refine x_val (v_loadBN (cs' := intCells (stL q.L q.dn)) 1 rfl Try.underlying23 rfl Try.hi23 Try.cz23 rfl (chR_st hz) (by simp [intCells, hz])) rfl ?_
                refine a_and (fun _ hw => hw.sub (by repeat (first | exact List.Sublist.slnil | exact List.Sublist.refl _ | apply List.Sublist.cons_cons | apply List.Sublist.cons))) ?_
                refine a_all [10, 14] (by kernel_rfl) rfl ?_
                intro i hi
                simp only [List.mem_cons, List.not_mem_nil, or_false] at hi
                rcases hi with rfl | rfl
                · refine a_op rfl rfl ?_
                  refine x_val (v_loadB 1 rfl Try.underlying93 rfl rfl rfl) rfl ?_
                  refine a_and (fun _ hw => hw.sub (by repeat (first | exact List.Sublist.slnil | exact List.Sublist.refl _ | apply List.Sublist.cons_cons | apply List.Sublist.cons))) ?_
                  refine a_one 14 (by kernel_rfl) rfl rfl ?_
                  refine x_val (v_loadB 1 rfl Try.underlying3 rfl rfl rfl) rfl ?_
                  refine a_and (fun _ hw => hw.sub (by repeat (first | exact List.Sublist.slnil | exact List.Sublist.refl _ | apply List.Sublist.cons_cons | apply List.Sublist.cons))) ?_
                  refine a_take 15 pan_cx (by kernel_rfl) (fun _ hw => hw.sub (by repeat (first | exact List.Sublist.slnil | exact List.Sublist.refl _ | apply List.Sublist.cons_cons | apply List.Sublist.cons))) rfl (by kernel_rfl) (by kernel_rfl) (v_indexS Try.underlying93 Try.hi38 Try.cz38 rfl rfl (by first | omega | decide)) rfl ?_
                  refine a_take 16 pan_cx (by kernel_rfl) (fun _ hw => hw.sub (by repeat (first | exact List.Sublist.slnil | exact List.Sublist.refl _ | apply List.Sublist.cons_cons | apply List.Sublist.cons))) rfl (by kernel_rfl) (by kernel_rfl) (v_loadR 0 rfl (by omega) hu Try.underlying38 rfl rfl) rfl ?_
                  refine a_one 17 (by kernel_rfl) rfl rfl ?_
                  refine x_call (dst := some 67) (mc := []) (σ := Value) (fun _ => True) (fun sl => .tuple #[intsV (stL q.L (q.dn + 1)), sl]) (fun sl => [Own sl 30 5 (lastL q.L (q.dn + 1)).length (resL (lastL q.L (q.dn + 1)))]) rfl rfl rfl Try.call87 (fun w hw => hcall w _ (hgd ▸ (keep_all (Rounds.up _ _) (hw.mem (i := 3) rfl)).at hdl (List.getElem?_eq_getElem hiv))) rfl (fun sl _ => ?_); refine g_shape 0 rfl fun A9 k9 hv9 _ => ?_; subst hv9
                  refine a_and (fun _ hw => hw.sub (by repeat (first | exact List.Sublist.slnil | exact List.Sublist.refl _ | apply List.Sublist.cons_cons | apply List.Sublist.cons))) ?_
                  refine a_take 18 pan_cx (by kernel_rfl) (fun _ hw => hw.sub (by repeat (first | exact List.Sublist.slnil | exact List.Sublist.refl _ | apply List.Sublist.cons_cons | apply List.Sublist.cons))) rfl (by kernel_rfl) (by kernel_rfl) (v_move rfl) rfl ?_
                  refine a_take 19 pan_cx (by kernel_rfl) (fun _ hw => hw.sub (by repeat (first | exact List.Sublist.slnil | exact List.Sublist.refl _ | apply List.Sublist.cons_cons | apply List.Sublist.cons))) rfl (by kernel_rfl) (by kernel_rfl) (v_extract rfl rfl) rfl ?_
                  refine a_take 20 pan_cx (by kernel_rfl) (fun _ hw => hw.sub (by repeat (first | exact List.Sublist.slnil | exact List.Sublist.refl _ | apply List.Sublist.cons_cons | apply List.Sublist.cons))) rfl (by kernel_rfl) (by kernel_rfl) (v_extract rfl rfl) rfl ?_
                  refine a_take 21 pan_cx (by kernel_rfl) (fun _ hw => hw.sub (by repeat (first | exact List.Sublist.slnil | exact List.Sublist.refl _ | apply List.Sublist.cons_cons | apply List.Sublist.cons))) rfl (by kernel_rfl) (by kernel_rfl) (v_nilCheck rfl) rfl ?_
                  refine a_take 22 pan_cx (by kernel_rfl) (fun _ hw => hw.sub (by repeat (first | exact List.Sublist.slnil | exact List.Sublist.refl _ | apply List.Sublist.cons_cons | apply List.Sublist.cons))) rfl (by kernel_rfl) (by kernel_rfl) (v_fieldAddrB (o := 3) Try.underlying97 rfl rfl Try.nz23 rfl) rfl ?_
                  refine a_one 23 (by kernel_rfl) rfl rfl ?_
                  refine x_store (v := Value.agg (intCells (stL q.L (q.dn + 1))).toArray) 2 rfl rfl rfl Try.hi23 (Try.cz23.trans (by simp [Value.cells, intCells, hz2])) (by rw [chR_len hz]; simp [Value.cells, intCells, hz2]) (one_intCells _) (chR (.slice (some ad) q.L.length kl) q.k q.dn (stL q.L (q.dn + 1)) lw) (by rw [show (Value.agg (intCells (stL q.L (q.dn + 1))).toArray).cells.size = 10 from by simp [Value.cells, intCells, hz2]]; exact chR_st_set hz _) ?_
                  refine a_and (fun _ hw => hw.sub (by repeat (first | exact List.Sublist.slnil | exact List.Sublist.refl _ | apply List.Sublist.cons_cons | apply List.Sublist.cons))) ?_
                  refine a_take 24 pan_cx (by kernel_rfl) (fun _ hw => hw.sub (by repeat (first | exact List.Sublist.slnil | exact List.Sublist.refl _ | apply List.Sublist.cons_cons | apply List.Sublist.cons))) rfl (by kernel_rfl) (by kernel_rfl) (v_nilCheck rfl) rfl ?_
                  refine a_take 25 pan_cx (by kernel_rfl) (fun _ hw => hw.sub (by repeat (first | exact List.Sublist.slnil | exact List.Sublist.refl _ | apply List.Sublist.cons_cons | apply List.Sublist.cons))) rfl (by kernel_rfl) (by kernel_rfl) (v_fieldAddrB (o := 13) Try.underlying97 rfl rfl Try.nz57 rfl) rfl ?_
                  refine a_one 26 (by kernel_rfl) rfl rfl ?_
                  refine x_store1 (v := (.slice A9 (lastL q.L (q.dn + 1)).length k9)) 2 rfl rfl rfl Try.hi57 Try.cz57 rfl (by rw [chR_len hz2]; decide) rfl ?_; rw [chR_last_set hz2]
                  refine a_and (fun _ hw => hw.sub (by repeat (first | exact List.Sublist.slnil | exact List.Sublist.refl _ | apply List.Sublist.cons_cons | apply List.Sublist.cons))) ?_
                  refine a_done (by kernel_rfl) ?_
                  exact e_cutEnd (.slice A9 (lastL q.L (q.dn + 1)).length k9) trivial (by repeat (first | exact Sub.nil _ | refine Sub.cons rfl ?_)) (fun _ hw => hw.pick [1, 2, 3, 4, 0] (by decide))
                · refine a_op rfl rfl ?_
                  refine x_val (v_loadB 1 rfl Try.underlying3 rfl rfl rfl) rfl ?_
                  refine a_and (fun _ hw => hw.sub (by repeat (first | exact List.Sublist.slnil | exact List.Sublist.refl _ | apply List.Sublist.cons_cons | apply List.Sublist.cons))) ?_
                  refine a_one 10 (by kernel_rfl) rfl rfl ?_
                  refine x_val (v_loadB 1 rfl Try.underlying93 rfl rfl rfl) rfl ?_
                  refine a_and (fun _ hw => hw.sub (by repeat (first | exact List.Sublist.slnil | exact List.Sublist.refl _ | apply List.Sublist.cons_cons | apply List.Sublist.cons))) ?_
                  refine a_take 15 pan_cx (by kernel_rfl) (fun _ hw => hw.sub (by repeat (first | exact List.Sublist.slnil | exact List.Sublist.refl _ | apply List.Sublist.cons_cons | apply List.Sublist.cons))) rfl (by kernel_rfl) (by kernel_rfl) (v_indexS Try.underlying93 Try.hi38 Try.cz38 rfl rfl (by first | omega | decide)) rfl ?_
                  refine a_take 16 pan_cx (by kernel_rfl) (fun _ hw => hw.sub (by repeat (first | exact List.Sublist.slnil | exact List.Sublist.refl _ | apply List.Sublist.cons_cons | apply List.Sublist.cons))) rfl (by kernel_rfl) (by kernel_rfl) (v_loadR 0 rfl (by omega) hu Try.underlying38 rfl rfl) rfl ?_
                  refine a_one 17 (by kernel_rfl) rfl rfl ?_
                  refine x_call (dst := some 67) (mc := []) (σ := Value) (fun _ => True) (fun sl => .tuple #[intsV (stL q.L (q.dn + 1)), sl]) (fun sl => [Own sl 30 5 (lastL q.L (q.dn + 1)).length (resL (lastL q.L (q.dn + 1)))]) rfl rfl rfl Try.call87 (fun w hw => hcall w _ (hgd ▸ (keep_all (Rounds.up _ _) (hw.mem (i := 3) rfl)).at hdl (List.getElem?_eq_getElem hiv))) rfl (fun sl _ => ?_); refine g_shape 0 rfl fun A9 k9 hv9 _ => ?_; subst hv9
                  refine a_and (fun _ hw => hw.sub (by repeat (first | exact List.Sublist.slnil | exact List.Sublist.refl _ | apply List.Sublist.cons_cons | apply List.Sublist.cons))) ?_
                  refine a_take 18 pan_cx (by kernel_rfl) (fun _ hw => hw.sub (by repeat (first | exact List.Sublist.slnil | exact List.Sublist.refl _ | apply List.Sublist.cons_cons | apply List.Sublist.cons))) rfl (by kernel_rfl) (by kernel_rfl) (v_move rfl) rfl ?_
                  refine a_take 19 pan_cx (by kernel_rfl) (fun _ hw => hw.sub (by repeat (first | exact List.Sublist.slnil | exact List.Sublist.refl _ | apply List.Sublist.cons_cons | apply List.Sublist.cons))) rfl (by kernel_rfl) (by kernel_rfl) (v_extract rfl rfl) rfl ?_
                  refine a_take 20 pan_cx (by kernel_rfl) (fun _ hw => hw.sub (by repeat (first | exact List.Sublist.slnil | exact List.Sublist.refl _ | apply List.Sublist.cons_cons | apply List.Sublist.cons))) rfl (by kernel_rfl) (by kernel_rfl) (v_extract rfl rfl) rfl ?_
                  refine a_take 21 pan_cx (by kernel_rfl) (fun _ hw => hw.sub (by repeat (first | exact List.Sublist.slnil | exact List.Sublist.refl _ | apply List.Sublist.cons_cons | apply List.Sublist.cons))) rfl (by kernel_rfl) (by kernel_rfl) (v_nilCheck rfl) rfl ?_
                  refine a_take 22 pan_cx (by kernel_rfl) (fun _ hw => hw.sub (by repeat (first | exact List.Sublist.slnil | exact List.Sublist.refl _ | apply List.Sublist.cons_cons | apply List.Sublist.cons))) rfl (by kernel_rfl) (by kernel_rfl) (v_fieldAddrB (o := 3) Try.underlying97 rfl rfl Try.nz23 rfl) rfl ?_
                  refine a_one 23 (by kernel_rfl) rfl rfl ?_
                  refine x_store (v := Value.agg (intCells (stL q.L (q.dn + 1))).toArray) 2 rfl rfl rfl Try.hi23 (Try.cz23.trans (by simp [Value.cells, intCells, hz2])) (by rw [chR_len hz]; simp [Value.cells, intCells, hz2]) (one_intCells _) (chR (.slice (some ad) q.L.length kl) q.k q.dn (stL q.L (q.dn + 1)) lw) (by rw [show (Value.agg (intCells (stL q.L (q.dn + 1))).toArray).cells.size = 10 from by simp [Value.cells, intCells, hz2]]; exact chR_st_set hz _) ?_
                  refine a_and (fun _ hw => hw.sub (by repeat (first | exact List.Sublist.slnil | exact List.Sublist.refl _ | apply List.Sublist.cons_cons | apply List.Sublist.cons))) ?_
                  refine a_take 24 pan_cx (by kernel_rfl) (fun _ hw => hw.sub (by repeat (first | exact List.Sublist.slnil | exact List.Sublist.refl _ | apply List.Sublist.cons_cons | apply List.Sublist.cons))) rfl (by kernel_rfl) (by kernel_rfl) (v_nilCheck rfl) rfl ?_
                  refine a_take 25 pan_cx (by kernel_rfl) (fun _ hw => hw.sub (by repeat (first | exact List.Sublist.slnil | exact List.Sublist.refl _ | apply List.Sublist.cons_cons | apply List.Sublist.cons))) rfl (by kernel_rfl) (by kernel_rfl) (v_fieldAddrB (o := 13) Try.underlying97 rfl rfl Try.nz57 rfl) rfl ?_
                  refine a_one 26 (by kernel_rfl) rfl rfl ?_
                  refine x_store1 (v := (.slice A9 (lastL q.L (q.dn + 1)).length k9)) 2 rfl rfl rfl Try.hi57 Try.cz57 rfl (by rw [chR_len hz2]; decide) rfl ?_; rw [chR_last_set hz2]
                  refine a_and (fun _ hw => hw.sub (by repeat (first | exact List.Sublist.slnil | exact List.Sublist.refl _ | apply List.Sublist.cons_cons | apply List.Sublist.cons))) ?_
                  refine a_done (by kernel_rfl) ?_
                  exact e_cutEnd (.slice A9 (lastL q.L (q.dn + 1)).length k9) trivial (by repeat (first | exact Sub.nil _ | refine Sub.cons rfl ?_)) (fun _ hw => hw.pick [1, 2, 3, 4, 0] (by decide))
              · refine a_op rfl rfl ?_
                refine x_val (v_loadB 1 rfl Try.underlying93 rfl rfl rfl) rfl ?_
                refine a_and (fun _ hw => hw.sub (by repeat (first | exact List.Sublist.slnil | exact List.Sublist.refl _ | apply List.Sublist.cons_cons | apply List.Sublist.cons))) ?_
                refine a_all [5, 14] (by kernel_rfl) rfl ?_
                intro i hi
                simp only [List.mem_cons, List.not_mem_nil, or_false] at hi
                rcases hi with rfl | rfl
                · refine a_op rfl rfl ?_
                  refine x_val (v_loadBN (cs' := intCells (stL q.L q.dn)) 1 rfl Try.underlying23 rfl Try.hi23 Try.cz23 rfl (chR_st hz) (by simp [intCells, hz])) rfl ?_
                  refine a_and (fun _ hw => hw.sub (by repeat (first | exact List.Sublist.slnil | exact List.Sublist.refl _ | apply List.Sublist.cons_cons | apply List.Sublist.cons))) ?_
                  refine a_one 14 (by kernel_rfl) rfl rfl ?_
                  refine x_val (v_loadB 1 rfl Try.underlying3 rfl rfl rfl) rfl ?_
                  refine a_and (fun _ hw => hw.sub (by repeat (first | exact List.Sublist.slnil | exact List.Sublist.refl _ | apply List.Sublist.cons_cons | apply List.Sublist.cons))) ?_
                  refine a_take 15 pan_cx (by kernel_rfl) (fun _ hw => hw.sub (by repeat (first | exact List.Sublist.slnil | exact List.Sublist.refl _ | apply List.Sublist.cons_cons | apply List.Sublist.cons))) rfl (by kernel_rfl) (by kernel_rfl) (v_indexS Try.underlying93 Try.hi38 Try.cz38 rfl rfl (by first | omega | decide)) rfl ?_
                  refine a_take 16 pan_cx (by kernel_rfl) (fun _ hw => hw.sub (by repeat (first | exact List.Sublist.slnil | exact List.Sublist.refl _ | apply List.Sublist.cons_cons | apply List.Sublist.cons))) rfl (by kernel_rfl) (by kernel_rfl) (v_loadR 0 rfl (by omega) hu Try.underlying38 rfl rfl) rfl ?_
                  refine a_one 17 (by kernel_rfl) rfl rfl ?_
                  refine x_call (dst := some 67) (mc := []) (σ := Value) (fun _ => True) (fun sl => .tuple #[intsV (stL q.L (q.dn + 1)), sl]) (fun sl => [Own sl 30 5 (lastL q.L (q.dn + 1)).length (resL (lastL q.L (q.dn + 1)))]) rfl rfl rfl Try.call87 (fun w hw => hcall w _ (hgd ▸ (keep_all (Rounds.up _ _) (hw.mem (i := 3) rfl)).at hdl (List.getElem?_eq_getElem hiv))) rfl (fun sl _ => ?_); refine g_shape 0 rfl fun A9 k9 hv9 _ => ?_; subst hv9
                  refine a_and (fun _ hw => hw.sub (by repeat (first | exact List.Sublist.slnil | exact List.Sublist.refl _ | apply List.Sublist.cons_cons | apply List.Sublist.cons))) ?_
                  refine a_take 18 pan_cx (by kernel_rfl) (fun _ hw => hw.sub (by repeat (first | exact List.Sublist.slnil | exact List.Sublist.refl _ | apply List.Sublist.cons_cons | apply List.Sublist.cons))) rfl (by kernel_rfl) (by kernel_rfl) (v_move rfl) rfl ?_
                  refine a_take 19 pan_cx (by kernel_rfl) (fun _ hw => hw.sub (by repeat (first | exact List.Sublist.slnil | exact List.Sublist.refl _ | apply List.Sublist.cons_cons | apply List.Sublist.cons))) rfl (by kernel_rfl) (by kernel_rfl) (v_extract rfl rfl) rfl ?_
                  refine a_take 20 pan_cx (by kernel_rfl) (fun _ hw => hw.sub (by repeat (first | exact List.Sublist.slnil | exact List.Sublist.refl _ | apply List.Sublist.cons_cons | apply List.Sublist.cons))) rfl (by kernel_rfl) (by kernel_rfl) (v_extract rfl rfl) rfl ?_
                  refine a_take 21 pan_cx (by kernel_rfl) (fun _ hw => hw.sub (by repeat (first | exact List.Sublist.slnil | exact List.Sublist.refl _ | apply List.Sublist.cons_cons | apply List.Sublist.cons))) rfl (by kernel_rfl) (by kernel_rfl) (v_nilCheck rfl) rfl ?_
                  refine a_take 22 pan_cx (by kernel_rfl) (fun _ hw => hw.sub (by repeat (first | exact List.Sublist.slnil | exact List.Sublist.refl _ | apply List.Sublist.cons_cons | apply List.Sublist.cons))) rfl (by kernel_rfl) (by kernel_rfl) (v_fieldAddrB (o := 3) Try.underlying97 rfl rfl Try.nz23 rfl) rfl ?_
                  refine a_one 23 (by kernel_rfl) rfl rfl ?_
                  refine x_store (v := Value.agg (intCells (stL q.L (q.dn + 1))).toArray) 2 rfl rfl rfl Try.hi23 (Try.cz23.trans (by simp [Value.cells, intCells, hz2])) (by rw [chR_len hz]; simp [Value.cells, intCells, hz2]) (one_intCells _) (chR (.slice (some ad) q.L.length kl) q.k q.dn (stL q.L (q.dn + 1)) lw) (by rw [show (Value.agg (intCells (stL q.L (q.dn + 1))).toArray).cells.size = 10 from by simp [Value.cells, intCells, hz2]]; exact chR_st_set hz _) ?_
                  refine a_and (fun _ hw => hw.sub (by repeat (first | exact List.Sublist.slnil | exact List.Sublist.refl _ | apply List.Sublist.cons_cons | apply List.Sublist.cons))) ?_
                  refine a_take 24 pan_cx (by kernel_rfl) (fun _ hw => hw.sub (by repeat (first | exact List.Sublist.slnil | exact List.Sublist.refl _ | apply List.Sublist.cons_cons | apply List.Sublist.cons))) rfl (by kernel_rfl) (by kernel_rfl) (v_nilCheck rfl) rfl ?_
                  refine a_take 25 pan_cx (by kernel_rfl) (fun _ hw => hw.sub (by repeat (first | exact List.Sublist.slnil | exact List.Sublist.refl _ | apply List.Sublist.cons_cons | apply List.Sublist.cons))) rfl (by kernel_rfl) (by kernel_rfl) (v_fieldAddrB (o := 13) Try.underlying97 rfl rfl Try.nz57 rfl) rfl ?_
                  refine a_one 26 (by kernel_rfl) rfl rfl ?_
                  refine x_store1 (v := (.slice A9 (lastL q.L (q.dn + 1)).length k9)) 2 rfl rfl rfl Try.hi57 Try.cz57 rfl (by rw [chR_len hz2]; decide) rfl ?_; rw [chR_last_set hz2]
                  refine a_and (fun _ hw => hw.sub (by repeat (first | exact List.Sublist.slnil | exact List.Sublist.refl _ | apply List.Sublist.cons_cons | apply List.Sublist.cons))) ?_
                  refine a_done (by kernel_rfl) ?_
                  exact e_cutEnd (.slice A9 (lastL q.L (q.dn + 1)).length k9) trivial (by repeat (first | exact Sub.nil _ | refine Sub.cons rfl ?_)) (fun _ hw => hw.pick [1, 2, 3, 4, 0] (by decide))
                · refine a_op rfl rfl ?_
                  refine x_val (v_loadB 1 rfl Try.underlying3 rfl rfl rfl) rfl ?_
                  refine a_and (fun _ hw => hw.sub (by repeat (first | exact List.Sublist.slnil | exact List.Sublist.refl _ | apply List.Sublist.cons_cons | apply List.Sublist.cons))) ?_
                  refine a_take 15 pan_cx (by kernel_rfl) (fun _ hw => hw.sub (by repeat (first | exact List.Sublist.slnil | exact List.Sublist.refl _ | apply List.Sublist.cons_cons | apply List.Sublist.cons))) rfl (by kernel_rfl) (by kernel_rfl) (v_indexS Try.underlying93 Try.hi38 Try.cz38 rfl rfl (by first | omega | decide)) rfl ?_
                  refine a_take 16 pan_cx (by kernel_rfl) (fun _ hw => hw.sub (by repeat (first | exact List.Sublist.slnil | exact List.Sublist.refl _ | apply List.Sublist.cons_cons | apply List.Sublist.cons))) rfl (by kernel_rfl) (by kernel_rfl) (v_loadR 0 rfl (by omega) hu Try.underlying38 rfl rfl) rfl ?_
                  refine a_one 5 (by kernel_rfl) rfl rfl ?_
                  refine x_val (v_loadBN (cs' := intCells (stL q.L q.dn)) 1 rfl Try.underlying23 rfl Try.hi23 Try.cz23 rfl (chR_st hz) (by simp [intCells, hz])) rfl ?_
                  refine a_and (fun _ hw => hw.sub (by repeat (first | exact List.Sublist.slnil | exact List.Sublist.refl _ | apply List.Sublist.cons_cons | apply List.Sublist.cons))) ?_
                  refine a_one 17 (by kernel_rfl) rfl rfl ?_
                  refine x_call (dst := some 67) (mc := []) (σ := Value) (fun _ => True) (fun sl => .tuple #[intsV (stL q.L (q.dn + 1)), sl]) (fun sl => [Own sl 30 5 (lastL q.L (q.dn + 1)).length (resL (lastL q.L (q.dn + 1)))]) rfl rfl rfl Try.call87 (fun w hw => hcall w _ (hgd ▸ (keep_all (Rounds.up _ _) (hw.mem (i := 3) rfl)).at hdl (List.getElem?_eq_getElem hiv))) rfl (fun sl _ => ?_); refine g_shape 0 rfl fun A9 k9 hv9 _ => ?_; subst hv9
                  refine a_and (fun _ hw => hw.sub (by repeat (first | exact List.Sublist.slnil | exact List.Sublist.refl _ | apply List.Sublist.cons_cons | apply List.Sublist.cons))) ?_
                  refine a_take 18 pan_cx (by kernel_rfl) (fun _ hw => hw.sub (by repeat (first | exact List.Sublist.slnil | exact List.Sublist.refl _ | apply List.Sublist.cons_cons | apply List.Sublist.cons))) rfl (by kernel_rfl) (by kernel_rfl) (v_move rfl) rfl ?_
                  refine a_take 19 pan_cx (by kernel_rfl) (fun _ hw => hw.sub (by repeat (first | exact List.Sublist.slnil | exact List.Sublist.refl _ | apply List.Sublist.cons_cons | apply List.Sublist.cons))) rfl (by kernel_rfl) (by kernel_rfl) (v_extract rfl rfl) rfl ?_
                  refine a_take 20 pan_cx (by kernel_rfl) (fun _ hw => hw.sub (by repeat (first | exact List.Sublist.slnil | exact List.Sublist.refl _ | apply List.Sublist.cons_cons | apply List.Sublist.cons))) rfl (by kernel_rfl) (by kernel_rfl) (v_extract rfl rfl) rfl ?_
                  refine a_take 21 pan_cx (by kernel_rfl) (fun _ hw => hw.sub (by repeat (first | exact List.Sublist.slnil | exact List.Sublist.refl _ | apply List.Sublist.cons_cons | apply List.Sublist.cons))) rfl (by kernel_rfl) (by kernel_rfl) (v_nilCheck rfl) rfl ?_
                  refine a_take 22 pan_cx (by kernel_rfl) (fun _ hw => hw.sub (by repeat (first | exact List.Sublist.slnil | exact List.Sublist.refl _ | apply List.Sublist.cons_cons | apply List.Sublist.cons))) rfl (by kernel_rfl) (by kernel_rfl) (v_fieldAddrB (o := 3) Try.underlying97 rfl rfl Try.nz23 rfl) rfl ?_
                  refine a_one 23 (by kernel_rfl) rfl rfl ?_
                  refine x_store (v := Value.agg (intCells (stL q.L (q.dn + 1))).toArray) 2 rfl rfl rfl Try.hi23 (Try.cz23.trans (by simp [Value.cells, intCells, hz2])) (by rw [chR_len hz]; simp [Value.cells, intCells, hz2]) (one_intCells _) (chR (.slice (some ad) q.L.length kl) q.k q.dn (stL q.L (q.dn + 1)) lw) (by rw [show (Value.agg (intCells (stL q.L (q.dn + 1))).toArray).cells.size = 10 from by simp [Value.cells, intCells, hz2]]; exact chR_st_set hz _) ?_
                  refine a_and (fun _ hw => hw.sub (by repeat (first | exact List.Sublist.slnil | exact List.Sublist.refl _ | apply List.Sublist.cons_cons | apply List.Sublist.cons))) ?_
                  refine a_take 24 pan_cx (by kernel_rfl) (fun _ hw => hw.sub (by repeat (first | exact List.Sublist.slnil | exact List.Sublist.refl _ | apply List.Sublist.cons_cons | apply List.Sublist.cons))) rfl (by kernel_rfl) (by kernel_rfl) (v_nilCheck rfl) rfl ?_
                  refine a_take 25 pan_cx (by kernel_rfl) (fun _ hw => hw.sub (by repeat (first | exact List.Sublist.slnil | exact List.Sublist.refl _ | apply List.Sublist.cons_cons | apply List.Sublist.cons))) rfl (by kernel_rfl) (by kernel_rfl) (v_fieldAddrB (o := 13) Try.underlying97 rfl rfl Try.nz57 rfl) rfl ?_
                  refine a_one 26 (by kernel_rfl) rfl rfl ?_
                  refine x_store1 (v := (.slice A9 (lastL q.L (q.dn + 1)).length k9)) 2 rfl rfl rfl Try.hi57 Try.cz57 rfl (by rw [chR_len hz2]; decide) rfl ?_; rw [chR_last_set hz2]
                  refine a_and (fun _ hw => hw.sub (by repeat (first | exact List.Sublist.slnil | exact List.Sublist.refl _ | apply List.Sublist.cons_cons | apply List.Sublist.cons))) ?_
                  refine a_done (by kernel_rfl) ?_
                  exact e_cutEnd (.slice A9 (lastL q.L (q.dn + 1)).length k9) trivial (by repeat (first | exact Sub.nil _ | refine Sub.cons rfl ?_)) (fun _ hw => hw.pick [1, 2, 3, 4, 0] (by decide))
              · refine a_op rfl rfl ?_
                refine x_val (v_loadB 1 rfl Try.underlying3 rfl rfl rfl) rfl ?_
                refine a_and (fun _ hw => hw.sub (by repeat (first | exact List.Sublist.slnil | exact List.Sublist.refl _ | apply List.Sublist.cons_cons | apply List.Sublist.cons))) ?_
                refine a_all [5, 10] (by kernel_rfl) rfl ?_
                intro i hi
                simp only [List.mem_cons, List.not_mem_nil, or_false] at hi
                rcases hi with rfl | rfl
                · refine a_op rfl rfl ?_
                  refine x_val (v_loadBN (cs' := intCells (stL q.L q.dn)) 1 rfl Try.underlying23 rfl Try.hi23 Try.cz23 rfl (chR_st hz) (by simp [intCells, hz])) rfl ?_
                  refine a_and (fun _ hw => hw.sub (by repeat (first | exact List.Sublist.slnil | exact List.Sublist.refl _ | apply List.Sublist.cons_cons | apply List.Sublist.cons))) ?_
                  refine a_one 10 (by kernel_rfl) rfl rfl ?_
                  refine x_val (v_loadB 1 rfl Try.underlying93 rfl rfl rfl) rfl ?_
                  refine a_and (fun _ hw => hw.sub (by repeat (first | exact List.Sublist.slnil | exact List.Sublist.refl _ | apply List.Sublist.cons_cons | apply List.Sublist.cons))) ?_
                  refine a_take 15 pan_cx (by kernel_rfl) (fun _ hw => hw.sub (by repeat (first | exact List.Sublist.slnil | exact List.Sublist.refl _ | apply List.Sublist.cons_cons | apply List.Sublist.cons))) rfl (by kernel_rfl) (by kernel_rfl) (v_indexS Try.underlying93 Try.hi38 Try.cz38 rfl rfl (by first | omega | decide)) rfl ?_
                  refine a_take 16 pan_cx (by kernel_rfl) (fun _ hw => hw.sub (by repeat (first | exact List.Sublist.slnil | exact List.Sublist.refl _ | apply List.Sublist.cons_cons | apply List.Sublist.cons))) rfl (by kernel_rfl) (by kernel_rfl) (v_loadR 0 rfl (by omega) hu Try.underlying38 rfl rfl) rfl ?_
                  refine a_one 17 (by kernel_rfl) rfl rfl ?_
                  refine x_call (dst := some 67) (mc := []) (σ := Value) (fun _ => True) (fun sl => .tuple #[intsV (stL q.L (q.dn + 1)), sl]) (fun sl => [Own sl 30 5 (lastL q.L (q.dn + 1)).length (resL (lastL q.L (q.dn + 1)))]) rfl rfl rfl Try.call87 (fun w hw => hcall w _ (hgd ▸ (keep_all (Rounds.up _ _) (hw.mem (i := 3) rfl)).at hdl (List.getElem?_eq_getElem hiv))) rfl (fun sl _ => ?_); refine g_shape 0 rfl fun A9 k9 hv9 _ => ?_; subst hv9
                  refine a_and (fun _ hw => hw.sub (by repeat (first | exact List.Sublist.slnil | exact List.Sublist.refl _ | apply List.Sublist.cons_cons | apply List.Sublist.cons))) ?_
                  refine a_take 18 pan_cx (by kernel_rfl) (fun _ hw => hw.sub (by repeat (first | exact List.Sublist.slnil | exact List.Sublist.refl _ | apply List.Sublist.cons_cons | apply List.Sublist.cons))) rfl (by kernel_rfl) (by kernel_rfl) (v_move rfl) rfl ?_
                  refine a_take 19 pan_cx (by kernel_rfl) (fun _ hw => hw.sub (by repeat (first | exact List.Sublist.slnil | exact List.Sublist.refl _ | apply List.Sublist.cons_cons | apply List.Sublist.cons))) rfl (by kernel_rfl) (by kernel_rfl) (v_extract rfl rfl) rfl ?_
                  refine a_take 20 pan_cx (by kernel_rfl) (fun _ hw => hw.sub (by repeat (first | exact List.Sublist.slnil | exact List.Sublist.refl _ | apply List.Sublist.cons_cons | apply List.Sublist.cons))) rfl (by kernel_rfl) (by kernel_rfl) (v_extract rfl rfl) rfl ?_
                  refine a_take 21 pan_cx (by kernel_rfl) (fun _ hw => hw.sub (by repeat (first | exact List.Sublist.slnil | exact List.Sublist.refl _ | apply List.Sublist.cons_cons | apply List.Sublist.cons))) rfl (by kernel_rfl) (by kernel_rfl) (v_nilCheck rfl) rfl ?_
                  refine a_take 22 pan_cx (by kernel_rfl) (fun _ hw => hw.sub (by repeat (first | exact List.Sublist.slnil | exact List.Sublist.refl _ | apply List.Sublist.cons_cons | apply List.Sublist.cons))) rfl (by kernel_rfl) (by kernel_rfl) (v_fieldAddrB (o := 3) Try.underlying97 rfl rfl Try.nz23 rfl) rfl ?_
                  refine a_one 23 (by kernel_rfl) rfl rfl ?_
                  refine x_store (v := Value.agg (intCells (stL q.L (q.dn + 1))).toArray) 2 rfl rfl rfl Try.hi23 (Try.cz23.trans (by simp [Value.cells, intCells, hz2])) (by rw [chR_len hz]; simp [Value.cells, intCells, hz2]) (one_intCells _) (chR (.slice (some ad) q.L.length kl) q.k q.dn (stL q.L (q.dn + 1)) lw) (by rw [show (Value.agg (intCells (stL q.L (q.dn + 1))).toArray).cells.size = 10 from by simp [Value.cells, intCells, hz2]]; exact chR_st_set hz _) ?_
                  refine a_and (fun _ hw => hw.sub (by repeat (first | exact List.Sublist.slnil | exact List.Sublist.refl _ | apply List.Sublist.cons_cons | apply List.Sublist.cons))) ?_
                  refine a_take 24 pan_cx (by kernel_rfl) (fun _ hw => hw.sub (by repeat (first | exact List.Sublist.slnil | exact List.Sublist.refl _ | apply List.Sublist.cons_cons | apply List.Sublist.cons))) rfl (by kernel_rfl) (by kernel_rfl) (v_nilCheck rfl) rfl ?_
                  refine a_take 25 pan_cx (by kernel_rfl) (fun _ hw => hw.sub (by repeat (first | exact List.Sublist.slnil | exact List.Sublist.refl _ | apply List.Sublist.cons_cons | apply List.Sublist.cons))) rfl (by kernel_rfl) (by kernel_rfl) (v_fieldAddrB (o := 13) Try.underlying97 rfl rfl Try.nz57 rfl) rfl ?_
                  refine a_one 26 (by kernel_rfl) rfl rfl ?_
                  refine x_store1 (v := (.slice A9 (lastL q.L (q.dn + 1)).length k9)) 2 rfl rfl rfl Try.hi57 Try.cz57 rfl (by rw [chR_len hz2]; decide) rfl ?_; rw [chR_last_set hz2]
                  refine a_and (fun _ hw => hw.sub (by repeat (first | exact List.Sublist.slnil | exact List.Sublist.refl _ | apply List.Sublist.cons_cons | apply List.Sublist.cons))) ?_
                  refine a_done (by kernel_rfl) ?_
                  exact e_cutEnd (.slice A9 (lastL q.L (q.dn + 1)).length k9) trivial (by repeat (first | exact Sub.nil _ | refine Sub.cons rfl ?_)) (fun _ hw => hw.pick [1, 2, 3, 4, 0] (by decide))
                · refine a_op rfl rfl ?_
                  refine x_val (v_loadB 1 rfl Try.underlying93 rfl rfl rfl) rfl ?_
                  refine a_and (fun _ hw => hw.sub (by repeat (first | exact List.Sublist.slnil | exact List.Sublist.refl _ | apply List.Sublist.cons_cons | apply List.Sublist.cons))) ?_
                  refine a_take 15 pan_cx (by kernel_rfl) (fun _ hw => hw.sub (by repeat (first | exact List.Sublist.slnil | exact List.Sublist.refl _ | apply List.Sublist.cons_cons | apply List.Sublist.cons))) rfl (by kernel_rfl) (by kernel_rfl) (v_indexS Try.underlying93 Try.hi38 Try.cz38 rfl rfl (by first | omega | decide)) rfl ?_
                  refine a_take 16 pan_cx (by kernel_rfl) (fun _ hw => hw.sub (by repeat (first | exact List.Sublist.slnil | exact List.Sublist.refl _ | apply List.Sublist.cons_cons | apply List.Sublist.cons))) rfl (by kernel_rfl) (by kernel_rfl) (v_loadR 0 rfl (by omega) hu Try.underlying38 rfl rfl) rfl ?_
                  refine a_one 5 (by kernel_rfl) rfl rfl ?_
                  refine x_val (v_loadBN (cs' := intCells (stL q.L q.dn)) 1 rfl Try.underlying23 rfl Try.hi23 Try.cz23 rfl (chR_st hz) (by simp [intCells, hz])) rfl ?_
                  refine a_and (fun _ hw => hw.sub (by repeat (first | exact List.Sublist.slnil | exact List.Sublist.refl _ | apply List.Sublist.cons_cons | apply List.Sublist.cons))) ?_
                  refine a_one 17 (by kernel_rfl) rfl rfl ?_
                  refine x_call (dst := some 67) (mc := []) (σ := Value) (fun _ => True) (fun sl => .tuple #[intsV (stL q.L (q.dn + 1)), sl]) (fun sl => [Own sl 30 5 (lastL q.L (q.dn + 1)).length (resL (lastL q.L (q.dn + 1)))]) rfl rfl rfl Try.call87 (fun w hw => hcall w _ (hgd ▸ (keep_all (Rounds.up _ _) (hw.mem (i := 3) rfl)).at hdl (List.getElem?_eq_getElem hiv))) rfl (fun sl _ => ?_); refine g_shape 0 rfl fun A9 k9 hv9 _ => ?_; subst hv9
                  refine a_and (fun _ hw => hw.sub (by repeat (first | exact List.Sublist.slnil | exact List.Sublist.refl _ | apply List.Sublist.cons_cons | apply List.Sublist.cons))) ?_
                  refine a_take 18 pan_cx (by kernel_rfl) (fun _ hw => hw.sub (by repeat (first | exact List.Sublist.slnil | exact List.Sublist.refl _ | apply List.Sublist.cons_cons | apply List.Sublist.cons))) rfl (by kernel_rfl) (by kernel_rfl) (v_move rfl) rfl ?_
                  refine a_take 19 pan_cx (by kernel_rfl) (fun _ hw => hw.sub (by repeat (first | exact List.Sublist.slnil | exact List.Sublist.refl _ | apply List.Sublist.cons_cons | apply List.Sublist.cons))) rfl (by kernel_rfl) (by kernel_rfl) (v_extract rfl rfl) rfl ?_
                  refine a_take 20 pan_cx (by kernel_rfl) (fun _ hw => hw.sub (by repeat (first | exact List.Sublist.slnil | exact List.Sublist.refl _ | apply List.Sublist.cons_cons | apply List.Sublist.cons))) rfl (by kernel_rfl) (by kernel_rfl) (v_extract rfl rfl) rfl ?_
                  refine a_take 21 pan_cx (by kernel_rfl) (fun _ hw => hw.sub (by repeat (first | exact List.Sublist.slnil | exact List.Sublist.refl _ | apply List.Sublist.cons_cons | apply List.Sublist.cons))) rfl (by kernel_rfl) (by kernel_rfl) (v_nilCheck rfl) rfl ?_
                  refine a_take 22 pan_cx (by kernel_rfl) (fun _ hw => hw.sub (by repeat (first | exact List.Sublist.slnil | exact List.Sublist.refl _ | apply List.Sublist.cons_cons | apply List.Sublist.cons))) rfl (by kernel_rfl) (by kernel_rfl) (v_fieldAddrB (o := 3) Try.underlying97 rfl rfl Try.nz23 rfl) rfl ?_
                  refine a_one 23 (by kernel_rfl) rfl rfl ?_
                  refine x_store (v := Value.agg (intCells (stL q.L (q.dn + 1))).toArray) 2 rfl rfl rfl Try.hi23 (Try.cz23.trans (by simp [Value.cells, intCells, hz2])) (by rw [chR_len hz]; simp [Value.cells, intCells, hz2]) (one_intCells _) (chR (.slice (some ad) q.L.length kl) q.k q.dn (stL q.L (q.dn + 1)) lw) (by rw [show (Value.agg (intCells (stL q.L (q.dn + 1))).toArray).cells.size = 10 from by simp [Value.cells, intCells, hz2]]; exact chR_st_set hz _) ?_
                  refine a_and (fun _ hw => hw.sub (by repeat (first | exact List.Sublist.slnil | exact List.Sublist.refl _ | apply List.Sublist.cons_cons | apply List.Sublist.cons))) ?_
                  refine a_take 24 pan_cx (by kernel_rfl) (fun _ hw => hw.sub (by repeat (first | exact List.Sublist.slnil | exact List.Sublist.refl _ | apply List.Sublist.cons_cons | apply List.Sublist.cons))) rfl (by kernel_rfl) (by kernel_rfl) (v_nilCheck rfl) rfl ?_
                  refine a_take 25 pan_cx (by kernel_rfl) (fun _ hw => hw.sub (by repeat (first | exact List.Sublist.slnil | exact List.Sublist.refl _ | apply List.Sublist.cons_cons | apply List.Sublist.cons))) rfl (by kernel_rfl) (by kernel_rfl) (v_fieldAddrB (o := 13) Try.underlying97 rfl rfl Try.nz57 rfl) rfl ?_
                  refine a_one 26 (by kernel_rfl) rfl rfl ?_
                  refine x_store1 (v := (.slice A9 (lastL q.L (q.dn + 1)).length k9)) 2 rfl rfl rfl Try.hi57 Try.cz57 rfl (by rw [chR_len hz2]; decide) rfl ?_; rw [chR_last_set hz2]
                  refine a_and (fun _ hw => hw.sub (by repeat (first | exact List.Sublist.slnil | exact List.Sublist.refl _ | apply List.Sublist.cons_cons | apply List.Sublist.cons))) ?_
                  refine a_done (by kernel_rfl) ?_
                  exact e_cutEnd (.slice A9 (lastL q.L (q.dn + 1)).length k9) trivial (by repeat (first | exact Sub.nil _ | refine Sub.cons rfl ?_)) (fun _ hw => hw.pick [1, 2, 3, 4, 0] (by decide))
            · rintro sl -
              refine e_seq ?_
              refine e_region ?_
              refine w_val (v_move rfl) rfl ?_
              refine w_val (v_nilCheck rfl) rfl ?_
              refine w_val (v_fieldAddrB (o := 2) Try.underlying97 rfl rfl Try.nz3 rfl) rfl ?_
              refine w_val (v_loadB 1 rfl Try.underlying3 rfl rfl rfl) rfl ?_
              refine w_val (v_add rfl rfl (by omega)) rfl ?_
              refine w_val (v_nilCheck rfl) rfl ?_
              refine w_val (v_fieldAddrB (o := 2) Try.underlying97 rfl rfl Try.nz3 rfl) rfl ?_
              refine w_op rfl ?_
              refine x_store1 1 rfl rfl rfl Try.hi3 Try.cz3 rfl (by rw [chR_len hz2]; decide) rfl ?_
              refine w_nil ?_
              refine e_seq ?_
              refine e_region ?_
              refine w_val (v_assign rfl) rfl ?_
              refine w_nil ?_
              refine e_retQ (q_ret1 rfl (.tmp rfl) ?_)
              exact fun w' hw' => ⟨(.slice (some ad) q.L.length kl, vs, G, sl), trivial, rfl, (hw'.pick [1, 2, 3, 4] (by decide)).res⟩
          · have hq2 : runQ q x.picks.length = (q, 4) := by unfold runQ; rw [if_pos hdk2, if_pos (by omega)]
            rw [hq2]
            refine e_condDF rfl (by omega) ?_
            refine e_skip ?_
            refine e_seq ?_
            refine e_seq ?_
            refine e_region ?_
            refine w_val (v_fieldAddrB (o := 2) Try.underlying100 rfl rfl Try.nz51 rfl) rfl ?_
            refine w_val (v_loadB 0 rfl Try.underlying51 rfl rfl rfl) rfl ?_
            refine w_val (v_lenS Try.underlying51 rfl) rfl ?_
            refine w_val (v_is (v' := .bool true) (v_gtr rfl rfl) (by rw [decide_eq_true (by omega)])) rfl ?_
            refine w_nil ?_
            refine e_condT rfl ?_
            refine e_seq ?_
            refine e_region ?_
            refine w_val (v_assign rfl) rfl ?_
            refine w_nil ?_
            refine e_retQ (q_ret1 rfl (.tmp rfl) ?_)
            exact fun w' hw' => ⟨(.slice Al q.L.length kl, vs, G, lw), trivial, rfl, (hw'.pick [1, 2, 3, 4] (by decide)).res⟩
        · have hq2 : runQ q x.picks.length = (q, 7) := by unfold runQ; rw [if_neg hdk2]
          rw [hq2]
          refine e_condDT rfl (by omega) ?_
          refine e_seq ?_
          refine e_region ?_
          refine w_val (v_assign rfl) rfl ?_
          refine w_nil ?_
          refine e_retQ (q_ret1 rfl (.tmp rfl) ?_)
          exact fun w' hw' => ⟨(.slice Al q.L.length kl, vs, G, lw), trivial, rfl, (hw'.pick [1, 2, 3, 4] (by decide)).res⟩
      · by_cases h4 : x.kind = 4
        · have hq : doQ q x = (crashQ q x.keep, 0) := by unfold doQ; rw [if_neg h1, if_neg h2, if_neg h3, if_pos h4]
          have hcok := crashQ_ok hok x.keep
          rw [hq]
          unfold crashQ at *
          have hcr := fun (w1 : World) (h1 : ∀ d ∈ scHX c 97 (chT q.dn (stL q.L q.dn) lw) (.slice Al q.L.length kl) q.L q.k vs G, d.holds w1) (h2 : (scHX c 97 (chT q.dn (stL q.L q.dn) lw) (.slice Al q.L.length kl) q.L q.k vs G).Pairwise Disj) => scCrashX_spec c 97 (chT q.dn (stL q.L q.dn) lw) (.slice Al q.L.length kl) q.L q.k vs G x.keep w1 h1 h2 hok.log
          generalize q.L.take (crashL q.L q.k x.keep) = L' at *
          generalize crashL q.L q.k x.keep = m at *
          generalize vs.take m = vs' at *
          dsimp only
          refine w_val (v_is (v' := .bool false) (v_eql rfl rfl) (by rw [decide_eq_false h1])) rfl ?_
          refine w_val (v_assign rfl) rfl ?_
          refine w_nil ?_
          refine e_condF rfl ?_
          refine e_seq ?_
          refine e_region ?_
          refine w_val (v_is (v' := .bool false) (v_eql rfl rfl) (by rw [decide_eq_false h2])) rfl ?_
          refine w_val (v_assign rfl) rfl ?_
          refine w_nil ?_
          refine e_condF rfl ?_
          refine e_seq ?_
          refine e_region ?_
          refine w_val (v_is (v' := .bool false) (v_eql rfl rfl) (by rw [decide_eq_false h3])) rfl ?_
          refine w_val (v_assign rfl) rfl ?_
          refine w_nil ?_
          refine e_condF rfl ?_
          refine e_seq ?_
          refine e_region ?_
          refine w_val (v_is (v' := .bool true) (v_eql rfl rfl) (by rw [decide_eq_true h4])) rfl ?_
          refine w_val (v_assign rfl) rfl ?_
          refine w_nil ?_
          refine e_condT rfl ?_
          refine e_seq ?_
          refine e_draw ([.blk b3 100 [.int .i64 x.kind, .slice Au x.round.length ku, .slice Ap x.picks.length kpp, .int .i64 x.keep]]) Try.mixed ?_
          refine a_take 0 pan_cx (by kernel_rfl) (fun _ hw => hw.sub (by repeat (first | exact List.Sublist.slnil | exact List.Sublist.refl _ | apply List.Sublist.cons_cons | apply List.Sublist.cons))) rfl (by kernel_rfl) (by kernel_rfl) (v_move rfl) rfl ?_
          refine a_take 1 pan_cx (by kernel_rfl) (fun _ hw => hw.sub (by repeat (first | exact List.Sublist.slnil | exact List.Sublist.refl _ | apply List.Sublist.cons_cons | apply List.Sublist.cons))) rfl (by kernel_rfl) (by kernel_rfl) (v_nilCheck rfl) rfl ?_
          refine a_take 2 pan_cx (by kernel_rfl) (fun _ hw => hw.sub (by repeat (first | exact List.Sublist.slnil | exact List.Sublist.refl _ | apply List.Sublist.cons_cons | apply List.Sublist.cons))) rfl (by kernel_rfl) (by kernel_rfl) (v_fieldAddrB (o := 0) Try.underlying97 rfl rfl Try.nz95 rfl) rfl ?_
          refine a_take 3 pan_cx (by kernel_rfl) (fun _ hw => hw.sub (by repeat (first | exact List.Sublist.slnil | exact List.Sublist.refl _ | apply List.Sublist.cons_cons | apply List.Sublist.cons))) rfl (by kernel_rfl) (by kernel_rfl) (v_fieldAddrB (o := 3) Try.underlying100 rfl rfl Try.nz3 rfl) rfl ?_
          refine a_take 4 pan_cx (by kernel_rfl) (fun _ hw => hw.sub (by repeat (first | exact List.Sublist.slnil | exact List.Sublist.refl _ | apply List.Sublist.cons_cons | apply List.Sublist.cons))) rfl (by kernel_rfl) (by kernel_rfl) (v_loadB 0 rfl Try.underlying3 rfl rfl rfl) rfl ?_
          refine a_one 5 (by kernel_rfl) rfl rfl ?_
          refine x_callM (dst := some 88) (scHX c 97 (chT q.dn (stL q.L q.dn) lw) (.slice Al q.L.length kl) q.L q.k vs G) [.blk b3 100 [.int .i64 x.kind, .slice Au x.round.length ku, .slice Ap x.picks.length kpp, .int .i64 x.keep], Own lw 30 5 (lastL q.L q.dn).length (resL (lastL q.L q.dn))] (σ := Value) (fun _ => True) (fun _ => .tuple #[]) (fun s => scHX c 97 (chT q.dn (stL q.L q.dn) lw) s L' m vs' G) ((List.perm_middle (l₁ := [_, _, _])).symm) rfl rfl rfl Try.call88 (fun w hw => hcr w (res_part hw).1 (res_part hw).2) rfl (fun lv2 _ => ?_)
          refine a_and (fun _ hw => hw.sub (by repeat (first | exact List.Sublist.slnil | exact List.Sublist.refl _ | apply List.Sublist.cons_cons | apply List.Sublist.cons))) ?_
          refine a_done (by kernel_rfl) ?_
          refine g_shapeR2 1 rfl fun Al2 kl2 hlv2 hkl2 had2 => ?_
          subst hlv2
          refine g_rounds 2 rfl fun hvl2 => ?_
          refine g_heap (m' := [.blk b3 100 [.int .i64 x.kind, .slice Au x.round.length ku, .slice Ap x.picks.length kpp, .int .i64 x.keep], .blk c 97 (chR (.slice Al2 L'.length kl2) m q.dn (stL q.L q.dn) lw), Rw (.slice Al2 L'.length kl2) 38 1 L'.length vs', Keep G (Rounds vs' L')]) (fun _ hw => hw.pick [3, 0, 1, 2] (by decide)) ?_
          refine e_seq ?_
          refine e_region ?_
          refine w_val (v_move rfl) rfl ?_
          refine w_val (v_move rfl) rfl ?_
          refine w_val (v_move rfl) rfl ?_
          refine w_val (v_build (v := intsV zero10) _ rfl (by intro _; simp [Instr.build, Instr.fill, Try.zeroValue23, go_sem]; rfl)) rfl ?_
          refine w_val (v_nilCheck rfl) rfl ?_
          refine w_val (v_fieldAddrB (o := 2) Try.underlying97 rfl rfl Try.nz3 rfl) rfl ?_
          refine w_op rfl ?_
          refine x_store1 1 rfl rfl rfl Try.hi3 Try.cz3 rfl (by rw [chR_len hz]; decide) rfl ?_; rw [chR_dn0]
          refine w_val (v_nilCheck rfl) rfl ?_
          refine w_val (v_fieldAddrB (o := 3) Try.underlying97 rfl rfl Try.nz23 rfl) rfl ?_
          refine w_op rfl ?_
          refine x_store (v := intsV zero10) 1 rfl rfl rfl Try.hi23 (Try.cz23.trans rfl) (by rw [chR_len hz]; decide) (one_intCells _) (chR (.slice Al2 L'.length kl2) m 0 zero10 lw) (chR_st_set hz _) ?_
          refine w_val (v_nilCheck rfl) rfl ?_
          refine w_val (v_fieldAddrB (o := 13) Try.underlying97 rfl rfl Try.nz57 rfl) rfl ?_
          refine w_op rfl ?_
          refine x_store1 (v := .slice none 0 0) 1 rfl rfl rfl Try.hi57 Try.cz57 rfl (by rw [chR_len rfl]; decide) rfl ?_; rw [chR_last_set rfl]
          refine w_nil ?_
          refine e_seq ?_
          refine e_block ?_
          refine e_loopH (σ := Nat × Value) [0, 3] (.cons rfl (.cons rfl .nil)) (fun _ => []) (fun s => ([.blk b3 100 [.int .i64 x.kind, .slice Au x.round.length ku, .slice Ap x.picks.length kpp, .int .i64 x.keep], .blk c 97 (chR (.slice Al2 L'.length kl2) m s.1 (stL L' s.1) s.2), Rw (.slice Al2 L'.length kl2) 38 1 L'.length vs', Keep G (Rounds vs' L'), Own s.2 30 5 (lastL L' s.1).length (resL (lastL L' s.1))] : Hp)) (fun s => s.1 ≤ m) (fun s => m - s.1) (0, .slice none 0 0) (Nat.zero_le _) (by repeat (first | exact Sub.nil _ | refine Sub.cons rfl ?_)) (fun _ hw => (hw.ownNil 30 5).pick [1, 2, 3, 4, 0] (by decide)) ?_
          rintro ⟨d, lw2⟩ hd
          dsimp only at hd ⊢
          have hz1 := stL_len L' d
          have hcl := hcok.log.sure
          refine e_seq ?_
          refine e_seq ?_
          refine e_draw (([.blk b3 100 [.int .i64 x.kind, .slice Au x.round.length ku, .slice Ap x.picks.length kpp, .int .i64 x.keep], .blk c 97 (chR (.slice Al2 L'.length kl2) m d (stL L' d) lw2)] : Hp)) Try.mixed ?_
          refine a_take 0 pan_cx (by kernel_rfl) (fun _ hw => hw.sub (by repeat (first | exact List.Sublist.slnil | exact List.Sublist.refl _ | apply List.Sublist.cons_cons | apply List.Sublist.cons))) rfl (by kernel_rfl) (by kernel_rfl) (v_move rfl) rfl ?_
          refine a_take 1 pan_cx (by kernel_rfl) (fun _ hw => hw.sub (by repeat (first | exact List.Sublist.slnil | exact List.Sublist.refl _ | apply List.Sublist.cons_cons | apply List.Sublist.cons))) rfl (by kernel_rfl) (by kernel_rfl) (v_nilCheck rfl) rfl ?_
          refine a_take 2 pan_cx (by kernel_rfl) (fun _ hw => hw.sub (by repeat (first | exact List.Sublist.slnil | exact List.Sublist.refl _ | apply List.Sublist.cons_cons | apply List.Sublist.cons))) rfl (by kernel_rfl) (by kernel_rfl) (v_fieldAddrB (o := 2) Try.underlying97 rfl rfl Try.nz3 rfl) rfl ?_
          refine a_take 3 pan_cx (by kernel_rfl) (fun _ hw => hw.sub (by repeat (first | exact List.Sublist.slnil | exact List.Sublist.refl _ | apply List.Sublist.cons_cons | apply List.Sublist.cons))) rfl (by kernel_rfl) (by kernel_rfl) (v_loadB 1 rfl Try.underlying3 rfl rfl rfl) rfl ?_
          refine a_take 4 pan_cx (by kernel_rfl) (fun _ hw => hw.sub (by repeat (first | exact List.Sublist.slnil | exact List.Sublist.refl _ | apply List.Sublist.cons_cons | apply List.Sublist.cons))) rfl (by kernel_rfl) (by kernel_rfl) (v_move rfl) rfl ?_
          refine a_take 5 pan_cx (by kernel_rfl) (fun _ hw => hw.sub (by repeat (first | exact List.Sublist.slnil | exact List.Sublist.refl _ | apply List.Sublist.cons_cons | apply List.Sublist.cons))) rfl (by kernel_rfl) (by kernel_rfl) (v_nilCheck rfl) rfl ?_
          refine a_take 6 pan_cx (by kernel_rfl) (fun _ hw => hw.sub (by repeat (first | exact List.Sublist.slnil | exact List.Sublist.refl _ | apply List.Sublist.cons_cons | apply List.Sublist.cons))) rfl (by kernel_rfl) (by kernel_rfl) (v_fieldAddrB (o := 0) Try.underlying97 rfl rfl Try.nz95 rfl) rfl ?_
          refine a_take 7 pan_cx (by kernel_rfl) (fun _ hw => hw.sub (by repeat (first | exact List.Sublist.slnil | exact List.Sublist.refl _ | apply List.Sublist.cons_cons | apply List.Sublist.cons))) rfl (by kernel_rfl) (by kernel_rfl) (v_fieldAddrB (o := 1) Try.underlying95 rfl rfl Try.nz3 rfl) rfl ?_
          refine a_take 8 pan_cx (by kernel_rfl) (fun _ hw => hw.sub (by repeat (first | exact List.Sublist.slnil | exact List.Sublist.refl _ | apply List.Sublist.cons_cons | apply List.Sublist.cons))) rfl (by kernel_rfl) (by kernel_rfl) (v_loadB 1 rfl Try.underlying3 rfl rfl rfl) rfl ?_
          refine a_take 9 pan_cx (by kernel_rfl) (fun _ hw => hw.sub (by repeat (first | exact List.Sublist.slnil | exact List.Sublist.refl _ | apply List.Sublist.cons_cons | apply List.Sublist.cons))) rfl (by kernel_rfl) (by kernel_rfl) (v_lss rfl rfl) rfl ?_
          refine a_done (by kernel_rfl) ?_
          refine e_condD rfl (fun hlt => ?_) (fun hlt => ?_)
          · have hdm : d < m := by omega
            have hdl : d < L'.length := by dsimp only at hcl; omega
            have hokd : QL.Ok ⟨L', m, d⟩ := ⟨hcok.log, hd⟩
            have hst1 := stL_next' L' d
            have hla1 := lastL_next' L' d
            have hz2 := stL_len L' (d + 1)
            have hgd : L'.getD d [] = L'[d] := by simp [List.getD, hdl]
            have hcall := fun (w1 : World) (v1 : Value) (h1 : IsRound w1.cell? v1 (L'.getD d [])) => refAll_spec (stL L' d) v1 _ w1 h1 hz1 (hokd.fault hdl)
            rw [← hst1, ← hla1] at hcall
            have hiv : d < vs'.length := by omega
            have hu : vs'[((d : Int)).toNat * 1]? = some vs'[d] := by rw [Int.toNat_natCast, Nat.mul_one]; exact List.getElem?_eq_getElem hiv
            obtain ⟨ad, rfl⟩ := had2 (by omega)
            have h25' := hcok.log.len
            dsimp only at h25'
            refine e_skip ?_
            refine e_block ?_
            refine e_seq ?_
            refine e_cutH (σ := Value) [0, 3] (.cons rfl (.cons rfl .nil)) (fun _ => []) (fun s => ([.blk b3 100 [.int .i64 x.kind, .slice Au x.round.length ku, .slice Ap x.picks.length kpp, .int .i64 x.keep], .blk c 97 (chR (.slice (some ad) L'.length kl2) m d (stL L' (d + 1)) s), Rw (.slice (some ad) L'.length kl2) 38 1 L'.length vs', Keep G (Rounds vs' L'), Own s 30 5 (lastL L' (d + 1)).length (resL (lastL L' (d + 1)))] : Hp)) (fun _ => True) ?_ ?_
            · refine e_draw ([Rw (.slice (some ad) L'.length kl2) 38 1 L'.length vs', Keep G (Rounds vs' L')]) Try.mixed ?_
              refine a_take 0 pan_cx (by kernel_rfl) (fun _ hw => hw.sub (by repeat (first | exact List.Sublist.slnil | exact List.Sublist.refl _ | apply List.Sublist.cons_cons | apply List.Sublist.cons))) rfl (by kernel_rfl) (by kernel_rfl) (v_move rfl) rfl ?_
              refine a_take 1 pan_cx (by kernel_rfl) (fun _ hw => hw.sub (by repeat (first | exact List.Sublist.slnil | exact List.Sublist.refl _ | apply List.Sublist.cons_cons | apply List.Sublist.cons))) rfl (by kernel_rfl) (by kernel_rfl) (v_move rfl) rfl ?_
              refine a_take 2 pan_cx (by kernel_rfl) (fun _ hw => hw.sub (by repeat (first | exact List.Sublist.slnil | exact List.Sublist.refl _ | apply List.Sublist.cons_cons | apply List.Sublist.cons))) rfl (by kernel_rfl) (by kernel_rfl) (v_move rfl) rfl ?_
              refine a_take 3 pan_cx (by kernel_rfl) (fun _ hw => hw.sub (by repeat (first | exact List.Sublist.slnil | exact List.Sublist.refl _ | apply List.Sublist.cons_cons | apply List.Sublist.cons))) rfl (by kernel_rfl) (by kernel_rfl) (v_nilCheck rfl) rfl ?_
              refine a_take 4 pan_cx (by kernel_rfl) (fun _ hw => hw.sub (by repeat (first | exact List.Sublist.slnil | exact List.Sublist.refl _ | apply List.Sublist.cons_cons | apply List.Sublist.cons))) rfl (by kernel_rfl) (by kernel_rfl) (v_fieldAddrB (o := 3) Try.underlying97 rfl rfl Try.nz23 rfl) rfl ?_
              refine a_take 6 pan_cx (by kernel_rfl) (fun _ hw => hw.sub (by repeat (first | exact List.Sublist.slnil | exact List.Sublist.refl _ | apply List.Sublist.cons_cons | apply List.Sublist.cons))) rfl (by kernel_rfl) (by kernel_rfl) (v_move rfl) rfl ?_
              refine a_take 7 pan_cx (by kernel_rfl) (fun _ hw => hw.sub (by repeat (first | exact List.Sublist.slnil | exact List.Sublist.refl _ | apply List.Sublist.cons_cons | apply List.Sublist.cons))) rfl (by kernel_rfl) (by kernel_rfl) (v_nilCheck rfl) rfl ?_
              refine a_take 8 pan_cx (by kernel_rfl) (fun _ hw => hw.sub (by repeat (first | exact List.Sublist.slnil | exact List.Sublist.refl _ | apply List.Sublist.cons_cons | apply List.Sublist.cons))) rfl (by kernel_rfl) (by kernel_rfl) (v_fieldAddrB (o := 0) Try.underlying97 rfl rfl Try.nz95 rfl) rfl ?_
              refine a_take 9 pan_cx (by kernel_rfl) (fun _ hw => hw.sub (by repeat (first | exact List.Sublist.slnil | exact List.Sublist.refl _ | apply List.Sublist.cons_cons | apply List.Sublist.cons))) rfl (by kernel_rfl) (by kernel_rfl) (v_fieldAddrB (o := 0) Try.underlying95 rfl rfl Try.nz93 rfl) rfl ?_
              refine a_take 11 pan_cx (by kernel_rfl) (fun _ hw => hw.sub (by repeat (first | exact List.Sublist.slnil | exact List.Sublist.refl _ | apply List.Sublist.cons_cons | apply List.Sublist.cons))) rfl (by kernel_rfl) (by kernel_rfl) (v_move rfl) rfl ?_
              refine a_take 12 pan_cx (by kernel_rfl) (fun _ hw => hw.sub (by repeat (first | exact List.Sublist.slnil | exact List.Sublist.refl _ | apply List.Sublist.cons_cons | apply List.Sublist.cons))) rfl (by kernel_rfl) (by kernel_rfl) (v_nilCheck rfl) rfl ?_
              refine a_take 13 pan_cx (by kernel_rfl) (fun _ hw => hw.sub (by repeat (first | exact List.Sublist.slnil | exact List.Sublist.refl _ | apply List.Sublist.cons_cons | apply List.Sublist.cons))) rfl (by kernel_rfl) (by kernel_rfl) (v_fieldAddrB (o := 2) Try.underlying97 rfl rfl Try.nz3 rfl) rfl ?_
              refine a_all [5, 10, 14] (by kernel_rfl) rfl ?_
              intro i hi
              simp only [List.mem_cons, List.not_mem_nil, or_false] at hi
              rcases hi with rfl | rfl | rfl
              · refine a_op rfl rfl ?_
                refine x_val (v_loadBN (cs' := intCells (stL L' d)) 1 rfl Try.underlying23 rfl Try.hi23 Try.cz23 rfl (chR_st hz1) (by simp [intCells, hz1])) rfl ?_
                refine a_and (fun _ hw => hw.sub (by repeat (first | exact List.Sublist.slnil | exact List.Sublist.refl _ | apply List.Sublist.cons_cons | apply List.Sublist.cons))) ?_
                refine a_all [10, 14] (by kernel_rfl) rfl ?_
                intro i hi
                simp only [List.mem_cons, List.not_mem_nil, or_false] at hi
                rcases hi with rfl | rfl
                · refine a_op rfl rfl ?_
                  refine x_val (v_loadB 1 rfl Try.underlying93 rfl rfl rfl) rfl ?_
                  refine a_and (fun _ hw => hw.sub (by repeat (first | exact List.Sublist.slnil | exact List.Sublist.refl _ | apply List.Sublist.cons_cons | apply List.Sublist.cons))) ?_
                  refine a_one 14 (by kernel_rfl) rfl rfl ?_
                  refine x_val (v_loadB 1 rfl Try.underlying3 rfl rfl rfl) rfl ?_
                  refine a_and (fun _ hw => hw.sub (by repeat (first | exact List.Sublist.slnil | exact List.Sublist.refl _ | apply List.Sublist.cons_cons | apply List.Sublist.cons))) ?_
                  refine a_take 15 pan_cx (by kernel_rfl) (fun _ hw => hw.sub (by repeat (first | exact List.Sublist.slnil | exact List.Sublist.refl _ | apply List.Sublist.cons_cons | apply List.Sublist.cons))) rfl (by kernel_rfl) (by kernel_rfl) (v_indexS Try.underlying93 Try.hi38 Try.cz38 rfl rfl (by first | omega | decide)) rfl ?_
                  refine a_take 16 pan_cx (by kernel_rfl) (fun _ hw => hw.sub (by repeat (first | exact List.Sublist.slnil | exact List.Sublist.refl _ | apply List.Sublist.cons_cons | apply List.Sublist.cons))) rfl (by kernel_rfl) (by kernel_rfl) (v_loadR 0 rfl (by omega) hu Try.underlying38 rfl rfl) rfl ?_
                  refine a_one 17 (by kernel_rfl) rfl rfl ?_
                  refine x_call (dst := some 127) (mc := []) (σ := Value) (fun _ => True) (fun sl => .tuple #[intsV (stL L' (d + 1)), sl]) (fun sl => [Own sl 30 5 (lastL L' (d + 1)).length (resL (lastL L' (d + 1)))]) rfl rfl rfl Try.call87 (fun w hw => hcall w _ (hgd ▸ (keep_all (Rounds.up _ _) (hw.mem (i := 3) rfl)).at hdl (List.getElem?_eq_getElem hiv))) rfl (fun sl _ => ?_); refine g_shape 0 rfl fun A9 k9 hv9 _ => ?_; subst hv9
                  refine a_and (fun _ hw => hw.sub (by repeat (first | exact List.Sublist.slnil | exact List.Sublist.refl _ | apply List.Sublist.cons_cons | apply List.Sublist.cons))) ?_
                  refine a_take 18 pan_cx (by kernel_rfl) (fun _ hw => hw.sub (by repeat (first | exact List.Sublist.slnil | exact List.Sublist.refl _ | apply List.Sublist.cons_cons | apply List.Sublist.cons))) rfl (by kernel_rfl) (by kernel_rfl) (v_move rfl) rfl ?_
                  refine a_take 19 pan_cx (by kernel_rfl) (fun _ hw => hw.sub (by repeat (first | exact List.Sublist.slnil | exact List.Sublist.refl _ | apply List.Sublist.cons_cons | apply List.Sublist.cons))) rfl (by kernel_rfl) (by kernel_rfl) (v_extract rfl rfl) rfl ?_
                  refine a_take 20 pan_cx (by kernel_rfl) (fun _ hw => hw.sub (by repeat (first | exact List.Sublist.slnil | exact List.Sublist.refl _ | apply List.Sublist.cons_cons | apply List.Sublist.cons))) rfl (by kernel_rfl) (by kernel_rfl) (v_extract rfl rfl) rfl ?_
                  refine a_take 21 pan_cx (by kernel_rfl) (fun _ hw => hw.sub (by repeat (first | exact List.Sublist.slnil | exact List.Sublist.refl _ | apply List.Sublist.cons_cons | apply List.Sublist.cons))) rfl (by kernel_rfl) (by kernel_rfl) (v_nilCheck rfl) rfl ?_
                  refine a_take 22 pan_cx (by kernel_rfl) (fun _ hw => hw.sub (by repeat (first | exact List.Sublist.slnil | exact List.Sublist.refl _ | apply List.Sublist.cons_cons | apply List.Sublist.cons))) rfl (by kernel_rfl) (by kernel_rfl) (v_fieldAddrB (o := 3) Try.underlying97 rfl rfl Try.nz23 rfl) rfl ?_
                  refine a_one 23 (by kernel_rfl) rfl rfl ?_
                  refine x_store (v := Value.agg (intCells (stL L' (d + 1))).toArray) 2 rfl rfl rfl Try.hi23 (Try.cz23.trans (by simp [Value.cells, intCells, hz2])) (by rw [chR_len hz1]; simp [Value.cells, intCells, hz2]) (one_intCells _) (chR (.slice (some ad) L'.length kl2) m d (stL L' (d + 1)) lw2) (by rw [show (Value.agg (intCells (stL L' (d + 1))).toArray).cells.size = 10 from by simp [Value.cells, intCells, hz2]]; exact chR_st_set hz1 _) ?_
                  refine a_and (fun _ hw => hw.sub (by repeat (first | exact List.Sublist.slnil | exact List.Sublist.refl _ | apply List.Sublist.cons_cons | apply List.Sublist.cons))) ?_
                  refine a_take 24 pan_cx (by kernel_rfl) (fun _ hw => hw.sub (by repeat (first | exact List.Sublist.slnil | exact List.Sublist.refl _ | apply List.Sublist.cons_cons | apply List.Sublist.cons))) rfl (by kernel_rfl) (by kernel_rfl) (v_nilCheck rfl) rfl ?_
                  refine a_take 25 pan_cx (by kernel_rfl) (fun _ hw => hw.sub (by repeat (first | exact List.Sublist.slnil | exact List.Sublist.refl _ | apply List.Sublist.cons_cons | apply List.Sublist.cons))) rfl (by kernel_rfl) (by kernel_rfl) (v_fieldAddrB (o := 13) Try.underlying97 rfl rfl Try.nz57 rfl) rfl ?_
                  refine a_one 26 (by kernel_rfl) rfl rfl ?_
                  refine x_store1 (v := .slice A9 (lastL L' (d + 1)).length k9) 2 rfl rfl rfl Try.hi57 Try.cz57 rfl (by rw [chR_len hz2]; decide) rfl ?_; rw [chR_last_set hz2]
                  refine a_and (fun _ hw => hw.sub (by repeat (first | exact List.Sublist.slnil | exact List.Sublist.refl _ | apply List.Sublist.cons_cons | apply List.Sublist.cons))) ?_
                  refine a_done (by kernel_rfl) ?_
                  exact e_cutEnd (.slice A9 (lastL L' (d + 1)).length k9) trivial (by repeat (first | exact Sub.nil _ | refine Sub.cons rfl ?_)) (fun _ hw => hw.pick [1, 2, 3, 4, 0] (by decide))
                · refine a_op rfl rfl ?_
                  refine x_val (v_loadB 1 rfl Try.underlying3 rfl rfl rfl) rfl ?_
                  refine a_and (fun _ hw => hw.sub (by repeat (first | exact List.Sublist.slnil | exact List.Sublist.refl _ | apply List.Sublist.cons_cons | apply List.Sublist.cons))) ?_
                  refine a_one 10 (by kernel_rfl) rfl rfl ?_
                  refine x_val (v_loadB 1 rfl Try.underlying93 rfl rfl rfl) rfl ?_
                  refine a_and (fun _ hw => hw.sub (by repeat (first | exact List.Sublist.slnil | exact List.Sublist.refl _ | apply List.Sublist.cons_cons | apply List.Sublist.cons))) ?_
                  refine a_take 15 pan_cx (by kernel_rfl) (fun _ hw => hw.sub (by repeat (first | exact List.Sublist.slnil | exact List.Sublist.refl _ | apply List.Sublist.cons_cons | apply List.Sublist.cons))) rfl (by kernel_rfl) (by kernel_rfl) (v_indexS Try.underlying93 Try.hi38 Try.cz38 rfl rfl (by first | omega | decide)) rfl ?_
                  refine a_take 16 pan_cx (by kernel_rfl) (fun _ hw => hw.sub (by repeat (first | exact List.Sublist.slnil | exact List.Sublist.refl _ | apply List.Sublist.cons_cons | apply List.Sublist.cons))) rfl (by kernel_rfl) (by kernel_rfl) (v_loadR 0 rfl (by omega) hu Try.underlying38 rfl rfl) rfl ?_
                  refine a_one 17 (by kernel_rfl) rfl rfl ?_
                  refine x_call (dst := some 127) (mc := []) (σ := Value) (fun _ => True) (fun sl => .tuple #[intsV (stL L' (d + 1)), sl]) (fun sl => [Own sl 30 5 (lastL L' (d + 1)).length (resL (lastL L' (d + 1)))]) rfl rfl rfl Try.call87 (fun w hw => hcall w _ (hgd ▸ (keep_all (Rounds.up _ _) (hw.mem (i := 3) rfl)).at hdl (List.getElem?_eq_getElem hiv))) rfl (fun sl _ => ?_); refine g_shape 0 rfl fun A9 k9 hv9 _ => ?_; subst hv9
                  refine a_and (fun _ hw => hw.sub (by repeat (first | exact List.Sublist.slnil | exact List.Sublist.refl _ | apply List.Sublist.cons_cons | apply List.Sublist.cons))) ?_
                  refine a_take 18 pan_cx (by kernel_rfl) (fun _ hw => hw.sub (by repeat (first | exact List.Sublist.slnil | exact List.Sublist.refl _ | apply List.Sublist.cons_cons | apply List.Sublist.cons))) rfl (by kernel_rfl) (by kernel_rfl) (v_move rfl) rfl ?_
                  refine a_take 19 pan_cx (by kernel_rfl) (fun _ hw => hw.sub (by repeat (first | exact List.Sublist.slnil | exact List.Sublist.refl _ | apply List.Sublist.cons_cons | apply List.Sublist.cons))) rfl (by kernel_rfl) (by kernel_rfl) (v_extract rfl rfl) rfl ?_
                  refine a_take 20 pan_cx (by kernel_rfl) (fun _ hw => hw.sub (by repeat (first | exact List.Sublist.slnil | exact List.Sublist.refl _ | apply List.Sublist.cons_cons | apply List.Sublist.cons))) rfl (by kernel_rfl) (by kernel_rfl) (v_extract rfl rfl) rfl ?_
                  refine a_take 21 pan_cx (by kernel_rfl) (fun _ hw => hw.sub (by repeat (first | exact List.Sublist.slnil | exact List.Sublist.refl _ | apply List.Sublist.cons_cons | apply List.Sublist.cons))) rfl (by kernel_rfl) (by kernel_rfl) (v_nilCheck rfl) rfl ?_
                  refine a_take 22 pan_cx (by kernel_rfl) (fun _ hw => hw.sub (by repeat (first | exact List.Sublist.slnil | exact List.Sublist.refl _ | apply List.Sublist.cons_cons | apply List.Sublist.cons))) rfl (by kernel_rfl) (by kernel_rfl) (v_fieldAddrB (o := 3) Try.underlying97 rfl rfl Try.nz23 rfl) rfl ?_
                  refine a_one 23 (by kernel_rfl) rfl rfl ?_
                  refine x_store (v := Value.agg (intCells (stL L' (d + 1))).toArray) 2 rfl rfl rfl Try.hi23 (Try.cz23.trans (by simp [Value.cells, intCells, hz2])) (by rw [chR_len hz1]; simp [Value.cells, intCells, hz2]) (one_intCells _) (chR (.slice (some ad) L'.length kl2) m d (stL L' (d + 1)) lw2) (by rw [show (Value.agg (intCells (stL L' (d + 1))).toArray).cells.size = 10 from by simp [Value.cells, intCells, hz2]]; exact chR_st_set hz1 _) ?_
                  refine a_and (fun _ hw => hw.sub (by repeat (first | exact List.Sublist.slnil | exact List.Sublist.refl _ | apply List.Sublist.cons_cons | apply List.Sublist.cons))) ?_
                  refine a_take 24 pan_cx (by kernel_rfl) (fun _ hw => hw.sub (by repeat (first | exact List.Sublist.slnil | exact List.Sublist.refl _ | apply List.Sublist.cons_cons | apply List.Sublist.cons))) rfl (by kernel_rfl) (by kernel_rfl) (v_nilCheck rfl) rfl ?_
                  refine a_take 25 pan_cx (by kernel_rfl) (fun _ hw => hw.sub (by repeat (first | exact List.Sublist.slnil | exact List.Sublist.refl _ | apply List.Sublist.cons_cons | apply List.Sublist.cons))) rfl (by kernel_rfl) (by kernel_rfl) (v_fieldAddrB (o := 13) Try.underlying97 rfl rfl Try.nz57 rfl) rfl ?_
                  refine a_one 26 (by kernel_rfl) rfl rfl ?_
                  refine x_store1 (v := .slice A9 (lastL L' (d + 1)).length k9) 2 rfl rfl rfl Try.hi57 Try.cz57 rfl (by rw [chR_len hz2]; decide) rfl ?_; rw [chR_last_set hz2]
                  refine a_and (fun _ hw => hw.sub (by repeat (first | exact List.Sublist.slnil | exact List.Sublist.refl _ | apply List.Sublist.cons_cons | apply List.Sublist.cons))) ?_
                  refine a_done (by kernel_rfl) ?_
                  exact e_cutEnd (.slice A9 (lastL L' (d + 1)).length k9) trivial (by repeat (first | exact Sub.nil _ | refine Sub.cons rfl ?_)) (fun _ hw => hw.pick [1, 2, 3, 4, 0] (by decide))
              · refine a_op rfl rfl ?_
                refine x_val (v_loadB 1 rfl Try.underlying93 rfl rfl rfl) rfl ?_
                refine a_and (fun _ hw => hw.sub (by repeat (first | exact List.Sublist.slnil | exact List.Sublist.refl _ | apply List.Sublist.cons_cons | apply List.Sublist.cons))) ?_
                refine a_all [5, 14] (by kernel_rfl) rfl ?_
                intro i hi
                simp only [List.mem_cons, List.not_mem_nil, or_false] at hi
                rcases hi with rfl | rfl
                · refine a_op rfl rfl ?_
                  refine x_val (v_loadBN (cs' := intCells (stL L' d)) 1 rfl Try.underlying23 rfl Try.hi23 Try.cz23 rfl (chR_st hz1) (by simp [intCells, hz1])) rfl ?_
                  refine a_and (fun _ hw => hw.sub (by repeat (first | exact List.Sublist.slnil | exact List.Sublist.refl _ | apply List.Sublist.cons_cons | apply List.Sublist.cons))) ?_
                  refine a_one 14 (by kernel_rfl) rfl rfl ?_
                  refine x_val (v_loadB 1 rfl Try.underlying3 rfl rfl rfl) rfl ?_
                  refine a_and (fun _ hw => hw.sub (by repeat (first | exact List.Sublist.slnil | exact List.Sublist.refl _ | apply List.Sublist.cons_cons | apply List.Sublist.cons))) ?_
                  refine a_take 15 pan_cx (by kernel_rfl) (fun _ hw => hw.sub (by repeat (first | exact List.Sublist.slnil | exact List.Sublist.refl _ | apply List.Sublist.cons_cons | apply List.Sublist.cons))) rfl (by kernel_rfl) (by kernel_rfl) (v_indexS Try.underlying93 Try.hi38 Try.cz38 rfl rfl (by first | omega | decide)) rfl ?_
                  refine a_take 16 pan_cx (by kernel_rfl) (fun _ hw => hw.sub (by repeat (first | exact List.Sublist.slnil | exact List.Sublist.refl _ | apply List.Sublist.cons_cons | apply List.Sublist.cons))) rfl (by kernel_rfl) (by kernel_rfl) (v_loadR 0 rfl (by omega) hu Try.underlying38 rfl rfl) rfl ?_
                  refine a_one 17 (by kernel_rfl) rfl rfl ?_
                  refine x_call (dst := some 127) (mc := []) (σ := Value) (fun _ => True) (fun sl => .tuple #[intsV (stL L' (d + 1)), sl]) (fun sl => [Own sl 30 5 (lastL L' (d + 1)).length (resL (lastL L' (d + 1)))]) rfl rfl rfl Try.call87 (fun w hw => hcall w _ (hgd ▸ (keep_all (Rounds.up _ _) (hw.mem (i := 3) rfl)).at hdl (List.getElem?_eq_getElem hiv))) rfl (fun sl _ => ?_); refine g_shape 0 rfl fun A9 k9 hv9 _ => ?_; subst hv9
                  refine a_and (fun _ hw => hw.sub (by repeat (first | exact List.Sublist.slnil | exact List.Sublist.refl _ | apply List.Sublist.cons_cons | apply List.Sublist.cons))) ?_
                  refine a_take 18 pan_cx (by kernel_rfl) (fun _ hw => hw.sub (by repeat (first | exact List.Sublist.slnil | exact List.Sublist.refl _ | apply List.Sublist.cons_cons | apply List.Sublist.cons))) rfl (by kernel_rfl) (by kernel_rfl) (v_move rfl) rfl ?_
                  refine a_take 19 pan_cx (by kernel_rfl) (fun _ hw => hw.sub (by repeat (first | exact List.Sublist.slnil | exact List.Sublist.refl _ | apply List.Sublist.cons_cons | apply List.Sublist.cons))) rfl (by kernel_rfl) (by kernel_rfl) (v_extract rfl rfl) rfl ?_
                  refine a_take 20 pan_cx (by kernel_rfl) (fun _ hw => hw.sub (by repeat (first | exact List.Sublist.slnil | exact List.Sublist.refl _ | apply List.Sublist.cons_cons | apply List.Sublist.cons))) rfl (by kernel_rfl) (by kernel_rfl) (v_extract rfl rfl) rfl ?_
                  refine a_take 21 pan_cx (by kernel_rfl) (fun _ hw => hw.sub (by repeat (first | exact List.Sublist.slnil | exact List.Sublist.refl _ | apply List.Sublist.cons_cons | apply List.Sublist.cons))) rfl (by kernel_rfl) (by kernel_rfl) (v_nilCheck rfl) rfl ?_
                  refine a_take 22 pan_cx (by kernel_rfl) (fun _ hw => hw.sub (by repeat (first | exact List.Sublist.slnil | exact List.Sublist.refl _ | apply List.Sublist.cons_cons | apply List.Sublist.cons))) rfl (by kernel_rfl) (by kernel_rfl) (v_fieldAddrB (o := 3) Try.underlying97 rfl rfl Try.nz23 rfl) rfl ?_
                  refine a_one 23 (by kernel_rfl) rfl rfl ?_
                  refine x_store (v := Value.agg (intCells (stL L' (d + 1))).toArray) 2 rfl rfl rfl Try.hi23 (Try.cz23.trans (by simp [Value.cells, intCells, hz2])) (by rw [chR_len hz1]; simp [Value.cells, intCells, hz2]) (one_intCells _) (chR (.slice (some ad) L'.length kl2) m d (stL L' (d + 1)) lw2) (by rw [show (Value.agg (intCells (stL L' (d + 1))).toArray).cells.size = 10 from by simp [Value.cells, intCells, hz2]]; exact chR_st_set hz1 _) ?_
                  refine a_and (fun _ hw => hw.sub (by repeat (first | exact List.Sublist.slnil | exact List.Sublist.refl _ | apply List.Sublist.cons_cons | apply List.Sublist.cons))) ?_
                  refine a_take 24 pan_cx (by kernel_rfl) (fun _ hw => hw.sub (by repeat (first | exact List.Sublist.slnil | exact List.Sublist.refl _ | apply List.Sublist.cons_cons | apply List.Sublist.cons))) rfl (by kernel_rfl) (by kernel_rfl) (v_nilCheck rfl) rfl ?_
                  refine a_take 25 pan_cx (by kernel_rfl) (fun _ hw => hw.sub (by repeat (first | exact List.Sublist.slnil | exact List.Sublist.refl _ | apply List.Sublist.cons_cons | apply List.Sublist.cons))) rfl (by kernel_rfl) (by kernel_rfl) (v_fieldAddrB (o := 13) Try.underlying97 rfl rfl Try.nz57 rfl) rfl ?_
                  refine a_one 26 (by kernel_rfl) rfl rfl ?_
                  refine x_store1 (v := .slice A9 (lastL L' (d + 1)).length k9) 2 rfl rfl rfl Try.hi57 Try.cz57 rfl (by rw [chR_len hz2]; decide) rfl ?_; rw [chR_last_set hz2]
                  refine a_and (fun _ hw => hw.sub (by repeat (first | exact List.Sublist.slnil | exact List.Sublist.refl _ | apply List.Sublist.cons_cons | apply List.Sublist.cons))) ?_
                  refine a_done (by kernel_rfl) ?_
                  exact e_cutEnd (.slice A9 (lastL L' (d + 1)).length k9) trivial (by repeat (first | exact Sub.nil _ | refine Sub.cons rfl ?_)) (fun _ hw => hw.pick [1, 2, 3, 4, 0] (by decide))
                · refine a_op rfl rfl ?_
                  refine x_val (v_loadB 1 rfl Try.underlying3 rfl rfl rfl) rfl ?_
                  refine a_and (fun _ hw => hw.sub (by repeat (first | exact List.Sublist.slnil | exact List.Sublist.refl _ | apply List.Sublist.cons_cons | apply List.Sublist.cons))) ?_
                  refine a_take 15 pan_cx (by kernel_rfl) (fun _ hw => hw.sub (by repeat (first | exact List.Sublist.slnil | exact List.Sublist.refl _ | apply List.Sublist.cons_cons | apply List.Sublist.cons))) rfl (by kernel_rfl) (by kernel_rfl) (v_indexS Try.underlying93 Try.hi38 Try.cz38 rfl rfl (by first | omega | decide)) rfl ?_
                  refine a_take 16 pan_cx (by kernel_rfl) (fun _ hw => hw.sub (by repeat (first | exact List.Sublist.slnil | exact List.Sublist.refl _ | apply List.Sublist.cons_cons | apply List.Sublist.cons))) rfl (by kernel_rfl) (by kernel_rfl) (v_loadR 0 rfl (by omega) hu Try.underlying38 rfl rfl) rfl ?_
                  refine a_one 5 (by kernel_rfl) rfl rfl ?_
                  refine x_val (v_loadBN (cs' := intCells (stL L' d)) 1 rfl Try.underlying23 rfl Try.hi23 Try.cz23 rfl (chR_st hz1) (by simp [intCells, hz1])) rfl ?_
                  refine a_and (fun _ hw => hw.sub (by repeat (first | exact List.Sublist.slnil | exact List.Sublist.refl _ | apply List.Sublist.cons_cons | apply List.Sublist.cons))) ?_
                  refine a_one 17 (by kernel_rfl) rfl rfl ?_
                  refine x_call (dst := some 127) (mc := []) (σ := Value) (fun _ => True) (fun sl => .tuple #[intsV (stL L' (d + 1)), sl]) (fun sl => [Own sl 30 5 (lastL L' (d + 1)).length (resL (lastL L' (d + 1)))]) rfl rfl rfl Try.call87 (fun w hw => hcall w _ (hgd ▸ (keep_all (Rounds.up _ _) (hw.mem (i := 3) rfl)).at hdl (List.getElem?_eq_getElem hiv))) rfl (fun sl _ => ?_); refine g_shape 0 rfl fun A9 k9 hv9 _ => ?_; subst hv9
                  refine a_and (fun _ hw => hw.sub (by repeat (first | exact List.Sublist.slnil | exact List.Sublist.refl _ | apply List.Sublist.cons_cons | apply List.Sublist.cons))) ?_
                  refine a_take 18 pan_cx (by kernel_rfl) (fun _ hw => hw.sub (by repeat (first | exact List.Sublist.slnil | exact List.Sublist.refl _ | apply List.Sublist.cons_cons | apply List.Sublist.cons))) rfl (by kernel_rfl) (by kernel_rfl) (v_move rfl) rfl ?_
                  refine a_take 19 pan_cx (by kernel_rfl) (fun _ hw => hw.sub (by repeat (first | exact List.Sublist.slnil | exact List.Sublist.refl _ | apply List.Sublist.cons_cons | apply List.Sublist.cons))) rfl (by kernel_rfl) (by kernel_rfl) (v_extract rfl rfl) rfl ?_
                  refine a_take 20 pan_cx (by kernel_rfl) (fun _ hw => hw.sub (by repeat (first | exact List.Sublist.slnil | exact List.Sublist.refl _ | apply List.Sublist.cons_cons | apply List.Sublist.cons))) rfl (by kernel_rfl) (by kernel_rfl) (v_extract rfl rfl) rfl ?_
                  refine a_take 21 pan_cx (by kernel_rfl) (fun _ hw => hw.sub (by repeat (first | exact List.Sublist.slnil | exact List.Sublist.refl _ | apply List.Sublist.cons_cons | apply List.Sublist.cons))) rfl (by kernel_rfl) (by kernel_rfl) (v_nilCheck rfl) rfl ?_
                  refine a_take 22 pan_cx (by kernel_rfl) (fun _ hw => hw.sub (by repeat (first | exact List.Sublist.slnil | exact List.Sublist.refl _ | apply List.Sublist.cons_cons | apply List.Sublist.cons))) rfl (by kernel_rfl) (by kernel_rfl) (v_fieldAddrB (o := 3) Try.underlying97 rfl rfl Try.nz23 rfl) rfl ?_
                  refine a_one 23 (by kernel_rfl) rfl rfl ?_
                  refine x_store (v := Value.agg (intCells (stL L' (d + 1))).toArray) 2 rfl rfl rfl Try.hi23 (Try.cz23.trans (by simp [Value.cells, intCells, hz2])) (by rw [chR_len hz1]; simp [Value.cells, intCells, hz2]) (one_intCells _) (chR (.slice (some ad) L'.length kl2) m d (stL L' (d + 1)) lw2) (by rw [show (Value.agg (intCells (stL L' (d + 1))).toArray).cells.size = 10 from by simp [Value.cells, intCells, hz2]]; exact chR_st_set hz1 _) ?_
                  refine a_and (fun _ hw => hw.sub (by repeat (first | exact List.Sublist.slnil | exact List.Sublist.refl _ | apply List.Sublist.cons_cons | apply List.Sublist.cons))) ?_
                  refine a_take 24 pan_cx (by kernel_rfl) (fun _ hw => hw.sub (by repeat (first | exact List.Sublist.slnil | exact List.Sublist.refl _ | apply List.Sublist.cons_cons | apply List.Sublist.cons))) rfl (by kernel_rfl) (by kernel_rfl) (v_nilCheck rfl) rfl ?_
                  refine a_take 25 pan_cx (by kernel_rfl) (fun _ hw => hw.sub (by repeat (first | exact List.Sublist.slnil | exact List.Sublist.refl _ | apply List.Sublist.cons_cons | apply List.Sublist.cons))) rfl (by kernel_rfl) (by kernel_rfl) (v_fieldAddrB (o := 13) Try.underlying97 rfl rfl Try.nz57 rfl) rfl ?_
                  refine a_one 26 (by kernel_rfl) rfl rfl ?_
                  refine x_store1 (v := .slice A9 (lastL L' (d + 1)).length k9) 2 rfl rfl rfl Try.hi57 Try.cz57 rfl (by rw [chR_len hz2]; decide) rfl ?_; rw [chR_last_set hz2]
                  refine a_and (fun _ hw => hw.sub (by repeat (first | exact List.Sublist.slnil | exact List.Sublist.refl _ | apply List.Sublist.cons_cons | apply List.Sublist.cons))) ?_
                  refine a_done (by kernel_rfl) ?_
                  exact e_cutEnd (.slice A9 (lastL L' (d + 1)).length k9) trivial (by repeat (first | exact Sub.nil _ | refine Sub.cons rfl ?_)) (fun _ hw => hw.pick [1, 2, 3, 4, 0] (by decide))
              · refine a_op rfl rfl ?_
                refine x_val (v_loadB 1 rfl Try.underlying3 rfl rfl rfl) rfl ?_
                refine a_and (fun _ hw => hw.sub (by repeat (first | exact List.Sublist.slnil | exact List.Sublist.refl _ | apply List.Sublist.cons_cons | apply List.Sublist.cons))) ?_
                refine a_all [5, 10] (by kernel_rfl) rfl ?_
                intro i hi
                simp only [List.mem_cons, List.not_mem_nil, or_false] at hi
                rcases hi with rfl | rfl
                · refine a_op rfl rfl ?_
                  refine x_val (v_loadBN (cs' := intCells (stL L' d)) 1 rfl Try.underlying23 rfl Try.hi23 Try.cz23 rfl (chR_st hz1) (by simp [intCells, hz1])) rfl ?_
                  refine a_and (fun _ hw => hw.sub (by repeat (first | exact List.Sublist.slnil | exact List.Sublist.refl _ | apply List.Sublist.cons_cons | apply List.Sublist.cons))) ?_
                  refine a_one 10 (by kernel_rfl) rfl rfl ?_
                  refine x_val (v_loadB 1 rfl Try.underlying93 rfl rfl rfl) rfl ?_
                  refine a_and (fun _ hw => hw.sub (by repeat (first | exact List.Sublist.slnil | exact List.Sublist.refl _ | apply List.Sublist.cons_cons | apply List.Sublist.cons))) ?_
                  refine a_take 15 pan_cx (by kernel_rfl) (fun _ hw => hw.sub (by repeat (first | exact List.Sublist.slnil | exact List.Sublist.refl _ | apply List.Sublist.cons_cons | apply List.Sublist.cons))) rfl (by kernel_rfl) (by kernel_rfl) (v_indexS Try.underlying93 Try.hi38 Try.cz38 rfl rfl (by first | omega | decide)) rfl ?_
                  refine a_take 16 pan_cx (by kernel_rfl) (fun _ hw => hw.sub (by repeat (first | exact List.Sublist.slnil | exact List.Sublist.refl _ | apply List.Sublist.cons_cons | apply List.Sublist.cons))) rfl (by kernel_rfl) (by kernel_rfl) (v_loadR 0 rfl (by omega) hu Try.underlying38 rfl rfl) rfl ?_
                  refine a_one 17 (by kernel_rfl) rfl rfl ?_
                  refine x_call (dst := some 127) (mc := []) (σ := Value) (fun _ => True) (fun sl => .tuple #[intsV (stL L' (d + 1)), sl]) (fun sl => [Own sl 30 5 (lastL L' (d + 1)).length (resL (lastL L' (d + 1)))]) rfl rfl rfl Try.call87 (fun w hw => hcall w _ (hgd ▸ (keep_all (Rounds.up _ _) (hw.mem (i := 3) rfl)).at hdl (List.getElem?_eq_getElem hiv))) rfl (fun sl _ => ?_); refine g_shape 0 rfl fun A9 k9 hv9 _ => ?_; subst hv9
                  refine a_and (fun _ hw => hw.sub (by repeat (first | exact List.Sublist.slnil | exact List.Sublist.refl _ | apply List.Sublist.cons_cons | apply List.Sublist.cons))) ?_
                  refine a_take 18 pan_cx (by kernel_rfl) (fun _ hw => hw.sub (by repeat (first | exact List.Sublist.slnil | exact List.Sublist.refl _ | apply List.Sublist.cons_cons | apply List.Sublist.cons))) rfl (by kernel_rfl) (by kernel_rfl) (v_move rfl) rfl ?_
                  refine a_take 19 pan_cx (by kernel_rfl) (fun _ hw => hw.sub (by repeat (first | exact List.Sublist.slnil | exact List.Sublist.refl _ | apply List.Sublist.cons_cons | apply List.Sublist.cons))) rfl (by kernel_rfl) (by kernel_rfl) (v_extract rfl rfl) rfl ?_
                  refine a_take 20 pan_cx (by kernel_rfl) (fun _ hw => hw.sub (by repeat (first | exact List.Sublist.slnil | exact List.Sublist.refl _ | apply List.Sublist.cons_cons | apply List.Sublist.cons))) rfl (by kernel_rfl) (by kernel_rfl) (v_extract rfl rfl) rfl ?_
                  refine a_take 21 pan_cx (by kernel_rfl) (fun _ hw => hw.sub (by repeat (first | exact List.Sublist.slnil | exact List.Sublist.refl _ | apply List.Sublist.cons_cons | apply List.Sublist.cons))) rfl (by kernel_rfl) (by kernel_rfl) (v_nilCheck rfl) rfl ?_
                  refine a_take 22 pan_cx (by kernel_rfl) (fun _ hw => hw.sub (by repeat (first | exact List.Sublist.slnil | exact List.Sublist.refl _ | apply List.Sublist.cons_cons | apply List.Sublist.cons))) rfl (by kernel_rfl) (by kernel_rfl) (v_fieldAddrB (o := 3) Try.underlying97 rfl rfl Try.nz23 rfl) rfl ?_
                  refine a_one 23 (by kernel_rfl) rfl rfl ?_
                  refine x_store (v := Value.agg (intCells (stL L' (d + 1))).toArray) 2 rfl rfl rfl Try.hi23 (Try.cz23.trans (by simp [Value.cells, intCells, hz2])) (by rw [chR_len hz1]; simp [Value.cells, intCells, hz2]) (one_intCells _) (chR (.slice (some ad) L'.length kl2) m d (stL L' (d + 1)) lw2) (by rw [show (Value.agg (intCells (stL L' (d + 1))).toArray).cells.size = 10 from by simp [Value.cells, intCells, hz2]]; exact chR_st_set hz1 _) ?_
                  refine a_and (fun _ hw => hw.sub (by repeat (first | exact List.Sublist.slnil | exact List.Sublist.refl _ | apply List.Sublist.cons_cons | apply List.Sublist.cons))) ?_
                  refine a_take 24 pan_cx (by kernel_rfl) (fun _ hw => hw.sub (by repeat (first | exact List.Sublist.slnil | exact List.Sublist.refl _ | apply List.Sublist.cons_cons | apply List.Sublist.cons))) rfl (by kernel_rfl) (by kernel_rfl) (v_nilCheck rfl) rfl ?_
                  refine a_take 25 pan_cx (by kernel_rfl) (fun _ hw => hw.sub (by repeat (first | exact List.Sublist.slnil | exact List.Sublist.refl _ | apply List.Sublist.cons_cons | apply List.Sublist.cons))) rfl (by kernel_rfl) (by kernel_rfl) (v_fieldAddrB (o := 13) Try.underlying97 rfl rfl Try.nz57 rfl) rfl ?_
                  refine a_one 26 (by kernel_rfl) rfl rfl ?_
                  refine x_store1 (v := .slice A9 (lastL L' (d + 1)).length k9) 2 rfl rfl rfl Try.hi57 Try.cz57 rfl (by rw [chR_len hz2]; decide) rfl ?_; rw [chR_last_set hz2]
                  refine a_and (fun _ hw => hw.sub (by repeat (first | exact List.Sublist.slnil | exact List.Sublist.refl _ | apply List.Sublist.cons_cons | apply List.Sublist.cons))) ?_
                  refine a_done (by kernel_rfl) ?_
                  exact e_cutEnd (.slice A9 (lastL L' (d + 1)).length k9) trivial (by repeat (first | exact Sub.nil _ | refine Sub.cons rfl ?_)) (fun _ hw => hw.pick [1, 2, 3, 4, 0] (by decide))
                · refine a_op rfl rfl ?_
                  refine x_val (v_loadB 1 rfl Try.underlying93 rfl rfl rfl) rfl ?_
                  refine a_and (fun _ hw => hw.sub (by repeat (first | exact List.Sublist.slnil | exact List.Sublist.refl _ | apply List.Sublist.cons_cons | apply List.Sublist.cons))) ?_
                  refine a_take 15 pan_cx (by kernel_rfl) (fun _ hw => hw.sub (by repeat (first | exact List.Sublist.slnil | exact List.Sublist.refl _ | apply List.Sublist.cons_cons | apply List.Sublist.cons))) rfl (by kernel_rfl) (by kernel_rfl) (v_indexS Try.underlying93 Try.hi38 Try.cz38 rfl rfl (by first | omega | decide)) rfl ?_
                  refine a_take 16 pan_cx (by kernel_rfl) (fun _ hw => hw.sub (by repeat (first | exact List.Sublist.slnil | exact List.Sublist.refl _ | apply List.Sublist.cons_cons | apply List.Sublist.cons))) rfl (by kernel_rfl) (by kernel_rfl) (v_loadR 0 rfl (by omega) hu Try.underlying38 rfl rfl) rfl ?_
                  refine a_one 5 (by kernel_rfl) rfl rfl ?_
                  refine x_val (v_loadBN (cs' := intCells (stL L' d)) 1 rfl Try.underlying23 rfl Try.hi23 Try.cz23 rfl (chR_st hz1) (by simp [intCells, hz1])) rfl ?_
                  refine a_and (fun _ hw => hw.sub (by repeat (first | exact List.Sublist.slnil | exact List.Sublist.refl _ | apply List.Sublist.cons_cons | apply List.Sublist.cons))) ?_
                  refine a_one 17 (by kernel_rfl) rfl rfl ?_
                  refine x_call (dst := some 127) (mc := []) (σ := Value) (fun _ => True) (fun sl => .tuple #[intsV (stL L' (d + 1)), sl]) (fun sl => [Own sl 30 5 (lastL L' (d + 1)).length (resL (lastL L' (d + 1)))]) rfl rfl rfl Try.call87 (fun w hw => hcall w _ (hgd ▸ (keep_all (Rounds.up _ _) (hw.mem (i := 3) rfl)).at hdl (List.getElem?_eq_getElem hiv))) rfl (fun sl _ => ?_); refine g_shape 0 rfl fun A9 k9 hv9 _ => ?_; subst hv9
                  refine a_and (fun _ hw => hw.sub (by repeat (first | exact List.Sublist.slnil | exact List.Sublist.refl _ | apply List.Sublist.cons_cons | apply List.Sublist.cons))) ?_
                  refine a_take 18 pan_cx (by kernel_rfl) (fun _ hw => hw.sub (by repeat (first | exact List.Sublist.slnil | exact List.Sublist.refl _ | apply List.Sublist.cons_cons | apply List.Sublist.cons))) rfl (by kernel_rfl) (by kernel_rfl) (v_move rfl) rfl ?_
                  refine a_take 19 pan_cx (by kernel_rfl) (fun _ hw => hw.sub (by repeat (first | exact List.Sublist.slnil | exact List.Sublist.refl _ | apply List.Sublist.cons_cons | apply List.Sublist.cons))) rfl (by kernel_rfl) (by kernel_rfl) (v_extract rfl rfl) rfl ?_
                  refine a_take 20 pan_cx (by kernel_rfl) (fun _ hw => hw.sub (by repeat (first | exact List.Sublist.slnil | exact List.Sublist.refl _ | apply List.Sublist.cons_cons | apply List.Sublist.cons))) rfl (by kernel_rfl) (by kernel_rfl) (v_extract rfl rfl) rfl ?_
                  refine a_take 21 pan_cx (by kernel_rfl) (fun _ hw => hw.sub (by repeat (first | exact List.Sublist.slnil | exact List.Sublist.refl _ | apply List.Sublist.cons_cons | apply List.Sublist.cons))) rfl (by kernel_rfl) (by kernel_rfl) (v_nilCheck rfl) rfl ?_
                  refine a_take 22 pan_cx (by kernel_rfl) (fun _ hw => hw.sub (by repeat (first | exact List.Sublist.slnil | exact List.Sublist.refl _ | apply List.Sublist.cons_cons | apply List.Sublist.cons))) rfl (by kernel_rfl) (by kernel_rfl) (v_fieldAddrB (o := 3) Try.underlying97 rfl rfl Try.nz23 rfl) rfl ?_
                  refine a_one 23 (by kernel_rfl) rfl rfl ?_
                  refine x_store (v := Value.agg (intCells (stL L' (d + 1))).toArray) 2 rfl rfl rfl Try.hi23 (Try.cz23.trans (by simp [Value.cells, intCells, hz2])) (by rw [chR_len hz1]; simp [Value.cells, intCells, hz2]) (one_intCells _) (chR (.slice (some ad) L'.length kl2) m d (stL L' (d + 1)) lw2) (by rw [show (Value.agg (intCells (stL L' (d + 1))).toArray).cells.size = 10 from by simp [Value.cells, intCells, hz2]]; exact chR_st_set hz1 _) ?_
                  refine a_and (fun _ hw => hw.sub (by repeat (first | exact List.Sublist.slnil | exact List.Sublist.refl _ | apply List.Sublist.cons_cons | apply List.Sublist.cons))) ?_
                  refine a_take 24 pan_cx (by kernel_rfl) (fun _ hw => hw.sub (by repeat (first | exact List.Sublist.slnil | exact List.Sublist.refl _ | apply List.Sublist.cons_cons | apply List.Sublist.cons))) rfl (by kernel_rfl) (by kernel_rfl) (v_nilCheck rfl) rfl ?_
                  refine a_take 25 pan_cx (by kernel_rfl) (fun _ hw => hw.sub (by repeat (first | exact List.Sublist.slnil | exact List.Sublist.refl _ | apply List.Sublist.cons_cons | apply List.Sublist.cons))) rfl (by kernel_rfl) (by kernel_rfl) (v_fieldAddrB (o := 13) Try.underlying97 rfl rfl Try.nz57 rfl) rfl ?_
                  refine a_one 26 (by kernel_rfl) rfl rfl ?_
                  refine x_store1 (v := .slice A9 (lastL L' (d + 1)).length k9) 2 rfl rfl rfl Try.hi57 Try.cz57 rfl (by rw [chR_len hz2]; decide) rfl ?_; rw [chR_last_set hz2]
                  refine a_and (fun _ hw => hw.sub (by repeat (first | exact List.Sublist.slnil | exact List.Sublist.refl _ | apply List.Sublist.cons_cons | apply List.Sublist.cons))) ?_
                  refine a_done (by kernel_rfl) ?_
                  exact e_cutEnd (.slice A9 (lastL L' (d + 1)).length k9) trivial (by repeat (first | exact Sub.nil _ | refine Sub.cons rfl ?_)) (fun _ hw => hw.pick [1, 2, 3, 4, 0] (by decide))
            · rintro sl -
              refine e_region ?_
              refine w_val (v_move rfl) rfl ?_
              refine w_val (v_nilCheck rfl) rfl ?_
              refine w_val (v_fieldAddrB (o := 2) Try.underlying97 rfl rfl Try.nz3 rfl) rfl ?_
              refine w_val (v_loadB 1 rfl Try.underlying3 rfl rfl rfl) rfl ?_
              refine w_val (v_add rfl rfl (by omega)) rfl ?_
              refine w_val (v_nilCheck rfl) rfl ?_
              refine w_val (v_fieldAddrB (o := 2) Try.underlying97 rfl rfl Try.nz3 rfl) rfl ?_
              refine w_op rfl ?_
              refine x_store1 1 rfl rfl rfl Try.hi3 Try.cz3 rfl (by rw [chR_len hz2]; decide) rfl ?_
              refine w_nil ?_
              refine e_blk ?_
              exact e_round ((d + 1, sl)) (by dsimp only; omega) (by dsimp only; omega) (by repeat (first | exact Sub.nil _ | refine Sub.cons rfl ?_)) (fun _ hw => hw)
          · have e : d = m := by omega
            subst e
            refine e_exit rfl ?_
            refine e_seq ?_
            refine e_region ?_
            refine w_val (v_assign rfl) rfl ?_
            refine w_nil ?_
            refine e_retQ (q_ret1 rfl (.tmp rfl) ?_)
            exact fun w' hw' => ⟨(.slice Al2 L'.length kl2, vs', G, lw2), trivial, rfl, (hw'.pick [1, 2, 3, 4] (by decide)).res⟩
        · have hq : doQ q x = (q, 2) := by unfold doQ; rw [if_neg h1, if_neg h2, if_neg h3, if_neg h4]
          rw [hq]
          refine w_val (v_is (v' := .bool false) (v_eql rfl rfl) (by rw [decide_eq_false h1])) rfl ?_
          refine w_val (v_assign rfl) rfl ?_
          refine w_nil ?_
          refine e_condF rfl ?_
          refine e_seq ?_
          refine e_region ?_
          refine w_val (v_is (v' := .bool false) (v_eql rfl rfl) (by rw [decide_eq_false h2])) rfl ?_
          refine w_val (v_assign rfl) rfl ?_
          refine w_nil ?_
          refine e_condF rfl ?_
          refine e_seq ?_
          refine e_region ?_
          refine w_val (v_is (v' := .bool false) (v_eql rfl rfl) (by rw [decide_eq_false h3])) rfl ?_
          refine w_val (v_assign rfl) rfl ?_
          refine w_nil ?_
          refine e_condF rfl ?_
          refine e_seq ?_
          refine e_region ?_
          refine w_val (v_is (v' := .bool false) (v_eql rfl rfl) (by rw [decide_eq_false h4])) rfl ?_
          refine w_val (v_assign rfl) rfl ?_
          refine w_nil ?_
          refine e_condF rfl ?_
          refine e_skip ?_
          refine e_blk ?_
          refine e_seq ?_
          refine e_region ?_
          refine w_val (v_assign rfl) rfl ?_
          refine w_nil ?_
          refine e_retQ (q_ret1 rfl (.tmp rfl) ?_)
          exact fun w' hw' => ⟨(.slice Al q.L.length kl, vs, G, lw), trivial, rfl, (hw'.pick [1, 2, 3, 4] (by decide)).res⟩
end Go.SL

