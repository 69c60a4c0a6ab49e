/- Ytebdkaadbakhlac: part J9 of this seat's own texts. -/
import Derived.Test.YtebdkaadbakhlacJ8
import Derived.Test.YtebdkaadbakhlacH1
set_option linter.unusedVariables false
set_option linter.unusedSimpArgs false

open Go Go.Proofs Go.SL
set_option maxRecDepth 100000
set_option maxHeartbeats 4000000
namespace Go.SL
abbrev dzH (y : RdP) (pb b13 b12 b9 b7 b5 : Nat) (hb : Nat → Value) (ph : Nat → Nat) (dvh svh : Nat → Value) (hv lv : Value) (by_ : Int) (n m : Nat) (P1 P2 : RunS) (sh : Nat → DeedL) : Hp :=
  Hds m ph dvh svh P2.1 sh :: (tbH pb 142 hb P2.2 ++ ([.blk b13 43 [hv], Own hv 79 1 m (ptrs m ph), .blk b12 41 [ptrV pb], .blk b9 62 [ptrV y.pr], .blk b5 38 [lv], .blk b7 3 [.int .i64 by_]] ++ rnH y n P1))
theorem hd_v2 {w0 w : World} {F : Nat → Prop} {m : Hp} {n k : Nat} {ph : Nat → Nat} {dvh svh : Nat → Value} {X : Nat → WkL} {sh : Nat → DeedL} {s : List Int} {r : RoundL} {T : TabL} (hi : InvR s r X T) (h : St w0 F m w) (hm : Hds n ph dvh svh X sh ∈ m) (hk : k < n) : HdV w.cell? (ph k) (X k) :=
  HdV.of (blk_cells (hd_mem h hm hk) 0 (fun j v hv => by simpa using hv)) (hi.w k).glen
theorem dz_v {s : List Int} {r : RoundL} {w0 w : World} {F : Nat → Prop} {y : RdP} {pb b13 b12 b9 b7 b5 : Nat} {hb : Nat → Value} {ph : Nat → Nat} {dvh svh : Nat → Value} {hv lv : Value} {by_ : Int} {n : Nat} {P1 P2 : RunS} {sh : Nat → DeedL} (h1 : InvR s r P1.1 P1.2) (h2 : InvR s r P2.1 P2.2) (h : St w0 F (dzH y pb b13 b12 b9 b7 b5 hb ph dvh svh hv lv by_ n n P1 P2 sh) w) :
    DoesV w.cell? b13 b9 b5 b12 b7 y.pr y.pt pb y.ht hb lv by_ n P1.1 P2.1 P1.2 P2.2 := by
  obtain ⟨A, k, hv1, hk, _, hc⟩ := own_rds (h.mem (i := 4) rfl)
  refine ⟨⟨ph, A, k, ?_, hk, fun h0 => ?_, fun i hi ad ha => ?_, fun i hi => hd_v2 h2 h List.mem_cons_self hi⟩, ?_, ?_, ?_, ?_, rnH_v h1 h (by simp) (by simp) (by simp), ?_, h.tbV 10 rfl rfl, h.tbV 1 rfl rfl⟩
  · rw [← hv1, blk_cell (h.mem (i := 3) rfl)]; rfl
  · obtain ⟨ad, h, _⟩ := hc h0
    exact ⟨ad, h⟩
  · obtain ⟨ad', h', hcells⟩ := hc (by omega)
    rw [ha] at h'
    injection h' with h'
    subst h'
    exact hcells _ _ (ptr_at hi)
  · rw [blk_cell (h.mem (i := 6) rfl)]; rfl
  · rw [blk_cell (h.mem (i := 7) rfl)]; rfl
  · rw [blk_cell (h.mem (i := 5) rfl)]; rfl
  · rw [blk_cell (h.mem (i := 8) rfl)]; rfl
  · rw [blk_cell (h.mem (i := 12) rfl)]; rfl
theorem RoundDoes_spec (s : List Int) (v vp : Value) (r : RoundL) (p : List Int) (by_ : Int) (w : World) (h : IsRound w.cell? v r) (hb_ : ∀ d ∈ r, d.length ≤ 4398046511104) (hs10 : s.length = 10) (hp : IsInts w.cell? vp p) :
    Calls Try.prog 7 #[intsV s, v, vp, .int .i64 by_] w fun e w' => e = .returned (.bool true) ∧ Res w [] [] w' := by
  have hsr := h
  rw [← off_none w] at hsr hp
  obtain ⟨vs, hv0, hds⟩ := h
  rw [← off_none w] at hv0 hds
  obtain ⟨Ap, kp, rfl, hlep, hpc⟩ := hp.form
  obtain ⟨A, ka, rfl, hle, hvl, hcl⟩ := hv0
  have hlz : (intCells s).length = 10 := by rw [intCells, List.length_map]; exact hs10
  refine enter0 (N := 166) Try.func7 rfl rfl rfl ?_
  refine e_seq ?_
  refine e_region ?_
  refine w_op rfl ?_
  refine x_box rfl rfl (fun b4 => ?_)
  refine w_op rfl ?_
  refine x_box rfl rfl (fun b5 => ?_)
  refine w_op rfl ?_
  refine x_box rfl rfl (fun b7 => ?_)
  refine w_val (v_assign rfl) rfl ?_
  refine w_nil ?_
  refine e_seq ?_
  refine e_seq ?_
  refine e_region ?_
  refine w_op rfl ?_
  refine x_call0 (v := .bool true) rfl rfl rfl Try.call23 rfl (fun w hw => roundBegun_spec w) ?_
  refine w_val (v_not rfl) rfl ?_
  refine w_nil ?_
  refine e_condF rfl ?_
  by_cases hg : greatL r = true
  · refine e_skip ?_
    refine e_seq ?_
    refine e_seq ?_
    refine e_region ?_
    refine w_val (v_loadB 1 rfl Try.underlying38 rfl rfl rfl) rfl ?_
    refine w_op rfl ?_
    refine x_call0 (v := .bool true) rfl rfl rfl Try.call24 rfl (fun w hw => by have := great_spec _ r w (hsr.mono hw.off) hb_; rwa [hg] at this) ?_
    refine w_val (v_move rfl) rfl ?_
    refine w_skip rfl rfl rfl rfl ?_
    refine w_skip rfl rfl rfl rfl ?_
    refine w_skip rfl rfl rfl rfl ?_
    refine w_val (v_pickT rfl rfl) rfl ?_
    refine w_nil ?_
    refine e_condT rfl ?_
    refine e_seq ?_
    refine e_region ?_
    refine w_val (v_assign rfl) rfl ?_
    refine w_nil ?_
    refine e_retQ (q_ret1 rfl (.tmp rfl) ?_)
    exact fun w' hw' => ⟨rfl, hw'.res.nil⟩
  · have hg : greatL r = false := by cases h : greatL r with | true => exact absurd h hg | false => rfl
    by_cases h500 : 500 < p.length
    · refine e_skip ?_
      refine e_seq ?_
      refine e_seq ?_
      refine e_region ?_
      refine w_val (v_loadB 1 rfl Try.underlying38 rfl rfl rfl) rfl ?_
      refine w_op rfl ?_
      refine x_call0 (v := .bool false) rfl rfl rfl Try.call24 rfl (fun w hw => by have := great_spec _ r w (hsr.mono hw.off) hb_; rwa [hg] at this) ?_
      refine w_val (v_move rfl) rfl ?_
      refine w_want rfl rfl ?_
      refine w_val (v_move rfl) rfl ?_
      refine w_want rfl rfl ?_
      refine w_val (v_lenS Try.underlying51 rfl) rfl ?_
      refine w_want rfl rfl ?_
      refine w_val (v_is (v' := .bool true) (v_gtr rfl rfl) (by rw [decide_eq_true (by omega)])) rfl ?_
      refine w_val (v_pickF rfl rfl) rfl ?_
      refine w_nil ?_
      refine e_condT rfl ?_
      refine e_seq ?_
      refine e_region ?_
      refine w_val (v_assign rfl) rfl ?_
      refine w_nil ?_
      refine e_retQ (q_ret1 rfl (.tmp rfl) ?_)
      exact fun w' hw' => ⟨rfl, hw'.res.nil⟩
    · by_cases hf : roundFaultL r = 0
      · obtain ⟨h8, hck⟩ := roundFault_ok hf
        have hb14 : ∀ d ∈ r, d.length ≤ 4398046511104 := fun d hd => Nat.le_trans (checked (hck d hd)).1 (by decide)
        refine e_skip ?_
        refine e_seq ?_
        refine e_seq ?_
        refine e_region ?_
        refine w_val (v_loadB 1 rfl Try.underlying38 rfl rfl rfl) rfl ?_
        refine w_op rfl ?_
        refine x_call0 (v := .bool false) rfl rfl rfl Try.call24 rfl (fun w hw => by have := great_spec _ r w (hsr.mono hw.off) hb_; rwa [hg] at this) ?_
        refine w_val (v_move rfl) rfl ?_
        refine w_want rfl rfl ?_
        refine w_val (v_move rfl) rfl ?_
        refine w_want rfl rfl ?_
        refine w_val (v_lenS Try.underlying51 rfl) rfl ?_
        refine w_want rfl rfl ?_
        refine w_val (v_is (v' := .bool false) (v_gtr rfl rfl) (by rw [decide_eq_false (by omega)])) rfl ?_
        refine w_val (v_pickF rfl rfl) rfl ?_
        refine w_nil ?_
        refine e_condF rfl ?_
        refine e_skip ?_
        refine e_seq ?_
        refine e_region ?_
        refine w_val (v_loadBA 2 rfl Try.underlying23 rfl Try.hi23 (Try.cz23.trans hlz.symm) rfl) rfl ?_
        refine w_val (v_loadB 1 rfl Try.underlying38 rfl rfl rfl) rfl ?_
        refine w_op rfl ?_
        refine x_call (dst := some 36) (mc := []) (σ := RdP) (fun _ => True) (fun y => .tuple #[.pointer (some ⟨y.pr, 0, none⟩), .int .i64 0]) (fun y => rnH y r.length (newP s r)) rfl rfl rfl Try.call31 (fun w hw => rdNew_ok s _ r w (hsr.mono hw.off) hs10 hf) rfl (fun y _ => ?_); obtain ⟨pr, pt, ht, pw, dvw, wv⟩ := y; dsimp only
        refine w_val (v_move rfl) rfl ?_
        refine w_val (v_extract rfl rfl) rfl ?_
        refine w_val (v_extract rfl rfl) rfl ?_
        refine w_op rfl ?_
        refine x_alloc (z := .pointer none) (by intro w; exact Try.zeroValue62 w) rfl (fun b9 => ?_)
        refine w_op rfl ?_
        refine x_store1 0 rfl rfl rfl Try.hi62 Try.cz62 rfl (by first | (simp; done) | (simp [intCells_len]; omega) | exact Nat.zero_lt_succ _) rfl ?_
        refine w_val (v_assign rfl) rfl ?_
        refine w_nil ?_
        refine e_seq ?_
        refine e_seq ?_
        refine e_region ?_
        refine w_val (v_loadB 7 rfl Try.underlying38 rfl rfl rfl) rfl ?_
        refine w_op rfl ?_
        refine x_call0 (v := .int .i64 (roundFaultL r)) rfl rfl rfl Try.call25 rfl (fun w hw => RoundFault_spec _ r w (hsr.mono hw.off)) ?_
        refine w_val (v_assign rfl) rfl ?_
        refine w_nil ?_
        refine e_seq ?_
        refine e_region ?_
        refine w_val (v_move rfl) rfl ?_
        refine w_val (v_is (v' := .bool false) (v_neq rfl rfl) (by rw [decide_eq_false (fun h => h hf)])) rfl ?_
        refine w_val (v_move rfl) rfl ?_
        refine w_want rfl rfl ?_
        refine w_val (v_loadB 0 rfl Try.underlying62 rfl rfl rfl) rfl ?_
        refine w_want rfl rfl ?_
        refine w_val (v_is (v' := .bool false) (v_eqlPtr Try.underlying62 rfl rfl) (by rfl)) rfl ?_
        refine w_val (v_pickF rfl rfl) rfl ?_
        refine w_nil ?_
        refine e_condF rfl ?_
        refine e_skip ?_
        refine e_seq ?_
        refine e_region ?_
        refine w_val (v_loadBA 8 rfl Try.underlying23 rfl Try.hi23 (Try.cz23.trans hlz.symm) rfl) rfl ?_
        refine w_val (v_loadB 7 rfl Try.underlying38 rfl rfl rfl) rfl ?_
        refine w_op rfl ?_
        refine x_call (dst := some 60) (mc := []) (σ := Nat × (Nat → Value)) (fun _ => True) (fun x => .pointer (some ⟨x.1, 0, none⟩)) (fun x => tbH x.1 142 x.2 (newT s r)) rfl rfl rfl Try.call39 (fun w hw => newBoard_spec s _ r w (hsr.mono hw.off) hs10 (by omega) hb14) rfl (fun x _ => ?_); obtain ⟨pb, hb⟩ := x; dsimp only
        refine w_op rfl ?_
        refine x_alloc (z := .pointer none) (by intro w; exact Try.zeroValue41 w) rfl (fun b12 => ?_)
        refine w_op rfl ?_
        refine x_store1 0 rfl rfl rfl Try.hi41 Try.cz41 rfl (by first | (simp; done) | (simp [intCells_len]; omega) | exact Nat.zero_lt_succ _) rfl ?_
        refine w_nil ?_
        refine e_seq ?_
        refine e_region ?_
        refine w_op rfl ?_
        refine x_alloc (z := .slice none 0 0) (by intro w; exact Try.zeroValue43 w) rfl (fun b13 => ?_)
        refine w_nil ?_
        refine e_seq ?_
        refine e_seq ?_
        refine e_region ?_
        refine w_val (v_assign rfl) rfl ?_
        refine w_nil ?_
        refine e_block ?_
        refine e_loopH (σ := Nat × (Nat → Nat) × Value) [2, 5, 7, 9, 12, 13] (.cons rfl (.cons rfl (.cons rfl (.cons rfl (.cons rfl (.cons rfl .nil)))))) (fun x => [(14, .int .i64 (x.1 : Int))]) (fun x => dzH ⟨pr, pt, ht, pw, dvw, wv⟩ pb b13 b12 b9 b7 b5 hb x.2.1 (fun i => vs.getD i nilS) (fun _ => nilS) x.2.2 (.slice A r.length ka) by_ r.length x.1 (newP s r) (newP s r) (fun _ => [])) (fun x => x.1 ≤ r.length) (fun x => r.length - x.1) (0, fun _ => 0, nilS) (Nat.zero_le _) (by repeat (first | exact Sub.nil _ | refine Sub.cons rfl ?_)) (fun _ hw => ?hinit) ?_
        case hinit =>
          have h1 := hw.ownNil 79 1
          have h2 := St.lstShut (cs := []) h1
          exact h2.pick [0, 4, 5, 2, 1, 3, 6, 13, 12, 7, 8, 9, 10, 11] (by decide)
        rintro ⟨j, ph, hv⟩ hj
        dsimp only at hj ⊢
        refine e_seq ?_
        refine e_seq ?_
        refine e_region ?_
        refine w_val (v_move rfl) rfl ?_
        refine w_val (v_loadB 7 rfl Try.underlying38 rfl rfl rfl) rfl ?_
        refine w_val (v_lenS Try.underlying38 rfl) rfl ?_
        refine w_val (v_lss rfl rfl) rfl ?_
        refine w_nil ?_
        refine e_condD rfl (fun hlt => ?_) (fun hlt => ?_)
        · have hj' : j < r.length := by omega
          obtain ⟨u, hu, hud⟩ := hds j hj'
          obtain ⟨ad, rfl, hcells⟩ := hcl (by omega)
          have hcell := hcells (((j : Nat) : Int).toNat * 1) _ (by simpa using hu)
          have hgd : r.getD j [] = r[j] := by simp [List.getD, hj']
          have hvd : vs.getD j nilS = u := by simp [List.getD, hu]
          rw [← hgd] at hud
          obtain ⟨Au, ku, rfl, _⟩ := hud.form
          refine e_skip ?_
          refine e_seq ?_
          refine e_block ?_
          refine g_shape2 4 rfl fun A0 c0 hv0 hk0 hA0 => ?_
          subst hv0
          refine e_cutH (σ := Nat × Value) [2, 5, 7, 9, 12, 13, 14] (.cons rfl (.cons rfl (.cons rfl (.cons rfl (.cons rfl (.cons rfl (.cons rfl .nil))))))) (fun _ => []) (fun y => .blk y.1 81 (hdC (wk0 (r.getD j []) j) (.slice Au (r.getD j []).length ku) nilS) :: Hds j ph (fun i => vs.getD i nilS) (fun _ => nilS) (newP s r).1 (fun _ => []) :: (tbH pb 142 hb (newP s r).2 ++ ([.blk b13 43 [y.2], Own y.2 79 1 (j + 1) (ptrs (j + 1) (upd ph j y.1)), .blk b12 41 [ptrV pb], .blk b9 62 [ptrV pr], .blk b5 38 [.slice (some ad) r.length ka], .blk b7 3 [.int .i64 by_]] ++ rnH ⟨pr, pt, ht, pw, dvw, wv⟩ r.length (newP s r)))) (fun _ => True) ?_ ?_
          · refine e_draw ([.blk b5 38 [.slice (some ad) r.length ka]]) Try.mixed ?_
            refine a_take 1 pan_cx (by kernel_rfl) (fun _ hw => hw.sub (by repeat (first | exact List.Sublist.slnil | exact List.Sublist.refl _ | apply List.Sublist.cons_cons | apply List.Sublist.cons))) rfl (by kernel_rfl) (by kernel_rfl) (v_loadB 0 rfl Try.underlying38 rfl rfl rfl) rfl ?_
            refine a_take 2 pan_cx (by kernel_rfl) (fun _ hw => hw.sub (by repeat (first | exact List.Sublist.slnil | exact List.Sublist.refl _ | apply List.Sublist.cons_cons | apply List.Sublist.cons))) rfl (by kernel_rfl) (by kernel_rfl) (v_move rfl) rfl ?_
            refine a_take 3 pan_cx (by kernel_rfl) (fun _ hw => hw.sub (by repeat (first | exact List.Sublist.slnil | exact List.Sublist.refl _ | apply List.Sublist.cons_cons | apply List.Sublist.cons))) rfl (by kernel_rfl) (by kernel_rfl) (v_indexS Try.underlying38 Try.hi25 Try.cz25 rfl rfl (by first | omega | decide)) rfl ?_
            refine a_take 4 pan_cx (by kernel_rfl) (fun _ hw => hw.sub (by repeat (first | exact List.Sublist.slnil | exact List.Sublist.refl _ | apply List.Sublist.cons_cons | apply List.Sublist.cons))) rfl (by kernel_rfl) (by kernel_rfl) (v_loadO Try.underlying25 rfl rfl (hcell)) rfl ?_
            refine a_take 5 pan_cx (by kernel_rfl) (fun _ hw => hw.sub (by repeat (first | exact List.Sublist.slnil | exact List.Sublist.refl _ | apply List.Sublist.cons_cons | apply List.Sublist.cons))) rfl (by kernel_rfl) (by kernel_rfl) (v_move rfl) rfl ?_
            refine a_take 6 pan_cx (by kernel_rfl) (fun _ hw => hw.sub (by repeat (first | exact List.Sublist.slnil | exact List.Sublist.refl _ | apply List.Sublist.cons_cons | apply List.Sublist.cons))) rfl (by kernel_rfl) (by kernel_rfl) (v_build (v := .agg (hdC (wk0 (r.getD j []) j) (.slice Au (r.getD j []).length ku) nilS).toArray) _ rfl (by intro _; simp [Instr.build, Instr.fill, Try.zeroValue81, go_sem]; rfl)) rfl ?_
            refine a_all [0, 7] (by kernel_rfl) rfl ?_
            intro i hi
            simp only [List.mem_cons, List.not_mem_nil, or_false] at hi
            rcases hi with rfl | rfl
            · refine a_op rfl rfl ?_
              refine x_val (v_loadB 3 rfl Try.underlying43 rfl rfl rfl) rfl ?_
              refine a_and (fun _ hw => hw.sub (by repeat (first | exact List.Sublist.slnil | exact List.Sublist.refl _ | apply List.Sublist.cons_cons | apply List.Sublist.cons))) ?_
              refine a_one 7 (by kernel_rfl) rfl rfl ?_
              refine x_box rfl rfl (fun b74 => ?_)
              refine a_and (fun _ hw => hw.sub (by repeat (first | exact List.Sublist.slnil | exact List.Sublist.refl _ | apply List.Sublist.cons_cons | apply List.Sublist.cons))) ?_
              refine a_one 8 (by kernel_rfl) rfl rfl ?_
              refine x_buildSlice _ ([ptrV b74]) rfl (run_buildSlice Try.underlying43 Try.hi79 Try.cz79 Try.zeroValue79 rfl (by kernel_rfl)) rfl (fun b75 => ?_)
              refine a_and (fun _ hw => hw.sub (by repeat (first | exact List.Sublist.slnil | exact List.Sublist.refl _ | apply List.Sublist.cons_cons | apply List.Sublist.cons))) ?_
              refine a_one 9 (by kernel_rfl) rfl rfl ?_
              refine x_appendIS (z := .pointer none) (n := j) (xs := ptrs j ph) (size := 1) (bytes := 8) (k := 1) (news := [ptrV b74]) 6 rfl rfl rfl Try.underlying43 (by kernel_rfl) rfl (by decide) (fun w hw => blk_rds (hw.hold _ (List.mem_cons_self ..)) rfl) (by intro u hu; rw [List.mem_singleton.1 hu]; rfl) (by omega) (by simp only [maxLen]; omega) rfl (fun A4 cap4 _ => ?_)
              refine a_and (fun _ hw => hw.sub (by repeat (first | exact List.Sublist.slnil | exact List.Sublist.refl _ | apply List.Sublist.cons_cons | apply List.Sublist.cons))) ?_
              refine a_one 10 (by kernel_rfl) rfl rfl ?_
              refine x_store1 5 rfl rfl rfl Try.hi43 Try.cz43 rfl (by first | (simp; done) | (simp [intCells_len]; omega) | exact Nat.zero_lt_succ _) rfl ?_
              refine a_and (fun _ hw => hw.sub (by repeat (first | exact List.Sublist.slnil | exact List.Sublist.refl _ | apply List.Sublist.cons_cons | apply List.Sublist.cons))) ?_
              refine a_done (by kernel_rfl) ?_
              exact e_cutEnd (b74, Value.slice A4 (j + 1) cap4) trivial (by repeat (first | exact Sub.nil _ | refine Sub.cons rfl ?_)) (fun _ hw => by rw [ptrs_grow] at hw; exact hw.sub (List.sublist_cons_self _ _))
            · refine a_op rfl rfl ?_
              refine x_box rfl rfl (fun b74 => ?_)
              refine a_and (fun _ hw => hw.sub (by repeat (first | exact List.Sublist.slnil | exact List.Sublist.refl _ | apply List.Sublist.cons_cons | apply List.Sublist.cons))) ?_
              refine a_all [0, 8] (by kernel_rfl) rfl ?_
              intro i hi
              simp only [List.mem_cons, List.not_mem_nil, or_false] at hi
              rcases hi with rfl | rfl
              · refine a_op rfl rfl ?_
                refine x_val (v_loadB 4 rfl Try.underlying43 rfl rfl rfl) rfl ?_
                refine a_and (fun _ hw => hw.sub (by repeat (first | exact List.Sublist.slnil | exact List.Sublist.refl _ | apply List.Sublist.cons_cons | apply List.Sublist.cons))) ?_
                refine a_one 8 (by kernel_rfl) rfl rfl ?_
                refine x_buildSlice _ ([ptrV b74]) rfl (run_buildSlice Try.underlying43 Try.hi79 Try.cz79 Try.zeroValue79 rfl (by kernel_rfl)) rfl (fun b75 => ?_)
                refine a_and (fun _ hw => hw.sub (by repeat (first | exact List.Sublist.slnil | exact List.Sublist.refl _ | apply List.Sublist.cons_cons | apply List.Sublist.cons))) ?_
                refine a_one 9 (by kernel_rfl) rfl rfl ?_
                refine x_appendIS (z := .pointer none) (n := j) (xs := ptrs j ph) (size := 1) (bytes := 8) (k := 1) (news := [ptrV b74]) 6 rfl rfl rfl Try.underlying43 (by kernel_rfl) rfl (by decide) (fun w hw => blk_rds (hw.hold _ (List.mem_cons_self ..)) rfl) (by intro u hu; rw [List.mem_singleton.1 hu]; rfl) (by omega) (by simp only [maxLen]; omega) rfl (fun A4 cap4 _ => ?_)
                refine a_and (fun _ hw => hw.sub (by repeat (first | exact List.Sublist.slnil | exact List.Sublist.refl _ | apply List.Sublist.cons_cons | apply List.Sublist.cons))) ?_
                refine a_one 10 (by kernel_rfl) rfl rfl ?_
                refine x_store1 5 rfl rfl rfl Try.hi43 Try.cz43 rfl (by first | (simp; done) | (simp [intCells_len]; omega) | exact Nat.zero_lt_succ _) rfl ?_
                refine a_and (fun _ hw => hw.sub (by repeat (first | exact List.Sublist.slnil | exact List.Sublist.refl _ | apply List.Sublist.cons_cons | apply List.Sublist.cons))) ?_
                refine a_done (by kernel_rfl) ?_
                exact e_cutEnd (b74, Value.slice A4 (j + 1) cap4) trivial (by repeat (first | exact Sub.nil _ | refine Sub.cons rfl ?_)) (fun _ hw => by rw [ptrs_grow] at hw; exact hw.sub (List.sublist_cons_self _ _))
              · refine a_op rfl rfl ?_
                refine x_buildSlice _ ([ptrV b74]) rfl (run_buildSlice Try.underlying43 Try.hi79 Try.cz79 Try.zeroValue79 rfl (by kernel_rfl)) rfl (fun b75 => ?_)
                refine a_and (fun _ hw => hw.sub (by repeat (first | exact List.Sublist.slnil | exact List.Sublist.refl _ | apply List.Sublist.cons_cons | apply List.Sublist.cons))) ?_
                refine a_one 0 (by kernel_rfl) rfl rfl ?_
                refine x_val (v_loadB 5 rfl Try.underlying43 rfl rfl rfl) rfl ?_
                refine a_and (fun _ hw => hw.sub (by repeat (first | exact List.Sublist.slnil | exact List.Sublist.refl _ | apply List.Sublist.cons_cons | apply List.Sublist.cons))) ?_
                refine a_one 9 (by kernel_rfl) rfl rfl ?_
                refine x_appendIS (z := .pointer none) (n := j) (xs := ptrs j ph) (size := 1) (bytes := 8) (k := 1) (news := [ptrV b74]) 6 rfl rfl rfl Try.underlying43 (by kernel_rfl) rfl (by decide) (fun w hw => blk_rds (hw.hold _ (List.mem_cons_self ..)) rfl) (by intro u hu; rw [List.mem_singleton.1 hu]; rfl) (by omega) (by simp only [maxLen]; omega) rfl (fun A4 cap4 _ => ?_)
                refine a_and (fun _ hw => hw.sub (by repeat (first | exact List.Sublist.slnil | exact List.Sublist.refl _ | apply List.Sublist.cons_cons | apply List.Sublist.cons))) ?_
                refine a_one 10 (by kernel_rfl) rfl rfl ?_
                refine x_store1 5 rfl rfl rfl Try.hi43 Try.cz43 rfl (by first | (simp; done) | (simp [intCells_len]; omega) | exact Nat.zero_lt_succ _) rfl ?_
                refine a_and (fun _ hw => hw.sub (by repeat (first | exact List.Sublist.slnil | exact List.Sublist.refl _ | apply List.Sublist.cons_cons | apply List.Sublist.cons))) ?_
                refine a_done (by kernel_rfl) ?_
                exact e_cutEnd (b74, Value.slice A4 (j + 1) cap4) trivial (by repeat (first | exact Sub.nil _ | refine Sub.cons rfl ?_)) (fun _ hw => by rw [ptrs_grow] at hw; exact hw.sub (List.sublist_cons_self _ _))
          · rintro ⟨b74, hv'⟩ -
            dsimp only
            refine e_blk ?_
            refine e_region ?_
            refine w_val (v_move rfl) rfl ?_
            refine w_val (v_add rfl rfl (by omega)) rfl ?_
            refine w_val (v_assign rfl) rfl ?_
            refine w_nil ?_
            exact e_round ((j + 1, upd ph j b74, hv')) (by dsimp only; omega) (by dsimp only; omega) (by repeat (first | exact Sub.nil _ | refine Sub.cons rfl ?_)) (fun _ hw => St.hdGrow (svh := fun _ => nilS) (X := (newP s r).1) (sh := fun _ => []) (dvh := (fun i => vs.getD i nilS)) (j := j) (p := b74) (by rw [hvd]; exact (hw.ownNil 118 5).pick [1, 0, 2, 3, 4, 5, 6, 7, 8, 9, 10, 11, 12, 13, 14, 15] (by decide)))
        · have e : j = r.length := by omega
          subst e
          refine g_shape2 4 rfl fun Ah kh hvh hkh hAh => ?_
          subst hvh
          refine e_exit rfl ?_
          refine e_seq ?_
          refine e_region ?_
          refine w_val (v_makeFunc rfl) rfl ?_
          refine w_val (v_assign rfl) rfl ?_
          refine w_nil ?_
          refine e_seq ?_
          refine e_seq ?_
          refine e_region ?_
          refine w_val (v_assign rfl) rfl ?_
          refine w_nil ?_
          refine e_block ?_
          refine e_loopH (σ := Nat × RunS × (Nat → Value) × (Nat → DeedL)) [2, 9, 12, 13, 15] (.cons rfl (.cons rfl (.cons rfl (.cons rfl (.cons rfl .nil))))) (fun x => [(16, .int .i64 (x.1 : Int))]) (fun x => dzH ⟨pr, pt, ht, pw, dvw, wv⟩ pb b13 b12 b9 b7 b5 hb ph (fun i => vs.getD i nilS) x.2.2.1 (.slice Ah r.length kh) (.slice A r.length ka) by_ r.length r.length x.2.1 x.2.1 x.2.2.2) (fun x => x.1 ≤ p.length ∧ InvR s r x.2.1.1 x.2.1.2 ∧ HdsOk x.2.1.1 x.2.2.2) (fun x => p.length - x.1) (0, newP s r, fun _ => nilS, fun _ => []) ⟨Nat.zero_le _, inv_new hs10 hf, HdsOk.new r⟩ (by repeat (first | exact Sub.nil _ | refine Sub.cons rfl ?_)) (fun _ hw => hw) ?_
          rintro ⟨i, P, svh, sh⟩ ⟨hi, hinv, hok⟩
          dsimp only at hi hinv hok ⊢
          refine e_seq ?_
          refine e_seq ?_
          refine e_region ?_
          refine w_val (v_move rfl) rfl ?_
          refine w_val (v_move rfl) rfl ?_
          refine w_val (v_lenS Try.underlying51 rfl) rfl ?_
          refine w_val (v_lss rfl rfl) rfl ?_
          refine w_nil ?_
          refine e_condD rfl (fun hlt => ?_) (fun hlt => ?_)
          · have hi' : i < p.length := by omega
            obtain ⟨ad, rfl, hcell⟩ := hpc i hi'
            generalize p[i] = pi at *
            by_cases hin : 0 ≤ pi ∧ pi < r.length
            · obtain ⟨k, rfl⟩ : ∃ k : Nat, pi = k := ⟨pi.toNat, by omega⟩
              have hk : k < r.length := by omega
              have hpn := pick_nat (P := P) hk
              have hinv' := hinv.run hk
              obtain ⟨adh, rfl⟩ := hAh (by omega)
              obtain ⟨u, hu, hud⟩ := hds k hk
              have hdv : IsDeed (off w (feet [])) (vs.getD k nilS) (P.1 k).d := by
                have e1 : vs.getD k nilS = u := by simp [List.getD, hu]
                have e2 : (P.1 k).d = r[k] := by rw [(hinv.w k).d]; simp [List.getD, hk]
                rw [e1, e2]; exact hud
              refine e_skip ?_
              refine e_seq ?_
              refine e_block ?_
              refine e_seq ?_
              refine e_region ?_
              refine w_val (v_move rfl) rfl ?_
              refine w_val (v_move rfl) rfl ?_
              refine w_val (v_indexS Try.underlying51 Try.hi3 Try.cz3 rfl rfl (by first | omega | decide)) rfl ?_
              refine w_val (v_loadO Try.underlying3 rfl rfl (hcell)) rfl ?_
              refine w_val (v_assign rfl) rfl ?_
              refine w_nil ?_
              refine e_seq ?_
              refine e_region ?_
              refine w_val (v_loadB 6 rfl Try.underlying62 rfl rfl rfl) rfl ?_
              refine w_val (v_move rfl) rfl ?_
              refine w_op rfl ?_
              refine x_callM (dst := some 91) (rnH ⟨pr, pt, ht, pw, dvw, wv⟩ r.length P) (Hds r.length ph (fun i => vs.getD i nilS) svh P.1 sh :: (tbH pb 142 hb P.2 ++ [.blk b13 43 [(.slice (some adh) r.length kh)], Own (.slice (some adh) r.length kh) 79 1 r.length (ptrs r.length ph), .blk b12 41 [ptrV pb], .blk b9 62 [ptrV pr], .blk b5 38 [(.slice A r.length ka)], .blk b7 3 [.int .i64 by_]])) (σ := Unit) (fun _ => True) (fun _ => .tuple #[.int .i64 (stepW (P.1 k) P.2).1.1, .int .i64 (stepW (P.1 k) P.2).1.2]) (fun _ => rnH ⟨pr, pt, ht, pw, dvw, wv⟩ r.length (runP P k)) (List.perm_append_comm (l₁ := [_, _, _, _, _, _, _, _, _])) rfl rfl rfl Try.call32 (fun w hw => by have := rdPick_spec s r ⟨pr, pt, ht, pw, dvw, wv⟩ P ((k : Nat) : Int) w (res_part hw).1 (res_part hw).2 hinv; rwa [hpn] at this) rfl (fun _ _ => ?_); refine g_heap (m' := Hds r.length ph (fun i => vs.getD i nilS) svh P.1 sh :: (tbH pb 142 hb P.2 ++ ([.blk b13 43 [(.slice (some adh) r.length kh)], Own (.slice (some adh) r.length kh) 79 1 r.length (ptrs r.length ph), .blk b12 41 [ptrV pb], .blk b9 62 [ptrV pr], .blk b5 38 [(.slice A r.length ka)], .blk b7 3 [.int .i64 by_]] ++ rnH ⟨pr, pt, ht, pw, dvw, wv⟩ r.length (runP P k)))) (fun _ hw => hw.pick [5, 6, 7, 8, 9, 10, 11, 12, 13, 0, 1, 2, 3, 4] (by decide)) ?_
              refine w_val (v_move rfl) rfl ?_
              refine w_val (v_extract rfl rfl) rfl ?_
              refine w_val (v_extract rfl rfl) rfl ?_
              refine w_val (v_assign rfl) rfl ?_
              refine w_val (v_assign rfl) rfl ?_
              refine w_nil ?_
              refine e_seq ?_
              refine e_region ?_
              refine w_val (v_assign rfl) rfl ?_
              refine w_val (v_assign rfl) rfl ?_
              refine w_nil ?_
              refine e_seq ?_
              refine e_seq ?_
              refine e_region ?_
              refine w_val (v_move rfl) rfl ?_
              refine w_val (v_is (v' := .bool true) (v_geq rfl rfl) (by rw [decide_eq_true (by omega)])) rfl ?_
              refine w_val (v_move rfl) rfl ?_
              refine w_want rfl rfl ?_
              refine w_val (v_move rfl) rfl ?_
              refine w_want rfl rfl ?_
              refine w_val (v_loadB 3 rfl Try.underlying43 rfl rfl rfl) rfl ?_
              refine w_want rfl rfl ?_
              refine w_val (v_lenS Try.underlying43 rfl) rfl ?_
              refine w_want rfl rfl ?_
              refine w_val (v_is (v' := .bool true) (v_lss rfl rfl) (by rw [decide_eq_true (by omega)])) rfl ?_
              refine w_val (v_pickT rfl rfl) rfl ?_
              refine w_nil ?_
              refine e_condDT rfl (by omega) ?_
              refine e_draw ([.blk b13 43 [.slice (some adh) r.length kh], Own (.slice (some adh) r.length kh) 79 1 r.length (ptrs r.length ph), .blk b12 41 [ptrV pb]]) Try.mixed ?_
              refine a_take 0 pan_cx (by kernel_rfl) (fun _ hw => hw.sub (by repeat (first | exact List.Sublist.slnil | exact List.Sublist.refl _ | apply List.Sublist.cons_cons | apply List.Sublist.cons))) rfl (by kernel_rfl) (by kernel_rfl) (v_loadB 0 rfl Try.underlying43 rfl rfl rfl) rfl ?_
              refine a_take 1 pan_cx (by kernel_rfl) (fun _ hw => hw.sub (by repeat (first | exact List.Sublist.slnil | exact List.Sublist.refl _ | apply List.Sublist.cons_cons | apply List.Sublist.cons))) rfl (by kernel_rfl) (by kernel_rfl) (v_move rfl) rfl ?_
              refine a_take 2 pan_cx (by kernel_rfl) (fun _ hw => hw.sub (by repeat (first | exact List.Sublist.slnil | exact List.Sublist.refl _ | apply List.Sublist.cons_cons | apply List.Sublist.cons))) rfl (by kernel_rfl) (by kernel_rfl) (v_indexS Try.underlying43 Try.hi79 Try.cz79 rfl rfl (by first | omega | decide)) rfl ?_
              refine a_take 3 pan_cx (by kernel_rfl) (fun _ hw => hw.sub (by repeat (first | exact List.Sublist.slnil | exact List.Sublist.refl _ | apply List.Sublist.cons_cons | apply List.Sublist.cons))) rfl (by kernel_rfl) (by kernel_rfl) (v_loadW 1 rfl (by omega) (ptr_at hk) Try.underlying79 rfl rfl) rfl ?_
              refine a_take 4 pan_cx (by kernel_rfl) (fun _ hw => hw.sub (by repeat (first | exact List.Sublist.slnil | exact List.Sublist.refl _ | apply List.Sublist.cons_cons | apply List.Sublist.cons))) rfl (by kernel_rfl) (by kernel_rfl) (v_loadB 2 rfl Try.underlying41 rfl rfl rfl) rfl ?_
              refine a_one 5 (by kernel_rfl) rfl rfl ?_
              refine x_hdStep (mr := [.blk b13 43 [(.slice (some adh) r.length kh)], Own (.slice (some adh) r.length kh) 79 1 r.length (ptrs r.length ph), .blk b12 41 [ptrV pb], .blk b9 62 [ptrV pr], .blk b5 38 [(.slice A r.length ka)], .blk b7 3 [.int .i64 by_]] ++ rnH ⟨pr, pt, ht, pw, dvw, wv⟩ r.length (runP P k)) hinv hok hk (fun _ hw => hw) hdv rfl rfl rfl (fun sv' sl' hok' => ?_)
              refine a_and (fun _ hw => hw.sub (by repeat (first | exact List.Sublist.slnil | exact List.Sublist.refl _ | apply List.Sublist.cons_cons | apply List.Sublist.cons))) ?_
              refine a_take 6 pan_cx (by kernel_rfl) (fun _ hw => hw.sub (by repeat (first | exact List.Sublist.slnil | exact List.Sublist.refl _ | apply List.Sublist.cons_cons | apply List.Sublist.cons))) rfl (by kernel_rfl) (by kernel_rfl) (v_move rfl) rfl ?_
              refine a_take 7 pan_cx (by kernel_rfl) (fun _ hw => hw.sub (by repeat (first | exact List.Sublist.slnil | exact List.Sublist.refl _ | apply List.Sublist.cons_cons | apply List.Sublist.cons))) rfl (by kernel_rfl) (by kernel_rfl) (v_extract rfl rfl) rfl ?_
              refine a_take 8 pan_cx (by kernel_rfl) (fun _ hw => hw.sub (by repeat (first | exact List.Sublist.slnil | exact List.Sublist.refl _ | apply List.Sublist.cons_cons | apply List.Sublist.cons))) rfl (by kernel_rfl) (by kernel_rfl) (v_extract rfl rfl) rfl ?_
              refine a_take 9 pan_cx (by kernel_rfl) (fun _ hw => hw.sub (by repeat (first | exact List.Sublist.slnil | exact List.Sublist.refl _ | apply List.Sublist.cons_cons | apply List.Sublist.cons))) rfl (by kernel_rfl) (by kernel_rfl) (v_assign rfl) rfl ?_
              refine a_take 10 pan_cx (by kernel_rfl) (fun _ hw => hw.sub (by repeat (first | exact List.Sublist.slnil | exact List.Sublist.refl _ | apply List.Sublist.cons_cons | apply List.Sublist.cons))) rfl (by kernel_rfl) (by kernel_rfl) (v_assign rfl) rfl ?_
              refine a_done (by kernel_rfl) ?_
              generalize upd svh k sv' = svh' at *
              generalize upd sh k sl' = sh' at *
              refine e_seq ?_
              refine e_seq ?_
              refine e_region ?_
              refine w_val (v_move rfl) rfl ?_
              refine w_val (v_move rfl) rfl ?_
              refine w_val (v_is (v' := .bool false) (v_neq rfl rfl) (by rw [decide_eq_false (fun h => h rfl)])) rfl ?_
              refine w_val (v_move rfl) rfl ?_
              refine w_want rfl rfl ?_
              refine w_val (v_move rfl) rfl ?_
              refine w_want rfl rfl ?_
              refine w_val (v_move rfl) rfl ?_
              refine w_want rfl rfl ?_
              refine w_val (v_is (v' := .bool false) (v_neq rfl rfl) (by rw [decide_eq_false (fun h => h rfl)])) rfl ?_
              refine w_val (v_pickF rfl rfl) rfl ?_
              refine w_nil ?_
              refine e_condF rfl ?_
              by_cases h5 : i % 5 = 0
              · refine e_skip ?_
                refine e_seq ?_
                refine e_region ?_
                refine w_val (v_move rfl) rfl ?_
                refine w_val (v_is (v' := .int .i64 ((i % 5 : Nat) : Int)) (v_rem rfl rfl (by decide)) (congrArg (Value.int .i64) (by rw [Int.tmod_eq_emod_of_nonneg (by omega)]; rfl))) rfl ?_
                refine w_val (v_is (v' := .bool true) (v_eql rfl rfl) (by rw [decide_eq_true (by omega)])) rfl ?_
                refine w_val (v_move rfl) rfl ?_
                refine w_want rfl rfl ?_
                refine w_val (v_move rfl) rfl ?_
                refine w_want rfl rfl ?_
                refine w_op rfl ?_
                refine x_call0 (v := .bool true) rfl rfl rfl Try.call40 rfl (fun w hw => does1_spec b13 b9 b5 b12 b7 pr pt pb ht hb A ka by_ r.length (runP P k).1 (runP P k).1 (runP P k).2 (runP P k).2 w (dz_v (y := ⟨pr, pt, ht, pw, dvw, wv⟩) hinv' hinv' hw) h8 (fun _ _ => rfl) (fun _ _ => ⟨rfl, rfl⟩) rfl rfl hinv'.short hinv'.short) ?_
                refine w_want rfl rfl ?_
                refine w_val (v_not rfl) rfl ?_
                refine w_val (v_pickT rfl rfl) rfl ?_
                refine w_nil ?_
                refine e_condF rfl ?_
                refine e_skip ?_
                refine e_blk ?_
                refine e_region ?_
                refine w_val (v_move rfl) rfl ?_
                refine w_val (v_add rfl rfl (by omega)) rfl ?_
                refine w_val (v_assign rfl) rfl ?_
                refine w_nil ?_
                exact e_round ((i + 1, (runP P k), svh', sh')) (⟨by dsimp only; omega, hinv', hok'⟩) (by dsimp only; omega) (by repeat (first | exact Sub.nil _ | refine Sub.cons rfl ?_)) (fun _ hw => hw)
              · refine e_skip ?_
                refine e_seq ?_
                refine e_region ?_
                refine w_val (v_move rfl) rfl ?_
                refine w_val (v_is (v' := .int .i64 ((i % 5 : Nat) : Int)) (v_rem rfl rfl (by decide)) (congrArg (Value.int .i64) (by rw [Int.tmod_eq_emod_of_nonneg (by omega)]; rfl))) rfl ?_
                refine w_val (v_is (v' := .bool false) (v_eql rfl rfl) (by rw [decide_eq_false (by omega)])) rfl ?_
                refine w_val (v_move rfl) rfl ?_
                refine w_skip rfl rfl rfl rfl ?_
                refine w_skip rfl rfl rfl rfl ?_
                refine w_skip rfl rfl rfl rfl ?_
                refine w_val (v_pickF rfl rfl) rfl ?_
                refine w_nil ?_
                refine e_condF rfl ?_
                refine e_skip ?_
                refine e_blk ?_
                refine e_region ?_
                refine w_val (v_move rfl) rfl ?_
                refine w_val (v_add rfl rfl (by omega)) rfl ?_
                refine w_val (v_assign rfl) rfl ?_
                refine w_nil ?_
                exact e_round ((i + 1, (runP P k), svh', sh')) (⟨by dsimp only; omega, hinv', hok'⟩) (by dsimp only; omega) (by repeat (first | exact Sub.nil _ | refine Sub.cons rfl ?_)) (fun _ hw => hw)
            · have hpn : pickR r.length P pi = ((0, -1), P) := by unfold pickR; rw [if_neg hin]
              by_cases hlo : 0 ≤ pi
              · refine e_skip ?_
                refine e_seq ?_
                refine e_block ?_
                refine e_seq ?_
                refine e_region ?_
                refine w_val (v_move rfl) rfl ?_
                refine w_val (v_move rfl) rfl ?_
                refine w_val (v_indexS Try.underlying51 Try.hi3 Try.cz3 rfl rfl (by first | omega | decide)) rfl ?_
                refine w_val (v_loadO Try.underlying3 rfl rfl (hcell)) rfl ?_
                refine w_val (v_assign rfl) rfl ?_
                refine w_nil ?_
                refine e_seq ?_
                refine e_region ?_
                refine w_val (v_loadB 6 rfl Try.underlying62 rfl rfl rfl) rfl ?_
                refine w_val (v_move rfl) rfl ?_
                refine w_op rfl ?_
                refine x_callM (dst := some 91) (rnH ⟨pr, pt, ht, pw, dvw, wv⟩ r.length P) (Hds r.length ph (fun i => vs.getD i nilS) svh P.1 sh :: (tbH pb 142 hb P.2 ++ [.blk b13 43 [(.slice Ah r.length kh)], Own (.slice Ah r.length kh) 79 1 r.length (ptrs r.length ph), .blk b12 41 [ptrV pb], .blk b9 62 [ptrV pr], .blk b5 38 [(.slice A r.length ka)], .blk b7 3 [.int .i64 by_]])) (σ := Unit) (fun _ => True) (fun _ => .tuple #[.int .i64 0, .int .i64 (-1)]) (fun _ => rnH ⟨pr, pt, ht, pw, dvw, wv⟩ r.length P) (List.perm_append_comm (l₁ := [_, _, _, _, _, _, _, _, _])) rfl rfl rfl Try.call32 (fun w hw => by have := rdPick_spec s r ⟨pr, pt, ht, pw, dvw, wv⟩ P pi w (res_part hw).1 (res_part hw).2 hinv; rwa [hpn] at this) rfl (fun _ _ => ?_); refine g_heap (m' := Hds r.length ph (fun i => vs.getD i nilS) svh P.1 sh :: (tbH pb 142 hb P.2 ++ ([.blk b13 43 [(.slice Ah r.length kh)], Own (.slice Ah r.length kh) 79 1 r.length (ptrs r.length ph), .blk b12 41 [ptrV pb], .blk b9 62 [ptrV pr], .blk b5 38 [(.slice A r.length ka)], .blk b7 3 [.int .i64 by_]] ++ rnH ⟨pr, pt, ht, pw, dvw, wv⟩ r.length P))) (fun _ hw => hw.pick [5, 6, 7, 8, 9, 10, 11, 12, 13, 0, 1, 2, 3, 4] (by decide)) ?_
                refine w_val (v_move rfl) rfl ?_
                refine w_val (v_extract rfl rfl) rfl ?_
                refine w_val (v_extract rfl rfl) rfl ?_
                refine w_val (v_assign rfl) rfl ?_
                refine w_val (v_assign rfl) rfl ?_
                refine w_nil ?_
                refine e_seq ?_
                refine e_region ?_
                refine w_val (v_assign rfl) rfl ?_
                refine w_val (v_assign rfl) rfl ?_
                refine w_nil ?_
                refine e_seq ?_
                refine e_seq ?_
                refine e_region ?_
                refine w_val (v_move rfl) rfl ?_
                refine w_val (v_is (v' := .bool true) (v_geq rfl rfl) (by rw [decide_eq_true (by omega)])) rfl ?_
                refine w_val (v_move rfl) rfl ?_
                refine w_want rfl rfl ?_
                refine w_val (v_move rfl) rfl ?_
                refine w_want rfl rfl ?_
                refine w_val (v_loadB 3 rfl Try.underlying43 rfl rfl rfl) rfl ?_
                refine w_want rfl rfl ?_
                refine w_val (v_lenS Try.underlying43 rfl) rfl ?_
                refine w_want rfl rfl ?_
                refine w_val (v_is (v' := .bool false) (v_lss rfl rfl) (by rw [decide_eq_false (by omega)])) rfl ?_
                refine w_val (v_pickT rfl rfl) rfl ?_
                refine w_nil ?_
                refine e_condF rfl ?_
                refine e_skip ?_
                refine e_seq ?_
                refine e_seq ?_
                refine e_region ?_
                refine w_val (v_move rfl) rfl ?_
                refine w_val (v_move rfl) rfl ?_
                refine w_val (v_is (v' := .bool false) (v_neq rfl rfl) (by rfl)) rfl ?_
                refine w_val (v_move rfl) rfl ?_
                refine w_want rfl rfl ?_
                refine w_val (v_move rfl) rfl ?_
                refine w_want rfl rfl ?_
                refine w_val (v_move rfl) rfl ?_
                refine w_want rfl rfl ?_
                refine w_val (v_is (v' := .bool false) (v_neq rfl rfl) (by rfl)) rfl ?_
                refine w_val (v_pickF rfl rfl) rfl ?_
                refine w_nil ?_
                refine e_condF rfl ?_
                by_cases h5 : i % 5 = 0
                · refine e_skip ?_
                  refine e_seq ?_
                  refine e_region ?_
                  refine w_val (v_move rfl) rfl ?_
                  refine w_val (v_is (v' := .int .i64 ((i % 5 : Nat) : Int)) (v_rem rfl rfl (by decide)) (congrArg (Value.int .i64) (by rw [Int.tmod_eq_emod_of_nonneg (by omega)]; rfl))) rfl ?_
                  refine w_val (v_is (v' := .bool true) (v_eql rfl rfl) (by rw [decide_eq_true (by omega)])) rfl ?_
                  refine w_val (v_move rfl) rfl ?_
                  refine w_want rfl rfl ?_
                  refine w_val (v_move rfl) rfl ?_
                  refine w_want rfl rfl ?_
                  refine w_op rfl ?_
                  refine x_call0 (v := .bool true) rfl rfl rfl Try.call40 rfl (fun w hw => does1_spec b13 b9 b5 b12 b7 pr pt pb ht hb A ka by_ r.length P.1 P.1 P.2 P.2 w (dz_v (y := ⟨pr, pt, ht, pw, dvw, wv⟩) hinv hinv hw) h8 (fun _ _ => rfl) (fun _ _ => ⟨rfl, rfl⟩) rfl rfl hinv.short hinv.short) ?_
                  refine w_want rfl rfl ?_
                  refine w_val (v_not rfl) rfl ?_
                  refine w_val (v_pickT rfl rfl) rfl ?_
                  refine w_nil ?_
                  refine e_condF rfl ?_
                  refine e_skip ?_
                  refine e_blk ?_
                  refine e_region ?_
                  refine w_val (v_move rfl) rfl ?_
                  refine w_val (v_add rfl rfl (by omega)) rfl ?_
                  refine w_val (v_assign rfl) rfl ?_
                  refine w_nil ?_
                  exact e_round ((i + 1, P, svh, sh)) (⟨by dsimp only; omega, hinv, hok⟩) (by dsimp only; omega) (by repeat (first | exact Sub.nil _ | refine Sub.cons rfl ?_)) (fun _ hw => hw)
                · refine e_skip ?_
                  refine e_seq ?_
                  refine e_region ?_
                  refine w_val (v_move rfl) rfl ?_
                  refine w_val (v_is (v' := .int .i64 ((i % 5 : Nat) : Int)) (v_rem rfl rfl (by decide)) (congrArg (Value.int .i64) (by rw [Int.tmod_eq_emod_of_nonneg (by omega)]; rfl))) rfl ?_
                  refine w_val (v_is (v' := .bool false) (v_eql rfl rfl) (by rw [decide_eq_false (by omega)])) rfl ?_
                  refine w_val (v_move rfl) rfl ?_
                  refine w_skip rfl rfl rfl rfl ?_
                  refine w_skip rfl rfl rfl rfl ?_
                  refine w_skip rfl rfl rfl rfl ?_
                  refine w_val (v_pickF rfl rfl) rfl ?_
                  refine w_nil ?_
                  refine e_condF rfl ?_
                  refine e_skip ?_
                  refine e_blk ?_
                  refine e_region ?_
                  refine w_val (v_move rfl) rfl ?_
                  refine w_val (v_add rfl rfl (by omega)) rfl ?_
                  refine w_val (v_assign rfl) rfl ?_
                  refine w_nil ?_
                  exact e_round ((i + 1, P, svh, sh)) (⟨by dsimp only; omega, hinv, hok⟩) (by dsimp only; omega) (by repeat (first | exact Sub.nil _ | refine Sub.cons rfl ?_)) (fun _ hw => hw)
              · refine e_skip ?_
                refine e_seq ?_
                refine e_block ?_
                refine e_seq ?_
                refine e_region ?_
                refine w_val (v_move rfl) rfl ?_
                refine w_val (v_move rfl) rfl ?_
                refine w_val (v_indexS Try.underlying51 Try.hi3 Try.cz3 rfl rfl (by first | omega | decide)) rfl ?_
                refine w_val (v_loadO Try.underlying3 rfl rfl (hcell)) rfl ?_
                refine w_val (v_assign rfl) rfl ?_
                refine w_nil ?_
                refine e_seq ?_
                refine e_region ?_
                refine w_val (v_loadB 6 rfl Try.underlying62 rfl rfl rfl) rfl ?_
                refine w_val (v_move rfl) rfl ?_
                refine w_op rfl ?_
                refine x_callM (dst := some 91) (rnH ⟨pr, pt, ht, pw, dvw, wv⟩ r.length P) (Hds r.length ph (fun i => vs.getD i nilS) svh P.1 sh :: (tbH pb 142 hb P.2 ++ [.blk b13 43 [(.slice Ah r.length kh)], Own (.slice Ah r.length kh) 79 1 r.length (ptrs r.length ph), .blk b12 41 [ptrV pb], .blk b9 62 [ptrV pr], .blk b5 38 [(.slice A r.length ka)], .blk b7 3 [.int .i64 by_]])) (σ := Unit) (fun _ => True) (fun _ => .tuple #[.int .i64 0, .int .i64 (-1)]) (fun _ => rnH ⟨pr, pt, ht, pw, dvw, wv⟩ r.length P) (List.perm_append_comm (l₁ := [_, _, _, _, _, _, _, _, _])) rfl rfl rfl Try.call32 (fun w hw => by have := rdPick_spec s r ⟨pr, pt, ht, pw, dvw, wv⟩ P pi w (res_part hw).1 (res_part hw).2 hinv; rwa [hpn] at this) rfl (fun _ _ => ?_); refine g_heap (m' := Hds r.length ph (fun i => vs.getD i nilS) svh P.1 sh :: (tbH pb 142 hb P.2 ++ ([.blk b13 43 [(.slice Ah r.length kh)], Own (.slice Ah r.length kh) 79 1 r.length (ptrs r.length ph), .blk b12 41 [ptrV pb], .blk b9 62 [ptrV pr], .blk b5 38 [(.slice A r.length ka)], .blk b7 3 [.int .i64 by_]] ++ rnH ⟨pr, pt, ht, pw, dvw, wv⟩ r.length P))) (fun _ hw => hw.pick [5, 6, 7, 8, 9, 10, 11, 12, 13, 0, 1, 2, 3, 4] (by decide)) ?_
                refine w_val (v_move rfl) rfl ?_
                refine w_val (v_extract rfl rfl) rfl ?_
                refine w_val (v_extract rfl rfl) rfl ?_
                refine w_val (v_assign rfl) rfl ?_
                refine w_val (v_assign rfl) rfl ?_
                refine w_nil ?_
                refine e_seq ?_
                refine e_region ?_
                refine w_val (v_assign rfl) rfl ?_
                refine w_val (v_assign rfl) rfl ?_
                refine w_nil ?_
                refine e_seq ?_
                refine e_seq ?_
                refine e_region ?_
                refine w_val (v_move rfl) rfl ?_
                refine w_val (v_is (v' := .bool false) (v_geq rfl rfl) (by rw [decide_eq_false (by omega)])) rfl ?_
                refine w_val (v_move rfl) rfl ?_
                refine w_skip rfl rfl rfl rfl ?_
                refine w_skip rfl rfl rfl rfl ?_
                refine w_skip rfl rfl rfl rfl ?_
                refine w_skip rfl rfl rfl rfl ?_
                refine w_val (v_pickF rfl rfl) rfl ?_
                refine w_nil ?_
                refine e_condF rfl ?_
                refine e_skip ?_
                refine e_seq ?_
                refine e_seq ?_
                refine e_region ?_
                refine w_val (v_move rfl) rfl ?_
                refine w_val (v_move rfl) rfl ?_
                refine w_val (v_is (v' := .bool false) (v_neq rfl rfl) (by rfl)) rfl ?_
                refine w_val (v_move rfl) rfl ?_
                refine w_want rfl rfl ?_
                refine w_val (v_move rfl) rfl ?_
                refine w_want rfl rfl ?_
                refine w_val (v_move rfl) rfl ?_
                refine w_want rfl rfl ?_
                refine w_val (v_is (v' := .bool false) (v_neq rfl rfl) (by rfl)) rfl ?_
                refine w_val (v_pickF rfl rfl) rfl ?_
                refine w_nil ?_
                refine e_condF rfl ?_
                by_cases h5 : i % 5 = 0
                · refine e_skip ?_
                  refine e_seq ?_
                  refine e_region ?_
                  refine w_val (v_move rfl) rfl ?_
                  refine w_val (v_is (v' := .int .i64 ((i % 5 : Nat) : Int)) (v_rem rfl rfl (by decide)) (congrArg (Value.int .i64) (by rw [Int.tmod_eq_emod_of_nonneg (by omega)]; rfl))) rfl ?_
                  refine w_val (v_is (v' := .bool true) (v_eql rfl rfl) (by rw [decide_eq_true (by omega)])) rfl ?_
                  refine w_val (v_move rfl) rfl ?_
                  refine w_want rfl rfl ?_
                  refine w_val (v_move rfl) rfl ?_
                  refine w_want rfl rfl ?_
                  refine w_op rfl ?_
                  refine x_call0 (v := .bool true) rfl rfl rfl Try.call40 rfl (fun w hw => does1_spec b13 b9 b5 b12 b7 pr pt pb ht hb A ka by_ r.length P.1 P.1 P.2 P.2 w (dz_v (y := ⟨pr, pt, ht, pw, dvw, wv⟩) hinv hinv hw) h8 (fun _ _ => rfl) (fun _ _ => ⟨rfl, rfl⟩) rfl rfl hinv.short hinv.short) ?_
                  refine w_want rfl rfl ?_
                  refine w_val (v_not rfl) rfl ?_
                  refine w_val (v_pickT rfl rfl) rfl ?_
                  refine w_nil ?_
                  refine e_condF rfl ?_
                  refine e_skip ?_
                  refine e_blk ?_
                  refine e_region ?_
                  refine w_val (v_move rfl) rfl ?_
                  refine w_val (v_add rfl rfl (by omega)) rfl ?_
                  refine w_val (v_assign rfl) rfl ?_
                  refine w_nil ?_
                  exact e_round ((i + 1, P, svh, sh)) (⟨by dsimp only; omega, hinv, hok⟩) (by dsimp only; omega) (by repeat (first | exact Sub.nil _ | refine Sub.cons rfl ?_)) (fun _ hw => hw)
                · refine e_skip ?_
                  refine e_seq ?_
                  refine e_region ?_
                  refine w_val (v_move rfl) rfl ?_
                  refine w_val (v_is (v' := .int .i64 ((i % 5 : Nat) : Int)) (v_rem rfl rfl (by decide)) (congrArg (Value.int .i64) (by rw [Int.tmod_eq_emod_of_nonneg (by omega)]; rfl))) rfl ?_
                  refine w_val (v_is (v' := .bool false) (v_eql rfl rfl) (by rw [decide_eq_false (by omega)])) rfl ?_
                  refine w_val (v_move rfl) rfl ?_
                  refine w_skip rfl rfl rfl rfl ?_
                  refine w_skip rfl rfl rfl rfl ?_
                  refine w_skip rfl rfl rfl rfl ?_
                  refine w_val (v_pickF rfl rfl) rfl ?_
                  refine w_nil ?_
                  refine e_condF rfl ?_
                  refine e_skip ?_
                  refine e_blk ?_
                  refine e_region ?_
                  refine w_val (v_move rfl) rfl ?_
                  refine w_val (v_add rfl rfl (by omega)) rfl ?_
                  refine w_val (v_assign rfl) rfl ?_
                  refine w_nil ?_
                  exact e_round ((i + 1, P, svh, sh)) (⟨by dsimp only; omega, hinv, hok⟩) (by dsimp only; omega) (by repeat (first | exact Sub.nil _ | refine Sub.cons rfl ?_)) (fun _ hw => hw)
          · refine e_exit rfl ?_
            refine e_seq ?_
            refine e_seq ?_
            refine e_region ?_
            refine w_val (v_move rfl) rfl ?_
            refine w_op rfl ?_
            refine x_call0 (v := .bool true) rfl rfl rfl Try.call40 rfl (fun w hw => does1_spec b13 b9 b5 b12 b7 pr pt pb ht hb A ka by_ r.length P.1 P.1 P.2 P.2 w (dz_v (y := ⟨pr, pt, ht, pw, dvw, wv⟩) hinv hinv hw) h8 (fun _ _ => rfl) (fun _ _ => ⟨rfl, rfl⟩) rfl rfl hinv.short hinv.short) ?_
            refine w_val (v_not rfl) rfl ?_
            refine w_nil ?_
            refine e_condF rfl ?_
            refine e_skip ?_
            refine e_seq ?_
            refine e_region ?_
            refine w_val (v_loadB 6 rfl Try.underlying62 rfl rfl rfl) rfl ?_
            refine w_op rfl ?_
            refine x_callM (dst := some 131) (rnH ⟨pr, pt, ht, pw, dvw, wv⟩ r.length P) (Hds r.length ph (fun i => vs.getD i nilS) svh P.1 sh :: (tbH pb 142 hb P.2 ++ [.blk b13 43 [(.slice Ah r.length kh)], Own (.slice Ah r.length kh) 79 1 r.length (ptrs r.length ph), .blk b12 41 [ptrV pb], .blk b9 62 [ptrV pr], .blk b5 38 [(.slice A r.length ka)], .blk b7 3 [.int .i64 by_]])) (σ := RunS) (fun P' => InvR s r P'.1 P'.2 ∧ AllO r.length P'.1) (fun _ => .tuple #[]) (fun P' => rnH ⟨pr, pt, ht, pw, dvw, wv⟩ r.length P') (List.perm_append_comm (l₁ := [_, _, _, _, _, _, _, _, _])) rfl rfl rfl Try.call35 (fun w hw => rdFinish_spec s r ⟨pr, pt, ht, pw, dvw, wv⟩ P w (res_part hw).1 (res_part hw).2 hinv) rfl (fun P' hP' => ?_); refine g_heap (m' := dzH ⟨pr, pt, ht, pw, dvw, wv⟩ pb b13 b12 b9 b7 b5 hb ph (fun i => vs.getD i nilS) svh (.slice Ah r.length kh) (.slice A r.length ka) by_ r.length r.length P' P sh) (fun _ hw => hw.pick [5, 6, 7, 8, 9, 10, 11, 12, 13, 0, 1, 2, 3, 4] (by decide)) ?_; obtain ⟨hinvF, hoF⟩ := hP'
            refine w_nil ?_
            refine e_seq ?_
            refine e_seq ?_
            refine e_region ?_
            refine w_val (v_assign rfl) rfl ?_
            refine w_nil ?_
            refine e_block ?_
            refine e_loopH (σ := Nat × RunS × (Nat → Value) × (Nat → DeedL)) [9, 12, 13, 15] (.cons rfl (.cons rfl (.cons rfl (.cons rfl .nil)))) (fun x => [(22, .int .i64 (x.1 : Int))]) (fun x => dzH ⟨pr, pt, ht, pw, dvw, wv⟩ pb b13 b12 b9 b7 b5 hb ph (fun i => vs.getD i nilS) x.2.2.1 (.slice Ah r.length kh) (.slice A r.length ka) by_ r.length r.length P' x.2.1 x.2.2.2) (fun x => x.1 ≤ r.length ∧ InvR s r x.2.1.1 x.2.1.2 ∧ HdsOk x.2.1.1 x.2.2.2 ∧ ∀ j, j < x.1 → (x.2.1.1 j).ov = true) (fun x => r.length - x.1) (0, P, svh, sh) ⟨Nat.zero_le _, hinv, hok, fun j hj => by omega⟩ (by repeat (first | exact Sub.nil _ | refine Sub.cons rfl ?_)) (fun _ hw => hw) ?_
            rintro ⟨i2, P2, svh2, sh2⟩ ⟨hi2, hinv2, hok2, hlo2⟩
            dsimp only at hi2 hinv2 hok2 hlo2 ⊢
            refine e_seq ?_
            refine e_seq ?_
            refine e_region ?_
            refine w_val (v_move rfl) rfl ?_
            refine w_val (v_loadB 3 rfl Try.underlying43 rfl rfl rfl) rfl ?_
            refine w_val (v_lenS Try.underlying43 rfl) rfl ?_
            refine w_val (v_lss rfl rfl) rfl ?_
            refine w_nil ?_
            refine e_condD rfl (fun hlt2 => ?_) (fun hlt2 => ?_)
            · have hk : i2 < r.length := by omega
              obtain ⟨adh, rfl⟩ := hAh (by omega)
              obtain ⟨u, hu, hud⟩ := hds i2 hk
              have hmu2 : muW (P2.1 i2) + 0 ≤ 15 := by
                have h1 := mu_most (P2.1 i2)
                have h2 := (checked (hinv2.ck i2)).1
                omega
              refine e_skip ?_
              refine e_seq ?_
              refine e_block ?_
              refine e_seq ?_
              refine e_region ?_
              refine w_val (v_assign rfl) rfl ?_
              refine w_nil ?_
              refine e_block ?_
              refine e_loopH (σ := Nat × RunS × (Nat → Value) × (Nat → DeedL)) [9, 12, 13, 15, 22] (.cons rfl (.cons rfl (.cons rfl (.cons rfl (.cons rfl .nil))))) (fun x => [(23, .int .i64 (x.1 : Int))]) (fun x => dzH ⟨pr, pt, ht, pw, dvw, wv⟩ pb b13 b12 b9 b7 b5 hb ph (fun i => vs.getD i nilS) x.2.2.1 (.slice (some adh) r.length kh) (.slice A r.length ka) by_ r.length r.length P' x.2.1 x.2.2.2) (fun x => InvR s r x.2.1.1 x.2.1.2 ∧ HdsOk x.2.1.1 x.2.2.2 ∧ (∀ j, j < i2 → (x.2.1.1 j).ov = true) ∧ muW (x.2.1.1 i2) + x.1 ≤ 15) (fun x => muW (x.2.1.1 i2)) (0, P2, svh2, sh2) ⟨hinv2, hok2, hlo2, hmu2⟩ (by repeat (first | exact Sub.nil _ | refine Sub.cons rfl ?_)) (fun _ hw => hw) ?_
              rintro ⟨n, P3, svh3, sh3⟩ ⟨hinv3, hok3, hlo3, hmu3⟩
              dsimp only at hinv3 hok3 hlo3 hmu3 ⊢
              cases ho : (P3.1 i2).ov with
              | true =>
                have hlo4 : ∀ j, j < i2 + 1 → (P3.1 j).ov = true := fun j hj => by
                  by_cases e : j = i2
                  · subst e; exact ho
                  · exact hlo3 j (by omega)
                refine e_seq ?_
                refine e_seq ?_
                refine e_region ?_
                refine w_val (v_move rfl) rfl ?_
                refine w_val (v_is (v' := .bool true) (v_lss rfl rfl) (by rw [decide_eq_true (by omega)])) rfl ?_
                refine w_val (v_move rfl) rfl ?_
                refine w_want rfl rfl ?_
                refine w_val (v_loadB 3 rfl Try.underlying43 rfl rfl rfl) rfl ?_
                refine w_want rfl rfl ?_
                refine w_val (v_move rfl) rfl ?_
                refine w_want rfl rfl ?_
                refine w_val (v_indexS Try.underlying43 Try.hi79 Try.cz79 rfl rfl (by first | omega | decide)) rfl ?_
                refine w_want rfl rfl ?_
                refine w_val (v_loadW 4 rfl (by omega) (ptr_at hk) Try.underlying79 rfl rfl) rfl ?_
                refine w_want rfl rfl ?_
                refine w_val (v_nilCheck rfl) rfl ?_
                refine w_want rfl rfl ?_
                refine w_val (v_fieldAddrB (o := 8) Try.underlying81 rfl rfl Try.nz4 rfl) rfl ?_
                refine w_want rfl rfl ?_
                refine w_val (v_load1 (v := .bool true) Try.underlying4 rfl rfl (fun w hw => by have := (hd_v2 hinv3 hw List.mem_cons_self hk).ov; rwa [ho] at this)) rfl ?_
                refine w_want rfl rfl ?_
                refine w_val (v_not rfl) rfl ?_
                refine w_val (v_pickT rfl rfl) rfl ?_
                refine w_nil ?_
                refine e_condF rfl ?_
                refine e_exit rfl ?_
                refine e_blk ?_
                refine e_region ?_
                refine w_val (v_move rfl) rfl ?_
                refine w_val (v_add rfl rfl (by omega)) rfl ?_
                refine w_val (v_assign rfl) rfl ?_
                refine w_nil ?_
                exact e_round ((i2 + 1, P3, svh3, sh3)) (⟨by dsimp only; omega, hinv3, hok3, hlo4⟩) (by dsimp only; omega) (by repeat (first | exact Sub.nil _ | refine Sub.cons rfl ?_)) (fun _ hw => hw)
              | false =>
                have hg3 := hinv3.goes hk hlo3 ho
                have hinv4 := hinv3.run hk
                have hdv : IsDeed (off w (feet [])) (vs.getD i2 nilS) (P3.1 i2).d := by
                  have e1 : vs.getD i2 nilS = u := by simp [List.getD, hu]
                  have e2 : (P3.1 i2).d = r[i2] := by rw [(hinv3.w i2).d]; simp [List.getD, hk]
                  rw [e1, e2]; exact hud
                have hlo4 : ∀ j, j < i2 → ((runP P3 i2).1 j).ov = true := fun j hj => by
                  dsimp only [runP]
                  rw [upd_other (by omega)]
                  exact hlo3 j hj
                have hmu4 : muW ((runP P3 i2).1 i2) < muW (P3.1 i2) := by
                  dsimp only [runP]
                  rw [upd_same]
                  exact hg3.2
                refine e_seq ?_
                refine e_seq ?_
                refine e_region ?_
                refine w_val (v_move rfl) rfl ?_
                refine w_val (v_is (v' := .bool true) (v_lss rfl rfl) (by rw [decide_eq_true (by omega)])) rfl ?_
                refine w_val (v_move rfl) rfl ?_
                refine w_want rfl rfl ?_
                refine w_val (v_loadB 3 rfl Try.underlying43 rfl rfl rfl) rfl ?_
                refine w_want rfl rfl ?_
                refine w_val (v_move rfl) rfl ?_
                refine w_want rfl rfl ?_
                refine w_val (v_indexS Try.underlying43 Try.hi79 Try.cz79 rfl rfl (by first | omega | decide)) rfl ?_
                refine w_want rfl rfl ?_
                refine w_val (v_loadW 4 rfl (by omega) (ptr_at hk) Try.underlying79 rfl rfl) rfl ?_
                refine w_want rfl rfl ?_
                refine w_val (v_nilCheck rfl) rfl ?_
                refine w_want rfl rfl ?_
                refine w_val (v_fieldAddrB (o := 8) Try.underlying81 rfl rfl Try.nz4 rfl) rfl ?_
                refine w_want rfl rfl ?_
                refine w_val (v_load1 (v := .bool false) Try.underlying4 rfl rfl (fun w hw => by have := (hd_v2 hinv3 hw List.mem_cons_self hk).ov; rwa [ho] at this)) rfl ?_
                refine w_want rfl rfl ?_
                refine w_val (v_not rfl) rfl ?_
                refine w_val (v_pickT rfl rfl) rfl ?_
                refine w_nil ?_
                refine e_condT rfl ?_
                refine e_skip ?_
                refine e_seq ?_
                refine e_block ?_
                refine e_draw ([.blk b13 43 [.slice (some adh) r.length kh], Own (.slice (some adh) r.length kh) 79 1 r.length (ptrs r.length ph), .blk b12 41 [ptrV pb]]) Try.mixed ?_
                refine a_take 0 pan_cx (by kernel_rfl) (fun _ hw => hw.sub (by repeat (first | exact List.Sublist.slnil | exact List.Sublist.refl _ | apply List.Sublist.cons_cons | apply List.Sublist.cons))) rfl (by kernel_rfl) (by kernel_rfl) (v_loadB 0 rfl Try.underlying43 rfl rfl rfl) rfl ?_
                refine a_take 1 pan_cx (by kernel_rfl) (fun _ hw => hw.sub (by repeat (first | exact List.Sublist.slnil | exact List.Sublist.refl _ | apply List.Sublist.cons_cons | apply List.Sublist.cons))) rfl (by kernel_rfl) (by kernel_rfl) (v_move rfl) rfl ?_
                refine a_take 2 pan_cx (by kernel_rfl) (fun _ hw => hw.sub (by repeat (first | exact List.Sublist.slnil | exact List.Sublist.refl _ | apply List.Sublist.cons_cons | apply List.Sublist.cons))) rfl (by kernel_rfl) (by kernel_rfl) (v_indexS Try.underlying43 Try.hi79 Try.cz79 rfl rfl (by first | omega | decide)) rfl ?_
                refine a_take 3 pan_cx (by kernel_rfl) (fun _ hw => hw.sub (by repeat (first | exact List.Sublist.slnil | exact List.Sublist.refl _ | apply List.Sublist.cons_cons | apply List.Sublist.cons))) rfl (by kernel_rfl) (by kernel_rfl) (v_loadW 1 rfl (by omega) (ptr_at hk) Try.underlying79 rfl rfl) rfl ?_
                refine a_take 4 pan_cx (by kernel_rfl) (fun _ hw => hw.sub (by repeat (first | exact List.Sublist.slnil | exact List.Sublist.refl _ | apply List.Sublist.cons_cons | apply List.Sublist.cons))) rfl (by kernel_rfl) (by kernel_rfl) (v_loadB 2 rfl Try.underlying41 rfl rfl rfl) rfl ?_
                refine a_one 5 (by kernel_rfl) rfl rfl ?_
                refine x_hdStep (mr := [.blk b13 43 [(.slice (some adh) r.length kh)], Own (.slice (some adh) r.length kh) 79 1 r.length (ptrs r.length ph), .blk b12 41 [ptrV pb], .blk b9 62 [ptrV pr], .blk b5 38 [(.slice A r.length ka)], .blk b7 3 [.int .i64 by_]] ++ rnH ⟨pr, pt, ht, pw, dvw, wv⟩ r.length P') hinv3 hok3 hk (fun _ hw => hw) hdv rfl rfl rfl (fun sv' sl' hok' => ?_)
                refine a_and (fun _ hw => hw.sub (by repeat (first | exact List.Sublist.slnil | exact List.Sublist.refl _ | apply List.Sublist.cons_cons | apply List.Sublist.cons))) ?_
                refine a_done (by kernel_rfl) ?_
                refine e_blk ?_
                refine e_region ?_
                refine w_val (v_move rfl) rfl ?_
                refine w_val (v_add rfl rfl (by omega)) rfl ?_
                refine w_val (v_assign rfl) rfl ?_
                refine w_nil ?_
                exact e_round ((n + 1, runP P3 i2, upd svh3 i2 sv', upd sh3 i2 sl')) (⟨hinv4, hok', hlo4, by dsimp only; omega⟩) (hmu4) (by repeat (first | exact Sub.nil _ | refine Sub.cons rfl ?_)) (fun _ hw => hw)
            · have e : i2 = r.length := by omega
              subst e
              have ho2 : AllO r.length P2.1 := hlo2
              obtain ⟨hstF, hovF⟩ := hinvF.state hoF
              obtain ⟨hst2, hov2⟩ := hinv2.state ho2
              have hnil : leftX r.length P'.1 = [] := left_none.2 hoF
              have hovE : ∀ i, i < r.length → (P'.1 i).ov = (P2.1 i).ov := fun i hi => by rw [hoF i hi, ho2 i hi]
              have hrsE : ∀ i, i < r.length → (P'.1 i).rc = (P2.1 i).rc ∧ (P'.1 i).rg = (P2.1 i).rg := fun i hi => by
                have h1 := hinvF.res (hoF i hi)
                have h2 := hinv2.res (ho2 i hi)
                rw [← h2] at h1
                exact ⟨congrArg Prod.fst h1, congrArg Prod.snd h1⟩
              have hstE : stateT P2.2 = stateT P'.2 := by rw [hstF, hst2]
              have hovtE : overT P2.2 = overT P'.2 := by rw [hovF, hov2]
              refine e_exit rfl ?_
              refine e_seq ?_
              refine e_region ?_
              refine w_val (v_move rfl) rfl ?_
              refine w_op rfl ?_
              refine x_call0 (v := .bool true) rfl rfl rfl Try.call40 rfl (fun w hw => does1_spec b13 b9 b5 b12 b7 pr pt pb ht hb A ka by_ r.length P'.1 P2.1 P'.2 P2.2 w (dz_v (y := ⟨pr, pt, ht, pw, dvw, wv⟩) hinvF hinv2 hw) h8 hovE hrsE hstE hovtE hinvF.short hinv2.short) ?_
              refine w_val (v_move rfl) rfl ?_
              refine w_want rfl rfl ?_
              refine w_val (v_loadB 6 rfl Try.underlying62 rfl rfl rfl) rfl ?_
              refine w_want rfl rfl ?_
              refine w_op rfl ?_
              refine x_call (dst := some 162) (mc := []) (σ := Value) (fun _ => True) (fun sl => sl) (fun sl => [Own sl 3 1 0 []]) rfl rfl rfl Try.call43 (fun w hw => by have := rdLeft_spec pr r.length P'.1 w (rnH_v (y := ⟨pr, pt, ht, pw, dvw, wv⟩) hinvF hw (by simp) (by simp) (by simp)) (by omega); rw [hnil] at this; exact this) rfl (fun sl _ => ?_); refine g_shape2 0 rfl fun A9 k9 hv9 _ _ => ?_; subst hv9
              refine w_want rfl rfl ?_
              refine w_val (v_lenS Try.underlying51 rfl) rfl ?_
              refine w_want rfl rfl ?_
              refine w_val (v_is (v' := .bool true) (v_eql rfl rfl) (by rfl)) rfl ?_
              refine w_val (v_pickT rfl rfl) rfl ?_
              refine w_val (v_assign rfl) rfl ?_
              refine w_nil ?_
              refine e_retQ (q_ret1 rfl (.tmp rfl) ?_)
              exact fun w' hw' => ⟨rfl, hw'.res.nil⟩
      · refine e_skip ?_
        refine e_seq ?_
        refine e_seq ?_
        refine e_region ?_
        refine w_val (v_loadB 1 rfl Try.underlying38 rfl rfl rfl) rfl ?_
        refine w_op rfl ?_
        refine x_call0 (v := .bool false) rfl rfl rfl Try.call24 rfl (fun w hw => by have := great_spec _ r w (hsr.mono hw.off) hb_; rwa [hg] at this) ?_
        refine w_val (v_move rfl) rfl ?_
        refine w_want rfl rfl ?_
        refine w_val (v_move rfl) rfl ?_
        refine w_want rfl rfl ?_
        refine w_val (v_lenS Try.underlying51 rfl) rfl ?_
        refine w_want rfl rfl ?_
        refine w_val (v_is (v' := .bool false) (v_gtr rfl rfl) (by rw [decide_eq_false (by omega)])) rfl ?_
        refine w_val (v_pickF rfl rfl) rfl ?_
        refine w_nil ?_
        refine e_condF rfl ?_
        refine e_skip ?_
        refine e_seq ?_
        refine e_region ?_
        refine w_val (v_loadBA 2 rfl Try.underlying23 rfl Try.hi23 (Try.cz23.trans hlz.symm) rfl) rfl ?_
        refine w_val (v_loadB 1 rfl Try.underlying38 rfl rfl rfl) rfl ?_
        refine w_op rfl ?_
        refine x_call0 (v := .tuple #[.pointer none, .int .i64 (roundFaultL r)]) rfl rfl rfl Try.call31 rfl (fun w hw => rdNew_bad s _ r w (hsr.mono hw.off) hs10 hf) ?_
        refine w_val (v_move rfl) rfl ?_
        refine w_val (v_extract rfl rfl) rfl ?_
        refine w_val (v_extract rfl rfl) rfl ?_
        refine w_op rfl ?_
        refine x_alloc (z := .pointer none) (by intro w; exact Try.zeroValue62 w) rfl (fun b9 => ?_)
        refine w_op rfl ?_
        refine x_store1 0 rfl rfl rfl Try.hi62 Try.cz62 rfl (by first | (simp; done) | (simp [intCells_len]; omega) | exact Nat.zero_lt_succ _) rfl ?_
        refine w_val (v_assign rfl) rfl ?_
        refine w_nil ?_
        refine e_seq ?_
        refine e_seq ?_
        refine e_region ?_
        refine w_val (v_loadB 2 rfl Try.underlying38 rfl rfl rfl) rfl ?_
        refine w_op rfl ?_
        refine x_call0 (v := .int .i64 (roundFaultL r)) rfl rfl rfl Try.call25 rfl (fun w hw => RoundFault_spec _ r w (hsr.mono hw.off)) ?_
        refine w_val (v_assign rfl) rfl ?_
        refine w_nil ?_
        refine e_seq ?_
        refine e_region ?_
        refine w_val (v_move rfl) rfl ?_
        refine w_val (v_is (v' := .bool true) (v_neq rfl rfl) (by rw [decide_eq_true hf])) rfl ?_
        refine w_val (v_move rfl) rfl ?_
        refine w_skip rfl rfl rfl rfl ?_
        refine w_skip rfl rfl rfl rfl ?_
        refine w_val (v_pickT rfl rfl) rfl ?_
        refine w_nil ?_
        refine e_condT rfl ?_
        refine e_seq ?_
        refine e_region ?_
        refine w_val (v_move rfl) rfl ?_
        refine w_val (v_move rfl) rfl ?_
        refine w_val (v_is (v' := .bool true) (v_eql rfl rfl) (by rw [decide_eq_true rfl])) rfl ?_
        refine w_val (v_move rfl) rfl ?_
        refine w_want rfl rfl ?_
        refine w_val (v_loadB 0 rfl Try.underlying62 rfl rfl rfl) rfl ?_
        refine w_want rfl rfl ?_
        refine w_val (v_is (v' := .bool true) (v_eqlPtr Try.underlying62 rfl rfl) (by rfl)) rfl ?_
        refine w_val (v_pickT rfl rfl) rfl ?_
        refine w_val (v_move rfl) rfl ?_
        refine w_want rfl rfl ?_
        refine w_val (v_move rfl) rfl ?_
        refine w_want rfl rfl ?_
        refine w_val (v_is (v' := .bool true) (v_neq rfl rfl) (by rw [decide_eq_true hf])) rfl ?_
        refine w_val (v_pickT rfl rfl) rfl ?_
        refine w_val (v_assign rfl) rfl ?_
        refine w_nil ?_
        refine e_retQ (q_ret1 rfl (.tmp rfl) ?_)
        exact fun w' hw' => ⟨rfl, hw'.res.nil⟩
end Go.SL

