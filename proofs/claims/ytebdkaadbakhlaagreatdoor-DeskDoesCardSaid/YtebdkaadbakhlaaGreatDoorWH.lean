/- YtebdkaadbakhlaaGreatDoor: part WH of this seat's own texts. -/
import Derived.Test.YtebdkaadbakhlaaGreatDoorWG
import Derived.Test.YtebdkaadbakhlaaGreatDoorP5
set_option linter.unusedVariables false
set_option linter.unusedSimpArgs false
section
open Go Go.Proofs Go.SL
set_option maxRecDepth 100000
namespace Go.SL
def slot0 (s : List Int) (k : Nat) : SlotL := ⟨-1, false, false, s.getD k 0⟩
def slotI (i : Nat) : SlotL := ⟨i, true, false, 0⟩
theorem rowsAt_len (r : RoundL) (k : Nat) : ∀ m, (rowsAt r k m).length ≤ m
 | 0 => Nat.le_refl _
 | m + 1 => by
  have := rowsAt_len r k m
  simp only [rowsAt, List.length_append]
  split <;> simp <;> omega
def laidT (s : List Int) (k : Nat) : TabL := fun j => if j < k then [slot0 s j] else []
def fillT (s : List Int) (r : RoundL) (i : Nat) (K : List Int) : TabL := fun k => slot0 s k :: rowsAt r k i ++ (if (k : Int) ∈ K then [slotI i] else [])
theorem laidT_step {s : List Int} {k : Nat} : upd (laidT s k) k [slot0 s k] = laidT s (k + 1) := by
 funext j
 unfold upd laidT
 by_cases h : j = k
 ·subst h; simp
 ·rw [if_neg h]
  by_cases h2 : j < k
  ·rw [if_pos h2, if_pos (by omega)]
  ·rw [if_neg h2, if_neg (by omega)]
theorem fillT_step {s : List Int} {r : RoundL} {i k : Nat} {K : List Int} (h : (k : Int) ∉ K) : upd (fillT s r i K) k (fillT s r i K k ++ [slotI i]) = fillT s r i (K ++ [(k : Int)]) := by
 funext j
 unfold upd
 by_cases hj : j = k
 ·subst hj
  rw [if_pos rfl]
  unfold fillT
  rw [if_neg h, if_pos (by simp)]
  simp
 ·rw [if_neg hj]
  unfold fillT
  have : ((j : Int) ∈ K ++ [(k : Int)]) ↔ (j : Int) ∈ K := by
   rw [List.mem_append, List.mem_singleton]
   constructor
   ·rintro (h | h)
    ·exact h
    ·omega
   ·exact .inl
  simp only [this]
theorem fillT_next {s : List Int} {r : RoundL} {i : Nat} {K : List Int} (h : ∀ x, x ∈ K ↔ x ∈ storesOf (r.getD i [])) : fillT s r i K = fillT s r (i + 1) [] := by
 funext j
 unfold fillT
 simp only [rowsAt, slotI, h (j : Int), List.not_mem_nil, if_false, List.append_nil, List.cons_append, List.append_assoc]
theorem fillT_new {s : List Int} {r : RoundL} : fillT s r r.length [] = newT s r := by
 funext j
 unfold fillT newT slot0
 simp
theorem laidT_all {s : List Int} {r : RoundL} {j : Nat} (hj : j < 10) : laidT s 10 j = fillT s r 0 [] j := by
 unfold laidT fillT
 rw [if_pos hj]
 simp [rowsAt]
theorem tbH_congr {p e : Nat} {hs : Nat → Value} {T T' : TabL} (h : ∀ k, k < 10 → T k = T' k) : tbH p e hs T = tbH p e hs T' := by
 have : (tab 10 fun k => Own (hs k) 230 4 (T k).length (slotCells (T k))) = (tab 10 fun k => Own (hs k) 230 4 (T' k).length (slotCells (T' k))) := tab_congr fun k hk => by rw [h k hk]
 simp only [tbH, Rows, this]
theorem fillT_len {s : List Int} {r : RoundL} {i k : Nat} {K : List Int} : (fillT s r i K k).length ≤ i + 2 := by
 have := rowsAt_len r k i
 unfold fillT
 simp only [List.length_append, List.length_cons]
 split <;> simp <;> omega
theorem tabNew_spec (s : List Int) (v : Value) (r : RoundL) (w : World) (h : IsRound w.cell? v r) (hs10 : s.length = 10) :
  Calls Tryz.prog 163 #[intsV s, v] w fun e w' => (roundFaultL r ≠ 0 ∧ e = .returned (.tuple #[.pointer none, .int .i64 (roundFaultL r)]) ∧ Res w [] [] w') ∨
   (roundFaultL r = 0 ∧ ∃ x : Nat × (Nat → Value), e = .returned (.tuple #[.pointer (some ⟨x.1, 0, none⟩), .int .i64 0]) ∧ Res w [] (tbH x.1 228 x.2 (newT s r)) w') := by
 have hsr := h
 rw [← off_none w] at h hsr
 obtain ⟨A, kp, rfl, hle, hc⟩ := h.form
 refine enter0 (N := 66) Tryz.func163 rfl rfl rfl <| esr <| w_op rfl ?_
 refine x_box rfl rfl (fun b2 => ?_)
 refine wa rfl rfl <| wa rfl rfl <| w_nil <| e_seq <| esr <| wm rfl rfl <| w_op rfl ?_
 refine x_call0 (v := .int .i64 (roundFaultL r)) rfl rfl rfl Tryz.call144 rfl (fun w hw => codeRound_spec _ r w (hsr.mono hw.off)) ?_
 refine wa rfl rfl <| wsr <| wm rfl rfl <| w_val (v_neq rfl rfl) rfl <| w_nil ?_
 refine e_condD rfl (fun hf => ?_) (fun hf => ?_)
 ·refine esr <| wm rfl rfl <| wa rfl rfl <| wa rfl rfl <| w_nil ?_
  refine e_retQ (q_ret2 rfl (.tmp rfl) (.tmp rfl) ?_)
  exact fun w' hw' => .inl ⟨hf, rfl, hw'.res.nil⟩
 ·have hf0 : roundFaultL r = 0 := by omega
  have hok := roundFault_ok hf0
  refine e_skip <| esr ?_
  refine w_val (v_build _ rfl (by intro _; simp [Instr.build, Instr.fill, Tryz.zeroValue228, go_sem]; rfl)) rfl ?_
  refine w_op rfl ?_
  refine x_box rfl rfl (fun b19 => ?_)
  refine wa rfl rfl <| w_nil <| e_seq <| esr <| wm rfl rfl <| w_nil ?_
  refine g_heap (fun _ hw => (hw.rows0 230 4 10).perm (.swap _ _ _)) ?_
  refine e_block ?_
  refine e_loopH (σ := Nat × (Nat → Value)) [1, 2, 7] (.cons rfl (.cons rfl (.cons rfl .nil))) (fun x => [(20, .int .i64 (x.1 : Int))]) (fun x => tbH b19 228 x.2 (laidT s x.1) ++ [.blk b2 32 (intCells s)]) (fun x => x.1 ≤ 10) (fun x => 10 - x.1) (0, fun _ => .slice none 0 0) (Nat.zero_le _) (by repeat first | exact .nil _ | refine .cons rfl ?_) (fun _ hw => hw) ?_
  rintro ⟨k, hs⟩ hk
  dsimp only at hk ⊢
  refine esr <| w_val (v_lss rfl rfl) rfl <| w_nil <| e_seq ?_
  refine e_condD rfl (fun hlt => ?_) (fun hlt => ?_)
  ·have hk' : k < 10 := by omega
   have hsk : s.getD k 0 = s[k] := by simp [List.getD, show k < s.length by omega]
   have hg : (intCells s)[0 + ((k : Int)).toNat * 1]? = some (.int .i64 (s.getD k 0)) := by rw [hsk]; simp [intCells, show k < s.length by omega]
   refine e_skip <| e_seq <| e_block <| esr <| wm rfl rfl <| wa rfl rfl <| w_nil <| e_draw ([.blk b2 32 (intCells s)]) Tryz.mixed <| tk 0 rfl (v_move rfl) rfl <| tk 1 rfl (v_move rfl) rfl <| tk 2 rfl (v_move rfl) rfl ?_
   refine tk 3 rfl (v_indexAB uT32 Tryz.hi2 Tryz.cz2 rfl rfl (by first | omega | decide)) rfl ?_
   refine tk 4 rfl (v_loadB 0 rfl uT2 rfl rfl hg) rfl ?_
   refine tk 5 rfl (v_build (v := slotV (slot0 s k)) _ rfl (by intro _; simp [Instr.build, Instr.fill, Tryz.zeroValue230, go_sem]; rfl)) rfl ?_
   refine tk 7 rfl (v_nilCheck rfl) rfl <| tk 8 rfl (v_fieldAddrB (o := 0) uT228 rfl rfl Tryz.nz226 rfl) rfl <| t1 6 rfl rfl ?_
   refine x_buildSlice _ (slotCells [slot0 s k]) rfl (run_buildSlice uT225 Tryz.hi230 Tryz.cz230 Tryz.zeroValue230 rfl (by kernel_rfl)) rfl (fun b29 => ?_)
   refine tn ?_
   refine tk 9 rfl (v_indexAB uT226 Tryz.hi225 Tryz.cz225 rfl rfl (by first | omega | decide)) rfl ?_
   refine t1 10 rfl rfl ?_
   refine x_store1 1 rfl rfl rfl Tryz.hi225 Tryz.cz225 rfl (by rw [tab_len]; omega) rfl ?_
   refine tn <| td ?_
   refine g_own (size := 4) (n := 1) 0 rfl rfl (by decide) ?_
   refine e_blk <| e_region ?_
   refine w_val (v_add rfl rfl (by omega)) rfl ?_
   refine wm rfl rfl <| w_nil ?_
   refine e_round ((k + 1, upd hs k (.slice (some ⟨b29, 0, none⟩) 1 1))) (by dsimp only; omega) (by dsimp only; omega) (by repeat first | exact .nil _ | refine .cons rfl ?_) (fun _ hw => ?_)
   dsimp only
   have e1 : 0 + ((k : Int)).toNat * 1 = k := by rw [Int.toNat_natCast]; omega
   simp only [e1, List.set_cons_zero, List.set_cons_succ, List.append_eq, tab_set] at hw
   have h1 := St.rowSwap hk' (hw.perm (List.Perm.cons _ (.swap _ _ _)))
   rw [rows_upd (l' := [slot0 s k]) (n := 1) rfl, laidT_step] at h1
   exact h1.perm (.swap _ _ _)
  ·have e : k = 10 := by omega
   subst e
   rw [tbH_congr (T' := fillT s r 0 []) (fun j hj => laidT_all hj)]
   refine e_exit rfl <| e_seq <| esr <| wm rfl rfl <| w_val (v_lenS uT37 rfl) rfl <| wm rfl rfl <| w_nil <| e_block ?_
   refine e_loopH (σ := Nat × (Nat → Value)) [1, 7, 34] (.cons rfl (.cons rfl (.cons rfl .nil))) (fun x => [(35, .int .i64 (r.length : Int)), (36, .int .i64 (x.1 : Int))]) (fun x => tbH b19 228 x.2 (fillT s r x.1 [])) (fun x => x.1 ≤ r.length) (fun x => r.length - x.1) (0, hs) (Nat.zero_le _) (by repeat first | exact .nil _ | refine .cons rfl ?_) (fun _ hw => hw.sub (.cons_cons _ (.cons_cons _ (List.nil_sublist _)))) ?_
   rintro ⟨i, hs⟩ hi
   dsimp only at hi ⊢
   refine esr <| w_val (v_lss rfl rfl) rfl <| w_nil <| e_seq ?_
   refine e_condD rfl (fun hlt2 => ?_) (fun hlt2 => ?_)
   ·have hi' : i < r.length := by omega
    obtain ⟨ad, u, rfl, hcell, hd⟩ := hc i hi'
    have hdl := checked (hok.2 _ (List.getElem_mem hi'))
    have hck := hok.2 _ (List.getElem_mem hi')
    have hri : r.getD i [] = r[i] := by simp [List.getD, hi']
    have hKm : ∀ x, x ∈ keysL r[i] ↔ x ∈ storesOf (r.getD i []) := fun x => by rw [hri]; exact keysL_mem
    have hKr : ∀ x ∈ keysL r[i], 0 ≤ x ∧ x < 10 := fun x hx => key_rng hck hx
    have hKn := keysL_nodup r[i]
    have hKl := keysL_le r[i]
    have hkeys := fun (w : World) (h : IsDeed w.cell? u r[i]) => codeKeys_spec u r[i] w h (by omega)
    generalize r[i] = d at *
    generalize hK : keysL d = K at *
    refine e_skip <| e_seq <| e_block <| esr <| wm rfl rfl ?_
    refine w_val (v_indexS uT37 Tryz.hi80 Tryz.cz80 rfl rfl (by first | omega | decide)) rfl ?_
    refine w_val (v_loadO uT80 rfl rfl (hcell)) rfl <| wa rfl rfl <| wa rfl rfl <| wsr <| wm rfl rfl <| w_op rfl ?_
    refine x_call (dst := some 42) (mc := []) (σ := Value) (fun _ => True) (fun sl => sl) (fun sl => [Own sl 3 1 K.length (intsC K)]) rfl rfl rfl Tryz.call175 (fun w hw => hkeys w (hd.mono hw.off)) rfl (fun sl _ => ?_)
    refine g_shape2 0 rfl fun A1 k1 hv1 hk1 hA1 => ?_
    subst hv1
    refine w_val (v_lenS uT70 rfl) rfl <| wm rfl rfl <| w_nil <| e_block ?_
    refine e_loopH (σ := Nat × (Nat → Value)) [1, 7, 34, 35, 36, 9, 42] (.cons rfl (.cons rfl (.cons rfl (.cons rfl (.cons rfl (.cons rfl (.cons rfl .nil))))))) (fun x => [(43, .int .i64 (K.length : Int)), (44, .int .i64 (x.1 : Int))]) (fun x => tbH b19 228 x.2 (fillT s r i (K.take x.1)) ++ [Own (.slice A1 K.length k1) 3 1 K.length (intsC K)]) (fun x => x.1 ≤ K.length) (fun x => K.length - x.1) (0, hs) (Nat.zero_le _) (by repeat first | exact .nil _ | refine .cons rfl ?_) (fun _ hw => hw.perm (List.Perm.trans (.swap _ _ _) (.cons _ (.swap _ _ _)))) ?_
    rintro ⟨j, hs⟩ hj
    dsimp only at hj ⊢
    refine esr <| w_val (v_lss rfl rfl) rfl <| w_nil <| e_seq ?_
    refine e_condD rfl (fun hlt3 => ?_) (fun hlt3 => ?_)
    ·have hj' : j < K.length := by omega
     have hget := ints_get hj'
     have hrng := hKr _ (List.getElem_mem hj')
     have hnot : K[j] ∉ K.take j := fun h => by
      rw [List.mem_take_iff_getElem] at h
      obtain ⟨m, hm, he⟩ := h
      exact List.pairwise_iff_getElem.1 hKn m j (by omega) hj' (by omega) he
     have htk : K.take (j + 1) = K.take j ++ [K[j]] := List.take_succ_eq_append_getElem hj'
     obtain ⟨ad2, rfl⟩ := hA1 (by omega)
     obtain ⟨kk, hkk⟩ : ∃ n : Nat, K[j] = n := ⟨K[j].toNat, by omega⟩
     rw [hkk] at hget hrng hnot htk
     have hkk' : kk < 10 := by omega
     have hfl := fillT_len (s := s) (r := r) (i := i) (k := kk) (K := K.take j)
     have hstep := fillT_step (s := s) (r := r) (i := i) (k := kk) hnot
     refine e_skip <| e_seq <| e_block <| esr ?_
     refine w_val (v_indexS uT70 Tryz.hi3 Tryz.cz3 rfl rfl (by first | omega | decide)) rfl ?_
     refine w_val (v_loadW 2 rfl (by omega) hget uT3 rfl rfl) rfl ?_
     refine wa rfl rfl <| w_nil ?_
     refine g_heap (fun _ hw => hw.tbTake hkk') ?_
     refine g_shape2 0 rfl fun A3 cap hhk hcap _ => ?_
     dsimp only at hhk
     have hhd : (tab 10 hs)[0 + ((kk : Int)).toNat * 1]? = some (.slice A3 (fillT s r i (K.take j) kk).length cap) := by rw [← hhk]; exact tab_hdr hkk'
     rw [hhk]
     refine e_cutH (σ := Value) [1, 7, 34, 35, 36, 9, 42, 43, 44] (.cons rfl (.cons rfl (.cons rfl (.cons rfl (.cons rfl (.cons rfl (.cons rfl (.cons rfl (.cons rfl .nil))))))))) (fun _ => []) (fun v => tbH b19 228 (upd hs kk v) (fillT s r i (K.take (j + 1))) ++ [Own (.slice (some ad2) K.length k1) 3 1 K.length (intsC K)]) (fun _ => True) ?_ ?_
     ·refine e_draw ([]) Tryz.mixed <| tk 0 rfl (v_move rfl) rfl <| tk 1 rfl (v_move rfl) rfl <| tk 2 rfl (v_move rfl) rfl <| tk 3 rfl (v_move rfl) rfl <| tk 4 rfl (v_nilCheck rfl) rfl <| tk 5 rfl (v_fieldAddrB (o := 0) uT228 rfl rfl Tryz.nz226 rfl) rfl ?_
      refine tk 6 rfl (v_indexAB uT226 Tryz.hi225 Tryz.cz225 rfl rfl (by first | omega | decide)) rfl ?_
      refine tk 8 rfl (v_move rfl) rfl ?_
      refine tk 9 rfl (v_build (v := slotV (slotI i)) _ rfl (by intro _; simp [Instr.build, Instr.fill, Tryz.zeroValue230, go_sem]; rfl)) rfl ?_
      refine tk 12 rfl (v_nilCheck rfl) rfl <| tk 13 rfl (v_fieldAddrB (o := 0) uT228 rfl rfl Tryz.nz226 rfl) rfl ?_
      refine a_all [7, 10] (by kernel_rfl) rfl ?_
      intro i hi
      simp only [List.mem_cons, List.not_mem_nil, or_false] at hi
      rcases hi with rfl | rfl
      ·refine a_op rfl rfl <| x_val (v_loadB 2 rfl uT225 rfl rfl hhd) rfl <| tn <| t1 10 rfl rfl ?_
       refine x_buildSlice _ (slotCells [slotI i]) rfl (run_buildSlice uT225 Tryz.hi230 Tryz.cz230 Tryz.zeroValue230 rfl (by kernel_rfl)) rfl (fun b58 => ?_)
       refine tn <| t1 11 rfl rfl ?_
       refine x_appendIS (z := .agg #[.int .i64 0, .bool false, .bool false, .int .i64 0]) (n := (fillT s r i (K.take j) kk).length) (xs := slotCells (fillT s r i (K.take j) kk)) (size := 4) (bytes := 24) (k := 1) (news := slotCells [slotI i]) 1 rfl rfl rfl uT225 (by kernel_rfl) rfl (by decide) (fun w hw => blk_rds (hw.hold _ (List.mem_cons_self ..)) rfl) (one_slotCells _) (by omega) (by simp only [maxLen]; omega) rfl (fun A4 cap4 _ => ?_)
       refine tn ?_
       refine tk 14 rfl (v_indexAB uT226 Tryz.hi225 Tryz.cz225 rfl rfl (by first | omega | decide)) rfl ?_
       refine t1 15 rfl rfl ?_
       refine x_store1 3 rfl rfl rfl Tryz.hi225 Tryz.cz225 rfl (by rw [tab_len]; omega) rfl ?_
       refine tn <| td ?_
       exact e_cutEnd (Value.slice A4 ((fillT s r i (K.take j) kk).length + 1) cap4) trivial (by repeat first | exact .nil _ | refine .cons rfl ?_) (fun _ hw => by simp only [List.set_cons_zero, List.set_cons_succ, List.append_eq, List.cons_append, List.nil_append] at hw; rw [show 0 + ((kk : Int)).toNat * 1 = kk from by rw [Int.toNat_natCast]; omega] at hw; have h1 := St.rowApp (k := kk) (T := fun k => ((fillT s r i (K.take j) k).length, slotCells (fillT s r i (K.take j) k))) (hw.sub (List.sublist_cons_self _ _)); rw [← slotCells_app, rows_upd (l' := fillT s r i (K.take j) kk ++ [slotI i]) (by simp), hstep, ← htk] at h1; exact h1)
      ·refine a_op rfl rfl ?_
       refine x_buildSlice _ (slotCells [slotI i]) rfl (run_buildSlice uT225 Tryz.hi230 Tryz.cz230 Tryz.zeroValue230 rfl (by kernel_rfl)) rfl (fun b58 => ?_)
       refine tn <| t1 7 rfl rfl <| x_val (v_loadB 3 rfl uT225 rfl rfl hhd) rfl <| tn <| t1 11 rfl rfl ?_
       refine x_appendIS (z := .agg #[.int .i64 0, .bool false, .bool false, .int .i64 0]) (n := (fillT s r i (K.take j) kk).length) (xs := slotCells (fillT s r i (K.take j) kk)) (size := 4) (bytes := 24) (k := 1) (news := slotCells [slotI i]) 1 rfl rfl rfl uT225 (by kernel_rfl) rfl (by decide) (fun w hw => blk_rds (hw.hold _ (List.mem_cons_self ..)) rfl) (one_slotCells _) (by omega) (by simp only [maxLen]; omega) rfl (fun A4 cap4 _ => ?_)
       refine tn ?_
       refine tk 14 rfl (v_indexAB uT226 Tryz.hi225 Tryz.cz225 rfl rfl (by first | omega | decide)) rfl ?_
       refine t1 15 rfl rfl ?_
       refine x_store1 3 rfl rfl rfl Tryz.hi225 Tryz.cz225 rfl (by rw [tab_len]; omega) rfl ?_
       refine tn <| td ?_
       exact e_cutEnd (Value.slice A4 ((fillT s r i (K.take j) kk).length + 1) cap4) trivial (by repeat first | exact .nil _ | refine .cons rfl ?_) (fun _ hw => by simp only [List.set_cons_zero, List.set_cons_succ, List.append_eq, List.cons_append, List.nil_append] at hw; rw [show 0 + ((kk : Int)).toNat * 1 = kk from by rw [Int.toNat_natCast]; omega] at hw; have h1 := St.rowApp (k := kk) (T := fun k => ((fillT s r i (K.take j) k).length, slotCells (fillT s r i (K.take j) k))) (hw.sub (List.sublist_cons_self _ _)); rw [← slotCells_app, rows_upd (l' := fillT s r i (K.take j) kk ++ [slotI i]) (by simp), hstep, ← htk] at h1; exact h1)
     ·rintro v -
      refine e_blk <| e_region ?_
      refine w_val (v_add rfl rfl (by omega)) rfl ?_
      refine wm rfl rfl <| w_nil ?_
      exact e_round ((j + 1, upd hs kk v)) (by dsimp only; omega) (by dsimp only; omega) (by repeat first | exact .nil _ | refine .cons rfl ?_) (fun _ hw => hw)
    ·have e : j = K.length := by omega
     subst e
     rw [List.take_length, fillT_next hKm]
     refine e_exit rfl <| e_blk <| e_region ?_
     refine w_val (v_add rfl rfl (by omega)) rfl ?_
     refine wm rfl rfl <| w_nil ?_
     exact e_round ((i + 1, hs)) (by dsimp only; omega) (by dsimp only; omega) (by repeat first | exact .nil _ | refine .cons rfl ?_) (fun _ hw => hw.sub (.cons_cons _ (.cons_cons _ (List.nil_sublist _))))
   ·have e : i = r.length := by omega
    subst e
    rw [fillT_new]
    refine e_exit rfl <| esr <| wm rfl rfl <| wa rfl rfl <| wa rfl rfl <| w_nil ?_
    refine e_retQ (q_ret2 rfl (.tmp rfl) (.tmp rfl) ?_)
    exact fun w' hw' => .inr ⟨hf0, (b19, hs), rfl, hw'.res⟩
end Go.SL
end
section
open Go Go.Proofs Go.SL
set_option maxRecDepth 100000
namespace Go.SL
end Go.SL
end
section
open Go Go.Proofs Go.SL
set_option maxRecDepth 100000
namespace Go.SL
theorem St.tbV {w0 w : World} {F : Nat → Prop} {m : Hp} {p e : Nat} {hs : Nat → Value} {T : TabL} (hw : St w0 F m w) (i : Nat) (h1 : m[i]? = some (.blk p e (tab 10 hs))) (h2 : m[i + 1]? = some (Rows 230 4 10 hs (fun k => ((T k).length, slotCells (T k))))) : TbV w.cell? p hs T :=
 TbV.of (e := e) (fun c hc => by
  simp only [List.mem_cons, List.not_mem_nil, or_false] at hc
  rcases hc with rfl | rfl
  ·exact hw.mem h1
  ·exact hw.mem h2)
theorem tabNew_ok (s : List Int) (v : Value) (r : RoundL) (w : World) (h : IsRound w.cell? v r) (hs10 : s.length = 10) (hf : roundFaultL r = 0) :
  Calls Tryz.prog 163 #[intsV s, v] w fun e w' => ∃ x : Nat × (Nat → Value), True ∧ e = .returned (.tuple #[.pointer (some ⟨x.1, 0, none⟩), .int .i64 0]) ∧ Res w [] (tbH x.1 228 x.2 (newT s r)) w' := by
 refine (tabNew_spec s v r w h hs10).mono ?_
 rintro e w' (⟨h1, _⟩ | ⟨_, x, h2, h3⟩)
 ·exact absurd hf h1
 ·exact ⟨x, trivial, h2, h3⟩
theorem tabNew_bad (s : List Int) (v : Value) (r : RoundL) (w : World) (h : IsRound w.cell? v r) (hs10 : s.length = 10) (hf : roundFaultL r ≠ 0) :
  Calls Tryz.prog 163 #[intsV s, v] w fun e w' => e = .returned (.tuple #[.pointer none, .int .i64 (roundFaultL r)]) ∧ Res w [] [] w' := by
 refine (tabNew_spec s v r w h hs10).mono ?_
 rintro e w' (⟨h1, h2⟩ | ⟨h1, _⟩)
 ·exact h2
 ·exact absurd h1 hf
theorem chgL_len {l : List SlotL} {by_ : Int} {x : SlotL} : (chgL l by_ x).length = l.length := by unfold chgL; exact List.length_set
theorem chgL_mem {l : List SlotL} {by_ : Int} {x s : SlotL} (h : s ∈ chgL l by_ x) : s ∈ l ∨ s = x := List.mem_or_eq_of_mem_set h
end Go.SL
end
