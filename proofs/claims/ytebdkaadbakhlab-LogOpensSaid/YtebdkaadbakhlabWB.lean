/- Ytebdkaadbakhlab: part WB of this seat's own texts. -/
import Derived.Test.YtebdkaadbakhlabWA
set_option linter.unusedVariables false
set_option linter.unusedSimpArgs false
open Go Go.Proofs Go.SL
set_option maxRecDepth 100000
namespace Go.SL
theorem openF_run {L : List RoundL} (hok : LogOk L 0) (rest : List UInt8) (n : Nat) : ∀ (j i : Nat), i + j = L.length → openF (n + j) (bytesOf (L.drop i) ++ rest) (L.take i) = openF n rest L
  | 0, i, h => by
    have : i = L.length := by omega
    subst this
    simp [bytesOf]
  | j + 1, i, h => by
    have hi : i < L.length := by omega
    have hall := hok.all L[i] (List.getElem_mem _)
    have hokr := okRound_of hall.1 hall.2
    have hB := hok.bytes
    have h25 := hok.len
    have he := endAt_le_all (L := L) (i := i + 1) (by omega)
    rw [endAt_succ hi] at he
    have he0 : (bytesOf (L.take i)).length = endAt L i := rfl
    have e1 : bytesOf (L.drop i) ++ rest = encL L[i] ++ (bytesOf (L.drop (i + 1)) ++ rest) := by
      rw [List.drop_eq_getElem_cons hi, ← List.singleton_append, bytesOf_app, bytesOf_one, List.append_assoc]
    have hd := dec_enc roundFaultL hokr hall.1 (bytesOf (L.drop (i + 1)) ++ rest)
    have hl : (L.take i).length = i := by simp; omega
    have hp : putL (L.take i) L[i] = (L.take i ++ [L[i]], ((L.take i).length : Int), 0) := putL_ok (by simp [hall.1]) (by rw [hl, he0]; omega)
    have hgo := openF_go (n := n + j) (b := encL L[i] ++ (bytesOf (L.drop (i + 1)) ++ rest)) (L := L.take i) (by rw [hd]; simp) (by rw [hd]; exact hp)
    rw [hd] at hgo
    dsimp only at hgo
    rw [e1, ← Nat.add_assoc, hgo, List.drop_left', ← List.take_succ_eq_append_getElem hi]
    · exact openF_run hok rest n j (i + 1) (by omega)
    · rfl
theorem openL_run {L : List RoundL} (hok : LogOk L 0) (rest : List UInt8) : openL (bytesOf L ++ rest) = openF (26 - L.length) rest L := by
  have h25 := hok.len
  have := openF_run hok rest (26 - L.length) L.length 0 (by omega)
  rw [List.drop_zero, List.take_zero, show 26 - L.length + L.length = 26 from by omega] at this
  exact this
theorem openF_grows : ∀ (n : Nat) (b : List UInt8) (L : List RoundL), ∃ X, openF n b L = L ++ X
  | 0, _, L => ⟨[], by simp [openF]⟩
  | n + 1, b, L => by
    simp only [openF]
    split
    · exact ⟨[], by simp⟩
    · by_cases h2 : (putL L (decL roundFaultL b).1).2.2 ≠ 0
      · rw [if_pos h2]; exact ⟨[], by simp⟩
      · rw [if_neg h2]
        rcases putL_code L (decL roundFaultL b).1 with ⟨h1, _, _⟩ | ⟨h1, _⟩
        · exact absurd h1 h2
        · obtain ⟨X, hX⟩ := openF_grows n (b.drop (encL (decL roundFaultL b).1).length) (putL L (decL roundFaultL b).1).1
          rw [hX, h1]
          exact ⟨[(decL roundFaultL b).1] ++ X, by simp⟩
theorem logOk0 {L : List RoundL} {k : Nat} (h : LogOk L k) : LogOk L 0 := ⟨h.len, h.bytes, Nat.zero_le _, h.all⟩
theorem openL_cut {L : List RoundL} {m k : Nat} (hok : LogOk L 0) (hm : m ≤ L.length) (h1 : endAt L m ≤ k) (h2 : m < L.length → k < endAt L (m + 1)) : openL ((bytesOf L).take k) = L.take m := by
  have hokm := logOk0 (takeL_logOk hok hm)
  have h25 := hokm.len
  have hsplit : bytesOf L = bytesOf (L.take m) ++ bytesOf (L.drop m) := by rw [← bytesOf_app, List.take_append_drop]
  have hle : (bytesOf (L.take m)).length = endAt L m := rfl
  have e1 : (bytesOf L).take k = bytesOf (L.take m) ++ (bytesOf (L.drop m)).take (k - endAt L m) := by
    rw [hsplit, List.take_append, List.take_of_length_le (by omega), hle]
  have hbad : (decL roundFaultL ((bytesOf (L.drop m)).take (k - endAt L m))).2.2 ≠ 0 := by
    by_cases hlt : m < L.length
    · have hk := h2 hlt
      rw [endAt_succ hlt] at hk
      have hall := hok.all L[m] (List.getElem_mem _)
      have hokr := okRound_of hall.1 hall.2
      have e2 : bytesOf (L.drop m) = encL L[m] ++ bytesOf (L.drop (m + 1)) := by rw [List.drop_eq_getElem_cons hlt, ← List.singleton_append, bytesOf_app, bytesOf_one]
      rw [e2, List.take_append_of_le_length (by omega), dec_cut roundFaultL hokr (by omega)]
      decide
    · have : m = L.length := by omega
      subst this
      rw [List.drop_length]
      have : (bytesOf []).take (k - endAt L L.length) = [] := by simp [bytesOf]
      rw [this]
      decide
  rw [e1, openL_run hokm]
  have hl : (L.take m).length ≤ 25 := h25
  obtain ⟨n, hn⟩ : ∃ n, 26 - (L.take m).length = n + 1 := ⟨25 - (L.take m).length, by omega⟩
  rw [hn, openF_dec hbad]
theorem LogOpens_spec (v vb : Value) (l : List StepL) (cut : Int) (more : List UInt8) (w : World) (h : IsSteps w.cell? v l) (hin : ∀ x ∈ l, ∀ d ∈ x.round, ∀ o ∈ d, OpIn o) (hl : ∀ x ∈ l, ∀ d ∈ x.round, d.length ≤ 4398046511104) (hmax : l.length ≤ maxLen)
    (hb : IsBytes w.cell? vb more) (hbl : more.length ≤ 140737488355328) :
    Calls Try.prog 4 #[v, .int .i64 cut, vb] w fun e w' => e = .returned (.bool true) ∧ Res w [] [] w' := by
  have hs := h
  rw [← off_none w] at h hs hb
  obtain ⟨A, kp, rfl, hle, hc⟩ := h
  have hb0 := hb
  obtain ⟨Ab, kb, rfl, hkb, _, _⟩ := hb0
  simp only [maxLen] at hmax
  refine enter0 (N := 174) Try.func4 rfl rfl rfl ?_
  refine e_seq ?_
  refine e_region ?_
  refine w_val (v_assign rfl) rfl ?_
  refine w_nil ?_
  refine e_seq ?_
  refine e_seq ?_
  refine e_region ?_
  refine w_op rfl ?_
  refine x_call0 (v := .bool true) rfl rfl rfl Try.call14 rfl (fun w hw => logBegun_spec w) ?_
  refine w_val (v_not rfl) rfl ?_
  refine w_nil ?_
  refine e_condF rfl ?_
  refine e_skip ?_
  refine e_seq ?_
  refine e_seq ?_
  refine e_region ?_
  refine w_val (v_move rfl) rfl ?_
  refine w_op rfl ?_
  refine x_call (dst := some 27) (mc := []) (mr := []) (σ := Bool) (fun _ => True) (fun b => .bool b) (fun _ => []) rfl rfl rfl Try.call15 (fun w hw => greatLog_spec _ l w (hs.mono hw.off) hl) rfl (fun b _ => ?_)
  cases b with
  | true =>
    refine w_val (v_move rfl) rfl ?_
    refine w_skip rfl rfl rfl rfl ?_
    refine w_skip rfl rfl rfl rfl ?_
    refine w_skip rfl rfl rfl rfl ?_
    first | refine w_val (v_pickT rfl rfl) rfl ?_ | refine w_val (v_pickF rfl rfl) rfl ?_
    refine w_nil ?_
    first | refine e_condDT rfl (by omega) ?_ | refine e_condT rfl ?_
    refine e_seq ?_
    refine e_region ?_
    refine w_val (v_assign rfl) rfl ?_
    refine w_nil ?_
    refine e_retQ (q_ret1 rfl (.tmp rfl) ?_)
    exact fun w' hw' => ⟨rfl, hw'.res.nil⟩
  | false =>
    refine w_val (v_move rfl) rfl ?_
    refine w_want rfl rfl ?_
    refine w_val (v_move rfl) rfl ?_
    refine w_want rfl rfl ?_
    refine w_val (v_lenS Try.underlying23 rfl) rfl ?_
    refine w_want rfl rfl ?_
    refine w_val (v_gtr rfl rfl) rfl ?_
    first | refine w_val (v_pickT rfl rfl) rfl ?_ | refine w_val (v_pickF rfl rfl) rfl ?_
    refine w_nil ?_
    refine e_condD rfl (fun h5000 => ?_) (fun h5000 => ?_)
    · refine e_seq ?_
      refine e_region ?_
      refine w_val (v_assign rfl) rfl ?_
      refine w_nil ?_
      refine e_retQ (q_ret1 rfl (.tmp rfl) ?_)
      exact fun w' hw' => ⟨rfl, hw'.res.nil⟩
    · refine e_skip ?_
      refine e_seq ?_
      refine e_region ?_
      refine w_op rfl ?_
      refine x_call (dst := some 33) (mc := []) (mr := []) (σ := Nat) (fun _ => True) (fun p => .pointer (some ⟨p, 0, none⟩)) (fun p => lgH p (.slice none 0 0) (.slice none 0 0) [] 0) rfl rfl rfl Try.call16 (fun w hw => logNew_spec w) rfl (fun p _ => ?_)
      refine w_val (v_build _ rfl (by intro _; simp [Instr.build, Instr.fill, Try.zeroValue31, go_sem]; rfl)) rfl ?_
      refine w_op rfl ?_
      refine x_box rfl rfl (fun b35 => ?_)
      refine w_val (v_assign rfl) rfl ?_
      refine w_val (v_assign rfl) rfl ?_
      refine w_nil ?_
      refine e_seq ?_
      refine e_seq ?_
      refine e_region ?_
      refine w_val (v_assign rfl) rfl ?_
      refine w_nil ?_
      refine g_heap (m' := lsH p b35 ⟨.slice none 0 0, .slice none 0 0, .slice none 0 0, [], feet []⟩ [] 0) (fun _ hw => St.newLog hw) ?_
      refine e_block ?_
      refine e_loopH (σ := Nat × LS × List RoundL × Nat) [0, 1, 2, 7, 8] (.cons rfl (.cons rfl (.cons rfl (.cons rfl (.cons rfl .nil))))) (fun x => [(9, .int .i64 (x.1 : Int))]) (fun x => lsH p b35 x.2.1 x.2.2.1 x.2.2.2) (fun x => x.1 ≤ l.length ∧ LogOk x.2.2.1 x.2.2.2) (fun x => l.length - x.1) (0, ⟨.slice none 0 0, .slice none 0 0, .slice none 0 0, [], feet []⟩, [], 0) ⟨by dsimp only; omega, lbOk0⟩ (by repeat (first | exact Sub.nil _ | refine Sub.cons rfl ?_)) (fun _ hw => hw) ?_
      rintro ⟨i, S, L, k⟩ ⟨hi, hok⟩
      dsimp only at hi hok ⊢
      refine e_seq ?_
      refine e_seq ?_
      refine e_region ?_
      refine w_val (v_move rfl) rfl ?_
      refine w_val (v_move rfl) rfl ?_
      refine w_val (v_lenS Try.underlying22 rfl) rfl ?_
      refine w_val (v_lss rfl rfl) rfl ?_
      refine w_nil ?_
      refine e_condD rfl (fun hlt => ?_) (fun hlt => ?_)
      · have hlt' : i < l.length := by omega
        obtain ⟨ad, u, rfl, hcs, hr⟩ := hc i hlt'
        have hxin := hin l[i] (List.getElem_mem _)
        generalize l[i] = x at *
        have hcs' : Cells (off w (feet [])) (ad.add (((i : Int)).toNat * 3)) [.int .i64 x.do_, .int .i64 x.keep, u] := hcs
        refine e_skip ?_
        refine e_seq ?_
        refine e_block ?_
        refine e_region ?_
        refine w_val (v_move rfl) rfl ?_
        refine w_val (v_move rfl) rfl ?_
        refine w_val (v_move rfl) rfl ?_
        refine w_val (v_move rfl) rfl ?_
        first | refine w_val (v_indexSB Try.underlying22 Try.hi36 Try.cz36 rfl rfl (by first | omega | decide)) rfl ?_ | refine w_val (v_indexS Try.underlying22 Try.hi36 Try.cz36 rfl rfl (by first | omega | decide)) rfl ?_
        first | refine w_val (v_loadON Try.underlying36 rfl Try.hi36 rfl (hcs') Try.cz36) rfl ?_ | refine w_val (v_loadBA 0 rfl Try.underlying36 rfl Try.hi36 Try.cz36 rfl) rfl ?_ | refine w_val (v_loadBA 1 rfl Try.underlying36 rfl Try.hi36 Try.cz36 rfl) rfl ?_ | refine w_val (v_loadBA 2 rfl Try.underlying36 rfl Try.hi36 Try.cz36 rfl) rfl ?_ | refine w_val (v_loadBA 3 rfl Try.underlying36 rfl Try.hi36 Try.cz36 rfl) rfl ?_ | refine w_val (v_loadBA 4 rfl Try.underlying36 rfl Try.hi36 Try.cz36 rfl) rfl ?_ | refine w_val (v_loadBA 5 rfl Try.underlying36 rfl Try.hi36 Try.cz36 rfl) rfl ?_ | refine w_val (v_loadBA 6 rfl Try.underlying36 rfl Try.hi36 Try.cz36 rfl) rfl ?_ | refine w_val (v_loadBA 7 rfl Try.underlying36 rfl Try.hi36 Try.cz36 rfl) rfl ?_ | refine w_val (v_loadBA 8 rfl Try.underlying36 rfl Try.hi36 Try.cz36 rfl) rfl ?_ | refine w_val (v_loadBA 9 rfl Try.underlying36 rfl Try.hi36 Try.cz36 rfl) rfl ?_ | refine w_val (v_loadBA 10 rfl Try.underlying36 rfl Try.hi36 Try.cz36 rfl) rfl ?_ | refine w_val (v_loadBA 11 rfl Try.underlying36 rfl Try.hi36 Try.cz36 rfl) rfl ?_ | refine w_val (v_loadBN 0 rfl Try.underlying36 rfl Try.hi36 Try.cz36 rfl rfl rfl) rfl ?_ | refine w_val (v_loadBN 1 rfl Try.underlying36 rfl Try.hi36 Try.cz36 rfl rfl rfl) rfl ?_ | refine w_val (v_loadBN 2 rfl Try.underlying36 rfl Try.hi36 Try.cz36 rfl rfl rfl) rfl ?_ | refine w_val (v_loadBN 3 rfl Try.underlying36 rfl Try.hi36 Try.cz36 rfl rfl rfl) rfl ?_ | refine w_val (v_loadBN 4 rfl Try.underlying36 rfl Try.hi36 Try.cz36 rfl rfl rfl) rfl ?_ | refine w_val (v_loadBN 5 rfl Try.underlying36 rfl Try.hi36 Try.cz36 rfl rfl rfl) rfl ?_ | refine w_val (v_loadBN 6 rfl Try.underlying36 rfl Try.hi36 Try.cz36 rfl rfl rfl) rfl ?_ | refine w_val (v_loadBN 7 rfl Try.underlying36 rfl Try.hi36 Try.cz36 rfl rfl rfl) rfl ?_ | refine w_val (v_loadBN 8 rfl Try.underlying36 rfl Try.hi36 Try.cz36 rfl rfl rfl) rfl ?_ | refine w_val (v_loadBN 9 rfl Try.underlying36 rfl Try.hi36 Try.cz36 rfl rfl rfl) rfl ?_ | refine w_val (v_loadBN 10 rfl Try.underlying36 rfl Try.hi36 Try.cz36 rfl rfl rfl) rfl ?_ | refine w_val (v_loadBN 11 rfl Try.underlying36 rfl Try.hi36 Try.cz36 rfl rfl rfl) rfl ?_
        refine w_op rfl ?_
        refine x_call (dst := some 48) (mc := lsH p b35 S L k) (mr := []) (σ := LS) (fun _ => True) (fun _ => .bool true) (fun S' => lsH p b35 S' (stepLog L k x).1 (stepLog L k x).2) rfl rfl rfl Try.call17 (fun w hw => logStep_spec p b35 S L k x u w hw.part.1 hw.part.2 hok (hr.mono (hw.offm (fun c hc => List.mem_append_left _ hc))) hxin) rfl (fun S' _ => ?_)
        refine w_nil ?_
        refine e_blk ?_
        refine e_region ?_
        refine w_val (v_move rfl) rfl ?_
        first | refine w_val (v_add rfl rfl (by omega)) rfl ?_ | refine w_val (v_addw rfl rfl) rfl ?_
        refine w_val (v_assign rfl) rfl ?_
        refine w_nil ?_
        exact e_round ((i + 1, S', (stepLog L k x).1, (stepLog L k x).2)) (⟨by dsimp only; omega, stepLog_ok hok hxin⟩) (by dsimp only; omega) (by repeat (first | exact Sub.nil _ | refine Sub.cons rfl ?_)) (fun _ hw => hw)
      · obtain ⟨bv, ev, lv, vs, G0⟩ := S
        have hB := hok.bytes
        have h25 := hok.len
        obtain ⟨k1, hk1, hk1m⟩ := u64_rem' cut (show 0 < (bytesOf L).length + 1 by omega)
        obtain ⟨hmL, hm1, hm2⟩ := cntL_spec L (k1 : Int)
        have hcutL := openL_cut (m := cntL L k1) (k := k1) (logOk0 hok) hmL (by
          rcases hm1 _ (Nat.le_refl _) with h | h
          · rw [h, endAt_zero]; omega
          · omega) (fun h => by have := hm2 (cntL L k1 + 1) (by omega) (by omega); omega)
        have hm3 : endAt L (cntL L k1) ≤ k1 := by
          rcases hm1 _ (Nat.le_refl _) with h | h
          · rw [h, endAt_zero]; omega
          · omega
        have hm4 : cntL L k1 < L.length → k1 < endAt L (cntL L k1 + 1) := fun h => by have := hm2 (cntL L k1 + 1) (by omega) (by omega); omega
        clear hm1 hm2
        generalize cntL L k1 = m at *
        have e1 : (bytesOf (L.take m)).length = endAt L m := rfl
        have e3 : (L.take m).length = m := by simp; omega
        have e4 : bytesOf (L.take m) = (bytesOf L).take (endAt L m) := bytesOf_take
        have hmB := endAt_le_all hmL
        have hokm : LogOk (L.take m) m := takeL_logOk hok hmL
        refine e_exit rfl ?_
        refine e_seq ?_
        refine e_region ?_
        refine w_val (v_move rfl) rfl ?_
        refine w_op rfl ?_
        refine x_call (dst := some 51) (mc := []) (σ := Value) (fun _ => True) (fun s => .tuple #[s, .int .i64 (endAt L k : Int)]) (fun s => [Own s 5 1 (bytesOf L).length (byteCells (bytesOf L))]) rfl rfl rfl Try.call22 (fun w hw => logBytes_spec p bv ev L k w (LgV.at hw 0 rfl rfl rfl) hB) rfl (fun v1 _ => ?_)
        refine g_shape 0 rfl fun A1 kk1 hv1 hkk1 => ?_
        subst hv1
        refine w_val (v_move rfl) rfl ?_
        refine w_val (v_extract rfl rfl) rfl ?_
        refine w_val (v_extract rfl rfl) rfl ?_
        refine w_val (v_assign rfl) rfl ?_
        refine w_val (v_assign rfl) rfl ?_
        refine w_nil ?_
        refine e_seq ?_
        refine e_region ?_
        refine w_val (v_move rfl) rfl ?_
        refine w_val (v_conv Try.underlying50 (by rw [Try.underlying3]; rfl) rfl) rfl ?_
        refine w_val (v_move rfl) rfl ?_
        refine w_val (v_lenS Try.underlying23 rfl) rfl ?_
        first | refine w_val (v_add rfl rfl (by omega)) rfl ?_ | refine w_val (v_addw rfl rfl) rfl ?_
        refine w_val (v_is (v' := .int .u64 (((bytesOf L).length + 1 : Nat) : Int)) (v_conv Try.underlying50 (by rw [Try.underlying3]; rfl) rfl) (by rw [wrap_u64 (by omega) (by omega)]; rfl)) rfl ?_
        refine w_val (v_is (v' := .int .u64 (k1 : Int)) (v_rem rfl rfl (by omega)) (by rw [hk1m])) rfl ?_
        refine w_val (v_is (v' := .int .i64 (k1 : Int)) (v_conv Try.underlying3 (by rw [Try.underlying50]; rfl) rfl) (by rw [wrap_i64 (by omega) (by omega)])) rfl ?_
        refine w_val (v_assign rfl) rfl ?_
        refine w_nil ?_
        refine e_seq ?_
        refine e_region ?_
        refine w_val (v_move rfl) rfl ?_
        refine w_val (v_move rfl) rfl ?_
        refine w_val (v_sliceH Try.underlying23 Try.hi5 Try.cz5 rfl rfl (by omega)) rfl ?_
        have hop := fun (vv : Value) (w1 : World) (h : IsBytes w1.cell? vv ((bytesOf L).take k1)) => logOpen_spec vv ((bytesOf L).take k1) w1 h (by simp; omega)
        rw [hcutL, e1, e3] at hop
        refine w_op rfl ?_
        refine x_call (dst := some 66) (mc := []) (σ := Nat × Value × Value) (fun _ => True) (fun s => .tuple #[.pointer (some ⟨s.1, 0, none⟩), .int .i64 (endAt L m : Int)]) (fun s => lgH s.1 s.2.1 s.2.2 (L.take m) m) rfl rfl rfl Try.call25 (fun w hw => hop _ w (by have := IsBytes.slice (lo := 0) (hi := k1) (own_rds (hw.mem (i := 0) rfl)) (by omega) (by omega); simpa using this)) rfl (fun q _ => ?_)
        obtain ⟨p2, bv2, ev2⟩ := q
        dsimp only
        refine w_val (v_move rfl) rfl ?_
        refine w_val (v_extract rfl rfl) rfl ?_
        refine w_val (v_extract rfl rfl) rfl ?_
        refine w_val (v_assign rfl) rfl ?_
        refine w_val (v_assign rfl) rfl ?_
        refine w_nil ?_
        refine e_seq ?_
        refine e_seq ?_
        refine e_region ?_
        refine w_val (v_move rfl) rfl ?_
        refine w_val (v_is (v' := .bool false) (v_eqlPtr Try.underlying26 rfl rfl) (by rfl)) rfl ?_
        refine w_val (v_move rfl) rfl ?_
        refine w_want rfl rfl ?_
        refine w_val (v_move rfl) rfl ?_
        refine w_want rfl rfl ?_
        refine w_val (v_move rfl) rfl ?_
        refine w_want rfl rfl ?_
        refine w_val (v_is (v' := .bool false) (v_gtr rfl rfl) (by rw [decide_eq_false (by omega)])) rfl ?_
        first | refine w_val (v_pickT rfl rfl) rfl ?_ | refine w_val (v_pickF rfl rfl) rfl ?_
        refine w_val (v_move rfl) rfl ?_
        refine w_want rfl rfl ?_
        refine w_val (v_move rfl) rfl ?_
        refine w_want rfl rfl ?_
        refine w_op rfl ?_
        refine x_call0 (v := .int .i64 (m : Int)) rfl rfl rfl Try.call18 rfl (fun w hw => by have := logLen_spec p2 bv2 ev2 (L.take m) m w (LgV.at hw 0 rfl rfl rfl); rwa [e3] at this) ?_
        refine w_want rfl rfl ?_
        refine w_val (v_move rfl) rfl ?_
        refine w_want rfl rfl ?_
        refine w_op rfl ?_
        refine x_call0 (v := .int .i64 (L.length : Int)) rfl rfl rfl Try.call18 rfl (fun w hw => logLen_spec p bv ev L k w (LgV.at hw 4 rfl rfl rfl)) ?_
        refine w_want rfl rfl ?_
        refine w_val (v_is (v' := .bool false) (v_gtr rfl rfl) (by rw [decide_eq_false (by omega)])) rfl ?_
        first | refine w_val (v_pickT rfl rfl) rfl ?_ | refine w_val (v_pickF rfl rfl) rfl ?_
        refine w_nil ?_
        refine e_condF rfl ?_
        refine e_skip ?_
        refine e_seq ?_
        refine e_region ?_
        refine w_val (v_move rfl) rfl ?_
        refine w_op rfl ?_
        refine x_call (dst := some 85) (mc := []) (σ := Value) (fun _ => True) (fun s => .tuple #[s, .int .i64 (endAt (L.take m) m : Int)]) (fun s => [Own s 5 1 (bytesOf (L.take m)).length (byteCells (bytesOf (L.take m)))]) rfl rfl rfl Try.call22 (fun w hw => logBytes_spec p2 bv2 ev2 (L.take m) m w (LgV.at hw 0 rfl rfl rfl) hokm.bytes) rfl (fun v2 _ => ?_)
        rw [show endAt (L.take m) m = endAt L m from endAt_take (Nat.le_refl _)]
        refine w_val (v_move rfl) rfl ?_
        refine w_val (v_extract rfl rfl) rfl ?_
        refine w_val (v_extract rfl rfl) rfl ?_
        refine w_val (v_assign rfl) rfl ?_
        refine w_val (v_assign rfl) rfl ?_
        refine w_nil ?_
        refine e_seq ?_
        refine e_seq ?_
        refine e_region ?_
        refine w_val (v_move rfl) rfl ?_
        refine w_val (v_move rfl) rfl ?_
        refine w_val (v_is (v' := .bool false) (v_neq rfl rfl) (by rw [decide_eq_false (fun h => h rfl)])) rfl ?_
        refine w_val (v_move rfl) rfl ?_
        refine w_want rfl rfl ?_
        refine w_val (v_move rfl) rfl ?_
        refine w_want rfl rfl ?_
        refine w_val (v_move rfl) rfl ?_
        refine w_want rfl rfl ?_
        refine w_val (v_move rfl) rfl ?_
        refine w_want rfl rfl ?_
        refine w_val (v_sliceH Try.underlying23 Try.hi5 Try.cz5 rfl rfl (by omega)) rfl ?_
        refine w_want rfl rfl ?_
        refine w_op rfl ?_
        refine x_call0 (v := .bool true) rfl rfl rfl Try.call23 rfl (fun w hw => Calls.boolT e4 (sameBytes_spec _ _ (bytesOf (L.take m)) ((bytesOf L).take (endAt L m)) w (own_rds (hw.mem (i := 0) rfl)) (by have := IsBytes.slice (lo := 0) (hi := endAt L m) (own_rds (hw.mem (i := 4) rfl)) (by omega) hmB; simpa using this))) ?_
        refine w_want rfl rfl ?_
        refine w_val (v_is (v' := .bool false) (v_not rfl) (by rfl)) rfl ?_
        first | refine w_val (v_pickT rfl rfl) rfl ?_ | refine w_val (v_pickF rfl rfl) rfl ?_
        refine w_val (v_move rfl) rfl ?_
        refine w_want rfl rfl ?_
        refine w_val (v_move rfl) rfl ?_
        refine w_want rfl rfl ?_
        refine w_op rfl ?_
        refine x_call0 (v := .int .i64 (m : Int)) rfl rfl rfl Try.call19 rfl (fun w hw => logSure_spec p2 bv2 ev2 (L.take m) m w (LgV.at hw 1 rfl rfl rfl) hokm.len hokm.sure) ?_
        refine w_want rfl rfl ?_
        refine w_val (v_move rfl) rfl ?_
        refine w_want rfl rfl ?_
        refine w_op rfl ?_
        refine x_call0 (v := .int .i64 (m : Int)) rfl rfl rfl Try.call18 rfl (fun w hw => by have := logLen_spec p2 bv2 ev2 (L.take m) m w (LgV.at hw 1 rfl rfl rfl); rwa [e3] at this) ?_
        refine w_want rfl rfl ?_
        refine w_val (v_is (v' := .bool false) (v_neq rfl rfl) (by rw [decide_eq_false (fun h => h rfl)])) rfl ?_
        first | refine w_val (v_pickT rfl rfl) rfl ?_ | refine w_val (v_pickF rfl rfl) rfl ?_
        refine w_nil ?_
        refine e_condF rfl ?_
        refine e_skip ?_
        refine e_seq ?_
        refine e_seq ?_
        refine e_region ?_
        refine w_val (v_assign rfl) rfl ?_
        refine w_nil ?_
        refine e_block ?_
        refine e_loopK (σ := Nat) [2, 7, 8, 10, 12, 13] (.cons rfl (.cons rfl (.cons rfl (.cons rfl (.cons rfl (.cons rfl .nil)))))) (fun i => [(17, .int .i64 (i : Int))]) (fun i => i ≤ m) (fun i => m - i) 0 (by omega) (by repeat (first | exact Sub.nil _ | refine Sub.cons rfl ?_)) ?_
        rintro i hi
        refine e_seq ?_
        refine e_seq ?_
        refine e_region ?_
        refine w_val (v_move rfl) rfl ?_
        refine w_val (v_move rfl) rfl ?_
        refine w_op rfl ?_
        refine x_call0 (v := .int .i64 (m : Int)) rfl rfl rfl Try.call18 rfl (fun w hw => by have := logLen_spec p2 bv2 ev2 (L.take m) m w (LgV.at hw 1 rfl rfl rfl); rwa [e3] at this) ?_
        refine w_val (v_lss rfl rfl) rfl ?_
        refine w_nil ?_
        refine e_condD rfl (fun hlt5 => ?_) (fun hlt5 => ?_)
        · have hi' : i < L.length := by omega
          have hi2 : i < (L.take m).length := by omega
          have hget : (L.take m)[i] = L[i] := by rw [List.getElem_take]
          have hsm := small_of (hok.all L[i] (List.getElem_mem _)).1
          have hr2 := fun (w : World) h => logRound_spec p2 bv2 ev2 (L.take m) m i w h hokm hi2
          rw [hget] at hr2
          generalize hLi : L[i] = r at *
          refine e_skip ?_
          refine e_seq ?_
          refine e_block ?_
          refine e_seq ?_
          refine e_region ?_
          refine w_val (v_move rfl) rfl ?_
          refine w_val (v_move rfl) rfl ?_
          refine w_op rfl ?_
          refine x_call (dst := some 115) (mc := []) (σ := Value × (Nat → Prop)) (fun _ => True) (fun s => .tuple #[s.1, .bool true]) (fun s => [Keep s.2 (fun c => IsRound c s.1 r)]) rfl rfl rfl Try.call20 (fun w hw => hr2 w (LgV.at hw 1 rfl rfl rfl)) rfl (fun s _ => ?_)
          obtain ⟨sl3, G3⟩ := s
          dsimp only
          refine w_val (v_move rfl) rfl ?_
          refine w_val (v_extract rfl rfl) rfl ?_
          refine w_val (v_extract rfl rfl) rfl ?_
          refine w_val (v_assign rfl) rfl ?_
          refine w_val (v_assign rfl) rfl ?_
          refine w_nil ?_
          refine e_seq ?_
          refine e_region ?_
          refine w_val (v_move rfl) rfl ?_
          refine w_val (v_move rfl) rfl ?_
          refine w_op rfl ?_
          refine x_call (dst := some 121) (mc := []) (σ := Value × (Nat → Prop)) (fun _ => True) (fun s => .tuple #[s.1, .bool true]) (fun s => [Keep s.2 (fun c => IsRound c s.1 r)]) rfl rfl rfl Try.call20 (fun w hw => by have := logRound_spec p bv ev L k i w (LgV.at hw 6 rfl rfl rfl) hok hi'; rwa [hLi] at this) rfl (fun s _ => ?_)
          obtain ⟨sl4, G4⟩ := s
          dsimp only
          refine w_val (v_move rfl) rfl ?_
          refine w_val (v_extract rfl rfl) rfl ?_
          refine w_val (v_extract rfl rfl) rfl ?_
          refine w_val (v_assign rfl) rfl ?_
          refine w_val (v_assign rfl) rfl ?_
          refine w_nil ?_
          refine e_seq ?_
          refine e_region ?_
          refine w_val (v_move rfl) rfl ?_
          refine w_val (v_is (v' := .bool false) (v_not rfl) (by rfl)) rfl ?_
          refine w_val (v_move rfl) rfl ?_
          refine w_want rfl rfl ?_
          refine w_val (v_move rfl) rfl ?_
          refine w_want rfl rfl ?_
          refine w_val (v_is (v' := .bool false) (v_not rfl) (by rfl)) rfl ?_
          first | refine w_val (v_pickT rfl rfl) rfl ?_ | refine w_val (v_pickF rfl rfl) rfl ?_
          refine w_val (v_move rfl) rfl ?_
          refine w_want rfl rfl ?_
          refine w_val (v_move rfl) rfl ?_
          refine w_want rfl rfl ?_
          refine w_val (v_move rfl) rfl ?_
          refine w_want rfl rfl ?_
          refine w_op rfl ?_
          refine x_call0 (v := .bool true) rfl rfl rfl Try.call21 rfl (fun w hw => Calls.boolT rfl (sameRound_spec _ _ r r w (keep_all (IsRound.up _ _) (hw.mem (i := 1) rfl)) (keep_all (IsRound.up _ _) (hw.mem (i := 0) rfl)) (by omega) (fun d hd => by have := hsm.2 d hd; omega))) ?_
          refine w_want rfl rfl ?_
          refine w_val (v_is (v' := .bool false) (v_not rfl) (by rfl)) rfl ?_
          first | refine w_val (v_pickT rfl rfl) rfl ?_ | refine w_val (v_pickF rfl rfl) rfl ?_
          refine w_nil ?_
          refine e_condF rfl ?_
          refine e_skip ?_
          refine e_blk ?_
          refine e_region ?_
          refine w_val (v_move rfl) rfl ?_
          first | refine w_val (v_add rfl rfl (by omega)) rfl ?_ | refine w_val (v_addw rfl rfl) rfl ?_
          refine w_val (v_assign rfl) rfl ?_
          refine w_nil ?_
          exact e_round (i + 1) (by omega) (by omega) (by repeat (first | exact Sub.nil _ | refine Sub.cons rfl ?_)) (fun _ hw => hw.sub (.cons _ (.cons _ (List.Sublist.refl _))))
        · refine e_exit rfl ?_
          refine e_seq ?_
          refine e_seq ?_
          refine e_cutK (σ := Unit) [2, 7, 10] (.cons rfl (.cons rfl (.cons rfl .nil))) (fun _ => [(150, .bool false)]) (fun _ => True) ?_ ?_
          · by_cases hml : m < L.length
            · have hc1 := fun (w1 : World) (hw : ∀ c ∈ scH b35 lv L k vs G0, c.holds w1) => own_shape (scBytes_spec b35 lv L k vs (m + 1) w1 (ScV.of hw) (by omega) hok)
              have e5 : (bytesOf (L.take (m + 1))).length = endAt L (m + 1) := rfl
              rw [e5] at hc1
              have hk4 := hm4 hml
              refine e_region ?_
              refine w_val (v_move rfl) rfl ?_
              refine w_op rfl ?_
              refine x_call0 (v := .int .i64 (m : Int)) rfl rfl rfl Try.call18 rfl (fun w hw => by have := logLen_spec p2 bv2 ev2 (L.take m) m w (LgV.at hw 1 rfl rfl rfl); rwa [e3] at this) ?_
              refine w_val (v_move rfl) rfl ?_
              refine w_op rfl ?_
              refine x_call0 (v := .int .i64 (L.length : Int)) rfl rfl rfl Try.call18 rfl (fun w hw => logLen_spec p bv ev L k w (LgV.at hw 5 rfl rfl rfl)) ?_
              refine w_val (v_is (v' := .bool true) (v_lss rfl rfl) (by rw [decide_eq_true (by omega)])) rfl ?_
              refine w_val (v_move rfl) rfl ?_
              refine w_want rfl rfl ?_
              refine w_val (v_move rfl) rfl ?_
              refine w_want rfl rfl ?_
              refine w_val (v_move rfl) rfl ?_
              refine w_want rfl rfl ?_
              refine w_op rfl ?_
              refine x_call0 (v := .int .i64 (m : Int)) rfl rfl rfl Try.call18 rfl (fun w hw => by have := logLen_spec p2 bv2 ev2 (L.take m) m w (LgV.at hw 1 rfl rfl rfl); rwa [e3] at this) ?_
              refine w_want rfl rfl ?_
              first | refine w_val (v_add rfl rfl (by omega)) rfl ?_ | refine w_val (v_addw rfl rfl) rfl ?_
              refine w_want rfl rfl ?_
              refine w_op rfl ?_
              refine x_call (dst := some 146) (mc := []) (σ := (Option Addr × Nat)) (fun _ => True) (fun sl => .slice sl.1 (endAt L (m + 1)) sl.2) (fun sl => [Own (.slice sl.1 (endAt L (m + 1)) sl.2) 5 1 (endAt L (m + 1)) (byteCells (bytesOf (L.take (m + 1))))]) rfl rfl rfl Try.call24 (fun w hw => hc1 w (fun c hc => hw.hold c (List.mem_cons_of_mem _ (List.mem_cons_of_mem _ (List.mem_cons_of_mem _ (List.mem_cons_of_mem _ (List.mem_cons_of_mem _ (List.mem_cons_of_mem _ (List.mem_cons_of_mem _ (List.mem_cons_of_mem _ hc)))))))))) rfl (fun sl1 _ => ?_)
              refine w_want rfl rfl ?_
              refine w_val (v_lenS Try.underlying23 rfl) rfl ?_
              refine w_want rfl rfl ?_
              refine w_val (v_move rfl) rfl ?_
              refine w_want rfl rfl ?_
              refine w_val (v_is (v' := .bool false) (v_leq rfl rfl) (by rw [decide_eq_false (by omega)])) rfl ?_
              first | refine w_val (v_pickT rfl rfl) rfl ?_ | refine w_val (v_pickF rfl rfl) rfl ?_
              refine w_nil ?_
              exact e_cutEnd (()) (trivial) (by repeat (first | exact Sub.nil _ | refine Sub.cons rfl ?_)) (fun _ hw => hw.sub (List.sublist_cons_self _ _))
            · refine e_region ?_
              refine w_val (v_move rfl) rfl ?_
              refine w_op rfl ?_
              refine x_call0 (v := .int .i64 (m : Int)) rfl rfl rfl Try.call18 rfl (fun w hw => by have := logLen_spec p2 bv2 ev2 (L.take m) m w (LgV.at hw 1 rfl rfl rfl); rwa [e3] at this) ?_
              refine w_val (v_move rfl) rfl ?_
              refine w_op rfl ?_
              refine x_call0 (v := .int .i64 (L.length : Int)) rfl rfl rfl Try.call18 rfl (fun w hw => logLen_spec p bv ev L k w (LgV.at hw 5 rfl rfl rfl)) ?_
              refine w_val (v_is (v' := .bool false) (v_lss rfl rfl) (by rw [decide_eq_false (by omega)])) rfl ?_
              refine w_val (v_move rfl) rfl ?_
              refine w_skip rfl rfl rfl rfl ?_
              refine w_skip rfl rfl rfl rfl ?_
              refine w_skip rfl rfl rfl rfl ?_
              refine w_skip rfl rfl rfl rfl ?_
              refine w_skip rfl rfl rfl rfl ?_
              refine w_skip rfl rfl rfl rfl ?_
              refine w_skip rfl rfl rfl rfl ?_
              refine w_skip rfl rfl rfl rfl ?_
              first | refine w_val (v_pickT rfl rfl) rfl ?_ | refine w_val (v_pickF rfl rfl) rfl ?_
              refine w_nil ?_
              exact e_cutEnd (()) (trivial) (by repeat (first | exact Sub.nil _ | refine Sub.cons rfl ?_)) (fun _ hw => hw)
          · rintro - -
            refine e_condF rfl ?_
            have hlenb : (bytesOf L ++ more).length ≤ 100000 := by rw [List.length_append]; omega
            have hopz := openL_run (logOk0 hok) more
            obtain ⟨X, hX⟩ := openF_grows (26 - L.length) more L
            rw [hX] at hopz
            refine e_skip ?_
            refine e_seq ?_
            refine e_region ?_
            refine w_val (v_move rfl) rfl ?_
            refine w_heap (fun _ hw => hw.ownNil 5 1) ?_
            refine w_op rfl ?_
            refine x_appendI (z := .int .u8 0) (n := 0) (xs := []) (size := 1) (bytes := 1) (k := (bytesOf L).length) (news := byteCells (bytesOf L)) 0 rfl rfl rfl Try.underlying23 (by kernel_rfl) rfl (by decide) (fun w hw => own_rds (hw.mem (i := 5) rfl)) (one_byteCells _) (by omega) (by simp only [maxLen]; omega) rfl (fun v153 => ?_)
            refine w_val (v_move rfl) rfl ?_
            refine w_op rfl ?_
            refine x_appendI (z := .int .u8 0) (n := 0 + (bytesOf L).length) (xs := [] ++ byteCells (bytesOf L)) (size := 1) (bytes := 1) (k := more.length) (news := byteCells more) 0 rfl rfl rfl Try.underlying23 (by kernel_rfl) rfl (by decide) (fun w hw => IsBytes.mono hw.off hb) (one_byteCells _) (by omega) (by simp only [maxLen]; omega) rfl (fun v155 => ?_)
            refine g_heap (m' := [Own v155 5 1 (bytesOf L ++ more).length (byteCells (bytesOf L ++ more))] ++ lsH p b35 ⟨bv, ev, lv, vs, G0⟩ L k) (fun _ hw => by
              simp only [List.set_cons_zero, List.nil_append, Nat.zero_add] at hw
              rw [byteCells_app, List.length_append]
              exact hw.sub (.cons_cons _ (.cons _ (.cons _ (.cons _ (.cons _ (.cons _ (List.Sublist.refl _)))))))) ?_
            refine g_shape 0 rfl fun A3 k3 hv3 hk3 => ?_
            subst hv3
            have hop2 := fun (vv : Value) (w1 : World) (h : IsBytes w1.cell? vv (bytesOf L ++ more)) => logOpen_spec vv (bytesOf L ++ more) w1 h hlenb
            rw [hopz] at hop2
            refine w_op rfl ?_
            refine x_call (dst := some 156) (mc := []) (σ := Nat × Value × Value) (fun _ => True) (fun s => .tuple #[.pointer (some ⟨s.1, 0, none⟩), .int .i64 ((bytesOf (L ++ X)).length : Int)]) (fun s => lgH s.1 s.2.1 s.2.2 (L ++ X) (L ++ X).length) rfl rfl rfl Try.call25 (fun w hw => hop2 _ w (own_rds (hw.mem (i := 0) rfl))) rfl (fun q _ => ?_)
            obtain ⟨p3, bv3, ev3⟩ := q
            dsimp only
            have e6 : (bytesOf (L ++ X)).length = (bytesOf L).length + (bytesOf X).length := by rw [bytesOf_app, List.length_append]
            have e7 : (L ++ X).length = L.length + X.length := List.length_append
            refine w_val (v_move rfl) rfl ?_
            refine w_val (v_extract rfl rfl) rfl ?_
            refine w_val (v_extract rfl rfl) rfl ?_
            refine w_val (v_assign rfl) rfl ?_
            refine w_val (v_assign rfl) rfl ?_
            refine w_nil ?_
            refine e_seq ?_
            refine e_region ?_
            refine w_val (v_move rfl) rfl ?_
            refine w_val (v_is (v' := .bool true) (v_neqPtr Try.underlying26 rfl rfl) (by rfl)) rfl ?_
            refine w_val (v_move rfl) rfl ?_
            refine w_want rfl rfl ?_
            refine w_val (v_move rfl) rfl ?_
            refine w_want rfl rfl ?_
            refine w_val (v_move rfl) rfl ?_
            refine w_want rfl rfl ?_
            refine w_val (v_lenS Try.underlying23 rfl) rfl ?_
            refine w_want rfl rfl ?_
            refine w_val (v_is (v' := .bool true) (v_geq rfl rfl) (by rw [decide_eq_true (by omega)])) rfl ?_
            first | refine w_val (v_pickT rfl rfl) rfl ?_ | refine w_val (v_pickF rfl rfl) rfl ?_
            refine w_val (v_move rfl) rfl ?_
            refine w_want rfl rfl ?_
            refine w_val (v_move rfl) rfl ?_
            refine w_want rfl rfl ?_
            refine w_op rfl ?_
            refine x_call0 (v := .int .i64 ((L ++ X).length : Int)) rfl rfl rfl Try.call18 rfl (fun w hw => logLen_spec p3 bv3 ev3 (L ++ X) (L ++ X).length w (LgV.at hw 0 rfl rfl rfl)) ?_
            refine w_want rfl rfl ?_
            refine w_val (v_move rfl) rfl ?_
            refine w_want rfl rfl ?_
            refine w_op rfl ?_
            refine x_call0 (v := .int .i64 (L.length : Int)) rfl rfl rfl Try.call18 rfl (fun w hw => logLen_spec p bv ev L k w (LgV.at hw 4 rfl rfl rfl)) ?_
            refine w_want rfl rfl ?_
            refine w_val (v_is (v' := .bool true) (v_geq rfl rfl) (by rw [decide_eq_true (by omega)])) rfl ?_
            first | refine w_val (v_pickT rfl rfl) rfl ?_ | refine w_val (v_pickF rfl rfl) rfl ?_
            refine w_val (v_assign rfl) rfl ?_
            refine w_nil ?_
            refine e_retQ (q_ret1 rfl (.tmp rfl) ?_)
            exact fun w' hw' => ⟨rfl, hw'.res.nil⟩
end Go.SL

