/- Ytebdkaadbakhlab: part WA of this seat's own texts. -/
import Derived.Test.YtebdkaadbakhlabW4
import Derived.Test.YtebdkaadbakhlabP4
import Derived.Test.YtebdkaadbakhlabW7
import Derived.Test.YtebdkaadbakhlabW8
set_option linter.unusedVariables false
set_option linter.unusedSimpArgs false
section
open Go Go.Proofs Go.SL
set_option maxRecDepth 100000
namespace Go.SL
theorem in64_byte (x : UInt8) : In64 (x.toNat : Int) := by have := x.toNat_lt; unfold In64; omega
theorem in64_wrap (m : Int) : In64 (IntKind.i64.wrap m) := by have := w64_range m; unfold In64; omega
theorem getOp_in : ∀ {b b' : List UInt8} {o : OpL}, getOp b = some (o, b') → OpIn o
  | [], _, _, h => by simp [getOp] at h
  | k :: b, b', o, h => by
    simp only [getOp] at h
    by_cases hk : k = 1
    · subst hk
      simp only [if_true] at h
      split at h
      · simp only [Option.some.injEq, Prod.mk.injEq] at h
        obtain ⟨rfl, rfl⟩ := h
        exact ⟨by unfold In64; dsimp only; omega, in64_byte _, by unfold In64; dsimp only; omega, by unfold In64; dsimp only; omega, in64_wrap _⟩
      · cases h
    · rw [if_neg hk] at h
      split at h
      · rename_i x c rest
        simp only [Option.some.injEq, Prod.mk.injEq] at h
        obtain ⟨rfl, rfl⟩ := h
        have := x.toNat_lt
        exact ⟨in64_byte _, by unfold In64; dsimp only; omega, by unfold In64; dsimp only; omega, in64_byte _, by unfold In64; dsimp only; omega⟩
      · cases h
theorem getOps_in : ∀ {n : Nat} {b b' : List UInt8} {d : DeedL}, getOps n b = some (d, b') → ∀ o ∈ d, OpIn o
  | 0, b, b', d, h => by
    simp only [getOps, Option.some.injEq, Prod.mk.injEq] at h
    obtain ⟨rfl, rfl⟩ := h
    intro o ho; simp at ho
  | n + 1, b, b', d, h => by
    simp only [getOps] at h
    cases h1 : getOp b with
    | none => rw [h1] at h; cases h
    | some p =>
      obtain ⟨o, b1⟩ := p
      rw [h1] at h
      dsimp only at h
      cases h2 : getOps n b1 with
      | none => rw [h2] at h; cases h
      | some p =>
        obtain ⟨d', b2⟩ := p
        rw [h2] at h
        simp only [Option.some.injEq, Prod.mk.injEq] at h
        obtain ⟨rfl, rfl⟩ := h
        intro o' ho'
        rcases List.mem_cons.1 ho' with rfl | ho'
        · exact getOp_in h1
        · exact getOps_in h2 o' ho'
theorem getDeeds_in : ∀ {n : Nat} {b b' : List UInt8} {r : RoundL}, getDeeds n b = some (r, b') → ∀ d ∈ r, ∀ o ∈ d, OpIn o
  | 0, b, b', d, h => by
    simp only [getDeeds, Option.some.injEq, Prod.mk.injEq] at h
    obtain ⟨rfl, rfl⟩ := h
    intro o ho; simp at ho
  | n + 1, b, b', d, h => by
    simp only [getDeeds] at h
    cases h1 : getDeed b with
    | none => rw [h1] at h; cases h
    | some p =>
      obtain ⟨o, b1⟩ := p
      rw [h1] at h
      dsimp only at h
      cases h2 : getDeeds n b1 with
      | none => rw [h2] at h; cases h
      | some p =>
        obtain ⟨d', b2⟩ := p
        rw [h2] at h
        simp only [Option.some.injEq, Prod.mk.injEq] at h
        obtain ⟨rfl, rfl⟩ := h
        intro o' ho'
        rcases List.mem_cons.1 ho' with rfl | ho'
        · cases b with
          | nil => cases h1
          | cons x b => exact getOps_in h1
        · exact getDeeds_in h2 o' ho'
theorem getRound_in {b b' : List UInt8} {r : RoundL} (h : getRound b = some (r, b')) : ∀ d ∈ r, ∀ o ∈ d, OpIn o := by
  cases b with
  | nil => cases h
  | cons x b => exact getDeeds_in h
theorem decL_in (bs : List UInt8) : ∀ d ∈ (decL roundFaultL bs).1, ∀ o ∈ d, OpIn o := by
  have hB : ∀ b : List UInt8, ∀ d ∈ (bodyL roundFaultL b).1, ∀ o ∈ d, OpIn o := by
    intro b
    unfold bodyL
    cases h : getRound b with
    | none => intro d hd; simp at hd
    | some p =>
      obtain ⟨r, rest⟩ := p
      dsimp only
      by_cases h1 : rest ≠ []
      · rw [if_pos h1]; intro d hd; simp at hd
      · rw [if_neg h1]
        by_cases h2 : roundFaultL r ≠ 0
        · rw [if_pos h2]; intro d hd; simp at hd
        · rw [if_neg h2]; exact getRound_in h
  unfold decL
  by_cases h1 : bs.length < 2
  · rw [if_pos h1]; intro d hd; simp at hd
  · rw [if_neg h1]
    by_cases h2 : bs.length < headN bs
    · rw [if_pos h2]; intro d hd; simp at hd
    · rw [if_neg h2]
      by_cases h3 : (bodyL roundFaultL ((bs.take (headN bs)).drop 2)).2 ≠ 0
      · rw [if_pos h3]; intro d hd; simp at hd
      · rw [if_neg h3]; exact hB _
theorem u64_rem' (x : Int) {m : Nat} (hm : 0 < m) : ∃ k : Nat, k < m ∧ (IntKind.u64.wrap x).tmod m = k := by
  have h0 := u64_nonneg x
  have h1 := Int.tmod_nonneg (m : Int) h0
  have h2 := Int.tmod_lt_of_pos (IntKind.u64.wrap x) (show (0 : Int) < m by omega)
  exact ⟨((IntKind.u64.wrap x).tmod m).toNat, by omega, by omega⟩
end Go.SL
end
section
open Go Go.Proofs Go.SL
set_option maxRecDepth 100000
namespace Go.SL
/-- the rounds with which bytes begin, behind those that are there -/
def openF : Nat → List UInt8 → List RoundL → List RoundL
  | 0, _, L => L
  | n + 1, b, L => if (decL roundFaultL b).2.2 ≠ 0 then L else if (putL L (decL roundFaultL b).1).2.2 ≠ 0 then L else openF n (b.drop (encL (decL roundFaultL b).1).length) (putL L (decL roundFaultL b).1).1
def openL (b : List UInt8) : List RoundL := openF 26 b []
theorem openF_dec {n : Nat} {b : List UInt8} {L : List RoundL} (h : (decL roundFaultL b).2.2 ≠ 0) : openF (n + 1) b L = L := by simp only [openF]; rw [if_pos h]
theorem openF_put {n : Nat} {b : List UInt8} {L : List RoundL} (h : ¬ (decL roundFaultL b).2.2 ≠ 0) (h2 : (putL L (decL roundFaultL b).1).2.2 ≠ 0) : openF (n + 1) b L = L := by simp only [openF]; rw [if_neg h, if_pos h2]
theorem openF_go {n : Nat} {b : List UInt8} {L : List RoundL} (h : ¬ (decL roundFaultL b).2.2 ≠ 0) (h2 : putL L (decL roundFaultL b).1 = (L ++ [(decL roundFaultL b).1], (L.length : Int), 0)) : openF (n + 1) b L = openF n (b.drop (encL (decL roundFaultL b).1).length) (L ++ [(decL roundFaultL b).1]) := by
  simp only [openF]
  rw [if_neg h, h2, if_neg (by simp)]
/-- where an opening stands: L are rounds with which b begins -/
structure OpenAt (b : List UInt8) (L : List RoundL) : Prop where
  ok : LogOk L 0
  le : (bytesOf L).length ≤ b.length
  pre : b.take (bytesOf L).length = bytesOf L
  rel : openF (26 - L.length) (b.drop (bytesOf L).length) L = openL b
theorem OpenAt.start (b : List UInt8) : OpenAt b [] := ⟨lbOk0, by simp [bytesOf], by simp [bytesOf], by simp [bytesOf, openL]⟩
theorem OpenAt.stop {b : List UInt8} {L : List RoundL} (h : OpenAt b L) (hs : (decL roundFaultL (b.drop (bytesOf L).length)).2.2 ≠ 0 ∨ (putL L (decL roundFaultL (b.drop (bytesOf L).length)).1).2.2 ≠ 0) : L = openL b := by
  have h25 := h.ok.len
  have h1 := h.rel
  rw [show 26 - L.length = (25 - L.length) + 1 from by omega] at h1
  by_cases hd : (decL roundFaultL (b.drop (bytesOf L).length)).2.2 ≠ 0
  · rw [openF_dec hd] at h1; exact h1
  · rcases hs with hs | hs
    · exact absurd hs hd
    · rw [openF_put hd hs] at h1; exact h1
theorem OpenAt.next {b : List UInt8} {L : List RoundL} (h : OpenAt b L) (hd : ¬ (decL roundFaultL (b.drop (bytesOf L).length)).2.2 ≠ 0) (hp : putL L (decL roundFaultL (b.drop (bytesOf L).length)).1 = (L ++ [(decL roundFaultL (b.drop (bytesOf L).length)).1], (L.length : Int), 0)) :
    OpenAt b (L ++ [(decL roundFaultL (b.drop (bytesOf L).length)).1]) ∧ (decL roundFaultL (b.drop (bytesOf L).length)).2.1 = (encL (decL roundFaultL (b.drop (bytesOf L).length)).1).length := by
  have hin := decL_in (b.drop (bytesOf L).length)
  have h1 := h.rel
  have h25 := h.ok.len
  have hok := putL_logOk h.ok hin
  rw [hp] at hok
  have hlen : L.length ≤ 24 := by have := hok.len; simp at this; omega
  rw [show 26 - L.length = (25 - L.length) + 1 from by omega, openF_go hd hp] at h1
  have h0 : decL roundFaultL (b.drop (bytesOf L).length) = ((decL roundFaultL (b.drop (bytesOf L).length)).1, (decL roundFaultL (b.drop (bytesOf L).length)).2.1, 0) := by
    simp only [ne_eq, Decidable.not_not] at hd
    rw [← hd]
  obtain ⟨_, h3, h4, h5⟩ := enc_dec roundFaultL h0
  generalize (decL roundFaultL (b.drop (bytesOf L).length)).1 = z at *
  have e2 : (bytesOf (L ++ [z])).length = (bytesOf L).length + (encL z).length := by rw [bytesOf_app, bytesOf_one, List.length_append]
  have hle := h.le
  rw [List.length_drop] at h4
  refine ⟨⟨hok, by omega, ?_, ?_⟩, h3⟩
  · rw [e2, List.take_add, h.pre, bytesOf_app, bytesOf_one, ← h5]
  · rw [e2, ← List.drop_drop, show 26 - (L ++ [z]).length = 25 - L.length from by simp]
    exact h1
theorem openF_small : ∀ (n : Nat) (b : List UInt8) (L : List RoundL), LogOk L 0 → LogOk (openF n b L) 0
  | 0, _, L, h => h
  | n + 1, b, L, h => by
    simp only [openF]
    split
    · exact h
    · split
      · exact h
      · exact openF_small n _ _ (putL_logOk h (decL_in b))
theorem openL_ok (b : List UInt8) : LogOk (openL b) 0 := openF_small 26 b [] lbOk0
theorem logOpen_spec (v : Value) (b : List UInt8) (w : World) (h : IsBytes w.cell? v b) (hb : b.length ≤ 100000) :
    Calls Try.prog 25 #[v] w fun e w' => ∃ s : Nat × Value × Value, True ∧ e = .returned (.tuple #[.pointer (some ⟨s.1, 0, none⟩), .int .i64 ((bytesOf (openL b)).length : Int)]) ∧ Res w [] (lgH s.1 s.2.1 s.2.2 (openL b) (openL b).length) w' := by
  rw [← off_none w] at h
  have h0 := h
  obtain ⟨Ab, kb, rfl, hkb, _, _⟩ := h0
  refine enter0 (N := 41) Try.func25 rfl rfl rfl ?_
  refine e_seq ?_
  refine e_region ?_
  refine w_val (v_assign rfl) rfl ?_
  refine w_val (v_assign rfl) rfl ?_
  refine w_nil ?_
  refine e_seq ?_
  refine e_region ?_
  refine w_op rfl ?_
  refine x_call (dst := some 10) (mc := []) (mr := []) (σ := Nat) (fun _ => True) (fun p => .pointer (some ⟨p, 0, none⟩)) (fun p => lgH p (.slice none 0 0) (.slice none 0 0) [] 0) rfl rfl rfl Try.call16 (fun w hw => logNew_spec w) rfl (fun p _ => ?_)
  refine w_val (v_assign rfl) rfl ?_
  refine w_nil ?_
  refine e_seq ?_
  refine e_block ?_
  refine e_loopH (σ := Value × Value × List RoundL) [0, 4] (.cons rfl (.cons rfl .nil)) (fun x => []) (fun x => lgH p x.1 x.2.1 x.2.2 0) (fun x => OpenAt b x.2.2) (fun x => 26 - x.2.2.length) (.slice none 0 0, .slice none 0 0, []) (OpenAt.start b) (by repeat (first | exact Sub.nil _ | refine Sub.cons rfl ?_)) (fun _ hw => hw) ?_
  rintro ⟨bv, ev, L⟩ hO
  dsimp only at hO ⊢
  have hle := hO.le
  have hBm := hO.ok.bytes
  have h25 := hO.ok.len
  refine g_shapeR2 1 rfl fun Al kl hlv hkl _ => ?_
  subst hlv
  have hsl := IsBytes.slice (lo := (bytesOf L).length) (hi := b.length) h hle (Nat.le_refl _)
  rw [show (b.drop (bytesOf L).length).take (b.length - (bytesOf L).length) = b.drop (bytesOf L).length from List.take_of_length_le (by simp)] at hsl
  have hcD := fun (w1 : World) (hl : Le (off w (feet [])) w1.cell?) => Decode_spec _ (b.drop (bytesOf L).length) w1 (hsl.mono hl)
  have hstop := hO.stop
  have hnext := hO.next
  have hin := decL_in (b.drop (bytesOf L).length)
  generalize decL roundFaultL (b.drop (bytesOf L).length) = X at *
  obtain ⟨z, nz, c⟩ := X
  dsimp only at hcD hstop hnext hin
  refine e_block ?_
  refine e_seq ?_
  refine e_region ?_
  refine w_val (v_move rfl) rfl ?_
  refine w_val (v_move rfl) rfl ?_
  refine w_val (v_nilCheck rfl) rfl ?_
  first | refine w_val (v_fieldAddrB (o := 0) Try.underlying118 rfl rfl Try.nz23 rfl) rfl ?_ | refine w_val (v_fieldAddr (o := 0) Try.underlying118 rfl rfl Try.nz23 rfl) rfl ?_
  first | refine w_val (v_loadB 0 rfl Try.underlying23 rfl rfl rfl) rfl ?_ | refine w_val (v_loadB 1 rfl Try.underlying23 rfl rfl rfl) rfl ?_ | refine w_val (v_loadB 2 rfl Try.underlying23 rfl rfl rfl) rfl ?_ | refine w_val (v_loadB 3 rfl Try.underlying23 rfl rfl rfl) rfl ?_ | refine w_val (v_loadB 4 rfl Try.underlying23 rfl rfl rfl) rfl ?_ | refine w_val (v_loadB 5 rfl Try.underlying23 rfl rfl rfl) rfl ?_ | refine w_val (v_loadB 6 rfl Try.underlying23 rfl rfl rfl) rfl ?_ | refine w_val (v_loadB 7 rfl Try.underlying23 rfl rfl rfl) rfl ?_ | refine w_val (v_loadB 8 rfl Try.underlying23 rfl rfl rfl) rfl ?_ | refine w_val (v_loadB 9 rfl Try.underlying23 rfl rfl rfl) rfl ?_ | refine w_val (v_loadB 10 rfl Try.underlying23 rfl rfl rfl) rfl ?_ | refine w_val (v_loadB 11 rfl Try.underlying23 rfl rfl rfl) rfl ?_
  refine w_val (v_lenS Try.underlying23 rfl) rfl ?_
  refine w_val (v_sliceL Try.underlying23 Try.hi5 Try.cz5 rfl rfl (by omega)) rfl ?_
  refine w_op rfl ?_
  refine x_call (dst := some 19) (mc := []) (σ := Value × (Nat → Prop)) (fun _ => True) (fun s => .tuple #[s.1, .int .i64 nz, .int .i64 c]) (fun s => [Keep s.2 (fun c => IsRound c s.1 z)]) rfl rfl rfl Try.call75 (fun w hw => hcD w hw.off) rfl (fun s _ => ?_)
  obtain ⟨sl, G⟩ := s
  dsimp only
  refine g_heap (m' := lgH p (.slice Al (bytesOf L).length kl) ev L 0 ++ [Keep G (fun c => IsRound c sl z)]) (fun _ hw => hw.perm (List.perm_append_comm (l₁ := [_]))) ?_
  refine w_val (v_move rfl) rfl ?_
  refine w_val (v_extract rfl rfl) rfl ?_
  refine w_val (v_extract rfl rfl) rfl ?_
  refine w_val (v_extract rfl rfl) rfl ?_
  refine w_val (v_assign rfl) rfl ?_
  refine w_val (v_assign rfl) rfl ?_
  refine w_val (v_assign rfl) rfl ?_
  refine w_nil ?_
  refine e_seq ?_
  refine e_seq ?_
  refine e_region ?_
  refine w_val (v_move rfl) rfl ?_
  refine w_val (v_neq rfl rfl) rfl ?_
  refine w_nil ?_
  refine e_condD rfl (fun hc => ?_) (fun hc => ?_)
  · have hL := hstop (.inl hc)
    have hlen := hL ▸ h25
    rw [← hL]
    refine e_exit rfl ?_
    refine e_seq ?_
    refine e_region ?_
    refine w_val (v_move rfl) rfl ?_
    refine w_op rfl ?_
    refine x_call (dst := some 34) (mc := [lgB p (.slice Al (bytesOf L).length kl) ev L 0]) (mr := [_, _, _]) (σ := Unit) (fun _ => True) (fun _ => .tuple #[]) (fun _ => [lgB p (.slice Al (bytesOf L).length kl) ev L L.length]) rfl rfl rfl Try.call71 (fun w hw => (logSync_spec p _ ev L 0 w (hw.mem (i := 0) rfl) (hw.mem (i := 1) rfl)).mono (fun e w' h => ⟨(), trivial, h.1, h.2⟩)) rfl (fun _ _ => ?_)
    refine w_nil ?_
    refine e_seq ?_
    refine e_draw ([lgB p (.slice Al (bytesOf L).length kl) ev L L.length]) Try.mixed ?_
    refine a_take 0 pan_cx (by kernel_rfl) (fun _ hw => hw.sub (by repeat (first | exact List.Sublist.slnil | exact List.Sublist.refl _ | apply List.Sublist.cons_cons | apply List.Sublist.cons))) rfl (by kernel_rfl) (by kernel_rfl) (v_move rfl) rfl ?_
    refine a_take 1 pan_cx (by kernel_rfl) (fun _ hw => hw.sub (by repeat (first | exact List.Sublist.slnil | exact List.Sublist.refl _ | apply List.Sublist.cons_cons | apply List.Sublist.cons))) rfl (by kernel_rfl) (by kernel_rfl) (v_move rfl) rfl ?_
    refine a_take 2 pan_cx (by kernel_rfl) (fun _ hw => hw.sub (by repeat (first | exact List.Sublist.slnil | exact List.Sublist.refl _ | apply List.Sublist.cons_cons | apply List.Sublist.cons))) rfl (by kernel_rfl) (by kernel_rfl) (v_nilCheck rfl) rfl ?_
    first | refine a_take 3 pan_cx (by kernel_rfl) (fun _ hw => hw.sub (by repeat (first | exact List.Sublist.slnil | exact List.Sublist.refl _ | apply List.Sublist.cons_cons | apply List.Sublist.cons))) rfl (by kernel_rfl) (by kernel_rfl) (v_fieldAddrB (o := 0) Try.underlying118 rfl rfl Try.nz23 rfl) rfl ?_ | refine a_take 3 pan_cx (by kernel_rfl) (fun _ hw => hw.sub (by repeat (first | exact List.Sublist.slnil | exact List.Sublist.refl _ | apply List.Sublist.cons_cons | apply List.Sublist.cons))) rfl (by kernel_rfl) (by kernel_rfl) (v_fieldAddr (o := 0) Try.underlying118 rfl rfl Try.nz23 rfl) rfl ?_
    first | refine a_take 4 pan_cx (by kernel_rfl) (fun _ hw => hw.sub (by repeat (first | exact List.Sublist.slnil | exact List.Sublist.refl _ | apply List.Sublist.cons_cons | apply List.Sublist.cons))) rfl (by kernel_rfl) (by kernel_rfl) (v_loadB 0 rfl Try.underlying23 rfl rfl rfl) rfl ?_ | refine a_take 4 pan_cx (by kernel_rfl) (fun _ hw => hw.sub (by repeat (first | exact List.Sublist.slnil | exact List.Sublist.refl _ | apply List.Sublist.cons_cons | apply List.Sublist.cons))) rfl (by kernel_rfl) (by kernel_rfl) (v_loadB 1 rfl Try.underlying23 rfl rfl rfl) rfl ?_ | refine a_take 4 pan_cx (by kernel_rfl) (fun _ hw => hw.sub (by repeat (first | exact List.Sublist.slnil | exact List.Sublist.refl _ | apply List.Sublist.cons_cons | apply List.Sublist.cons))) rfl (by kernel_rfl) (by kernel_rfl) (v_loadB 2 rfl Try.underlying23 rfl rfl rfl) rfl ?_ | refine a_take 4 pan_cx (by kernel_rfl) (fun _ hw => hw.sub (by repeat (first | exact List.Sublist.slnil | exact List.Sublist.refl _ | apply List.Sublist.cons_cons | apply List.Sublist.cons))) rfl (by kernel_rfl) (by kernel_rfl) (v_loadB 3 rfl Try.underlying23 rfl rfl rfl) rfl ?_ | refine a_take 4 pan_cx (by kernel_rfl) (fun _ hw => hw.sub (by repeat (first | exact List.Sublist.slnil | exact List.Sublist.refl _ | apply List.Sublist.cons_cons | apply List.Sublist.cons))) rfl (by kernel_rfl) (by kernel_rfl) (v_loadB 4 rfl Try.underlying23 rfl rfl rfl) rfl ?_ | refine a_take 4 pan_cx (by kernel_rfl) (fun _ hw => hw.sub (by repeat (first | exact List.Sublist.slnil | exact List.Sublist.refl _ | apply List.Sublist.cons_cons | apply List.Sublist.cons))) rfl (by kernel_rfl) (by kernel_rfl) (v_loadB 5 rfl Try.underlying23 rfl rfl rfl) rfl ?_ | refine a_take 4 pan_cx (by kernel_rfl) (fun _ hw => hw.sub (by repeat (first | exact List.Sublist.slnil | exact List.Sublist.refl _ | apply List.Sublist.cons_cons | apply List.Sublist.cons))) rfl (by kernel_rfl) (by kernel_rfl) (v_loadB 6 rfl Try.underlying23 rfl rfl rfl) rfl ?_ | refine a_take 4 pan_cx (by kernel_rfl) (fun _ hw => hw.sub (by repeat (first | exact List.Sublist.slnil | exact List.Sublist.refl _ | apply List.Sublist.cons_cons | apply List.Sublist.cons))) rfl (by kernel_rfl) (by kernel_rfl) (v_loadB 7 rfl Try.underlying23 rfl rfl rfl) rfl ?_ | refine a_take 4 pan_cx (by kernel_rfl) (fun _ hw => hw.sub (by repeat (first | exact List.Sublist.slnil | exact List.Sublist.refl _ | apply List.Sublist.cons_cons | apply List.Sublist.cons))) rfl (by kernel_rfl) (by kernel_rfl) (v_loadB 8 rfl Try.underlying23 rfl rfl rfl) rfl ?_ | refine a_take 4 pan_cx (by kernel_rfl) (fun _ hw => hw.sub (by repeat (first | exact List.Sublist.slnil | exact List.Sublist.refl _ | apply List.Sublist.cons_cons | apply List.Sublist.cons))) rfl (by kernel_rfl) (by kernel_rfl) (v_loadB 9 rfl Try.underlying23 rfl rfl rfl) rfl ?_ | refine a_take 4 pan_cx (by kernel_rfl) (fun _ hw => hw.sub (by repeat (first | exact List.Sublist.slnil | exact List.Sublist.refl _ | apply List.Sublist.cons_cons | apply List.Sublist.cons))) rfl (by kernel_rfl) (by kernel_rfl) (v_loadB 10 rfl Try.underlying23 rfl rfl rfl) rfl ?_ | refine a_take 4 pan_cx (by kernel_rfl) (fun _ hw => hw.sub (by repeat (first | exact List.Sublist.slnil | exact List.Sublist.refl _ | apply List.Sublist.cons_cons | apply List.Sublist.cons))) rfl (by kernel_rfl) (by kernel_rfl) (v_loadB 11 rfl Try.underlying23 rfl rfl rfl) rfl ?_
    refine a_take 5 pan_cx (by kernel_rfl) (fun _ hw => hw.sub (by repeat (first | exact List.Sublist.slnil | exact List.Sublist.refl _ | apply List.Sublist.cons_cons | apply List.Sublist.cons))) rfl (by kernel_rfl) (by kernel_rfl) (v_lenS Try.underlying23 rfl) rfl ?_
    refine a_take 6 pan_cx (by kernel_rfl) (fun _ hw => hw.sub (by repeat (first | exact List.Sublist.slnil | exact List.Sublist.refl _ | apply List.Sublist.cons_cons | apply List.Sublist.cons))) rfl (by kernel_rfl) (by kernel_rfl) (v_assign rfl) rfl ?_
    refine a_take 7 pan_cx (by kernel_rfl) (fun _ hw => hw.sub (by repeat (first | exact List.Sublist.slnil | exact List.Sublist.refl _ | apply List.Sublist.cons_cons | apply List.Sublist.cons))) rfl (by kernel_rfl) (by kernel_rfl) (v_assign rfl) rfl ?_
    refine a_done (by kernel_rfl) ?_
    refine e_retQ (q_ret2 rfl (.tmp rfl) (.tmp rfl) ?_)
    exact fun w' hw' => ⟨(p, .slice Al (bytesOf L).length kl, ev), trivial, rfl, (hw'.sub (List.sublist_append_left (lgH p (.slice Al (bytesOf L).length kl) ev L L.length) [_])).res⟩
  · refine e_skip ?_
    refine e_seq ?_
    refine e_region ?_
    refine w_val (v_move rfl) rfl ?_
    refine w_val (v_move rfl) rfl ?_
    refine w_op rfl ?_
    refine x_call (dst := some 28) (mc := lgH p (.slice Al (bytesOf L).length kl) ev L 0) (mr := [_]) (σ := Value × Value) (fun _ => True) (fun _ => .tuple #[.int .i64 (putL L z).2.1, .int .i64 (putL L z).2.2]) (fun y => lgH p y.1 y.2 (putL L z).1 0) rfl rfl rfl Try.call68 (fun w hw => logPut_spec p _ ev L 0 sl z w hw.part.1 hw.part.2 hO.ok (IsRound.mono hw.apart (keep_all (IsRound.up _ _) (hw.partR (Keep G (fun c => IsRound c sl z)) (by simp)))) hin) rfl (fun y _ => ?_)
    rcases putL_code L z with ⟨hc0, hL', hn0⟩ | ⟨hput, hf0⟩
    · have hL := hstop (.inr hc0)
      rw [hL']
      refine g_shapeR2 1 rfl fun Al2 kl2 hlv2 hkl2 _ => ?_
      generalize hy : y = yy at *
      obtain ⟨y1, y2⟩ := yy
      dsimp only at hlv2
      subst hlv2
      dsimp only
      refine w_val (v_move rfl) rfl ?_
      refine w_val (v_extract rfl rfl) rfl ?_
      refine w_val (v_extract rfl rfl) rfl ?_
      refine w_val (v_assign rfl) rfl ?_
      refine w_val (v_assign rfl) rfl ?_
      refine w_nil ?_
      refine e_seq ?_
      refine e_region ?_
      refine w_val (v_move rfl) rfl ?_
      refine w_val (v_neq rfl rfl) rfl ?_
      refine w_nil ?_
      first | refine e_condDT rfl (by omega) ?_ | refine e_condT rfl ?_
      refine e_exit rfl ?_
      refine e_seq ?_
      refine e_region ?_
      refine w_val (v_move rfl) rfl ?_
      refine w_op rfl ?_
      refine x_call (dst := some 34) (mc := [lgB p (.slice Al2 (bytesOf L).length kl2) y2 L 0]) (mr := [_, _, _]) (σ := Unit) (fun _ => True) (fun _ => .tuple #[]) (fun _ => [lgB p (.slice Al2 (bytesOf L).length kl2) y2 L L.length]) rfl rfl rfl Try.call71 (fun w hw => (logSync_spec p _ y2 L 0 w (hw.mem (i := 0) rfl) (hw.mem (i := 1) rfl)).mono (fun e w' h => ⟨(), trivial, h.1, h.2⟩)) rfl (fun _ _ => ?_)
      refine w_nil ?_
      refine e_seq ?_
      refine e_draw ([lgB p (.slice Al2 (bytesOf L).length kl2) y2 L L.length]) Try.mixed ?_
      refine a_take 0 pan_cx (by kernel_rfl) (fun _ hw => hw.sub (by repeat (first | exact List.Sublist.slnil | exact List.Sublist.refl _ | apply List.Sublist.cons_cons | apply List.Sublist.cons))) rfl (by kernel_rfl) (by kernel_rfl) (v_move rfl) rfl ?_
      refine a_take 1 pan_cx (by kernel_rfl) (fun _ hw => hw.sub (by repeat (first | exact List.Sublist.slnil | exact List.Sublist.refl _ | apply List.Sublist.cons_cons | apply List.Sublist.cons))) rfl (by kernel_rfl) (by kernel_rfl) (v_move rfl) rfl ?_
      refine a_take 2 pan_cx (by kernel_rfl) (fun _ hw => hw.sub (by repeat (first | exact List.Sublist.slnil | exact List.Sublist.refl _ | apply List.Sublist.cons_cons | apply List.Sublist.cons))) rfl (by kernel_rfl) (by kernel_rfl) (v_nilCheck rfl) rfl ?_
      first | refine a_take 3 pan_cx (by kernel_rfl) (fun _ hw => hw.sub (by repeat (first | exact List.Sublist.slnil | exact List.Sublist.refl _ | apply List.Sublist.cons_cons | apply List.Sublist.cons))) rfl (by kernel_rfl) (by kernel_rfl) (v_fieldAddrB (o := 0) Try.underlying118 rfl rfl Try.nz23 rfl) rfl ?_ | refine a_take 3 pan_cx (by kernel_rfl) (fun _ hw => hw.sub (by repeat (first | exact List.Sublist.slnil | exact List.Sublist.refl _ | apply List.Sublist.cons_cons | apply List.Sublist.cons))) rfl (by kernel_rfl) (by kernel_rfl) (v_fieldAddr (o := 0) Try.underlying118 rfl rfl Try.nz23 rfl) rfl ?_
      first | refine a_take 4 pan_cx (by kernel_rfl) (fun _ hw => hw.sub (by repeat (first | exact List.Sublist.slnil | exact List.Sublist.refl _ | apply List.Sublist.cons_cons | apply List.Sublist.cons))) rfl (by kernel_rfl) (by kernel_rfl) (v_loadB 0 rfl Try.underlying23 rfl rfl rfl) rfl ?_ | refine a_take 4 pan_cx (by kernel_rfl) (fun _ hw => hw.sub (by repeat (first | exact List.Sublist.slnil | exact List.Sublist.refl _ | apply List.Sublist.cons_cons | apply List.Sublist.cons))) rfl (by kernel_rfl) (by kernel_rfl) (v_loadB 1 rfl Try.underlying23 rfl rfl rfl) rfl ?_ | refine a_take 4 pan_cx (by kernel_rfl) (fun _ hw => hw.sub (by repeat (first | exact List.Sublist.slnil | exact List.Sublist.refl _ | apply List.Sublist.cons_cons | apply List.Sublist.cons))) rfl (by kernel_rfl) (by kernel_rfl) (v_loadB 2 rfl Try.underlying23 rfl rfl rfl) rfl ?_ | refine a_take 4 pan_cx (by kernel_rfl) (fun _ hw => hw.sub (by repeat (first | exact List.Sublist.slnil | exact List.Sublist.refl _ | apply List.Sublist.cons_cons | apply List.Sublist.cons))) rfl (by kernel_rfl) (by kernel_rfl) (v_loadB 3 rfl Try.underlying23 rfl rfl rfl) rfl ?_ | refine a_take 4 pan_cx (by kernel_rfl) (fun _ hw => hw.sub (by repeat (first | exact List.Sublist.slnil | exact List.Sublist.refl _ | apply List.Sublist.cons_cons | apply List.Sublist.cons))) rfl (by kernel_rfl) (by kernel_rfl) (v_loadB 4 rfl Try.underlying23 rfl rfl rfl) rfl ?_ | refine a_take 4 pan_cx (by kernel_rfl) (fun _ hw => hw.sub (by repeat (first | exact List.Sublist.slnil | exact List.Sublist.refl _ | apply List.Sublist.cons_cons | apply List.Sublist.cons))) rfl (by kernel_rfl) (by kernel_rfl) (v_loadB 5 rfl Try.underlying23 rfl rfl rfl) rfl ?_ | refine a_take 4 pan_cx (by kernel_rfl) (fun _ hw => hw.sub (by repeat (first | exact List.Sublist.slnil | exact List.Sublist.refl _ | apply List.Sublist.cons_cons | apply List.Sublist.cons))) rfl (by kernel_rfl) (by kernel_rfl) (v_loadB 6 rfl Try.underlying23 rfl rfl rfl) rfl ?_ | refine a_take 4 pan_cx (by kernel_rfl) (fun _ hw => hw.sub (by repeat (first | exact List.Sublist.slnil | exact List.Sublist.refl _ | apply List.Sublist.cons_cons | apply List.Sublist.cons))) rfl (by kernel_rfl) (by kernel_rfl) (v_loadB 7 rfl Try.underlying23 rfl rfl rfl) rfl ?_ | refine a_take 4 pan_cx (by kernel_rfl) (fun _ hw => hw.sub (by repeat (first | exact List.Sublist.slnil | exact List.Sublist.refl _ | apply List.Sublist.cons_cons | apply List.Sublist.cons))) rfl (by kernel_rfl) (by kernel_rfl) (v_loadB 8 rfl Try.underlying23 rfl rfl rfl) rfl ?_ | refine a_take 4 pan_cx (by kernel_rfl) (fun _ hw => hw.sub (by repeat (first | exact List.Sublist.slnil | exact List.Sublist.refl _ | apply List.Sublist.cons_cons | apply List.Sublist.cons))) rfl (by kernel_rfl) (by kernel_rfl) (v_loadB 9 rfl Try.underlying23 rfl rfl rfl) rfl ?_ | refine a_take 4 pan_cx (by kernel_rfl) (fun _ hw => hw.sub (by repeat (first | exact List.Sublist.slnil | exact List.Sublist.refl _ | apply List.Sublist.cons_cons | apply List.Sublist.cons))) rfl (by kernel_rfl) (by kernel_rfl) (v_loadB 10 rfl Try.underlying23 rfl rfl rfl) rfl ?_ | refine a_take 4 pan_cx (by kernel_rfl) (fun _ hw => hw.sub (by repeat (first | exact List.Sublist.slnil | exact List.Sublist.refl _ | apply List.Sublist.cons_cons | apply List.Sublist.cons))) rfl (by kernel_rfl) (by kernel_rfl) (v_loadB 11 rfl Try.underlying23 rfl rfl rfl) rfl ?_
      refine a_take 5 pan_cx (by kernel_rfl) (fun _ hw => hw.sub (by repeat (first | exact List.Sublist.slnil | exact List.Sublist.refl _ | apply List.Sublist.cons_cons | apply List.Sublist.cons))) rfl (by kernel_rfl) (by kernel_rfl) (v_lenS Try.underlying23 rfl) rfl ?_
      refine a_take 6 pan_cx (by kernel_rfl) (fun _ hw => hw.sub (by repeat (first | exact List.Sublist.slnil | exact List.Sublist.refl _ | apply List.Sublist.cons_cons | apply List.Sublist.cons))) rfl (by kernel_rfl) (by kernel_rfl) (v_assign rfl) rfl ?_
      refine a_take 7 pan_cx (by kernel_rfl) (fun _ hw => hw.sub (by repeat (first | exact List.Sublist.slnil | exact List.Sublist.refl _ | apply List.Sublist.cons_cons | apply List.Sublist.cons))) rfl (by kernel_rfl) (by kernel_rfl) (v_assign rfl) rfl ?_
      refine a_done (by kernel_rfl) ?_
      refine e_retQ (q_ret2 rfl (.tmp rfl) (.tmp rfl) ?_)
      rw [← hL]
      exact fun w' hw' => ⟨(p, .slice Al2 (bytesOf L).length kl2, y2), trivial, rfl, (hw'.sub (List.sublist_append_left (lgH p (.slice Al2 (bytesOf L).length kl2) y2 L L.length) [_])).res⟩
    · obtain ⟨hO2, _⟩ := hnext hc hput
      rw [hput]
      dsimp only
      refine w_val (v_move rfl) rfl ?_
      refine w_val (v_extract rfl rfl) rfl ?_
      refine w_val (v_extract rfl rfl) rfl ?_
      refine w_val (v_assign rfl) rfl ?_
      refine w_val (v_assign rfl) rfl ?_
      refine w_nil ?_
      refine e_seq ?_
      refine e_region ?_
      refine w_val (v_move rfl) rfl ?_
      refine w_val (v_neq rfl rfl) rfl ?_
      refine w_nil ?_
      first | refine e_condDF rfl (by omega) ?_ | refine e_condF rfl ?_
      refine e_skip ?_
      refine e_blk ?_
      exact e_round ((y.1, y.2, L ++ [z])) (hO2) (by have := hO2.ok.len; simp at this ⊢; omega) (by repeat (first | exact Sub.nil _ | refine Sub.cons rfl ?_)) (fun _ hw => hw.sub (List.sublist_append_left (lgH p y.1 y.2 (L ++ [z]) 0) [_]))
end Go.SL
end
section
open Go Go.Proofs Go.SL
set_option maxRecDepth 100000
namespace Go.SL
theorem openOf_spec (v : Value) (b : List UInt8) (w : World) (h : IsBytes w.cell? v b) (hb : b.length ≤ 100000) :
    Calls Try.prog 26 #[v] w fun e w' => ∃ x : Nat × (Option Addr × Nat) × List Value × (Nat → Prop), True ∧ e = .returned (.tuple #[.pointer (some ⟨x.1, 0, none⟩), .int .i64 ((bytesOf (openL b)).length : Int)]) ∧ Res w [] (scH x.1 (.slice x.2.1.1 (openL b).length x.2.1.2) (openL b) (openL b).length x.2.2.1 x.2.2.2) w' := by
  rw [← off_none w] at h
  have h0 := h
  obtain ⟨Ab, kb, rfl, hkb, _, _⟩ := h0
  refine enter0 (N := 44) Try.func26 rfl rfl rfl ?_
  refine e_seq ?_
  refine e_region ?_
  refine w_val (v_assign rfl) rfl ?_
  refine w_val (v_assign rfl) rfl ?_
  refine w_nil ?_
  refine e_seq ?_
  refine e_region ?_
  refine w_val (v_build _ rfl (by intro _; simp [Instr.build, Instr.fill, Try.zeroValue31, go_sem]; rfl)) rfl ?_
  refine w_op rfl ?_
  refine x_box rfl rfl (fun b12 => ?_)
  refine w_val (v_assign rfl) rfl ?_
  refine w_nil ?_
  refine e_seq ?_
  refine e_region ?_
  refine w_val (v_assign rfl) rfl ?_
  refine w_nil ?_
  refine e_seq ?_
  refine g_heap (m' := scH b12 (.slice none 0 0) [] 0 [] (feet [])) (fun _ hw => (((hw.keep0 (Rounds [] []) Rounds.nil).rowNil 34 1).perm ((List.perm_append_comm (l₁ := [_, _]) (l₂ := [_]))))) ?_
  refine e_block ?_
  refine e_loopH (σ := Value × List Value × (Nat → Prop) × List RoundL) [0, 4] (.cons rfl (.cons rfl .nil)) (fun x => [(5, .int .i64 ((bytesOf x.2.2.2).length : Int))]) (fun x => scH b12 x.1 x.2.2.2 0 x.2.1 x.2.2.1) (fun x => OpenAt b x.2.2.2) (fun x => 26 - x.2.2.2.length) (.slice none 0 0, [], feet [], []) (OpenAt.start b) (by repeat (first | exact Sub.nil _ | refine Sub.cons rfl ?_)) (fun _ hw => hw) ?_
  rintro ⟨lv, vs, G, L⟩ hO
  dsimp only at hO ⊢
  have hle := hO.le
  have hBm := hO.ok.bytes
  have h25 := hO.ok.len
  have hsl := IsBytes.slice (lo := (bytesOf L).length) (hi := b.length) h hle (Nat.le_refl _)
  rw [show (b.drop (bytesOf L).length).take (b.length - (bytesOf L).length) = b.drop (bytesOf L).length from List.take_of_length_le (by simp)] at hsl
  have hcD := fun (w1 : World) (hl : Le (off w (feet [])) w1.cell?) => roundOf_spec _ (b.drop (bytesOf L).length) w1 (hsl.mono hl)
  have hstop := hO.stop
  have hnext := hO.next
  have hin := decL_in (b.drop (bytesOf L).length)
  generalize decL roundFaultL (b.drop (bytesOf L).length) = X at *
  obtain ⟨z, nz, c⟩ := X
  dsimp only at hcD hstop hnext hin
  refine e_block ?_
  refine e_seq ?_
  refine e_region ?_
  refine w_val (v_move rfl) rfl ?_
  refine w_val (v_move rfl) rfl ?_
  refine w_val (v_sliceL Try.underlying23 Try.hi5 Try.cz5 rfl rfl (by omega)) rfl ?_
  refine w_op rfl ?_
  refine x_call (dst := some 17) (mc := []) (σ := Value × (Nat → Prop)) (fun _ => True) (fun s => .tuple #[s.1, .int .i64 nz, .int .i64 c]) (fun s => [Keep s.2 (fun c => IsRound c s.1 z)]) rfl rfl rfl Try.call78 (fun w hw => hcD w hw.off) rfl (fun s _ => ?_)
  obtain ⟨sl, G1⟩ := s
  dsimp only
  refine g_heap (m' := scH b12 lv L 0 vs G ++ [Keep G1 (fun c => IsRound c sl z)]) (fun _ hw => hw.perm (List.perm_append_comm (l₁ := [_]))) ?_
  refine w_val (v_move rfl) rfl ?_
  refine w_val (v_extract rfl rfl) rfl ?_
  refine w_val (v_extract rfl rfl) rfl ?_
  refine w_val (v_extract rfl rfl) rfl ?_
  refine w_val (v_assign rfl) rfl ?_
  refine w_val (v_assign rfl) rfl ?_
  refine w_val (v_assign rfl) rfl ?_
  refine w_nil ?_
  refine e_seq ?_
  refine e_seq ?_
  refine e_region ?_
  refine w_val (v_move rfl) rfl ?_
  refine w_val (v_neq rfl rfl) rfl ?_
  refine w_nil ?_
  refine e_condD rfl (fun hc => ?_) (fun hc => ?_)
  · have hL := hstop (.inl hc)
    rw [← hL]
    refine g_shapeR2 1 rfl fun Al kl hlv hkl _ => ?_
    subst hlv
    refine e_exit rfl ?_
    refine e_seq ?_
    refine e_region ?_
    refine w_val (v_move rfl) rfl ?_
    refine w_val (v_move rfl) rfl ?_
    refine w_val (v_nilCheck rfl) rfl ?_
    first | refine w_val (v_fieldAddrB (o := 0) Try.underlying31 rfl rfl Try.nz29 rfl) rfl ?_ | refine w_val (v_fieldAddr (o := 0) Try.underlying31 rfl rfl Try.nz29 rfl) rfl ?_
    first | refine w_val (v_loadB 0 rfl Try.underlying29 rfl rfl rfl) rfl ?_ | refine w_val (v_loadB 1 rfl Try.underlying29 rfl rfl rfl) rfl ?_ | refine w_val (v_loadB 2 rfl Try.underlying29 rfl rfl rfl) rfl ?_ | refine w_val (v_loadB 3 rfl Try.underlying29 rfl rfl rfl) rfl ?_ | refine w_val (v_loadB 4 rfl Try.underlying29 rfl rfl rfl) rfl ?_ | refine w_val (v_loadB 5 rfl Try.underlying29 rfl rfl rfl) rfl ?_ | refine w_val (v_loadB 6 rfl Try.underlying29 rfl rfl rfl) rfl ?_ | refine w_val (v_loadB 7 rfl Try.underlying29 rfl rfl rfl) rfl ?_ | refine w_val (v_loadB 8 rfl Try.underlying29 rfl rfl rfl) rfl ?_ | refine w_val (v_loadB 9 rfl Try.underlying29 rfl rfl rfl) rfl ?_ | refine w_val (v_loadB 10 rfl Try.underlying29 rfl rfl rfl) rfl ?_ | refine w_val (v_loadB 11 rfl Try.underlying29 rfl rfl rfl) rfl ?_
    refine w_val (v_lenS Try.underlying29 rfl) rfl ?_
    refine w_val (v_nilCheck rfl) rfl ?_
    first | refine w_val (v_fieldAddrB (o := 1) Try.underlying31 rfl rfl Try.nz3 rfl) rfl ?_ | refine w_val (v_fieldAddr (o := 1) Try.underlying31 rfl rfl Try.nz3 rfl) rfl ?_
    refine w_op rfl ?_
    first | refine x_store1 0 rfl rfl rfl Try.hi3 Try.cz3 rfl (by first | (simp; done) | (simp [intCells_len]; omega) | exact Nat.zero_lt_succ _) rfl ?_ | refine x_store1 1 rfl rfl rfl Try.hi3 Try.cz3 rfl (by first | (simp; done) | (simp [intCells_len]; omega) | exact Nat.zero_lt_succ _) rfl ?_ | refine x_store1 2 rfl rfl rfl Try.hi3 Try.cz3 rfl (by first | (simp; done) | (simp [intCells_len]; omega) | exact Nat.zero_lt_succ _) rfl ?_ | refine x_store1 3 rfl rfl rfl Try.hi3 Try.cz3 rfl (by first | (simp; done) | (simp [intCells_len]; omega) | exact Nat.zero_lt_succ _) rfl ?_ | refine x_store1 4 rfl rfl rfl Try.hi3 Try.cz3 rfl (by first | (simp; done) | (simp [intCells_len]; omega) | exact Nat.zero_lt_succ _) rfl ?_ | refine x_store1 5 rfl rfl rfl Try.hi3 Try.cz3 rfl (by first | (simp; done) | (simp [intCells_len]; omega) | exact Nat.zero_lt_succ _) rfl ?_ | refine x_store1 6 rfl rfl rfl Try.hi3 Try.cz3 rfl (by first | (simp; done) | (simp [intCells_len]; omega) | exact Nat.zero_lt_succ _) rfl ?_ | refine x_store1 7 rfl rfl rfl Try.hi3 Try.cz3 rfl (by first | (simp; done) | (simp [intCells_len]; omega) | exact Nat.zero_lt_succ _) rfl ?_ | refine x_store1 8 rfl rfl rfl Try.hi3 Try.cz3 rfl (by first | (simp; done) | (simp [intCells_len]; omega) | exact Nat.zero_lt_succ _) rfl ?_ | refine x_store1 9 rfl rfl rfl Try.hi3 Try.cz3 rfl (by first | (simp; done) | (simp [intCells_len]; omega) | exact Nat.zero_lt_succ _) rfl ?_ | refine x_store1 10 rfl rfl rfl Try.hi3 Try.cz3 rfl (by first | (simp; done) | (simp [intCells_len]; omega) | exact Nat.zero_lt_succ _) rfl ?_ | refine x_store1 11 rfl rfl rfl Try.hi3 Try.cz3 rfl (by first | (simp; done) | (simp [intCells_len]; omega) | exact Nat.zero_lt_succ _) rfl ?_
    refine w_nil ?_
    refine e_seq ?_
    refine e_region ?_
    refine w_val (v_move rfl) rfl ?_
    refine w_val (v_move rfl) rfl ?_
    refine w_val (v_assign rfl) rfl ?_
    refine w_val (v_assign rfl) rfl ?_
    refine w_nil ?_
    refine e_retQ (q_ret2 rfl (.tmp rfl) (.tmp rfl) ?_)
    exact fun w' hw' => ⟨(b12, (Al, kl), vs, G), trivial, rfl, (hw'.sub (List.sublist_append_left (scH b12 (.slice Al L.length kl) L L.length vs G) [_])).res⟩
  · refine e_skip ?_
    refine e_seq ?_
    refine e_seq ?_
    refine e_region ?_
    refine w_val (v_move rfl) rfl ?_
    refine w_val (v_move rfl) rfl ?_
    refine w_op rfl ?_
    refine x_call (dst := some 26) (mc := scH b12 lv L 0 vs G) (mr := [_]) (σ := Value × List Value × (Nat → Prop)) (fun _ => True) (fun _ => .tuple #[.int .i64 (putL L z).2.1, .int .i64 (putL L z).2.2]) (fun y => scH b12 y.1 (putL L z).1 0 y.2.1 y.2.2) rfl rfl rfl Try.call70 (fun w hw => scPut_spec b12 lv L 0 vs G sl z w hw.part.1 hw.part.2 hO.ok (IsRound.mono hw.apart (keep_all (IsRound.up _ _) (hw.partR (Keep G1 (fun c => IsRound c sl z)) (by simp)))) hin) rfl (fun y _ => ?_)
    obtain ⟨lv2, vs2, G2⟩ := y
    dsimp only
    rcases putL_code L z with ⟨hc0, hL', hn0⟩ | ⟨hput, hf0⟩
    · have hL := hstop (.inr hc0)
      rw [hL', ← hL]
      refine g_shapeR2 1 rfl fun Al kl hlv hkl _ => ?_
      subst hlv
      refine w_val (v_move rfl) rfl ?_
      refine w_val (v_extract rfl rfl) rfl ?_
      refine w_val (v_extract rfl rfl) rfl ?_
      refine w_val (v_assign rfl) rfl ?_
      refine w_val (v_assign rfl) rfl ?_
      refine w_nil ?_
      refine e_seq ?_
      refine e_region ?_
      refine w_val (v_move rfl) rfl ?_
      refine w_val (v_neq rfl rfl) rfl ?_
      refine w_nil ?_
      first | refine e_condDT rfl (by omega) ?_ | refine e_condT rfl ?_
      refine e_exit rfl ?_
      refine e_seq ?_
      refine e_region ?_
      refine w_val (v_move rfl) rfl ?_
      refine w_val (v_move rfl) rfl ?_
      refine w_val (v_nilCheck rfl) rfl ?_
      first | refine w_val (v_fieldAddrB (o := 0) Try.underlying31 rfl rfl Try.nz29 rfl) rfl ?_ | refine w_val (v_fieldAddr (o := 0) Try.underlying31 rfl rfl Try.nz29 rfl) rfl ?_
      first | refine w_val (v_loadB 0 rfl Try.underlying29 rfl rfl rfl) rfl ?_ | refine w_val (v_loadB 1 rfl Try.underlying29 rfl rfl rfl) rfl ?_ | refine w_val (v_loadB 2 rfl Try.underlying29 rfl rfl rfl) rfl ?_ | refine w_val (v_loadB 3 rfl Try.underlying29 rfl rfl rfl) rfl ?_ | refine w_val (v_loadB 4 rfl Try.underlying29 rfl rfl rfl) rfl ?_ | refine w_val (v_loadB 5 rfl Try.underlying29 rfl rfl rfl) rfl ?_ | refine w_val (v_loadB 6 rfl Try.underlying29 rfl rfl rfl) rfl ?_ | refine w_val (v_loadB 7 rfl Try.underlying29 rfl rfl rfl) rfl ?_ | refine w_val (v_loadB 8 rfl Try.underlying29 rfl rfl rfl) rfl ?_ | refine w_val (v_loadB 9 rfl Try.underlying29 rfl rfl rfl) rfl ?_ | refine w_val (v_loadB 10 rfl Try.underlying29 rfl rfl rfl) rfl ?_ | refine w_val (v_loadB 11 rfl Try.underlying29 rfl rfl rfl) rfl ?_
      refine w_val (v_lenS Try.underlying29 rfl) rfl ?_
      refine w_val (v_nilCheck rfl) rfl ?_
      first | refine w_val (v_fieldAddrB (o := 1) Try.underlying31 rfl rfl Try.nz3 rfl) rfl ?_ | refine w_val (v_fieldAddr (o := 1) Try.underlying31 rfl rfl Try.nz3 rfl) rfl ?_
      refine w_op rfl ?_
      first | refine x_store1 0 rfl rfl rfl Try.hi3 Try.cz3 rfl (by first | (simp; done) | (simp [intCells_len]; omega) | exact Nat.zero_lt_succ _) rfl ?_ | refine x_store1 1 rfl rfl rfl Try.hi3 Try.cz3 rfl (by first | (simp; done) | (simp [intCells_len]; omega) | exact Nat.zero_lt_succ _) rfl ?_ | refine x_store1 2 rfl rfl rfl Try.hi3 Try.cz3 rfl (by first | (simp; done) | (simp [intCells_len]; omega) | exact Nat.zero_lt_succ _) rfl ?_ | refine x_store1 3 rfl rfl rfl Try.hi3 Try.cz3 rfl (by first | (simp; done) | (simp [intCells_len]; omega) | exact Nat.zero_lt_succ _) rfl ?_ | refine x_store1 4 rfl rfl rfl Try.hi3 Try.cz3 rfl (by first | (simp; done) | (simp [intCells_len]; omega) | exact Nat.zero_lt_succ _) rfl ?_ | refine x_store1 5 rfl rfl rfl Try.hi3 Try.cz3 rfl (by first | (simp; done) | (simp [intCells_len]; omega) | exact Nat.zero_lt_succ _) rfl ?_ | refine x_store1 6 rfl rfl rfl Try.hi3 Try.cz3 rfl (by first | (simp; done) | (simp [intCells_len]; omega) | exact Nat.zero_lt_succ _) rfl ?_ | refine x_store1 7 rfl rfl rfl Try.hi3 Try.cz3 rfl (by first | (simp; done) | (simp [intCells_len]; omega) | exact Nat.zero_lt_succ _) rfl ?_ | refine x_store1 8 rfl rfl rfl Try.hi3 Try.cz3 rfl (by first | (simp; done) | (simp [intCells_len]; omega) | exact Nat.zero_lt_succ _) rfl ?_ | refine x_store1 9 rfl rfl rfl Try.hi3 Try.cz3 rfl (by first | (simp; done) | (simp [intCells_len]; omega) | exact Nat.zero_lt_succ _) rfl ?_ | refine x_store1 10 rfl rfl rfl Try.hi3 Try.cz3 rfl (by first | (simp; done) | (simp [intCells_len]; omega) | exact Nat.zero_lt_succ _) rfl ?_ | refine x_store1 11 rfl rfl rfl Try.hi3 Try.cz3 rfl (by first | (simp; done) | (simp [intCells_len]; omega) | exact Nat.zero_lt_succ _) rfl ?_
      refine w_nil ?_
      refine e_seq ?_
      refine e_region ?_
      refine w_val (v_move rfl) rfl ?_
      refine w_val (v_move rfl) rfl ?_
      refine w_val (v_assign rfl) rfl ?_
      refine w_val (v_assign rfl) rfl ?_
      refine w_nil ?_
      refine e_retQ (q_ret2 rfl (.tmp rfl) (.tmp rfl) ?_)
      exact fun w' hw' => ⟨(b12, (Al, kl), vs2, G2), trivial, rfl, (hw'.sub (List.sublist_append_left (scH b12 (.slice Al L.length kl) L L.length vs2 G2) [_])).res⟩
    · obtain ⟨hO2, rfl⟩ := hnext hc hput
      rw [hput]
      dsimp only
      have e2 : (bytesOf (L ++ [z])).length = (bytesOf L).length + (encL z).length := by rw [bytesOf_app, bytesOf_one, List.length_append]
      have hB2 := hO2.ok.bytes
      refine w_val (v_move rfl) rfl ?_
      refine w_val (v_extract rfl rfl) rfl ?_
      refine w_val (v_extract rfl rfl) rfl ?_
      refine w_val (v_assign rfl) rfl ?_
      refine w_val (v_assign rfl) rfl ?_
      refine w_nil ?_
      refine e_seq ?_
      refine e_region ?_
      refine w_val (v_move rfl) rfl ?_
      refine w_val (v_neq rfl rfl) rfl ?_
      refine w_nil ?_
      first | refine e_condDF rfl (by omega) ?_ | refine e_condF rfl ?_
      refine e_skip ?_
      refine e_region ?_
      refine w_val (v_move rfl) rfl ?_
      refine w_val (v_move rfl) rfl ?_
      refine w_val (v_is (v' := .int .i64 ((bytesOf (L ++ [z])).length : Int)) (v_add rfl rfl (by omega)) (by rw [e2]; rfl)) rfl ?_
      refine w_val (v_assign rfl) rfl ?_
      refine w_nil ?_
      refine e_blk ?_
      exact e_round ((lv2, vs2, G2, L ++ [z])) (hO2) (by have := hO2.ok.len; simp at this ⊢; omega) (by repeat (first | exact Sub.nil _ | refine Sub.cons rfl ?_)) (fun _ hw => hw.sub (List.sublist_append_left (scH b12 lv2 (L ++ [z]) 0 vs2 G2) [_]))
end Go.SL
end
section
open Go Go.Proofs Go.SL
set_option maxRecDepth 100000
namespace Go.SL
theorem logStep_spec2 (p s : Nat) (S : LS) (L : List RoundL) (k : Nat) (x : StepL) (u : Value) (w : World) (h : ∀ c ∈ lsH p s S L k, c.holds w) (hsep : (lsH p s S L k).Pairwise Disj) (hok : LogOk L k)
    (hr : IsRound (off w (feet (lsH p s S L k))) u x.round) (hin : ∀ d ∈ x.round, ∀ o ∈ d, OpIn o) :
    Calls Try.prog 17 #[.pointer (some ⟨p, 0, none⟩), .pointer (some ⟨s, 0, none⟩), stepV x u] w fun e w' => ∃ y : (Value × Value) × (Option Addr × Nat) × List Value × (Nat → Prop), True ∧ e = .returned (.bool true) ∧
      Res w (lsH p s S L k) (lsH p s ⟨y.1.1, y.1.2, .slice y.2.1.1 (stepLog L k x).1.length y.2.1.2, y.2.2.1, y.2.2.2⟩ (stepLog L k x).1 (stepLog L k x).2) w' := by
  refine (logStep_spec p s S L k x u w h hsep hok hr hin).mono ?_
  rintro e w' ⟨⟨bv, ev, lv, vs, G⟩, _, he, hr⟩
  obtain ⟨A, n, hlv, _, _⟩ := row_rds (hr.hold (Rw lv 34 1 (stepLog L k x).1.length vs) (by simp))
  subst hlv
  exact ⟨((bv, ev), (A, n), vs, G), trivial, he, hr⟩
theorem Res.keep0 {w w' : World} {mc : Hp} (p : View → Prop) (hp : ∀ c, p c) (h : Res w mc [] w') : Res w mc [Keep (feet []) p] w' := by
  refine ⟨h.chg, ?_, by simp, ?_⟩
  · intro c hc
    simp only [List.mem_singleton] at hc
    subst hc
    exact ⟨fun b ⟨c, hc, _⟩ => (by cases hc), hp _⟩
  · intro c hc b hb
    simp only [List.mem_singleton] at hc
    subst hc
    obtain ⟨c, hc, _⟩ := hb
    cases hc
/-- the round of a number, if there is one -/
def roundAt (L : List RoundL) (n : Int) : RoundL := if 0 ≤ n then (L[n.toNat]?).getD [] else []
theorem logRound_any (p : Nat) (bv ev : Value) (L : List RoundL) (k : Nat) (n : Int) (w : World) (h : LgV w.cell? p bv ev L k) (hok : LogOk L k) :
    Calls Try.prog 20 #[.pointer (some ⟨p, 0, none⟩), .int .i64 n] w fun e w' => ∃ s : Value × (Nat → Prop), True ∧ e = .returned (.tuple #[s.1, .bool (decide (0 ≤ n ∧ n < L.length))]) ∧ Res w [] [Keep s.2 (fun c => IsRound c s.1 (roundAt L n))] w' := by
  by_cases hn : 0 ≤ n ∧ n < L.length
  · obtain ⟨i, rfl⟩ : ∃ i : Nat, n = i := ⟨n.toNat, by omega⟩
    have hi : i < L.length := by omega
    have hat : roundAt L i = L[i] := by simp [roundAt, hi]
    rw [decide_eq_true hn, hat]
    exact logRound_spec p bv ev L k i w h hok hi
  · have hat : roundAt L n = [] := by
      unfold roundAt
      by_cases h0 : 0 ≤ n
      · rw [if_pos h0, List.getElem?_eq_none (by omega)]; rfl
      · rw [if_neg h0]
    rw [decide_eq_false hn, hat]
    refine (logRound_none p bv ev L k n w h (by omega)).mono ?_
    rintro e w' ⟨rfl, hr⟩
    exact ⟨(.slice none 0 0, feet []), trivial, rfl, hr.keep0 _ isRound_nil⟩
theorem Rounds.at {vs : List Value} {L : List RoundL} {c : View} (h : Rounds vs L c) {i : Nat} (hi : i < L.length) {u : Value} (hu : vs[i]? = some u) : IsRound c u L[i] := by
  obtain ⟨u', h1, h2⟩ := h.2 i hi
  rw [hu] at h1
  injection h1 with h1
  subst h1
  exact h2
theorem g_rounds {C : Cx} {l : Fr} {m : Hp} {Φ : Act → World → Prop} {G0 : Nat → Prop} {vs : List Value} {L : List RoundL} (i : Nat) (hm : m[i]? = some (Keep G0 (Rounds vs L))) (h : vs.length = L.length → G C l m Φ) : G C l m Φ := fun a w ha hw => h (hw.mem hm).2.1 a w ha hw
theorem LogDoes_spec (v vb : Value) (l : List StepL) (n : Int) (bs : List UInt8) (w : World) (h : IsSteps w.cell? v l) (hin : ∀ x ∈ l, ∀ d ∈ x.round, ∀ o ∈ d, OpIn o) (hl : ∀ x ∈ l, ∀ d ∈ x.round, d.length ≤ 4398046511104) (hmax : l.length ≤ maxLen)
    (hb : IsBytes w.cell? vb bs) (hbl : bs.length ≤ 140737488355328) :
    Calls Try.prog 3 #[v, .int .i64 n, vb] w fun e w' => e = .returned (.bool true) ∧ Res w [] [] w' := by
  have hs := h
  rw [← off_none w] at h hs hb
  obtain ⟨A, kp, rfl, hle, hc⟩ := h
  have hb0 := hb
  obtain ⟨Ab, kb, rfl, hkb, _, _⟩ := hb0
  simp only [maxLen] at hmax
  refine enter0 (N := 200) Try.func3 rfl rfl rfl ?_
  refine e_seq ?_
  refine e_region ?_
  refine w_val (v_assign rfl) rfl ?_
  refine w_nil ?_
  refine e_seq ?_
  refine e_seq ?_
  refine e_region ?_
  refine w_op rfl ?_
  refine x_call0 (v := .bool true) rfl rfl rfl Try.call14 rfl (fun w hw => logBegun_spec w) ?_
  refine w_val (v_not rfl) rfl ?_
  refine w_nil ?_
  refine e_condF rfl ?_
  refine e_skip ?_
  refine e_seq ?_
  refine e_seq ?_
  refine e_region ?_
  refine w_val (v_move rfl) rfl ?_
  refine w_op rfl ?_
  refine x_call (dst := some 24) (mc := []) (mr := []) (σ := Bool) (fun _ => True) (fun b => .bool b) (fun _ => []) rfl rfl rfl Try.call15 (fun w hw => greatLog_spec _ l w (hs.mono hw.off) hl) rfl (fun b _ => ?_)
  cases b with
  | true =>
    refine w_val (v_move rfl) rfl ?_
    refine w_skip rfl rfl rfl rfl ?_
    refine w_skip rfl rfl rfl rfl ?_
    refine w_skip rfl rfl rfl rfl ?_
    first | refine w_val (v_pickT rfl rfl) rfl ?_ | refine w_val (v_pickF rfl rfl) rfl ?_
    refine w_nil ?_
    first | refine e_condDT rfl (by omega) ?_ | refine e_condT rfl ?_
    refine e_seq ?_
    refine e_region ?_
    refine w_val (v_assign rfl) rfl ?_
    refine w_nil ?_
    refine e_retQ (q_ret1 rfl (.tmp rfl) ?_)
    exact fun w' hw' => ⟨rfl, hw'.res.nil⟩
  | false =>
    refine w_val (v_move rfl) rfl ?_
    refine w_want rfl rfl ?_
    refine w_val (v_move rfl) rfl ?_
    refine w_want rfl rfl ?_
    refine w_val (v_lenS Try.underlying23 rfl) rfl ?_
    refine w_want rfl rfl ?_
    refine w_val (v_gtr rfl rfl) rfl ?_
    first | refine w_val (v_pickT rfl rfl) rfl ?_ | refine w_val (v_pickF rfl rfl) rfl ?_
    refine w_nil ?_
    refine e_condD rfl (fun h5000 => ?_) (fun h5000 => ?_)
    · refine e_seq ?_
      refine e_region ?_
      refine w_val (v_assign rfl) rfl ?_
      refine w_nil ?_
      refine e_retQ (q_ret1 rfl (.tmp rfl) ?_)
      exact fun w' hw' => ⟨rfl, hw'.res.nil⟩
    · refine e_skip ?_
      refine e_seq ?_
      refine e_region ?_
      refine w_op rfl ?_
      refine x_call (dst := some 30) (mc := []) (mr := []) (σ := Nat) (fun _ => True) (fun p => .pointer (some ⟨p, 0, none⟩)) (fun p => lgH p (.slice none 0 0) (.slice none 0 0) [] 0) rfl rfl rfl Try.call16 (fun w hw => logNew_spec w) rfl (fun p _ => ?_)
      refine w_val (v_build _ rfl (by intro _; simp [Instr.build, Instr.fill, Try.zeroValue31, go_sem]; rfl)) rfl ?_
      refine w_op rfl ?_
      refine x_box rfl rfl (fun b32 => ?_)
      refine w_val (v_assign rfl) rfl ?_
      refine w_val (v_assign rfl) rfl ?_
      refine w_nil ?_
      refine e_seq ?_
      refine e_seq ?_
      refine e_region ?_
      refine w_val (v_assign rfl) rfl ?_
      refine w_nil ?_
      refine g_heap (m' := lsH p b32 ⟨.slice none 0 0, .slice none 0 0, .slice none 0 0, [], feet []⟩ [] 0) (fun _ hw => St.newLog hw) ?_
      refine e_block ?_
      refine e_loopH (σ := Nat × LS × List RoundL × Nat) [0, 1, 2, 7, 8] (.cons rfl (.cons rfl (.cons rfl (.cons rfl (.cons rfl .nil))))) (fun x => [(9, .int .i64 (x.1 : Int))]) (fun x => lsH p b32 x.2.1 x.2.2.1 x.2.2.2) (fun x => x.1 ≤ l.length ∧ LogOk x.2.2.1 x.2.2.2) (fun x => l.length - x.1) (0, ⟨.slice none 0 0, .slice none 0 0, .slice none 0 0, [], feet []⟩, [], 0) ⟨by dsimp only; omega, lbOk0⟩ (by repeat (first | exact Sub.nil _ | refine Sub.cons rfl ?_)) (fun _ hw => hw) ?_
      rintro ⟨i, S, L, k⟩ ⟨hi, hok⟩
      dsimp only at hi hok ⊢
      refine e_seq ?_
      refine e_seq ?_
      refine e_region ?_
      refine w_val (v_move rfl) rfl ?_
      refine w_val (v_move rfl) rfl ?_
      refine w_val (v_lenS Try.underlying22 rfl) rfl ?_
      refine w_val (v_lss rfl rfl) rfl ?_
      refine w_nil ?_
      refine e_condD rfl (fun hlt => ?_) (fun hlt => ?_)
      · have hlt' : i < l.length := by omega
        obtain ⟨ad, u, rfl, hcs, hr⟩ := hc i hlt'
        have hxin := hin l[i] (List.getElem_mem _)
        generalize l[i] = x at *
        have hcs' : Cells (off w (feet [])) (ad.add (((i : Int)).toNat * 3)) [.int .i64 x.do_, .int .i64 x.keep, u] := hcs
        have hok2 := stepLog_ok hok hxin
        have hst := fun (w1 : World) h1 h2 h3 => logStep_spec2 p b32 S L k x u w1 h1 h2 hok h3 hxin
        generalize stepLog L k x = Y at *
        obtain ⟨L2, k2⟩ := Y
        dsimp only at hok2 hst
        refine e_skip ?_
        refine e_seq ?_
        refine e_block ?_
        refine e_seq ?_
        refine e_cutH (σ := (Value × Value) × (Option Addr × Nat) × List Value × (Nat → Prop)) [0, 1, 2, 7, 8, 9] (.cons rfl (.cons rfl (.cons rfl (.cons rfl (.cons rfl (.cons rfl .nil)))))) (fun _ => [(65, .bool false)]) (fun y => lsH p b32 ⟨y.1.1, y.1.2, .slice y.2.1.1 L2.length y.2.1.2, y.2.2.1, y.2.2.2⟩ L2 k2) (fun _ => True) ?_ ?_
        · refine e_draw ([]) Try.mixed ?_
          refine a_take 0 pan_cx (by kernel_rfl) (fun _ hw => hw.sub (by repeat (first | exact List.Sublist.slnil | exact List.Sublist.refl _ | apply List.Sublist.cons_cons | apply List.Sublist.cons))) rfl (by kernel_rfl) (by kernel_rfl) (v_move rfl) rfl ?_
          refine a_take 1 pan_cx (by kernel_rfl) (fun _ hw => hw.sub (by repeat (first | exact List.Sublist.slnil | exact List.Sublist.refl _ | apply List.Sublist.cons_cons | apply List.Sublist.cons))) rfl (by kernel_rfl) (by kernel_rfl) (v_move rfl) rfl ?_
          refine a_take 2 pan_cx (by kernel_rfl) (fun _ hw => hw.sub (by repeat (first | exact List.Sublist.slnil | exact List.Sublist.refl _ | apply List.Sublist.cons_cons | apply List.Sublist.cons))) rfl (by kernel_rfl) (by kernel_rfl) (v_move rfl) rfl ?_
          refine a_take 3 pan_cx (by kernel_rfl) (fun _ hw => hw.sub (by repeat (first | exact List.Sublist.slnil | exact List.Sublist.refl _ | apply List.Sublist.cons_cons | apply List.Sublist.cons))) rfl (by kernel_rfl) (by kernel_rfl) (v_move rfl) rfl ?_
          first | refine a_take 4 pan_cx (by kernel_rfl) (fun _ hw => hw.sub (by repeat (first | exact List.Sublist.slnil | exact List.Sublist.refl _ | apply List.Sublist.cons_cons | apply List.Sublist.cons))) rfl (by kernel_rfl) (by kernel_rfl) (v_indexSB Try.underlying22 Try.hi36 Try.cz36 rfl rfl (by first | omega | decide)) rfl ?_ | refine a_take 4 pan_cx (by kernel_rfl) (fun _ hw => hw.sub (by repeat (first | exact List.Sublist.slnil | exact List.Sublist.refl _ | apply List.Sublist.cons_cons | apply List.Sublist.cons))) rfl (by kernel_rfl) (by kernel_rfl) (v_indexS Try.underlying22 Try.hi36 Try.cz36 rfl rfl (by first | omega | decide)) rfl ?_
          first | refine a_take 5 pan_cx (by kernel_rfl) (fun _ hw => hw.sub (by repeat (first | exact List.Sublist.slnil | exact List.Sublist.refl _ | apply List.Sublist.cons_cons | apply List.Sublist.cons))) rfl (by kernel_rfl) (by kernel_rfl) (v_loadON Try.underlying36 rfl Try.hi36 rfl (hcs') Try.cz36) rfl ?_ | refine a_take 5 pan_cx (by kernel_rfl) (fun _ hw => hw.sub (by repeat (first | exact List.Sublist.slnil | exact List.Sublist.refl _ | apply List.Sublist.cons_cons | apply List.Sublist.cons))) rfl (by kernel_rfl) (by kernel_rfl) (v_loadBA 0 rfl Try.underlying36 rfl Try.hi36 Try.cz36 rfl) rfl ?_ | refine a_take 5 pan_cx (by kernel_rfl) (fun _ hw => hw.sub (by repeat (first | exact List.Sublist.slnil | exact List.Sublist.refl _ | apply List.Sublist.cons_cons | apply List.Sublist.cons))) rfl (by kernel_rfl) (by kernel_rfl) (v_loadBA 1 rfl Try.underlying36 rfl Try.hi36 Try.cz36 rfl) rfl ?_ | refine a_take 5 pan_cx (by kernel_rfl) (fun _ hw => hw.sub (by repeat (first | exact List.Sublist.slnil | exact List.Sublist.refl _ | apply List.Sublist.cons_cons | apply List.Sublist.cons))) rfl (by kernel_rfl) (by kernel_rfl) (v_loadBA 2 rfl Try.underlying36 rfl Try.hi36 Try.cz36 rfl) rfl ?_ | refine a_take 5 pan_cx (by kernel_rfl) (fun _ hw => hw.sub (by repeat (first | exact List.Sublist.slnil | exact List.Sublist.refl _ | apply List.Sublist.cons_cons | apply List.Sublist.cons))) rfl (by kernel_rfl) (by kernel_rfl) (v_loadBA 3 rfl Try.underlying36 rfl Try.hi36 Try.cz36 rfl) rfl ?_ | refine a_take 5 pan_cx (by kernel_rfl) (fun _ hw => hw.sub (by repeat (first | exact List.Sublist.slnil | exact List.Sublist.refl _ | apply List.Sublist.cons_cons | apply List.Sublist.cons))) rfl (by kernel_rfl) (by kernel_rfl) (v_loadBA 4 rfl Try.underlying36 rfl Try.hi36 Try.cz36 rfl) rfl ?_ | refine a_take 5 pan_cx (by kernel_rfl) (fun _ hw => hw.sub (by repeat (first | exact List.Sublist.slnil | exact List.Sublist.refl _ | apply List.Sublist.cons_cons | apply List.Sublist.cons))) rfl (by kernel_rfl) (by kernel_rfl) (v_loadBA 5 rfl Try.underlying36 rfl Try.hi36 Try.cz36 rfl) rfl ?_ | refine a_take 5 pan_cx (by kernel_rfl) (fun _ hw => hw.sub (by repeat (first | exact List.Sublist.slnil | exact List.Sublist.refl _ | apply List.Sublist.cons_cons | apply List.Sublist.cons))) rfl (by kernel_rfl) (by kernel_rfl) (v_loadBA 6 rfl Try.underlying36 rfl Try.hi36 Try.cz36 rfl) rfl ?_ | refine a_take 5 pan_cx (by kernel_rfl) (fun _ hw => hw.sub (by repeat (first | exact List.Sublist.slnil | exact List.Sublist.refl _ | apply List.Sublist.cons_cons | apply List.Sublist.cons))) rfl (by kernel_rfl) (by kernel_rfl) (v_loadBA 7 rfl Try.underlying36 rfl Try.hi36 Try.cz36 rfl) rfl ?_ | refine a_take 5 pan_cx (by kernel_rfl) (fun _ hw => hw.sub (by repeat (first | exact List.Sublist.slnil | exact List.Sublist.refl _ | apply List.Sublist.cons_cons | apply List.Sublist.cons))) rfl (by kernel_rfl) (by kernel_rfl) (v_loadBA 8 rfl Try.underlying36 rfl Try.hi36 Try.cz36 rfl) rfl ?_ | refine a_take 5 pan_cx (by kernel_rfl) (fun _ hw => hw.sub (by repeat (first | exact List.Sublist.slnil | exact List.Sublist.refl _ | apply List.Sublist.cons_cons | apply List.Sublist.cons))) rfl (by kernel_rfl) (by kernel_rfl) (v_loadBA 9 rfl Try.underlying36 rfl Try.hi36 Try.cz36 rfl) rfl ?_ | refine a_take 5 pan_cx (by kernel_rfl) (fun _ hw => hw.sub (by repeat (first | exact List.Sublist.slnil | exact List.Sublist.refl _ | apply List.Sublist.cons_cons | apply List.Sublist.cons))) rfl (by kernel_rfl) (by kernel_rfl) (v_loadBA 10 rfl Try.underlying36 rfl Try.hi36 Try.cz36 rfl) rfl ?_ | refine a_take 5 pan_cx (by kernel_rfl) (fun _ hw => hw.sub (by repeat (first | exact List.Sublist.slnil | exact List.Sublist.refl _ | apply List.Sublist.cons_cons | apply List.Sublist.cons))) rfl (by kernel_rfl) (by kernel_rfl) (v_loadBA 11 rfl Try.underlying36 rfl Try.hi36 Try.cz36 rfl) rfl ?_ | refine a_take 5 pan_cx (by kernel_rfl) (fun _ hw => hw.sub (by repeat (first | exact List.Sublist.slnil | exact List.Sublist.refl _ | apply List.Sublist.cons_cons | apply List.Sublist.cons))) rfl (by kernel_rfl) (by kernel_rfl) (v_loadBN 0 rfl Try.underlying36 rfl Try.hi36 Try.cz36 rfl rfl rfl) rfl ?_ | refine a_take 5 pan_cx (by kernel_rfl) (fun _ hw => hw.sub (by repeat (first | exact List.Sublist.slnil | exact List.Sublist.refl _ | apply List.Sublist.cons_cons | apply List.Sublist.cons))) rfl (by kernel_rfl) (by kernel_rfl) (v_loadBN 1 rfl Try.underlying36 rfl Try.hi36 Try.cz36 rfl rfl rfl) rfl ?_ | refine a_take 5 pan_cx (by kernel_rfl) (fun _ hw => hw.sub (by repeat (first | exact List.Sublist.slnil | exact List.Sublist.refl _ | apply List.Sublist.cons_cons | apply List.Sublist.cons))) rfl (by kernel_rfl) (by kernel_rfl) (v_loadBN 2 rfl Try.underlying36 rfl Try.hi36 Try.cz36 rfl rfl rfl) rfl ?_ | refine a_take 5 pan_cx (by kernel_rfl) (fun _ hw => hw.sub (by repeat (first | exact List.Sublist.slnil | exact List.Sublist.refl _ | apply List.Sublist.cons_cons | apply List.Sublist.cons))) rfl (by kernel_rfl) (by kernel_rfl) (v_loadBN 3 rfl Try.underlying36 rfl Try.hi36 Try.cz36 rfl rfl rfl) rfl ?_ | refine a_take 5 pan_cx (by kernel_rfl) (fun _ hw => hw.sub (by repeat (first | exact List.Sublist.slnil | exact List.Sublist.refl _ | apply List.Sublist.cons_cons | apply List.Sublist.cons))) rfl (by kernel_rfl) (by kernel_rfl) (v_loadBN 4 rfl Try.underlying36 rfl Try.hi36 Try.cz36 rfl rfl rfl) rfl ?_ | refine a_take 5 pan_cx (by kernel_rfl) (fun _ hw => hw.sub (by repeat (first | exact List.Sublist.slnil | exact List.Sublist.refl _ | apply List.Sublist.cons_cons | apply List.Sublist.cons))) rfl (by kernel_rfl) (by kernel_rfl) (v_loadBN 5 rfl Try.underlying36 rfl Try.hi36 Try.cz36 rfl rfl rfl) rfl ?_ | refine a_take 5 pan_cx (by kernel_rfl) (fun _ hw => hw.sub (by repeat (first | exact List.Sublist.slnil | exact List.Sublist.refl _ | apply List.Sublist.cons_cons | apply List.Sublist.cons))) rfl (by kernel_rfl) (by kernel_rfl) (v_loadBN 6 rfl Try.underlying36 rfl Try.hi36 Try.cz36 rfl rfl rfl) rfl ?_ | refine a_take 5 pan_cx (by kernel_rfl) (fun _ hw => hw.sub (by repeat (first | exact List.Sublist.slnil | exact List.Sublist.refl _ | apply List.Sublist.cons_cons | apply List.Sublist.cons))) rfl (by kernel_rfl) (by kernel_rfl) (v_loadBN 7 rfl Try.underlying36 rfl Try.hi36 Try.cz36 rfl rfl rfl) rfl ?_ | refine a_take 5 pan_cx (by kernel_rfl) (fun _ hw => hw.sub (by repeat (first | exact List.Sublist.slnil | exact List.Sublist.refl _ | apply List.Sublist.cons_cons | apply List.Sublist.cons))) rfl (by kernel_rfl) (by kernel_rfl) (v_loadBN 8 rfl Try.underlying36 rfl Try.hi36 Try.cz36 rfl rfl rfl) rfl ?_ | refine a_take 5 pan_cx (by kernel_rfl) (fun _ hw => hw.sub (by repeat (first | exact List.Sublist.slnil | exact List.Sublist.refl _ | apply List.Sublist.cons_cons | apply List.Sublist.cons))) rfl (by kernel_rfl) (by kernel_rfl) (v_loadBN 9 rfl Try.underlying36 rfl Try.hi36 Try.cz36 rfl rfl rfl) rfl ?_ | refine a_take 5 pan_cx (by kernel_rfl) (fun _ hw => hw.sub (by repeat (first | exact List.Sublist.slnil | exact List.Sublist.refl _ | apply List.Sublist.cons_cons | apply List.Sublist.cons))) rfl (by kernel_rfl) (by kernel_rfl) (v_loadBN 10 rfl Try.underlying36 rfl Try.hi36 Try.cz36 rfl rfl rfl) rfl ?_ | refine a_take 5 pan_cx (by kernel_rfl) (fun _ hw => hw.sub (by repeat (first | exact List.Sublist.slnil | exact List.Sublist.refl _ | apply List.Sublist.cons_cons | apply List.Sublist.cons))) rfl (by kernel_rfl) (by kernel_rfl) (v_loadBN 11 rfl Try.underlying36 rfl Try.hi36 Try.cz36 rfl rfl rfl) rfl ?_
          refine a_one 6 (by kernel_rfl) rfl rfl ?_
          refine x_call (dst := some 45) (mc := lsH p b32 S L k) (mr := []) (σ := (Value × Value) × (Option Addr × Nat) × List Value × (Nat → Prop)) (fun _ => True) (fun _ => .bool true) (fun y => lsH p b32 ⟨y.1.1, y.1.2, .slice y.2.1.1 L2.length y.2.1.2, y.2.2.1, y.2.2.2⟩ L2 k2) rfl rfl rfl Try.call17 (fun w hw => hst w hw.part.1 hw.part.2 (hr.mono (hw.offm (fun c hc => List.mem_append_left _ hc)))) rfl (fun y _ => ?_)
          refine a_and (fun _ hw => hw.sub (by repeat (first | exact List.Sublist.slnil | exact List.Sublist.refl _ | apply List.Sublist.cons_cons | apply List.Sublist.cons))) ?_
          refine a_take 7 pan_cx (by kernel_rfl) (fun _ hw => hw.sub (by repeat (first | exact List.Sublist.slnil | exact List.Sublist.refl _ | apply List.Sublist.cons_cons | apply List.Sublist.cons))) rfl (by kernel_rfl) (by kernel_rfl) (v_is (v' := .bool false) (v_not rfl) (by rfl)) rfl ?_
          refine a_take 8 pan_cx (by kernel_rfl) (fun _ hw => hw.sub (by repeat (first | exact List.Sublist.slnil | exact List.Sublist.refl _ | apply List.Sublist.cons_cons | apply List.Sublist.cons))) rfl (by kernel_rfl) (by kernel_rfl) (v_move rfl) rfl ?_
          refine a_want 9 pan_cx (by kernel_rfl) (fun _ hw => hw.sub (by repeat (first | exact List.Sublist.slnil | exact List.Sublist.refl _ | apply List.Sublist.cons_cons | apply List.Sublist.cons))) rfl (by kernel_rfl) (by kernel_rfl) rfl rfl (v_move rfl) rfl ?_
          refine a_want 11 pan_cx (by kernel_rfl) (fun _ hw => hw.sub (by repeat (first | exact List.Sublist.slnil | exact List.Sublist.refl _ | apply List.Sublist.cons_cons | apply List.Sublist.cons))) rfl (by kernel_rfl) (by kernel_rfl) rfl rfl (v_move rfl) rfl ?_
          refine a_want 12 pan_cx (by kernel_rfl) (fun _ hw => hw.sub (by repeat (first | exact List.Sublist.slnil | exact List.Sublist.refl _ | apply List.Sublist.cons_cons | apply List.Sublist.cons))) rfl (by kernel_rfl) (by kernel_rfl) rfl rfl (v_nilCheck rfl) rfl ?_
          first | refine a_want 13 pan_cx (by kernel_rfl) (fun _ hw => hw.sub (by repeat (first | exact List.Sublist.slnil | exact List.Sublist.refl _ | apply List.Sublist.cons_cons | apply List.Sublist.cons))) rfl (by kernel_rfl) (by kernel_rfl) rfl rfl (v_fieldAddrB (o := 0) Try.underlying31 rfl rfl Try.nz29 rfl) rfl ?_ | refine a_want 13 pan_cx (by kernel_rfl) (fun _ hw => hw.sub (by repeat (first | exact List.Sublist.slnil | exact List.Sublist.refl _ | apply List.Sublist.cons_cons | apply List.Sublist.cons))) rfl (by kernel_rfl) (by kernel_rfl) rfl rfl (v_fieldAddr (o := 0) Try.underlying31 rfl rfl Try.nz29 rfl) rfl ?_
          refine a_all [10, 14] (by kernel_rfl) rfl ?_
          intro i hi
          simp only [List.mem_cons, List.not_mem_nil, or_false] at hi
          rcases hi with rfl | rfl
          · refine a_opW rfl rfl rfl ?_
            refine x_call0 (v := .int .i64 (L2.length : Int)) rfl rfl rfl Try.call18 rfl (fun w hw => logLen_spec p y.1.1 y.1.2 L2 k2 w (LgV.at hw 0 rfl rfl rfl)) ?_
            refine a_and (fun _ hw => hw.sub (by repeat (first | exact List.Sublist.slnil | exact List.Sublist.refl _ | apply List.Sublist.cons_cons | apply List.Sublist.cons))) ?_
            refine a_oneW 14 (by kernel_rfl) rfl rfl rfl ?_
            first | refine x_val (v_loadO Try.underlying29 rfl rfl ((hcs') _ _ rfl)) rfl ?_ | refine x_val (v_loadB 0 rfl Try.underlying29 rfl rfl rfl) rfl ?_ | refine x_val (v_loadB 1 rfl Try.underlying29 rfl rfl rfl) rfl ?_ | refine x_val (v_loadB 2 rfl Try.underlying29 rfl rfl rfl) rfl ?_ | refine x_val (v_loadB 3 rfl Try.underlying29 rfl rfl rfl) rfl ?_ | refine x_val (v_loadB 4 rfl Try.underlying29 rfl rfl rfl) rfl ?_ | refine x_val (v_loadB 5 rfl Try.underlying29 rfl rfl rfl) rfl ?_ | refine x_val (v_loadB 6 rfl Try.underlying29 rfl rfl rfl) rfl ?_ | refine x_val (v_loadB 7 rfl Try.underlying29 rfl rfl rfl) rfl ?_ | refine x_val (v_loadB 8 rfl Try.underlying29 rfl rfl rfl) rfl ?_ | refine x_val (v_loadB 9 rfl Try.underlying29 rfl rfl rfl) rfl ?_ | refine x_val (v_loadB 10 rfl Try.underlying29 rfl rfl rfl) rfl ?_ | refine x_val (v_loadB 11 rfl Try.underlying29 rfl rfl rfl) rfl ?_
            refine a_and (fun _ hw => hw.sub (by repeat (first | exact List.Sublist.slnil | exact List.Sublist.refl _ | apply List.Sublist.cons_cons | apply List.Sublist.cons))) ?_
            refine a_want 15 pan_cx (by kernel_rfl) (fun _ hw => hw.sub (by repeat (first | exact List.Sublist.slnil | exact List.Sublist.refl _ | apply List.Sublist.cons_cons | apply List.Sublist.cons))) rfl (by kernel_rfl) (by kernel_rfl) rfl rfl (v_lenS Try.underlying29 rfl) rfl ?_
            refine a_want 16 pan_cx (by kernel_rfl) (fun _ hw => hw.sub (by repeat (first | exact List.Sublist.slnil | exact List.Sublist.refl _ | apply List.Sublist.cons_cons | apply List.Sublist.cons))) rfl (by kernel_rfl) (by kernel_rfl) rfl rfl (v_is (v' := .bool false) (v_neq rfl rfl) (by rw [decide_eq_false (fun h => h rfl)])) rfl ?_
            first | refine a_take 17 pan_cx (by kernel_rfl) (fun _ hw => hw.sub (by repeat (first | exact List.Sublist.slnil | exact List.Sublist.refl _ | apply List.Sublist.cons_cons | apply List.Sublist.cons))) rfl (by kernel_rfl) (by kernel_rfl) (v_pickT rfl rfl) rfl ?_ | refine a_take 17 pan_cx (by kernel_rfl) (fun _ hw => hw.sub (by repeat (first | exact List.Sublist.slnil | exact List.Sublist.refl _ | apply List.Sublist.cons_cons | apply List.Sublist.cons))) rfl (by kernel_rfl) (by kernel_rfl) (v_pickF rfl rfl) rfl ?_
            refine a_take 18 pan_cx (by kernel_rfl) (fun _ hw => hw.sub (by repeat (first | exact List.Sublist.slnil | exact List.Sublist.refl _ | apply List.Sublist.cons_cons | apply List.Sublist.cons))) rfl (by kernel_rfl) (by kernel_rfl) (v_move rfl) rfl ?_
            refine a_want 19 pan_cx (by kernel_rfl) (fun _ hw => hw.sub (by repeat (first | exact List.Sublist.slnil | exact List.Sublist.refl _ | apply List.Sublist.cons_cons | apply List.Sublist.cons))) rfl (by kernel_rfl) (by kernel_rfl) rfl rfl (v_move rfl) rfl ?_
            refine a_want 21 pan_cx (by kernel_rfl) (fun _ hw => hw.sub (by repeat (first | exact List.Sublist.slnil | exact List.Sublist.refl _ | apply List.Sublist.cons_cons | apply List.Sublist.cons))) rfl (by kernel_rfl) (by kernel_rfl) rfl rfl (v_move rfl) rfl ?_
            refine a_want 22 pan_cx (by kernel_rfl) (fun _ hw => hw.sub (by repeat (first | exact List.Sublist.slnil | exact List.Sublist.refl _ | apply List.Sublist.cons_cons | apply List.Sublist.cons))) rfl (by kernel_rfl) (by kernel_rfl) rfl rfl (v_nilCheck rfl) rfl ?_
            first | refine a_want 23 pan_cx (by kernel_rfl) (fun _ hw => hw.sub (by repeat (first | exact List.Sublist.slnil | exact List.Sublist.refl _ | apply List.Sublist.cons_cons | apply List.Sublist.cons))) rfl (by kernel_rfl) (by kernel_rfl) rfl rfl (v_fieldAddrB (o := 1) Try.underlying31 rfl rfl Try.nz3 rfl) rfl ?_ | refine a_want 23 pan_cx (by kernel_rfl) (fun _ hw => hw.sub (by repeat (first | exact List.Sublist.slnil | exact List.Sublist.refl _ | apply List.Sublist.cons_cons | apply List.Sublist.cons))) rfl (by kernel_rfl) (by kernel_rfl) rfl rfl (v_fieldAddr (o := 1) Try.underlying31 rfl rfl Try.nz3 rfl) rfl ?_
            refine a_all [20, 24] (by kernel_rfl) rfl ?_
            intro i hi
            simp only [List.mem_cons, List.not_mem_nil, or_false] at hi
            rcases hi with rfl | rfl
            · refine a_opW rfl rfl rfl ?_
              refine x_call0 (v := .int .i64 (k2 : Int)) rfl rfl rfl Try.call19 rfl (fun w hw => logSure_spec p y.1.1 y.1.2 L2 k2 w (LgV.at hw 0 rfl rfl rfl) hok2.len hok2.sure) ?_
              refine a_and (fun _ hw => hw.sub (by repeat (first | exact List.Sublist.slnil | exact List.Sublist.refl _ | apply List.Sublist.cons_cons | apply List.Sublist.cons))) ?_
              refine a_oneW 24 (by kernel_rfl) rfl rfl rfl ?_
              first | refine x_val (v_loadO Try.underlying3 rfl rfl ((hcs') _ _ rfl)) rfl ?_ | refine x_val (v_loadB 0 rfl Try.underlying3 rfl rfl rfl) rfl ?_ | refine x_val (v_loadB 1 rfl Try.underlying3 rfl rfl rfl) rfl ?_ | refine x_val (v_loadB 2 rfl Try.underlying3 rfl rfl rfl) rfl ?_ | refine x_val (v_loadB 3 rfl Try.underlying3 rfl rfl rfl) rfl ?_ | refine x_val (v_loadB 4 rfl Try.underlying3 rfl rfl rfl) rfl ?_ | refine x_val (v_loadB 5 rfl Try.underlying3 rfl rfl rfl) rfl ?_ | refine x_val (v_loadB 6 rfl Try.underlying3 rfl rfl rfl) rfl ?_ | refine x_val (v_loadB 7 rfl Try.underlying3 rfl rfl rfl) rfl ?_ | refine x_val (v_loadB 8 rfl Try.underlying3 rfl rfl rfl) rfl ?_ | refine x_val (v_loadB 9 rfl Try.underlying3 rfl rfl rfl) rfl ?_ | refine x_val (v_loadB 10 rfl Try.underlying3 rfl rfl rfl) rfl ?_ | refine x_val (v_loadB 11 rfl Try.underlying3 rfl rfl rfl) rfl ?_
              refine a_and (fun _ hw => hw.sub (by repeat (first | exact List.Sublist.slnil | exact List.Sublist.refl _ | apply List.Sublist.cons_cons | apply List.Sublist.cons))) ?_
              refine a_want 25 pan_cx (by kernel_rfl) (fun _ hw => hw.sub (by repeat (first | exact List.Sublist.slnil | exact List.Sublist.refl _ | apply List.Sublist.cons_cons | apply List.Sublist.cons))) rfl (by kernel_rfl) (by kernel_rfl) rfl rfl (v_is (v' := .bool false) (v_neq rfl rfl) (by rw [decide_eq_false (fun h => h rfl)])) rfl ?_
              first | refine a_take 26 pan_cx (by kernel_rfl) (fun _ hw => hw.sub (by repeat (first | exact List.Sublist.slnil | exact List.Sublist.refl _ | apply List.Sublist.cons_cons | apply List.Sublist.cons))) rfl (by kernel_rfl) (by kernel_rfl) (v_pickT rfl rfl) rfl ?_ | refine a_take 26 pan_cx (by kernel_rfl) (fun _ hw => hw.sub (by repeat (first | exact List.Sublist.slnil | exact List.Sublist.refl _ | apply List.Sublist.cons_cons | apply List.Sublist.cons))) rfl (by kernel_rfl) (by kernel_rfl) (v_pickF rfl rfl) rfl ?_
              refine a_done (by kernel_rfl) ?_
              exact e_cutEnd y trivial (by repeat (first | exact Sub.nil _ | refine Sub.cons rfl ?_)) (fun _ hw => hw)
            · refine a_opW rfl rfl rfl ?_
              first | refine x_val (v_loadO Try.underlying3 rfl rfl ((hcs') _ _ rfl)) rfl ?_ | refine x_val (v_loadB 0 rfl Try.underlying3 rfl rfl rfl) rfl ?_ | refine x_val (v_loadB 1 rfl Try.underlying3 rfl rfl rfl) rfl ?_ | refine x_val (v_loadB 2 rfl Try.underlying3 rfl rfl rfl) rfl ?_ | refine x_val (v_loadB 3 rfl Try.underlying3 rfl rfl rfl) rfl ?_ | refine x_val (v_loadB 4 rfl Try.underlying3 rfl rfl rfl) rfl ?_ | refine x_val (v_loadB 5 rfl Try.underlying3 rfl rfl rfl) rfl ?_ | refine x_val (v_loadB 6 rfl Try.underlying3 rfl rfl rfl) rfl ?_ | refine x_val (v_loadB 7 rfl Try.underlying3 rfl rfl rfl) rfl ?_ | refine x_val (v_loadB 8 rfl Try.underlying3 rfl rfl rfl) rfl ?_ | refine x_val (v_loadB 9 rfl Try.underlying3 rfl rfl rfl) rfl ?_ | refine x_val (v_loadB 10 rfl Try.underlying3 rfl rfl rfl) rfl ?_ | refine x_val (v_loadB 11 rfl Try.underlying3 rfl rfl rfl) rfl ?_
              refine a_and (fun _ hw => hw.sub (by repeat (first | exact List.Sublist.slnil | exact List.Sublist.refl _ | apply List.Sublist.cons_cons | apply List.Sublist.cons))) ?_
              refine a_oneW 20 (by kernel_rfl) rfl rfl rfl ?_
              refine x_call0 (v := .int .i64 (k2 : Int)) rfl rfl rfl Try.call19 rfl (fun w hw => logSure_spec p y.1.1 y.1.2 L2 k2 w (LgV.at hw 0 rfl rfl rfl) hok2.len hok2.sure) ?_
              refine a_and (fun _ hw => hw.sub (by repeat (first | exact List.Sublist.slnil | exact List.Sublist.refl _ | apply List.Sublist.cons_cons | apply List.Sublist.cons))) ?_
              refine a_want 25 pan_cx (by kernel_rfl) (fun _ hw => hw.sub (by repeat (first | exact List.Sublist.slnil | exact List.Sublist.refl _ | apply List.Sublist.cons_cons | apply List.Sublist.cons))) rfl (by kernel_rfl) (by kernel_rfl) rfl rfl (v_is (v' := .bool false) (v_neq rfl rfl) (by rw [decide_eq_false (fun h => h rfl)])) rfl ?_
              first | refine a_take 26 pan_cx (by kernel_rfl) (fun _ hw => hw.sub (by repeat (first | exact List.Sublist.slnil | exact List.Sublist.refl _ | apply List.Sublist.cons_cons | apply List.Sublist.cons))) rfl (by kernel_rfl) (by kernel_rfl) (v_pickT rfl rfl) rfl ?_ | refine a_take 26 pan_cx (by kernel_rfl) (fun _ hw => hw.sub (by repeat (first | exact List.Sublist.slnil | exact List.Sublist.refl _ | apply List.Sublist.cons_cons | apply List.Sublist.cons))) rfl (by kernel_rfl) (by kernel_rfl) (v_pickF rfl rfl) rfl ?_
              refine a_done (by kernel_rfl) ?_
              exact e_cutEnd y trivial (by repeat (first | exact Sub.nil _ | refine Sub.cons rfl ?_)) (fun _ hw => hw)
          · refine a_opW rfl rfl rfl ?_
            first | refine x_val (v_loadO Try.underlying29 rfl rfl ((hcs') _ _ rfl)) rfl ?_ | refine x_val (v_loadB 0 rfl Try.underlying29 rfl rfl rfl) rfl ?_ | refine x_val (v_loadB 1 rfl Try.underlying29 rfl rfl rfl) rfl ?_ | refine x_val (v_loadB 2 rfl Try.underlying29 rfl rfl rfl) rfl ?_ | refine x_val (v_loadB 3 rfl Try.underlying29 rfl rfl rfl) rfl ?_ | refine x_val (v_loadB 4 rfl Try.underlying29 rfl rfl rfl) rfl ?_ | refine x_val (v_loadB 5 rfl Try.underlying29 rfl rfl rfl) rfl ?_ | refine x_val (v_loadB 6 rfl Try.underlying29 rfl rfl rfl) rfl ?_ | refine x_val (v_loadB 7 rfl Try.underlying29 rfl rfl rfl) rfl ?_ | refine x_val (v_loadB 8 rfl Try.underlying29 rfl rfl rfl) rfl ?_ | refine x_val (v_loadB 9 rfl Try.underlying29 rfl rfl rfl) rfl ?_ | refine x_val (v_loadB 10 rfl Try.underlying29 rfl rfl rfl) rfl ?_ | refine x_val (v_loadB 11 rfl Try.underlying29 rfl rfl rfl) rfl ?_
            refine a_and (fun _ hw => hw.sub (by repeat (first | exact List.Sublist.slnil | exact List.Sublist.refl _ | apply List.Sublist.cons_cons | apply List.Sublist.cons))) ?_
            refine a_want 15 pan_cx (by kernel_rfl) (fun _ hw => hw.sub (by repeat (first | exact List.Sublist.slnil | exact List.Sublist.refl _ | apply List.Sublist.cons_cons | apply List.Sublist.cons))) rfl (by kernel_rfl) (by kernel_rfl) rfl rfl (v_lenS Try.underlying29 rfl) rfl ?_
            refine a_oneW 10 (by kernel_rfl) rfl rfl rfl ?_
            refine x_call0 (v := .int .i64 (L2.length : Int)) rfl rfl rfl Try.call18 rfl (fun w hw => logLen_spec p y.1.1 y.1.2 L2 k2 w (LgV.at hw 0 rfl rfl rfl)) ?_
            refine a_and (fun _ hw => hw.sub (by repeat (first | exact List.Sublist.slnil | exact List.Sublist.refl _ | apply List.Sublist.cons_cons | apply List.Sublist.cons))) ?_
            refine a_want 16 pan_cx (by kernel_rfl) (fun _ hw => hw.sub (by repeat (first | exact List.Sublist.slnil | exact List.Sublist.refl _ | apply List.Sublist.cons_cons | apply List.Sublist.cons))) rfl (by kernel_rfl) (by kernel_rfl) rfl rfl (v_is (v' := .bool false) (v_neq rfl rfl) (by rw [decide_eq_false (fun h => h rfl)])) rfl ?_
            first | refine a_take 17 pan_cx (by kernel_rfl) (fun _ hw => hw.sub (by repeat (first | exact List.Sublist.slnil | exact List.Sublist.refl _ | apply List.Sublist.cons_cons | apply List.Sublist.cons))) rfl (by kernel_rfl) (by kernel_rfl) (v_pickT rfl rfl) rfl ?_ | refine a_take 17 pan_cx (by kernel_rfl) (fun _ hw => hw.sub (by repeat (first | exact List.Sublist.slnil | exact List.Sublist.refl _ | apply List.Sublist.cons_cons | apply List.Sublist.cons))) rfl (by kernel_rfl) (by kernel_rfl) (v_pickF rfl rfl) rfl ?_
            refine a_take 18 pan_cx (by kernel_rfl) (fun _ hw => hw.sub (by repeat (first | exact List.Sublist.slnil | exact List.Sublist.refl _ | apply List.Sublist.cons_cons | apply List.Sublist.cons))) rfl (by kernel_rfl) (by kernel_rfl) (v_move rfl) rfl ?_
            refine a_want 19 pan_cx (by kernel_rfl) (fun _ hw => hw.sub (by repeat (first | exact List.Sublist.slnil | exact List.Sublist.refl _ | apply List.Sublist.cons_cons | apply List.Sublist.cons))) rfl (by kernel_rfl) (by kernel_rfl) rfl rfl (v_move rfl) rfl ?_
            refine a_want 21 pan_cx (by kernel_rfl) (fun _ hw => hw.sub (by repeat (first | exact List.Sublist.slnil | exact List.Sublist.refl _ | apply List.Sublist.cons_cons | apply List.Sublist.cons))) rfl (by kernel_rfl) (by kernel_rfl) rfl rfl (v_move rfl) rfl ?_
            refine a_want 22 pan_cx (by kernel_rfl) (fun _ hw => hw.sub (by repeat (first | exact List.Sublist.slnil | exact List.Sublist.refl _ | apply List.Sublist.cons_cons | apply List.Sublist.cons))) rfl (by kernel_rfl) (by kernel_rfl) rfl rfl (v_nilCheck rfl) rfl ?_
            first | refine a_want 23 pan_cx (by kernel_rfl) (fun _ hw => hw.sub (by repeat (first | exact List.Sublist.slnil | exact List.Sublist.refl _ | apply List.Sublist.cons_cons | apply List.Sublist.cons))) rfl (by kernel_rfl) (by kernel_rfl) rfl rfl (v_fieldAddrB (o := 1) Try.underlying31 rfl rfl Try.nz3 rfl) rfl ?_ | refine a_want 23 pan_cx (by kernel_rfl) (fun _ hw => hw.sub (by repeat (first | exact List.Sublist.slnil | exact List.Sublist.refl _ | apply List.Sublist.cons_cons | apply List.Sublist.cons))) rfl (by kernel_rfl) (by kernel_rfl) rfl rfl (v_fieldAddr (o := 1) Try.underlying31 rfl rfl Try.nz3 rfl) rfl ?_
            refine a_all [20, 24] (by kernel_rfl) rfl ?_
            intro i hi
            simp only [List.mem_cons, List.not_mem_nil, or_false] at hi
            rcases hi with rfl | rfl
            · refine a_opW rfl rfl rfl ?_
              refine x_call0 (v := .int .i64 (k2 : Int)) rfl rfl rfl Try.call19 rfl (fun w hw => logSure_spec p y.1.1 y.1.2 L2 k2 w (LgV.at hw 0 rfl rfl rfl) hok2.len hok2.sure) ?_
              refine a_and (fun _ hw => hw.sub (by repeat (first | exact List.Sublist.slnil | exact List.Sublist.refl _ | apply List.Sublist.cons_cons | apply List.Sublist.cons))) ?_
              refine a_oneW 24 (by kernel_rfl) rfl rfl rfl ?_
              first | refine x_val (v_loadO Try.underlying3 rfl rfl ((hcs') _ _ rfl)) rfl ?_ | refine x_val (v_loadB 0 rfl Try.underlying3 rfl rfl rfl) rfl ?_ | refine x_val (v_loadB 1 rfl Try.underlying3 rfl rfl rfl) rfl ?_ | refine x_val (v_loadB 2 rfl Try.underlying3 rfl rfl rfl) rfl ?_ | refine x_val (v_loadB 3 rfl Try.underlying3 rfl rfl rfl) rfl ?_ | refine x_val (v_loadB 4 rfl Try.underlying3 rfl rfl rfl) rfl ?_ | refine x_val (v_loadB 5 rfl Try.underlying3 rfl rfl rfl) rfl ?_ | refine x_val (v_loadB 6 rfl Try.underlying3 rfl rfl rfl) rfl ?_ | refine x_val (v_loadB 7 rfl Try.underlying3 rfl rfl rfl) rfl ?_ | refine x_val (v_loadB 8 rfl Try.underlying3 rfl rfl rfl) rfl ?_ | refine x_val (v_loadB 9 rfl Try.underlying3 rfl rfl rfl) rfl ?_ | refine x_val (v_loadB 10 rfl Try.underlying3 rfl rfl rfl) rfl ?_ | refine x_val (v_loadB 11 rfl Try.underlying3 rfl rfl rfl) rfl ?_
              refine a_and (fun _ hw => hw.sub (by repeat (first | exact List.Sublist.slnil | exact List.Sublist.refl _ | apply List.Sublist.cons_cons | apply List.Sublist.cons))) ?_
              refine a_want 25 pan_cx (by kernel_rfl) (fun _ hw => hw.sub (by repeat (first | exact List.Sublist.slnil | exact List.Sublist.refl _ | apply List.Sublist.cons_cons | apply List.Sublist.cons))) rfl (by kernel_rfl) (by kernel_rfl) rfl rfl (v_is (v' := .bool false) (v_neq rfl rfl) (by rw [decide_eq_false (fun h => h rfl)])) rfl ?_
              first | refine a_take 26 pan_cx (by kernel_rfl) (fun _ hw => hw.sub (by repeat (first | exact List.Sublist.slnil | exact List.Sublist.refl _ | apply List.Sublist.cons_cons | apply List.Sublist.cons))) rfl (by kernel_rfl) (by kernel_rfl) (v_pickT rfl rfl) rfl ?_ | refine a_take 26 pan_cx (by kernel_rfl) (fun _ hw => hw.sub (by repeat (first | exact List.Sublist.slnil | exact List.Sublist.refl _ | apply List.Sublist.cons_cons | apply List.Sublist.cons))) rfl (by kernel_rfl) (by kernel_rfl) (v_pickF rfl rfl) rfl ?_
              refine a_done (by kernel_rfl) ?_
              exact e_cutEnd y trivial (by repeat (first | exact Sub.nil _ | refine Sub.cons rfl ?_)) (fun _ hw => hw)
            · refine a_opW rfl rfl rfl ?_
              first | refine x_val (v_loadO Try.underlying3 rfl rfl ((hcs') _ _ rfl)) rfl ?_ | refine x_val (v_loadB 0 rfl Try.underlying3 rfl rfl rfl) rfl ?_ | refine x_val (v_loadB 1 rfl Try.underlying3 rfl rfl rfl) rfl ?_ | refine x_val (v_loadB 2 rfl Try.underlying3 rfl rfl rfl) rfl ?_ | refine x_val (v_loadB 3 rfl Try.underlying3 rfl rfl rfl) rfl ?_ | refine x_val (v_loadB 4 rfl Try.underlying3 rfl rfl rfl) rfl ?_ | refine x_val (v_loadB 5 rfl Try.underlying3 rfl rfl rfl) rfl ?_ | refine x_val (v_loadB 6 rfl Try.underlying3 rfl rfl rfl) rfl ?_ | refine x_val (v_loadB 7 rfl Try.underlying3 rfl rfl rfl) rfl ?_ | refine x_val (v_loadB 8 rfl Try.underlying3 rfl rfl rfl) rfl ?_ | refine x_val (v_loadB 9 rfl Try.underlying3 rfl rfl rfl) rfl ?_ | refine x_val (v_loadB 10 rfl Try.underlying3 rfl rfl rfl) rfl ?_ | refine x_val (v_loadB 11 rfl Try.underlying3 rfl rfl rfl) rfl ?_
              refine a_and (fun _ hw => hw.sub (by repeat (first | exact List.Sublist.slnil | exact List.Sublist.refl _ | apply List.Sublist.cons_cons | apply List.Sublist.cons))) ?_
              refine a_oneW 20 (by kernel_rfl) rfl rfl rfl ?_
              refine x_call0 (v := .int .i64 (k2 : Int)) rfl rfl rfl Try.call19 rfl (fun w hw => logSure_spec p y.1.1 y.1.2 L2 k2 w (LgV.at hw 0 rfl rfl rfl) hok2.len hok2.sure) ?_
              refine a_and (fun _ hw => hw.sub (by repeat (first | exact List.Sublist.slnil | exact List.Sublist.refl _ | apply List.Sublist.cons_cons | apply List.Sublist.cons))) ?_
              refine a_want 25 pan_cx (by kernel_rfl) (fun _ hw => hw.sub (by repeat (first | exact List.Sublist.slnil | exact List.Sublist.refl _ | apply List.Sublist.cons_cons | apply List.Sublist.cons))) rfl (by kernel_rfl) (by kernel_rfl) rfl rfl (v_is (v' := .bool false) (v_neq rfl rfl) (by rw [decide_eq_false (fun h => h rfl)])) rfl ?_
              first | refine a_take 26 pan_cx (by kernel_rfl) (fun _ hw => hw.sub (by repeat (first | exact List.Sublist.slnil | exact List.Sublist.refl _ | apply List.Sublist.cons_cons | apply List.Sublist.cons))) rfl (by kernel_rfl) (by kernel_rfl) (v_pickT rfl rfl) rfl ?_ | refine a_take 26 pan_cx (by kernel_rfl) (fun _ hw => hw.sub (by repeat (first | exact List.Sublist.slnil | exact List.Sublist.refl _ | apply List.Sublist.cons_cons | apply List.Sublist.cons))) rfl (by kernel_rfl) (by kernel_rfl) (v_pickF rfl rfl) rfl ?_
              refine a_done (by kernel_rfl) ?_
              exact e_cutEnd y trivial (by repeat (first | exact Sub.nil _ | refine Sub.cons rfl ?_)) (fun _ hw => hw)
        · rintro y -
          refine e_condF rfl ?_
          refine e_skip ?_
          refine e_blk ?_
          refine e_region ?_
          refine w_val (v_move rfl) rfl ?_
          first | refine w_val (v_add rfl rfl (by omega)) rfl ?_ | refine w_val (v_addw rfl rfl) rfl ?_
          refine w_val (v_assign rfl) rfl ?_
          refine w_nil ?_
          exact e_round ((i + 1, ⟨y.1.1, y.1.2, .slice y.2.1.1 L2.length y.2.1.2, y.2.2.1, y.2.2.2⟩, L2, k2)) (⟨by dsimp only; omega, hok2⟩) (by dsimp only; omega) (by repeat (first | exact Sub.nil _ | refine Sub.cons rfl ?_)) (fun _ hw => hw)
      · obtain ⟨bv, ev, lv, vs, G0⟩ := S
        have hB := hok.bytes
        have h25 := hok.len
        refine g_shapeR2 4 rfl fun Al kl hlv hkl hAl => ?_
        dsimp only at hlv
        subst hlv
        refine g_rounds 5 rfl fun hvl => ?_
        dsimp only at hvl
        refine e_exit rfl ?_
        refine e_seq ?_
        refine e_region ?_
        refine w_val (v_move rfl) rfl ?_
        refine w_val (v_move rfl) rfl ?_
        refine w_op rfl ?_
        refine x_call (dst := some 69) (mc := []) (σ := Value × (Nat → Prop)) (fun _ => True) (fun s => .tuple #[s.1, .bool (decide (0 ≤ n ∧ n < L.length))]) (fun s => [Keep s.2 (fun c => IsRound c s.1 (roundAt L n))]) rfl rfl rfl Try.call20 (fun w hw => logRound_any p bv ev L k n w (LgV.at hw 0 rfl rfl rfl) hok) rfl (fun s _ => ?_)
        obtain ⟨sl, G1⟩ := s
        dsimp only
        refine g_round 0 rfl fun A2 k2 hsl hk2 => ?_
        subst hsl
        refine w_val (v_move rfl) rfl ?_
        refine w_val (v_extract rfl rfl) rfl ?_
        refine w_val (v_extract rfl rfl) rfl ?_
        refine w_val (v_assign rfl) rfl ?_
        refine w_val (v_assign rfl) rfl ?_
        refine w_nil ?_
        refine e_seq ?_
        refine e_seq ?_
        refine e_cutH (σ := Unit) [2, 7, 8] (.cons rfl (.cons rfl (.cons rfl .nil))) (fun _ => [(108, .bool false)]) (fun _ => lsH p b32 ⟨bv, ev, .slice Al L.length kl, vs, G0⟩ L k) (fun _ => True) ?_ ?_
        · by_cases hn : 0 ≤ n ∧ n < L.length
          · obtain ⟨i, rfl⟩ : ∃ i : Nat, n = i := ⟨n.toNat, by omega⟩
            have hi' : i < L.length := by omega
            have hat : roundAt L i = L[i] := by simp [roundAt, hi']
            have hiv : i < vs.length := by omega
            have hu : vs[((i : Int)).toNat * 1]? = some vs[i] := by rw [Int.toNat_natCast, Nat.mul_one]; exact List.getElem?_eq_getElem hiv
            have hsm := small_of (hok.all L[i] (List.getElem_mem _)).1
            obtain ⟨ad, rfl⟩ := hAl (by omega)
            rw [decide_eq_true hn, hat]
            refine e_region ?_
            refine w_val (v_move rfl) rfl ?_
            refine w_val (v_move rfl) rfl ?_
            refine w_val (v_is (v' := .bool true) (v_geq rfl rfl) (by rw [decide_eq_true (by omega)])) rfl ?_
            refine w_val (v_move rfl) rfl ?_
            refine w_want rfl rfl ?_
            refine w_val (v_move rfl) rfl ?_
            refine w_want rfl rfl ?_
            refine w_val (v_move rfl) rfl ?_
            refine w_want rfl rfl ?_
            refine w_val (v_nilCheck rfl) rfl ?_
            refine w_want rfl rfl ?_
            first | refine w_val (v_fieldAddrB (o := 0) Try.underlying31 rfl rfl Try.nz29 rfl) rfl ?_ | refine w_val (v_fieldAddr (o := 0) Try.underlying31 rfl rfl Try.nz29 rfl) rfl ?_
            refine w_want rfl rfl ?_
            first | refine w_val (v_loadO Try.underlying29 rfl rfl ((hcs') _ _ rfl)) rfl ?_ | refine w_val (v_loadB 0 rfl Try.underlying29 rfl rfl rfl) rfl ?_ | refine w_val (v_loadB 1 rfl Try.underlying29 rfl rfl rfl) rfl ?_ | refine w_val (v_loadB 2 rfl Try.underlying29 rfl rfl rfl) rfl ?_ | refine w_val (v_loadB 3 rfl Try.underlying29 rfl rfl rfl) rfl ?_ | refine w_val (v_loadB 4 rfl Try.underlying29 rfl rfl rfl) rfl ?_ | refine w_val (v_loadB 5 rfl Try.underlying29 rfl rfl rfl) rfl ?_ | refine w_val (v_loadB 6 rfl Try.underlying29 rfl rfl rfl) rfl ?_ | refine w_val (v_loadB 7 rfl Try.underlying29 rfl rfl rfl) rfl ?_ | refine w_val (v_loadB 8 rfl Try.underlying29 rfl rfl rfl) rfl ?_ | refine w_val (v_loadB 9 rfl Try.underlying29 rfl rfl rfl) rfl ?_ | refine w_val (v_loadB 10 rfl Try.underlying29 rfl rfl rfl) rfl ?_ | refine w_val (v_loadB 11 rfl Try.underlying29 rfl rfl rfl) rfl ?_
            refine w_want rfl rfl ?_
            refine w_val (v_lenS Try.underlying29 rfl) rfl ?_
            refine w_want rfl rfl ?_
            refine w_val (v_is (v' := .bool true) (v_lss rfl rfl) (by rw [decide_eq_true (by omega)])) rfl ?_
            first | refine w_val (v_pickT rfl rfl) rfl ?_ | refine w_val (v_pickF rfl rfl) rfl ?_
            refine w_val (v_is (v' := .bool false) (v_neqBool Try.underlying4 rfl rfl) rfl) rfl ?_
            refine w_val (v_move rfl) rfl ?_
            refine w_want rfl rfl ?_
            refine w_val (v_move rfl) rfl ?_
            refine w_want rfl rfl ?_
            refine w_val (v_move rfl) rfl ?_
            refine w_want rfl rfl ?_
            refine w_val (v_move rfl) rfl ?_
            refine w_want rfl rfl ?_
            refine w_val (v_move rfl) rfl ?_
            refine w_want rfl rfl ?_
            refine w_val (v_nilCheck rfl) rfl ?_
            refine w_want rfl rfl ?_
            first | refine w_val (v_fieldAddrB (o := 0) Try.underlying31 rfl rfl Try.nz29 rfl) rfl ?_ | refine w_val (v_fieldAddr (o := 0) Try.underlying31 rfl rfl Try.nz29 rfl) rfl ?_
            refine w_want rfl rfl ?_
            first | refine w_val (v_loadO Try.underlying29 rfl rfl ((hcs') _ _ rfl)) rfl ?_ | refine w_val (v_loadB 0 rfl Try.underlying29 rfl rfl rfl) rfl ?_ | refine w_val (v_loadB 1 rfl Try.underlying29 rfl rfl rfl) rfl ?_ | refine w_val (v_loadB 2 rfl Try.underlying29 rfl rfl rfl) rfl ?_ | refine w_val (v_loadB 3 rfl Try.underlying29 rfl rfl rfl) rfl ?_ | refine w_val (v_loadB 4 rfl Try.underlying29 rfl rfl rfl) rfl ?_ | refine w_val (v_loadB 5 rfl Try.underlying29 rfl rfl rfl) rfl ?_ | refine w_val (v_loadB 6 rfl Try.underlying29 rfl rfl rfl) rfl ?_ | refine w_val (v_loadB 7 rfl Try.underlying29 rfl rfl rfl) rfl ?_ | refine w_val (v_loadB 8 rfl Try.underlying29 rfl rfl rfl) rfl ?_ | refine w_val (v_loadB 9 rfl Try.underlying29 rfl rfl rfl) rfl ?_ | refine w_val (v_loadB 10 rfl Try.underlying29 rfl rfl rfl) rfl ?_ | refine w_val (v_loadB 11 rfl Try.underlying29 rfl rfl rfl) rfl ?_
            refine w_want rfl rfl ?_
            refine w_val (v_move rfl) rfl ?_
            refine w_want rfl rfl ?_
            first | refine w_val (v_indexSB Try.underlying29 Try.hi34 Try.cz34 rfl rfl (by first | omega | decide)) rfl ?_ | refine w_val (v_indexS Try.underlying29 Try.hi34 Try.cz34 rfl rfl (by first | omega | decide)) rfl ?_
            refine w_want rfl rfl ?_
            refine w_val (v_loadR 5 rfl (by omega) hu Try.underlying34 rfl rfl) rfl ?_
            refine w_want rfl rfl ?_
            refine w_op rfl ?_
            refine x_call0 (v := .bool true) rfl rfl rfl Try.call21 rfl (fun w hw => Calls.boolT rfl (sameRound_spec _ _ L[i] L[i] w (keep_all (IsRound.up _ _) (hw.mem (i := 0) rfl)) ((keep_all (Rounds.up _ _) (hw.mem (i := 6) rfl)).at hi' (List.getElem?_eq_getElem hiv)) (by omega) (fun d hd => by have := hsm.2 d hd; omega))) ?_
            refine w_want rfl rfl ?_
            refine w_val (v_is (v' := .bool false) (v_not rfl) (by rfl)) rfl ?_
            refine w_want rfl rfl ?_
            first | refine w_val (v_pickT rfl rfl) rfl ?_ | refine w_val (v_pickF rfl rfl) rfl ?_
            first | refine w_val (v_pickT rfl rfl) rfl ?_ | refine w_val (v_pickF rfl rfl) rfl ?_
            refine w_val (v_move rfl) rfl ?_
            refine w_want rfl rfl ?_
            refine w_val (v_move rfl) rfl ?_
            refine w_want rfl rfl ?_
            refine w_val (v_is (v' := .bool false) (v_not rfl) (by rfl)) rfl ?_
            refine w_want rfl rfl ?_
            refine w_val (v_move rfl) rfl ?_
            refine w_skip rfl rfl rfl rfl ?_
            refine w_skip rfl rfl rfl rfl ?_
            refine w_skip rfl rfl rfl rfl ?_
            refine w_want rfl rfl ?_
            first | refine w_val (v_pickT rfl rfl) rfl ?_ | refine w_val (v_pickF rfl rfl) rfl ?_
            first | refine w_val (v_pickT rfl rfl) rfl ?_ | refine w_val (v_pickF rfl rfl) rfl ?_
            refine w_nil ?_
            exact e_cutEnd (()) (trivial) (by repeat (first | exact Sub.nil _ | refine Sub.cons rfl ?_)) (fun _ hw => hw.sub (List.sublist_cons_self _ _))
          · have hat : roundAt L n = [] := by
              unfold roundAt
              by_cases h0 : 0 ≤ n
              · rw [if_pos h0, List.getElem?_eq_none (by omega)]; rfl
              · rw [if_neg h0]
            rw [decide_eq_false hn, hat]
            by_cases h0 : 0 ≤ n
            · refine e_region ?_
              refine w_val (v_move rfl) rfl ?_
              refine w_val (v_move rfl) rfl ?_
              refine w_val (v_is (v' := .bool true) (v_geq rfl rfl) (by rw [decide_eq_true h0])) rfl ?_
              refine w_val (v_move rfl) rfl ?_
              refine w_want rfl rfl ?_
              refine w_val (v_move rfl) rfl ?_
              refine w_want rfl rfl ?_
              refine w_val (v_move rfl) rfl ?_
              refine w_want rfl rfl ?_
              refine w_val (v_nilCheck rfl) rfl ?_
              refine w_want rfl rfl ?_
              first | refine w_val (v_fieldAddrB (o := 0) Try.underlying31 rfl rfl Try.nz29 rfl) rfl ?_ | refine w_val (v_fieldAddr (o := 0) Try.underlying31 rfl rfl Try.nz29 rfl) rfl ?_
              refine w_want rfl rfl ?_
              first | refine w_val (v_loadO Try.underlying29 rfl rfl ((hcs') _ _ rfl)) rfl ?_ | refine w_val (v_loadB 0 rfl Try.underlying29 rfl rfl rfl) rfl ?_ | refine w_val (v_loadB 1 rfl Try.underlying29 rfl rfl rfl) rfl ?_ | refine w_val (v_loadB 2 rfl Try.underlying29 rfl rfl rfl) rfl ?_ | refine w_val (v_loadB 3 rfl Try.underlying29 rfl rfl rfl) rfl ?_ | refine w_val (v_loadB 4 rfl Try.underlying29 rfl rfl rfl) rfl ?_ | refine w_val (v_loadB 5 rfl Try.underlying29 rfl rfl rfl) rfl ?_ | refine w_val (v_loadB 6 rfl Try.underlying29 rfl rfl rfl) rfl ?_ | refine w_val (v_loadB 7 rfl Try.underlying29 rfl rfl rfl) rfl ?_ | refine w_val (v_loadB 8 rfl Try.underlying29 rfl rfl rfl) rfl ?_ | refine w_val (v_loadB 9 rfl Try.underlying29 rfl rfl rfl) rfl ?_ | refine w_val (v_loadB 10 rfl Try.underlying29 rfl rfl rfl) rfl ?_ | refine w_val (v_loadB 11 rfl Try.underlying29 rfl rfl rfl) rfl ?_
              refine w_want rfl rfl ?_
              refine w_val (v_lenS Try.underlying29 rfl) rfl ?_
              refine w_want rfl rfl ?_
              refine w_val (v_is (v' := .bool false) (v_lss rfl rfl) (by rw [decide_eq_false (by omega)])) rfl ?_
              first | refine w_val (v_pickT rfl rfl) rfl ?_ | refine w_val (v_pickF rfl rfl) rfl ?_
              refine w_val (v_is (v' := .bool false) (v_neqBool Try.underlying4 rfl rfl) rfl) rfl ?_
              refine w_val (v_move rfl) rfl ?_
              refine w_want rfl rfl ?_
              refine w_val (v_move rfl) rfl ?_
              refine w_want rfl rfl ?_
              refine w_val (v_move rfl) rfl ?_
              refine w_skip rfl rfl rfl rfl ?_
              refine w_skip rfl rfl rfl rfl ?_
              refine w_skip rfl rfl rfl rfl ?_
              refine w_skip rfl rfl rfl rfl ?_
              refine w_skip rfl rfl rfl rfl ?_
              refine w_skip rfl rfl rfl rfl ?_
              refine w_skip rfl rfl rfl rfl ?_
              refine w_skip rfl rfl rfl rfl ?_
              refine w_skip rfl rfl rfl rfl ?_
              refine w_skip rfl rfl rfl rfl ?_
              refine w_want rfl rfl ?_
              first | refine w_val (v_pickT rfl rfl) rfl ?_ | refine w_val (v_pickF rfl rfl) rfl ?_
              first | refine w_val (v_pickT rfl rfl) rfl ?_ | refine w_val (v_pickF rfl rfl) rfl ?_
              refine w_val (v_move rfl) rfl ?_
              refine w_want rfl rfl ?_
              refine w_val (v_move rfl) rfl ?_
              refine w_want rfl rfl ?_
              refine w_val (v_is (v' := .bool true) (v_not rfl) (by rfl)) rfl ?_
              refine w_want rfl rfl ?_
              refine w_val (v_move rfl) rfl ?_
              refine w_want rfl rfl ?_
              refine w_val (v_move rfl) rfl ?_
              refine w_want rfl rfl ?_
              refine w_val (v_lenS Try.underlying34 rfl) rfl ?_
              refine w_want rfl rfl ?_
              refine w_val (v_is (v' := .bool false) (v_neq rfl rfl) (by rfl)) rfl ?_
              refine w_want rfl rfl ?_
              first | refine w_val (v_pickT rfl rfl) rfl ?_ | refine w_val (v_pickF rfl rfl) rfl ?_
              first | refine w_val (v_pickT rfl rfl) rfl ?_ | refine w_val (v_pickF rfl rfl) rfl ?_
              refine w_nil ?_
              exact e_cutEnd (()) (trivial) (by repeat (first | exact Sub.nil _ | refine Sub.cons rfl ?_)) (fun _ hw => hw.sub (List.sublist_cons_self _ _))
            · refine e_region ?_
              refine w_val (v_move rfl) rfl ?_
              refine w_val (v_move rfl) rfl ?_
              refine w_val (v_is (v' := .bool false) (v_geq rfl rfl) (by rw [decide_eq_false h0])) rfl ?_
              refine w_val (v_move rfl) rfl ?_
              refine w_skip rfl rfl rfl rfl ?_
              refine w_skip rfl rfl rfl rfl ?_
              refine w_skip rfl rfl rfl rfl ?_
              refine w_skip rfl rfl rfl rfl ?_
              refine w_skip rfl rfl rfl rfl ?_
              refine w_skip rfl rfl rfl rfl ?_
              refine w_skip rfl rfl rfl rfl ?_
              first | refine w_val (v_pickT rfl rfl) rfl ?_ | refine w_val (v_pickF rfl rfl) rfl ?_
              refine w_val (v_is (v' := .bool false) (v_neqBool Try.underlying4 rfl rfl) rfl) rfl ?_
              refine w_val (v_move rfl) rfl ?_
              refine w_want rfl rfl ?_
              refine w_val (v_move rfl) rfl ?_
              refine w_want rfl rfl ?_
              refine w_val (v_move rfl) rfl ?_
              refine w_skip rfl rfl rfl rfl ?_
              refine w_skip rfl rfl rfl rfl ?_
              refine w_skip rfl rfl rfl rfl ?_
              refine w_skip rfl rfl rfl rfl ?_
              refine w_skip rfl rfl rfl rfl ?_
              refine w_skip rfl rfl rfl rfl ?_
              refine w_skip rfl rfl rfl rfl ?_
              refine w_skip rfl rfl rfl rfl ?_
              refine w_skip rfl rfl rfl rfl ?_
              refine w_skip rfl rfl rfl rfl ?_
              refine w_want rfl rfl ?_
              first | refine w_val (v_pickT rfl rfl) rfl ?_ | refine w_val (v_pickF rfl rfl) rfl ?_
              first | refine w_val (v_pickT rfl rfl) rfl ?_ | refine w_val (v_pickF rfl rfl) rfl ?_
              refine w_val (v_move rfl) rfl ?_
              refine w_want rfl rfl ?_
              refine w_val (v_move rfl) rfl ?_
              refine w_want rfl rfl ?_
              refine w_val (v_is (v' := .bool true) (v_not rfl) (by rfl)) rfl ?_
              refine w_want rfl rfl ?_
              refine w_val (v_move rfl) rfl ?_
              refine w_want rfl rfl ?_
              refine w_val (v_move rfl) rfl ?_
              refine w_want rfl rfl ?_
              refine w_val (v_lenS Try.underlying34 rfl) rfl ?_
              refine w_want rfl rfl ?_
              refine w_val (v_is (v' := .bool false) (v_neq rfl rfl) (by rfl)) rfl ?_
              refine w_want rfl rfl ?_
              first | refine w_val (v_pickT rfl rfl) rfl ?_ | refine w_val (v_pickF rfl rfl) rfl ?_
              first | refine w_val (v_pickT rfl rfl) rfl ?_ | refine w_val (v_pickF rfl rfl) rfl ?_
              refine w_nil ?_
              exact e_cutEnd (()) (trivial) (by repeat (first | exact Sub.nil _ | refine Sub.cons rfl ?_)) (fun _ hw => hw.sub (List.sublist_cons_self _ _))
        · rintro - -
          refine e_condF rfl ?_
          have e2 : (bytesOf (L.take k)).length = endAt L k := rfl
          refine e_skip ?_
          refine e_seq ?_
          refine e_region ?_
          refine w_val (v_move rfl) rfl ?_
          refine w_op rfl ?_
          refine x_call (dst := some 111) (mc := []) (σ := Value) (fun _ => True) (fun s => .tuple #[s, .int .i64 (endAt L k : Int)]) (fun s => [Own s 5 1 (bytesOf L).length (byteCells (bytesOf L))]) rfl rfl rfl Try.call22 (fun w hw => logBytes_spec p bv ev L k w (LgV.at hw 0 rfl rfl rfl) hB) rfl (fun v1 _ => ?_)
          have hcB := fun (w1 : World) (hw : ∀ c ∈ scH b32 (.slice Al L.length kl) L k vs G0, c.holds w1) => scBytes_spec b32 _ L k vs L.length w1 (ScV.of hw) (Nat.le_refl _) hok
          rw [List.take_length] at hcB
          have hcB2 := fun (w1 : World) (hw : ∀ c ∈ scH b32 (.slice Al L.length kl) L k vs G0, c.holds w1) => own_shape (scBytes_spec b32 _ L k vs k w1 (ScV.of hw) hok.sure hok)
          rw [e2] at hcB2
          refine w_val (v_move rfl) rfl ?_
          refine w_val (v_extract rfl rfl) rfl ?_
          refine w_val (v_extract rfl rfl) rfl ?_
          refine w_val (v_assign rfl) rfl ?_
          refine w_val (v_assign rfl) rfl ?_
          refine w_nil ?_
          refine e_seq ?_
          refine e_seq ?_
          refine e_region ?_
          refine w_val (v_move rfl) rfl ?_
          refine w_val (v_move rfl) rfl ?_
          refine w_val (v_move rfl) rfl ?_
          refine w_val (v_nilCheck rfl) rfl ?_
          first | refine w_val (v_fieldAddrB (o := 0) Try.underlying31 rfl rfl Try.nz29 rfl) rfl ?_ | refine w_val (v_fieldAddr (o := 0) Try.underlying31 rfl rfl Try.nz29 rfl) rfl ?_
          first | refine w_val (v_loadO Try.underlying29 rfl rfl ((hcs') _ _ rfl)) rfl ?_ | refine w_val (v_loadB 0 rfl Try.underlying29 rfl rfl rfl) rfl ?_ | refine w_val (v_loadB 1 rfl Try.underlying29 rfl rfl rfl) rfl ?_ | refine w_val (v_loadB 2 rfl Try.underlying29 rfl rfl rfl) rfl ?_ | refine w_val (v_loadB 3 rfl Try.underlying29 rfl rfl rfl) rfl ?_ | refine w_val (v_loadB 4 rfl Try.underlying29 rfl rfl rfl) rfl ?_ | refine w_val (v_loadB 5 rfl Try.underlying29 rfl rfl rfl) rfl ?_ | refine w_val (v_loadB 6 rfl Try.underlying29 rfl rfl rfl) rfl ?_ | refine w_val (v_loadB 7 rfl Try.underlying29 rfl rfl rfl) rfl ?_ | refine w_val (v_loadB 8 rfl Try.underlying29 rfl rfl rfl) rfl ?_ | refine w_val (v_loadB 9 rfl Try.underlying29 rfl rfl rfl) rfl ?_ | refine w_val (v_loadB 10 rfl Try.underlying29 rfl rfl rfl) rfl ?_ | refine w_val (v_loadB 11 rfl Try.underlying29 rfl rfl rfl) rfl ?_
          refine w_val (v_lenS Try.underlying29 rfl) rfl ?_
          refine w_op rfl ?_
          refine x_call (dst := some 121) (mc := []) (σ := Value) (fun _ => True) (fun sl => sl) (fun sl => [Own sl 5 1 (bytesOf L).length (byteCells (bytesOf L))]) rfl rfl rfl Try.call24 (fun w hw => hcB w (fun c hc => hw.hold c (List.mem_cons_of_mem _ (List.mem_cons_of_mem _ (List.mem_cons_of_mem _ (List.mem_cons_of_mem _ hc)))))) rfl (fun v2 _ => ?_)
          refine w_op rfl ?_
          refine x_call0 (v := .bool true) rfl rfl rfl Try.call23 rfl (fun w hw => Calls.boolT rfl (sameBytes_spec _ _ (bytesOf L) (bytesOf L) w (own_rds (hw.mem (i := 1) rfl)) (own_rds (hw.mem (i := 0) rfl)))) ?_
          refine w_val (v_is (v' := .bool false) (v_not rfl) (by rfl)) rfl ?_
          refine w_val (v_move rfl) rfl ?_
          refine w_want rfl rfl ?_
          refine w_val (v_move rfl) rfl ?_
          refine w_want rfl rfl ?_
          refine w_val (v_move rfl) rfl ?_
          refine w_want rfl rfl ?_
          refine w_val (v_move rfl) rfl ?_
          refine w_want rfl rfl ?_
          refine w_val (v_nilCheck rfl) rfl ?_
          refine w_want rfl rfl ?_
          first | refine w_val (v_fieldAddrB (o := 1) Try.underlying31 rfl rfl Try.nz3 rfl) rfl ?_ | refine w_val (v_fieldAddr (o := 1) Try.underlying31 rfl rfl Try.nz3 rfl) rfl ?_
          refine w_want rfl rfl ?_
          first | refine w_val (v_loadO Try.underlying3 rfl rfl ((hcs') _ _ rfl)) rfl ?_ | refine w_val (v_loadB 0 rfl Try.underlying3 rfl rfl rfl) rfl ?_ | refine w_val (v_loadB 1 rfl Try.underlying3 rfl rfl rfl) rfl ?_ | refine w_val (v_loadB 2 rfl Try.underlying3 rfl rfl rfl) rfl ?_ | refine w_val (v_loadB 3 rfl Try.underlying3 rfl rfl rfl) rfl ?_ | refine w_val (v_loadB 4 rfl Try.underlying3 rfl rfl rfl) rfl ?_ | refine w_val (v_loadB 5 rfl Try.underlying3 rfl rfl rfl) rfl ?_ | refine w_val (v_loadB 6 rfl Try.underlying3 rfl rfl rfl) rfl ?_ | refine w_val (v_loadB 7 rfl Try.underlying3 rfl rfl rfl) rfl ?_ | refine w_val (v_loadB 8 rfl Try.underlying3 rfl rfl rfl) rfl ?_ | refine w_val (v_loadB 9 rfl Try.underlying3 rfl rfl rfl) rfl ?_ | refine w_val (v_loadB 10 rfl Try.underlying3 rfl rfl rfl) rfl ?_ | refine w_val (v_loadB 11 rfl Try.underlying3 rfl rfl rfl) rfl ?_
          refine w_want rfl rfl ?_
          refine w_op rfl ?_
          refine x_call (dst := some 131) (mc := []) (σ := (Option Addr × Nat)) (fun _ => True) (fun sl => .slice sl.1 (endAt L k) sl.2) (fun sl => [Own (.slice sl.1 (endAt L k) sl.2) 5 1 (endAt L k) (byteCells (bytesOf (L.take k)))]) rfl rfl rfl Try.call24 (fun w hw => hcB2 w (fun c hc => hw.hold c (List.mem_cons_of_mem _ (List.mem_cons_of_mem _ (List.mem_cons_of_mem _ (List.mem_cons_of_mem _ (List.mem_cons_of_mem _ hc))))))) rfl (fun v3 _ => ?_)
          refine w_want rfl rfl ?_
          refine w_val (v_lenS Try.underlying23 rfl) rfl ?_
          refine w_want rfl rfl ?_
          refine w_val (v_is (v' := .bool false) (v_neq rfl rfl) (by rw [decide_eq_false (fun h => h rfl)])) rfl ?_
          first | refine w_val (v_pickT rfl rfl) rfl ?_ | refine w_val (v_pickF rfl rfl) rfl ?_
          refine w_nil ?_
          refine e_condF rfl ?_
          refine g_sub (m' := []) (List.nil_sublist _) ?_
          have hoO := openL_ok bs
          refine e_skip ?_
          refine e_seq ?_
          refine e_region ?_
          refine w_val (v_move rfl) rfl ?_
          refine w_op rfl ?_
          refine x_call (dst := some 137) (mc := []) (mr := []) (σ := Nat × Value × Value) (fun _ => True) (fun s => .tuple #[.pointer (some ⟨s.1, 0, none⟩), .int .i64 ((bytesOf (openL bs)).length : Int)]) (fun s => lgH s.1 s.2.1 s.2.2 (openL bs) (openL bs).length) rfl rfl rfl Try.call25 (fun w hw => logOpen_spec _ bs w (hb.mono hw.off) (by omega)) rfl (fun q _ => ?_)
          refine w_val (v_move rfl) rfl ?_
          refine w_val (v_extract rfl rfl) rfl ?_
          refine w_val (v_extract rfl rfl) rfl ?_
          refine w_val (v_assign rfl) rfl ?_
          refine w_val (v_assign rfl) rfl ?_
          refine w_nil ?_
          refine e_seq ?_
          refine e_region ?_
          refine w_val (v_move rfl) rfl ?_
          refine w_op rfl ?_
          refine x_call (dst := some 142) (mc := []) (σ := Nat × (Option Addr × Nat) × List Value × (Nat → Prop)) (fun _ => True) (fun x => .tuple #[.pointer (some ⟨x.1, 0, none⟩), .int .i64 ((bytesOf (openL bs)).length : Int)]) (fun x => scH x.1 (.slice x.2.1.1 (openL bs).length x.2.1.2) (openL bs) (openL bs).length x.2.2.1 x.2.2.2) rfl rfl rfl Try.call26 (fun w hw => openOf_spec _ bs w (hb.mono hw.off) (by omega)) rfl (fun y _ => ?_)
          obtain ⟨s2, ⟨A5, k5⟩, vs2, G5⟩ := y
          obtain ⟨p2, bv2, ev2⟩ := q
          dsimp only
          have hok3 : LogOk (openL bs) (openL bs).length := ⟨hoO.len, hoO.bytes, Nat.le_refl _, hoO.all⟩
          have ho25 := hoO.len
          generalize openL bs = M at *
          refine g_rounds 2 rfl fun hvl2 => ?_
          refine g_shapeR2 1 rfl fun A5' k5' heq hk5 hA5 => ?_
          injection heq with heq1 _ heq2
          subst heq1; subst heq2
          refine w_val (v_move rfl) rfl ?_
          refine w_val (v_extract rfl rfl) rfl ?_
          refine w_val (v_extract rfl rfl) rfl ?_
          refine w_val (v_assign rfl) rfl ?_
          refine w_val (v_assign rfl) rfl ?_
          refine w_nil ?_
          refine e_seq ?_
          refine e_seq ?_
          refine e_draw ([scB s2 (.slice A5 M.length k5) M.length]) Try.mixed ?_
          refine a_take 0 pan_cx (by kernel_rfl) (fun _ hw => hw.sub (by repeat (first | exact List.Sublist.slnil | exact List.Sublist.refl _ | apply List.Sublist.cons_cons | apply List.Sublist.cons))) rfl (by kernel_rfl) (by kernel_rfl) (v_move rfl) rfl ?_
          refine a_take 1 pan_cx (by kernel_rfl) (fun _ hw => hw.sub (by repeat (first | exact List.Sublist.slnil | exact List.Sublist.refl _ | apply List.Sublist.cons_cons | apply List.Sublist.cons))) rfl (by kernel_rfl) (by kernel_rfl) (v_is (v' := .bool false) (v_eqlPtr Try.underlying26 rfl rfl) (by rfl)) rfl ?_
          refine a_take 2 pan_cx (by kernel_rfl) (fun _ hw => hw.sub (by repeat (first | exact List.Sublist.slnil | exact List.Sublist.refl _ | apply List.Sublist.cons_cons | apply List.Sublist.cons))) rfl (by kernel_rfl) (by kernel_rfl) (v_move rfl) rfl ?_
          refine a_want 3 pan_cx (by kernel_rfl) (fun _ hw => hw.sub (by repeat (first | exact List.Sublist.slnil | exact List.Sublist.refl _ | apply List.Sublist.cons_cons | apply List.Sublist.cons))) rfl (by kernel_rfl) (by kernel_rfl) rfl rfl (v_move rfl) rfl ?_
          refine a_want 4 pan_cx (by kernel_rfl) (fun _ hw => hw.sub (by repeat (first | exact List.Sublist.slnil | exact List.Sublist.refl _ | apply List.Sublist.cons_cons | apply List.Sublist.cons))) rfl (by kernel_rfl) (by kernel_rfl) rfl rfl (v_move rfl) rfl ?_
          refine a_want 5 pan_cx (by kernel_rfl) (fun _ hw => hw.sub (by repeat (first | exact List.Sublist.slnil | exact List.Sublist.refl _ | apply List.Sublist.cons_cons | apply List.Sublist.cons))) rfl (by kernel_rfl) (by kernel_rfl) rfl rfl (v_is (v' := .bool false) (v_neq rfl rfl) (by rw [decide_eq_false (fun h => h rfl)])) rfl ?_
          first | refine a_take 6 pan_cx (by kernel_rfl) (fun _ hw => hw.sub (by repeat (first | exact List.Sublist.slnil | exact List.Sublist.refl _ | apply List.Sublist.cons_cons | apply List.Sublist.cons))) rfl (by kernel_rfl) (by kernel_rfl) (v_pickT rfl rfl) rfl ?_ | refine a_take 6 pan_cx (by kernel_rfl) (fun _ hw => hw.sub (by repeat (first | exact List.Sublist.slnil | exact List.Sublist.refl _ | apply List.Sublist.cons_cons | apply List.Sublist.cons))) rfl (by kernel_rfl) (by kernel_rfl) (v_pickF rfl rfl) rfl ?_
          refine a_take 7 pan_cx (by kernel_rfl) (fun _ hw => hw.sub (by repeat (first | exact List.Sublist.slnil | exact List.Sublist.refl _ | apply List.Sublist.cons_cons | apply List.Sublist.cons))) rfl (by kernel_rfl) (by kernel_rfl) (v_move rfl) rfl ?_
          refine a_want 8 pan_cx (by kernel_rfl) (fun _ hw => hw.sub (by repeat (first | exact List.Sublist.slnil | exact List.Sublist.refl _ | apply List.Sublist.cons_cons | apply List.Sublist.cons))) rfl (by kernel_rfl) (by kernel_rfl) rfl rfl (v_move rfl) rfl ?_
          refine a_want 10 pan_cx (by kernel_rfl) (fun _ hw => hw.sub (by repeat (first | exact List.Sublist.slnil | exact List.Sublist.refl _ | apply List.Sublist.cons_cons | apply List.Sublist.cons))) rfl (by kernel_rfl) (by kernel_rfl) rfl rfl (v_move rfl) rfl ?_
          refine a_want 11 pan_cx (by kernel_rfl) (fun _ hw => hw.sub (by repeat (first | exact List.Sublist.slnil | exact List.Sublist.refl _ | apply List.Sublist.cons_cons | apply List.Sublist.cons))) rfl (by kernel_rfl) (by kernel_rfl) rfl rfl (v_nilCheck rfl) rfl ?_
          first | refine a_want 12 pan_cx (by kernel_rfl) (fun _ hw => hw.sub (by repeat (first | exact List.Sublist.slnil | exact List.Sublist.refl _ | apply List.Sublist.cons_cons | apply List.Sublist.cons))) rfl (by kernel_rfl) (by kernel_rfl) rfl rfl (v_fieldAddrB (o := 0) Try.underlying31 rfl rfl Try.nz29 rfl) rfl ?_ | refine a_want 12 pan_cx (by kernel_rfl) (fun _ hw => hw.sub (by repeat (first | exact List.Sublist.slnil | exact List.Sublist.refl _ | apply List.Sublist.cons_cons | apply List.Sublist.cons))) rfl (by kernel_rfl) (by kernel_rfl) rfl rfl (v_fieldAddr (o := 0) Try.underlying31 rfl rfl Try.nz29 rfl) rfl ?_
          first | refine a_want 13 pan_cx (by kernel_rfl) (fun _ hw => hw.sub (by repeat (first | exact List.Sublist.slnil | exact List.Sublist.refl _ | apply List.Sublist.cons_cons | apply List.Sublist.cons))) rfl (by kernel_rfl) (by kernel_rfl) rfl rfl (v_loadO Try.underlying29 rfl rfl ((hcs') _ _ rfl)) rfl ?_ | refine a_want 13 pan_cx (by kernel_rfl) (fun _ hw => hw.sub (by repeat (first | exact List.Sublist.slnil | exact List.Sublist.refl _ | apply List.Sublist.cons_cons | apply List.Sublist.cons))) rfl (by kernel_rfl) (by kernel_rfl) rfl rfl (v_loadB 0 rfl Try.underlying29 rfl rfl rfl) rfl ?_ | refine a_want 13 pan_cx (by kernel_rfl) (fun _ hw => hw.sub (by repeat (first | exact List.Sublist.slnil | exact List.Sublist.refl _ | apply List.Sublist.cons_cons | apply List.Sublist.cons))) rfl (by kernel_rfl) (by kernel_rfl) rfl rfl (v_loadB 1 rfl Try.underlying29 rfl rfl rfl) rfl ?_ | refine a_want 13 pan_cx (by kernel_rfl) (fun _ hw => hw.sub (by repeat (first | exact List.Sublist.slnil | exact List.Sublist.refl _ | apply List.Sublist.cons_cons | apply List.Sublist.cons))) rfl (by kernel_rfl) (by kernel_rfl) rfl rfl (v_loadB 2 rfl Try.underlying29 rfl rfl rfl) rfl ?_ | refine a_want 13 pan_cx (by kernel_rfl) (fun _ hw => hw.sub (by repeat (first | exact List.Sublist.slnil | exact List.Sublist.refl _ | apply List.Sublist.cons_cons | apply List.Sublist.cons))) rfl (by kernel_rfl) (by kernel_rfl) rfl rfl (v_loadB 3 rfl Try.underlying29 rfl rfl rfl) rfl ?_ | refine a_want 13 pan_cx (by kernel_rfl) (fun _ hw => hw.sub (by repeat (first | exact List.Sublist.slnil | exact List.Sublist.refl _ | apply List.Sublist.cons_cons | apply List.Sublist.cons))) rfl (by kernel_rfl) (by kernel_rfl) rfl rfl (v_loadB 4 rfl Try.underlying29 rfl rfl rfl) rfl ?_ | refine a_want 13 pan_cx (by kernel_rfl) (fun _ hw => hw.sub (by repeat (first | exact List.Sublist.slnil | exact List.Sublist.refl _ | apply List.Sublist.cons_cons | apply List.Sublist.cons))) rfl (by kernel_rfl) (by kernel_rfl) rfl rfl (v_loadB 5 rfl Try.underlying29 rfl rfl rfl) rfl ?_ | refine a_want 13 pan_cx (by kernel_rfl) (fun _ hw => hw.sub (by repeat (first | exact List.Sublist.slnil | exact List.Sublist.refl _ | apply List.Sublist.cons_cons | apply List.Sublist.cons))) rfl (by kernel_rfl) (by kernel_rfl) rfl rfl (v_loadB 6 rfl Try.underlying29 rfl rfl rfl) rfl ?_ | refine a_want 13 pan_cx (by kernel_rfl) (fun _ hw => hw.sub (by repeat (first | exact List.Sublist.slnil | exact List.Sublist.refl _ | apply List.Sublist.cons_cons | apply List.Sublist.cons))) rfl (by kernel_rfl) (by kernel_rfl) rfl rfl (v_loadB 7 rfl Try.underlying29 rfl rfl rfl) rfl ?_ | refine a_want 13 pan_cx (by kernel_rfl) (fun _ hw => hw.sub (by repeat (first | exact List.Sublist.slnil | exact List.Sublist.refl _ | apply List.Sublist.cons_cons | apply List.Sublist.cons))) rfl (by kernel_rfl) (by kernel_rfl) rfl rfl (v_loadB 8 rfl Try.underlying29 rfl rfl rfl) rfl ?_ | refine a_want 13 pan_cx (by kernel_rfl) (fun _ hw => hw.sub (by repeat (first | exact List.Sublist.slnil | exact List.Sublist.refl _ | apply List.Sublist.cons_cons | apply List.Sublist.cons))) rfl (by kernel_rfl) (by kernel_rfl) rfl rfl (v_loadB 9 rfl Try.underlying29 rfl rfl rfl) rfl ?_ | refine a_want 13 pan_cx (by kernel_rfl) (fun _ hw => hw.sub (by repeat (first | exact List.Sublist.slnil | exact List.Sublist.refl _ | apply List.Sublist.cons_cons | apply List.Sublist.cons))) rfl (by kernel_rfl) (by kernel_rfl) rfl rfl (v_loadB 10 rfl Try.underlying29 rfl rfl rfl) rfl ?_ | refine a_want 13 pan_cx (by kernel_rfl) (fun _ hw => hw.sub (by repeat (first | exact List.Sublist.slnil | exact List.Sublist.refl _ | apply List.Sublist.cons_cons | apply List.Sublist.cons))) rfl (by kernel_rfl) (by kernel_rfl) rfl rfl (v_loadB 11 rfl Try.underlying29 rfl rfl rfl) rfl ?_
          refine a_want 14 pan_cx (by kernel_rfl) (fun _ hw => hw.sub (by repeat (first | exact List.Sublist.slnil | exact List.Sublist.refl _ | apply List.Sublist.cons_cons | apply List.Sublist.cons))) rfl (by kernel_rfl) (by kernel_rfl) rfl rfl (v_lenS Try.underlying29 rfl) rfl ?_
          refine a_oneW 9 (by kernel_rfl) rfl rfl rfl ?_
          refine x_call0 (v := .int .i64 (M.length : Int)) rfl rfl rfl Try.call18 rfl (fun w hw => logLen_spec p2 bv2 ev2 M M.length w (LgV.at hw 3 rfl rfl rfl)) ?_
          refine a_and (fun _ hw => hw.sub (by repeat (first | exact List.Sublist.slnil | exact List.Sublist.refl _ | apply List.Sublist.cons_cons | apply List.Sublist.cons))) ?_
          refine a_want 15 pan_cx (by kernel_rfl) (fun _ hw => hw.sub (by repeat (first | exact List.Sublist.slnil | exact List.Sublist.refl _ | apply List.Sublist.cons_cons | apply List.Sublist.cons))) rfl (by kernel_rfl) (by kernel_rfl) rfl rfl (v_is (v' := .bool false) (v_neq rfl rfl) (by rw [decide_eq_false (fun h => h rfl)])) rfl ?_
          first | refine a_take 16 pan_cx (by kernel_rfl) (fun _ hw => hw.sub (by repeat (first | exact List.Sublist.slnil | exact List.Sublist.refl _ | apply List.Sublist.cons_cons | apply List.Sublist.cons))) rfl (by kernel_rfl) (by kernel_rfl) (v_pickT rfl rfl) rfl ?_ | refine a_take 16 pan_cx (by kernel_rfl) (fun _ hw => hw.sub (by repeat (first | exact List.Sublist.slnil | exact List.Sublist.refl _ | apply List.Sublist.cons_cons | apply List.Sublist.cons))) rfl (by kernel_rfl) (by kernel_rfl) (v_pickF rfl rfl) rfl ?_
          refine a_take 17 pan_cx (by kernel_rfl) (fun _ hw => hw.sub (by repeat (first | exact List.Sublist.slnil | exact List.Sublist.refl _ | apply List.Sublist.cons_cons | apply List.Sublist.cons))) rfl (by kernel_rfl) (by kernel_rfl) (v_move rfl) rfl ?_
          refine a_want 18 pan_cx (by kernel_rfl) (fun _ hw => hw.sub (by repeat (first | exact List.Sublist.slnil | exact List.Sublist.refl _ | apply List.Sublist.cons_cons | apply List.Sublist.cons))) rfl (by kernel_rfl) (by kernel_rfl) rfl rfl (v_move rfl) rfl ?_
          refine a_want 20 pan_cx (by kernel_rfl) (fun _ hw => hw.sub (by repeat (first | exact List.Sublist.slnil | exact List.Sublist.refl _ | apply List.Sublist.cons_cons | apply List.Sublist.cons))) rfl (by kernel_rfl) (by kernel_rfl) rfl rfl (v_move rfl) rfl ?_
          refine a_want 21 pan_cx (by kernel_rfl) (fun _ hw => hw.sub (by repeat (first | exact List.Sublist.slnil | exact List.Sublist.refl _ | apply List.Sublist.cons_cons | apply List.Sublist.cons))) rfl (by kernel_rfl) (by kernel_rfl) rfl rfl (v_nilCheck rfl) rfl ?_
          first | refine a_want 22 pan_cx (by kernel_rfl) (fun _ hw => hw.sub (by repeat (first | exact List.Sublist.slnil | exact List.Sublist.refl _ | apply List.Sublist.cons_cons | apply List.Sublist.cons))) rfl (by kernel_rfl) (by kernel_rfl) rfl rfl (v_fieldAddrB (o := 1) Try.underlying31 rfl rfl Try.nz3 rfl) rfl ?_ | refine a_want 22 pan_cx (by kernel_rfl) (fun _ hw => hw.sub (by repeat (first | exact List.Sublist.slnil | exact List.Sublist.refl _ | apply List.Sublist.cons_cons | apply List.Sublist.cons))) rfl (by kernel_rfl) (by kernel_rfl) rfl rfl (v_fieldAddr (o := 1) Try.underlying31 rfl rfl Try.nz3 rfl) rfl ?_
          first | refine a_want 23 pan_cx (by kernel_rfl) (fun _ hw => hw.sub (by repeat (first | exact List.Sublist.slnil | exact List.Sublist.refl _ | apply List.Sublist.cons_cons | apply List.Sublist.cons))) rfl (by kernel_rfl) (by kernel_rfl) rfl rfl (v_loadO Try.underlying3 rfl rfl ((hcs') _ _ rfl)) rfl ?_ | refine a_want 23 pan_cx (by kernel_rfl) (fun _ hw => hw.sub (by repeat (first | exact List.Sublist.slnil | exact List.Sublist.refl _ | apply List.Sublist.cons_cons | apply List.Sublist.cons))) rfl (by kernel_rfl) (by kernel_rfl) rfl rfl (v_loadB 0 rfl Try.underlying3 rfl rfl rfl) rfl ?_ | refine a_want 23 pan_cx (by kernel_rfl) (fun _ hw => hw.sub (by repeat (first | exact List.Sublist.slnil | exact List.Sublist.refl _ | apply List.Sublist.cons_cons | apply List.Sublist.cons))) rfl (by kernel_rfl) (by kernel_rfl) rfl rfl (v_loadB 1 rfl Try.underlying3 rfl rfl rfl) rfl ?_ | refine a_want 23 pan_cx (by kernel_rfl) (fun _ hw => hw.sub (by repeat (first | exact List.Sublist.slnil | exact List.Sublist.refl _ | apply List.Sublist.cons_cons | apply List.Sublist.cons))) rfl (by kernel_rfl) (by kernel_rfl) rfl rfl (v_loadB 2 rfl Try.underlying3 rfl rfl rfl) rfl ?_ | refine a_want 23 pan_cx (by kernel_rfl) (fun _ hw => hw.sub (by repeat (first | exact List.Sublist.slnil | exact List.Sublist.refl _ | apply List.Sublist.cons_cons | apply List.Sublist.cons))) rfl (by kernel_rfl) (by kernel_rfl) rfl rfl (v_loadB 3 rfl Try.underlying3 rfl rfl rfl) rfl ?_ | refine a_want 23 pan_cx (by kernel_rfl) (fun _ hw => hw.sub (by repeat (first | exact List.Sublist.slnil | exact List.Sublist.refl _ | apply List.Sublist.cons_cons | apply List.Sublist.cons))) rfl (by kernel_rfl) (by kernel_rfl) rfl rfl (v_loadB 4 rfl Try.underlying3 rfl rfl rfl) rfl ?_ | refine a_want 23 pan_cx (by kernel_rfl) (fun _ hw => hw.sub (by repeat (first | exact List.Sublist.slnil | exact List.Sublist.refl _ | apply List.Sublist.cons_cons | apply List.Sublist.cons))) rfl (by kernel_rfl) (by kernel_rfl) rfl rfl (v_loadB 5 rfl Try.underlying3 rfl rfl rfl) rfl ?_ | refine a_want 23 pan_cx (by kernel_rfl) (fun _ hw => hw.sub (by repeat (first | exact List.Sublist.slnil | exact List.Sublist.refl _ | apply List.Sublist.cons_cons | apply List.Sublist.cons))) rfl (by kernel_rfl) (by kernel_rfl) rfl rfl (v_loadB 6 rfl Try.underlying3 rfl rfl rfl) rfl ?_ | refine a_want 23 pan_cx (by kernel_rfl) (fun _ hw => hw.sub (by repeat (first | exact List.Sublist.slnil | exact List.Sublist.refl _ | apply List.Sublist.cons_cons | apply List.Sublist.cons))) rfl (by kernel_rfl) (by kernel_rfl) rfl rfl (v_loadB 7 rfl Try.underlying3 rfl rfl rfl) rfl ?_ | refine a_want 23 pan_cx (by kernel_rfl) (fun _ hw => hw.sub (by repeat (first | exact List.Sublist.slnil | exact List.Sublist.refl _ | apply List.Sublist.cons_cons | apply List.Sublist.cons))) rfl (by kernel_rfl) (by kernel_rfl) rfl rfl (v_loadB 8 rfl Try.underlying3 rfl rfl rfl) rfl ?_ | refine a_want 23 pan_cx (by kernel_rfl) (fun _ hw => hw.sub (by repeat (first | exact List.Sublist.slnil | exact List.Sublist.refl _ | apply List.Sublist.cons_cons | apply List.Sublist.cons))) rfl (by kernel_rfl) (by kernel_rfl) rfl rfl (v_loadB 9 rfl Try.underlying3 rfl rfl rfl) rfl ?_ | refine a_want 23 pan_cx (by kernel_rfl) (fun _ hw => hw.sub (by repeat (first | exact List.Sublist.slnil | exact List.Sublist.refl _ | apply List.Sublist.cons_cons | apply List.Sublist.cons))) rfl (by kernel_rfl) (by kernel_rfl) rfl rfl (v_loadB 10 rfl Try.underlying3 rfl rfl rfl) rfl ?_ | refine a_want 23 pan_cx (by kernel_rfl) (fun _ hw => hw.sub (by repeat (first | exact List.Sublist.slnil | exact List.Sublist.refl _ | apply List.Sublist.cons_cons | apply List.Sublist.cons))) rfl (by kernel_rfl) (by kernel_rfl) rfl rfl (v_loadB 11 rfl Try.underlying3 rfl rfl rfl) rfl ?_
          refine a_oneW 19 (by kernel_rfl) rfl rfl rfl ?_
          refine x_call0 (v := .int .i64 (M.length : Int)) rfl rfl rfl Try.call19 rfl (fun w hw => logSure_spec p2 bv2 ev2 M M.length w (LgV.at hw 3 rfl rfl rfl) hok3.len hok3.sure) ?_
          refine a_and (fun _ hw => hw.sub (by repeat (first | exact List.Sublist.slnil | exact List.Sublist.refl _ | apply List.Sublist.cons_cons | apply List.Sublist.cons))) ?_
          refine a_want 24 pan_cx (by kernel_rfl) (fun _ hw => hw.sub (by repeat (first | exact List.Sublist.slnil | exact List.Sublist.refl _ | apply List.Sublist.cons_cons | apply List.Sublist.cons))) rfl (by kernel_rfl) (by kernel_rfl) rfl rfl (v_is (v' := .bool false) (v_neq rfl rfl) (by rw [decide_eq_false (fun h => h rfl)])) rfl ?_
          first | refine a_take 25 pan_cx (by kernel_rfl) (fun _ hw => hw.sub (by repeat (first | exact List.Sublist.slnil | exact List.Sublist.refl _ | apply List.Sublist.cons_cons | apply List.Sublist.cons))) rfl (by kernel_rfl) (by kernel_rfl) (v_pickT rfl rfl) rfl ?_ | refine a_take 25 pan_cx (by kernel_rfl) (fun _ hw => hw.sub (by repeat (first | exact List.Sublist.slnil | exact List.Sublist.refl _ | apply List.Sublist.cons_cons | apply List.Sublist.cons))) rfl (by kernel_rfl) (by kernel_rfl) (v_pickF rfl rfl) rfl ?_
          refine a_done (by kernel_rfl) ?_
          refine e_condF rfl ?_
          refine e_skip ?_
          refine e_seq ?_
          refine e_seq ?_
          refine e_region ?_
          refine w_val (v_assign rfl) rfl ?_
          refine w_nil ?_
          refine e_block ?_
          refine e_loopK (σ := Nat) [14, 16] (.cons rfl (.cons rfl .nil)) (fun i => [(18, .int .i64 (i : Int))]) (fun i => i ≤ M.length) (fun i => M.length - i) 0 (by omega) (by repeat (first | exact Sub.nil _ | refine Sub.cons rfl ?_)) ?_
          rintro i hi
          refine e_seq ?_
          refine e_seq ?_
          refine e_region ?_
          refine w_val (v_move rfl) rfl ?_
          refine w_val (v_move rfl) rfl ?_
          refine w_val (v_nilCheck rfl) rfl ?_
          first | refine w_val (v_fieldAddrB (o := 0) Try.underlying31 rfl rfl Try.nz29 rfl) rfl ?_ | refine w_val (v_fieldAddr (o := 0) Try.underlying31 rfl rfl Try.nz29 rfl) rfl ?_
          first | refine w_val (v_loadO Try.underlying29 rfl rfl ((hcs') _ _ rfl)) rfl ?_ | refine w_val (v_loadB 0 rfl Try.underlying29 rfl rfl rfl) rfl ?_ | refine w_val (v_loadB 1 rfl Try.underlying29 rfl rfl rfl) rfl ?_ | refine w_val (v_loadB 2 rfl Try.underlying29 rfl rfl rfl) rfl ?_ | refine w_val (v_loadB 3 rfl Try.underlying29 rfl rfl rfl) rfl ?_ | refine w_val (v_loadB 4 rfl Try.underlying29 rfl rfl rfl) rfl ?_ | refine w_val (v_loadB 5 rfl Try.underlying29 rfl rfl rfl) rfl ?_ | refine w_val (v_loadB 6 rfl Try.underlying29 rfl rfl rfl) rfl ?_ | refine w_val (v_loadB 7 rfl Try.underlying29 rfl rfl rfl) rfl ?_ | refine w_val (v_loadB 8 rfl Try.underlying29 rfl rfl rfl) rfl ?_ | refine w_val (v_loadB 9 rfl Try.underlying29 rfl rfl rfl) rfl ?_ | refine w_val (v_loadB 10 rfl Try.underlying29 rfl rfl rfl) rfl ?_ | refine w_val (v_loadB 11 rfl Try.underlying29 rfl rfl rfl) rfl ?_
          refine w_val (v_lenS Try.underlying29 rfl) rfl ?_
          refine w_val (v_lss rfl rfl) rfl ?_
          refine w_nil ?_
          refine e_condD rfl (fun hlt5 => ?_) (fun hlt5 => ?_)
          · have hi' : i < M.length := by omega
            have hiv : i < vs2.length := by omega
            have hu : vs2[((i : Int)).toNat * 1]? = some vs2[i] := by rw [Int.toNat_natCast, Nat.mul_one]; exact List.getElem?_eq_getElem hiv
            have hsm := small_of (hok3.all M[i] (List.getElem_mem _)).1
            obtain ⟨ad, rfl⟩ := hA5 (by omega)
            refine e_skip ?_
            refine e_seq ?_
            refine e_block ?_
            refine e_seq ?_
            refine e_region ?_
            refine w_val (v_move rfl) rfl ?_
            refine w_val (v_move rfl) rfl ?_
            refine w_op rfl ?_
            refine x_call (dst := some 183) (mc := []) (σ := Value × (Nat → Prop)) (fun _ => True) (fun s => .tuple #[s.1, .bool true]) (fun s => [Keep s.2 (fun c => IsRound c s.1 M[i])]) rfl rfl rfl Try.call20 (fun w hw => logRound_spec p2 bv2 ev2 M M.length i w (LgV.at hw 3 rfl rfl rfl) hok3 hi') rfl (fun s _ => ?_)
            obtain ⟨sl3, G3⟩ := s
            dsimp only
            refine w_val (v_move rfl) rfl ?_
            refine w_val (v_extract rfl rfl) rfl ?_
            refine w_val (v_extract rfl rfl) rfl ?_
            refine w_val (v_assign rfl) rfl ?_
            refine w_val (v_assign rfl) rfl ?_
            refine w_nil ?_
            refine e_seq ?_
            refine e_region ?_
            refine w_val (v_move rfl) rfl ?_
            refine w_val (v_is (v' := .bool false) (v_not rfl) (by rfl)) rfl ?_
            refine w_val (v_move rfl) rfl ?_
            refine w_want rfl rfl ?_
            refine w_val (v_move rfl) rfl ?_
            refine w_want rfl rfl ?_
            refine w_val (v_move rfl) rfl ?_
            refine w_want rfl rfl ?_
            refine w_val (v_nilCheck rfl) rfl ?_
            refine w_want rfl rfl ?_
            first | refine w_val (v_fieldAddrB (o := 0) Try.underlying31 rfl rfl Try.nz29 rfl) rfl ?_ | refine w_val (v_fieldAddr (o := 0) Try.underlying31 rfl rfl Try.nz29 rfl) rfl ?_
            refine w_want rfl rfl ?_
            first | refine w_val (v_loadO Try.underlying29 rfl rfl ((hcs') _ _ rfl)) rfl ?_ | refine w_val (v_loadB 0 rfl Try.underlying29 rfl rfl rfl) rfl ?_ | refine w_val (v_loadB 1 rfl Try.underlying29 rfl rfl rfl) rfl ?_ | refine w_val (v_loadB 2 rfl Try.underlying29 rfl rfl rfl) rfl ?_ | refine w_val (v_loadB 3 rfl Try.underlying29 rfl rfl rfl) rfl ?_ | refine w_val (v_loadB 4 rfl Try.underlying29 rfl rfl rfl) rfl ?_ | refine w_val (v_loadB 5 rfl Try.underlying29 rfl rfl rfl) rfl ?_ | refine w_val (v_loadB 6 rfl Try.underlying29 rfl rfl rfl) rfl ?_ | refine w_val (v_loadB 7 rfl Try.underlying29 rfl rfl rfl) rfl ?_ | refine w_val (v_loadB 8 rfl Try.underlying29 rfl rfl rfl) rfl ?_ | refine w_val (v_loadB 9 rfl Try.underlying29 rfl rfl rfl) rfl ?_ | refine w_val (v_loadB 10 rfl Try.underlying29 rfl rfl rfl) rfl ?_ | refine w_val (v_loadB 11 rfl Try.underlying29 rfl rfl rfl) rfl ?_
            refine w_want rfl rfl ?_
            refine w_val (v_move rfl) rfl ?_
            refine w_want rfl rfl ?_
            first | refine w_val (v_indexSB Try.underlying29 Try.hi34 Try.cz34 rfl rfl (by first | omega | decide)) rfl ?_ | refine w_val (v_indexS Try.underlying29 Try.hi34 Try.cz34 rfl rfl (by first | omega | decide)) rfl ?_
            refine w_want rfl rfl ?_
            refine w_val (v_loadR 2 rfl (by omega) hu Try.underlying34 rfl rfl) rfl ?_
            refine w_want rfl rfl ?_
            refine w_op rfl ?_
            refine x_call0 (v := .bool true) rfl rfl rfl Try.call21 rfl (fun w hw => Calls.boolT rfl (sameRound_spec _ _ M[i] M[i] w (keep_all (IsRound.up _ _) (hw.mem (i := 0) rfl)) ((keep_all (Rounds.up _ _) (hw.mem (i := 3) rfl)).at hi' (List.getElem?_eq_getElem hiv)) (by omega) (fun d hd => by have := hsm.2 d hd; omega))) ?_
            refine w_want rfl rfl ?_
            refine w_val (v_is (v' := .bool false) (v_not rfl) (by rfl)) rfl ?_
            first | refine w_val (v_pickT rfl rfl) rfl ?_ | refine w_val (v_pickF rfl rfl) rfl ?_
            refine w_nil ?_
            refine e_condF rfl ?_
            refine e_skip ?_
            refine e_blk ?_
            refine e_region ?_
            refine w_val (v_move rfl) rfl ?_
            first | refine w_val (v_add rfl rfl (by omega)) rfl ?_ | refine w_val (v_addw rfl rfl) rfl ?_
            refine w_val (v_assign rfl) rfl ?_
            refine w_nil ?_
            exact e_round (i + 1) (by omega) (by omega) (by repeat (first | exact Sub.nil _ | refine Sub.cons rfl ?_)) (fun _ hw => hw.sub (List.sublist_cons_self _ _))
          · refine e_exit rfl ?_
            refine e_seq ?_
            refine e_region ?_
            refine w_val (v_assign rfl) rfl ?_
            refine w_nil ?_
            refine e_retQ (q_ret1 rfl (.tmp rfl) ?_)
            exact fun w' hw' => ⟨rfl, hw'.res.nil⟩
end Go.SL
end
