/- Ytebdkaadbakhlac: part J6 of this seat's own texts. -/
import Derived.Test.YtebdkaadbakhlacJ3
import Derived.Test.YtebdkaadbakhlacW9
set_option linter.unusedVariables false
set_option linter.unusedSimpArgs false

open Go Go.Proofs Go.SL
set_option maxRecDepth 100000
set_option maxHeartbeats 4000000
namespace Go.SL
def loadsL (d : DeedL) (k : Int) : Bool := d.any fun o => decide (o.kind = 2 ∧ o.b = k)
theorem loadsL_false {d : DeedL} {k : Int} : loadsL d k = false ↔ ∀ o ∈ d, o.kind = 2 → o.b ≠ k := by
  unfold loadsL
  rw [List.any_eq_false]
  constructor
  · intro h o ho hk hb
    exact h o ho (decide_eq_true ⟨hk, hb⟩)
  · intro h o ho hd
    have := of_decide_eq_true hd
    exact h o ho this.1 this.2
theorem storesL_true {d : DeedL} {k : Int} : storesL d k = true ↔ k ∈ storesOf d := by
  unfold storesL
  rw [List.any_eq_true, storesOf_mem]
  constructor
  · rintro ⟨o, ho, h⟩
    exact ⟨o, ho, of_decide_eq_true h⟩
  · rintro ⟨o, ho, h⟩
    exact ⟨o, ho, decide_eq_true h⟩
theorem loads_spec (v : Value) (d : DeedL) (k : Int) (w : World) (h : IsDeed w.cell? v d) (hb : d.length ≤ 4398046511104) : Calls Try.prog 27 #[v, .int .i64 k] w fun e w' => e = .returned (.bool (loadsL d k)) ∧ Res w [] [] w' := by
  rw [← off_none w] at h
  obtain ⟨A, kp, rfl, hle, hc⟩ := h.form
  refine enter0 (N := 27) Try.func27 rfl rfl rfl ?_
  refine e_seq ?_
  refine e_region ?_
  refine w_val (v_assign rfl) rfl ?_
  refine w_nil ?_
  refine e_seq ?_
  refine e_seq ?_
  refine e_region ?_
  refine w_val (v_assign rfl) rfl ?_
  refine w_nil ?_
  refine e_block ?_
  refine e_loopK (σ := Nat) [0, 1] (.cons rfl (.cons rfl .nil)) (fun i => [(5, .int .i64 i)]) (fun i => i ≤ d.length ∧ loadsL (d.drop i) k = loadsL d k) (fun i => d.length - i) 0 ⟨by omega, rfl⟩ (by repeat (first | exact Sub.nil _ | refine Sub.cons rfl ?_)) ?_
  rintro i ⟨hi, hrel⟩
  refine e_seq ?_
  refine e_seq ?_
  refine e_region ?_
  refine w_val (v_move rfl) rfl ?_
  refine w_val (v_move rfl) rfl ?_
  refine w_val (v_lenS Try.underlying25 rfl) rfl ?_
  refine w_val (v_lss rfl rfl) rfl ?_
  refine w_nil ?_
  refine e_condD rfl (fun hlt => ?_) (fun hlt => ?_)
  · have hlt' : i < d.length := by omega
    obtain ⟨ad, rfl, hop⟩ := IsDeed.cells hc hlt'
    rw [List.drop_eq_getElem_cons hlt'] at hrel
    generalize d[i] = o at *
    refine e_skip ?_
    refine e_seq ?_
    refine e_block ?_
    refine e_seq ?_
    refine e_test 26 (decide (o.kind = 2 ∧ o.b = k)) ?_ ?_
    · refine e_region ?_
      refine w_val (v_move rfl) rfl ?_
      refine w_val (v_move rfl) rfl ?_
      refine w_val (v_indexS Try.underlying25 Try.hi118 Try.cz118 rfl rfl (by first | omega | decide)) rfl ?_
      refine w_val (v_fieldAddr (o := 0) Try.underlying118 rfl rfl Try.nz3 rfl) rfl ?_
      refine w_val (v_loadO Try.underlying3 rfl rfl ((hop) _ _ rfl)) rfl ?_
      refine w_valD (v_eql rfl rfl) rfl (fun hg5 => ?_) (fun hg5 => ?_)
      · refine w_val (v_move rfl) rfl ?_
        refine w_want rfl rfl ?_
        refine w_val (v_move rfl) rfl ?_
        refine w_want rfl rfl ?_
        refine w_val (v_move rfl) rfl ?_
        refine w_want rfl rfl ?_
        refine w_val (v_indexS Try.underlying25 Try.hi118 Try.cz118 rfl rfl (by first | omega | decide)) rfl ?_
        refine w_want rfl rfl ?_
        refine w_val (v_fieldAddr (o := 2) Try.underlying118 rfl rfl Try.nz3 rfl) rfl ?_
        refine w_want rfl rfl ?_
        refine w_val (v_loadO Try.underlying3 rfl rfl ((hop) _ _ rfl)) rfl ?_
        refine w_want rfl rfl ?_
        refine w_val (v_move rfl) rfl ?_
        refine w_want rfl rfl ?_
        refine w_valD (v_eql rfl rfl) rfl (fun hg13 => ?_) (fun hg13 => ?_)
        · refine w_val (v_pickT rfl rfl) rfl ?_
          refine w_nil ?_
          exact e_testEnd rfl (by first | (simp_all; done) | (simp_all; omega)) (by repeat (first | exact Sub.refl _ | exact Sub.nil _ | exact Sub.del _ _ | refine Sub.skip rfl ?_)) (fun _ hw => hw)
        · refine w_val (v_pickT rfl rfl) rfl ?_
          refine w_nil ?_
          exact e_testEnd rfl (by first | (simp_all; done) | (simp_all; omega)) (by repeat (first | exact Sub.refl _ | exact Sub.nil _ | exact Sub.del _ _ | refine Sub.skip rfl ?_)) (fun _ hw => hw)
      · refine w_val (v_move rfl) rfl ?_
        refine w_skip rfl rfl rfl rfl ?_
        refine w_skip rfl rfl rfl rfl ?_
        refine w_skip rfl rfl rfl rfl ?_
        refine w_skip rfl rfl rfl rfl ?_
        refine w_skip rfl rfl rfl rfl ?_
        refine w_skip rfl rfl rfl rfl ?_
        refine w_skip rfl rfl rfl rfl ?_
        refine w_val (v_pickF rfl rfl) rfl ?_
        refine w_nil ?_
        exact e_testEnd rfl (by first | (simp_all; done) | (simp_all; omega)) (by repeat (first | exact Sub.refl _ | exact Sub.nil _ | exact Sub.del _ _ | refine Sub.skip rfl ?_)) (fun _ hw => hw)
    refine e_condD rfl (fun h7 => ?_) (fun h7 => ?_)
    · refine e_seq ?_
      refine e_region ?_
      refine w_val (v_assign rfl) rfl ?_
      refine w_nil ?_
      refine e_retQ (q_ret1 rfl (.tmp rfl) ?_)
      exact fun w' hw' => ⟨by rw [← hrel]; simp [loadsL, h7], hw'.res.nil⟩
    · refine e_skip ?_
      refine e_blk ?_
      refine e_region ?_
      refine w_val (v_move rfl) rfl ?_
      refine w_val (v_add rfl rfl (by omega)) rfl ?_
      refine w_val (v_assign rfl) rfl ?_
      refine w_nil ?_
      exact e_round (i + 1) (⟨by omega, by rw [← hrel]; simp only [loadsL, List.any_cons]; rw [decide_eq_false h7]; rfl⟩) (by omega) (by repeat (first | exact Sub.nil _ | refine Sub.cons rfl ?_)) (fun _ hw => hw)
  · obtain rfl : i = d.length := by omega
    refine e_exit rfl ?_
    refine e_seq ?_
    refine e_region ?_
    refine w_val (v_assign rfl) rfl ?_
    refine w_nil ?_
    refine e_retQ (q_ret1 rfl (.tmp rfl) ?_)
    exact fun w' hw' => ⟨by rw [← hrel]; simp [loadsL], hw'.res.nil⟩
/-- no key is stored to by one of them and known to the other one -/
def apartK (a b : DeedL) (i : Int) : Prop := ¬ (storesL a i = true ∧ (storesL b i = true ∨ loadsL b i = true)) ∧ ¬ (storesL b i = true ∧ loadsL a i = true)
theorem apart_all {a b : DeedL} (ha : (checkL a).1 = 0) (hb : (checkL b).1 = 0) (h : ∀ j : Nat, j < 10 → apartK a b j) : Apart a b := by
  refine ⟨fun k hk h1 h2 => (h k hk).1 ⟨storesL_true.2 h1, .inl (storesL_true.2 h2)⟩, fun o ho hk h2 => ?_, fun o ho hk h2 => ?_⟩
  · have hr := load_rng ha ho hk
    have hj := h o.b.toNat (by omega)
    rw [show ((o.b.toNat : Nat) : Int) = o.b from by omega] at hj
    refine hj.2 ⟨storesL_true.2 h2, ?_⟩
    cases hl : loadsL a o.b with
    | true => rfl
    | false => exact absurd rfl (loadsL_false.1 hl o ho hk)
  · have hr := load_rng hb ho hk
    have hj := h o.b.toNat (by omega)
    rw [show ((o.b.toNat : Nat) : Int) = o.b from by omega] at hj
    refine hj.1 ⟨storesL_true.2 h2, .inr ?_⟩
    cases hl : loadsL b o.b with
    | true => rfl
    | false => exact absurd rfl (loadsL_false.1 hl o ho hk)
theorem take_set_drop {l : List Value} {i : Nat} {v : Value} (hc : v.cells = #[v]) (h : i < l.length) : l.take i ++ v.cells.toList ++ l.drop (i + v.cells.size) = l.set i v := by
  rw [hc]; simp [List.set_eq_take_append_cons_drop, h]
theorem Deeds.swap {vs : List Value} {r : RoundL} {c : View} {k : Nat} (hk : k + 1 < r.length) (h : Deeds vs r c) : Deeds (swapL vs k) (swapL r k) c := by
  obtain ⟨h1, h2⟩ := h
  refine ⟨by rw [swap_len, swap_len, h1], fun i hi => ?_⟩
  rw [swap_len] at hi
  rw [swap_get (by omega)]
  have hg : ∀ j, (hj : j < r.length) → (swapL r k)[i]? = r[j]? → ∃ u, vs[j]? = some u ∧ IsDeed c u ((swapL r k)[i]'(by rw [swap_len]; exact hi)) := fun j hj he => by
    obtain ⟨u, h3, h4⟩ := h2 j hj
    rw [List.getElem?_eq_getElem (by rw [swap_len]; exact hi), List.getElem?_eq_getElem hj] at he
    injection he with he
    exact ⟨u, h3, by rw [he]; exact h4⟩
  have hsw := swap_get hk i
  by_cases e1 : i = k
  · rw [if_pos e1] at hsw ⊢
    exact hg _ hk hsw
  · rw [if_neg e1] at hsw ⊢
    by_cases e2 : i = k + 1
    · rw [if_pos e2] at hsw ⊢
      exact hg _ (by omega) hsw
    · rw [if_neg e2] at hsw ⊢
      exact hg _ hi hsw
theorem swap_eq {α : Type} {l : List α} {k : Nat} {x y : α} (hx : l[k]? = some x) (hy : l[k + 1]? = some y) : (l.set k y).set (k + 1) x = swapL l k := by
  unfold swapL
  rw [hx, hy]
theorem swap_eq2 {α : Type} {l : List α} {k : Nat} {x y : α} (hx : l[k]? = some x) (hy : l[k + 1]? = some y) : (l.set (k + 1) x).set k y = swapL l k := by
  rw [List.set_comm _ _ (by omega)]
  exact swap_eq hx hy
/-- a round whose deeds have changed places -/
theorem swapped {w : World} {v : Value} {F : Nat → Prop} {e : Nat} {vs : List Value} {r : RoundL} {k : Nat} (hk : k + 1 < r.length) (h1 : (Own v e 1 r.length (swapL vs k)).holds w) (h2 : (Blob F (DeedsB vs r)).holds w) : IsRound w.cell? v (swapL r k) :=
  ((blob_all (DeedsB.up vs r) h2).1.swap hk).round (by rw [swap_len]; exact own_rds h1)
theorem resL_set : ∀ (a : ResL) (k : Nat) (c : Int) (g : List Int), (∀ x ∈ a, x.2.length = 4) → k < a.length → (resL a).take (k * 5) ++ resCells c g ++ (resL a).drop (k * 5 + 5) = resL (a.set k (c, g))
  | [], k, _, _, _, h => by simp at h
  | x :: a, 0, c, g, ha, _ => by
    have h5 : (resCells x.1 x.2).length = 5 := by simp [resCells, intCells, ha x List.mem_cons_self]
    simp only [resL, List.flatMap_cons, List.set_cons_zero, Nat.zero_mul, List.take_zero, List.nil_append, Nat.zero_add]
    rw [List.drop_left' h5]
  | x :: a, k + 1, c, g, ha, h => by
    have h5 : (resCells x.1 x.2).length = 5 := by simp [resCells, intCells, ha x List.mem_cons_self]
    have ih := resL_set a k c g (fun y hy => ha y (List.mem_cons_of_mem _ hy)) (by simpa using h)
    simp only [resL, List.flatMap_cons, List.set_cons_succ] at ih ⊢
    rw [← ih]
    rw [show (k + 1) * 5 = (resCells x.1 x.2).length + k * 5 from by rw [h5]; omega, List.take_length_add_append, Nat.add_assoc, List.drop_length_add_append]
    simp only [List.append_assoc]
theorem swap_self {α : Type} {l : List α} {k : Nat} (hk : k + 1 < l.length) : swapL (swapL l k) k = l := by
  apply List.ext_getElem?
  intro j
  rw [swap_get (by rw [swap_len]; exact hk), swap_get hk, swap_get hk, swap_get hk]
  by_cases h1 : j = k
  · subst h1; simp
  · by_cases h2 : j = k + 1
    · subst h2; simp
    · simp [h1, h2]
theorem resAll_swap {s : List Int} {r : RoundL} {k : Nat} (hs : s.length = 10) (hr : roundFaultL r = 0) (hk : k + 1 < r.length) (h : Apart (r.getD k []) (r.getD (k + 1) [])) : resAll s (swapL r k) = swapL (resAll s r) k := by
  obtain ⟨_, h1, h2, h3⟩ := stAt_swap hs hr hk h
  apply List.ext_getElem?
  intro j
  rw [swap_get (by rw [resAll_len]; exact hk)]
  by_cases hj : j < r.length
  · rw [resAll_at (by rw [swap_len]; exact hj), resAll_at (by omega), resAll_at (by omega), resAll_at hj]
    by_cases e1 : j = k
    · subst e1; rw [if_pos rfl, h1]
    · rw [if_neg e1]
      by_cases e2 : j = k + 1
      · subst e2; rw [if_pos rfl, h2]
      · rw [if_neg e2, h3 j e1 e2]
  · rw [List.getElem?_eq_none (by rw [resAll_len, swap_len]; omega), List.getElem?_eq_none (l := resAll s r) (i := j) (by rw [resAll_len]; omega), if_neg (by omega), if_neg (by omega)]
end Go.SL

