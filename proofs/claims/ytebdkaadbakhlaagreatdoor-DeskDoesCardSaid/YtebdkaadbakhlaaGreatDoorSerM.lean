/- YtebdkaadbakhlaaGreatDoor: part SerM of this seat's own texts. -/
import Derived.Test.YtebdkaadbakhlaaGreatDoorP1
set_option linter.unusedVariables false
set_option linter.unusedSimpArgs false
namespace Go.SL
set_option maxRecDepth 100000
theorem st_len_step (ar : Int → Int → Int → Int) {o : OpL} {g s g' s' : List Int} {j : Nat} (h : stepL ar o g s = some (g', s', j)) : g'.length = g.length ∧ s'.length = s.length := by
 unfold stepL at h
 repeat' split at h
 all_goals first
  | cases h; done
  | (simp only [Option.some.injEq, Prod.mk.injEq] at h; obtain ⟨rfl, rfl, _⟩ := h; simp [st])
theorem runF_len (ar : Int → Int → Int → Int) : ∀ (n : Nat) (d : DeedL) (g s : List Int), (runF ar n d g s).2.1.length = g.length ∧ (runF ar n d g s).2.2.length = s.length
 | 0, _, _, _ => ⟨rfl, rfl⟩
 | _ + 1, [], _, _ => ⟨rfl, rfl⟩
 | n + 1, o :: rest, g, s => by
  simp only [runF]
  split
  ·exact ⟨rfl, rfl⟩
  ·rename_i g' s' k h
   have h1 := st_len_step ar h
   have h2 := runF_len ar n (rest.drop k) g' s'
   exact ⟨h2.1.trans h1.1, h2.2.trans h1.2⟩
theorem gt_st_ne {l : List Int} {i k x : Int} (h : i.toNat ≠ k.toNat) : gt (st l i x) k = gt l k := by
 simp [gt, st, List.getD, List.getElem?_set, h]
theorem step_keeps (ar : Int → Int → Int → Int) {o : OpL} {g s g' s' : List Int} {j : Nat} {k : Int} (h : stepL ar o g s = some (g', s', j)) (hk : ¬ (o.kind = 7 ∧ o.a = k)) (hk0 : 0 ≤ k) (ha : 0 ≤ o.a) : gt s' k = gt s k := by
 unfold stepL at h
 repeat' split at h
 all_goals first
  | cases h; done
  | (simp only [Option.some.injEq, Prod.mk.injEq] at h; obtain ⟨_, rfl, _⟩ := h; rfl)
  | (rename_i h7; simp only [Option.some.injEq, Prod.mk.injEq] at h; obtain ⟨_, rfl, _⟩ := h; exact gt_st_ne (by omega))
theorem runF_keeps (ar : Int → Int → Int → Int) {k : Int} (hk0 : 0 ≤ k) : ∀ (n : Nat) (d : DeedL) (g s : List Int), (∀ o ∈ d, 0 ≤ o.a ∧ ¬ (o.kind = 7 ∧ o.a = k)) → gt (runF ar n d g s).2.2 k = gt s k
 | 0, _, _, _, _ => rfl
 | _ + 1, [], _, _, _ => rfl
 | n + 1, o :: rest, g, s, hd => by
  simp only [runF]
  split
  ·rfl
  ·rename_i g' s' j h
   have h1 := hd o (by simp)
   rw [runF_keeps ar hk0 n (rest.drop j) g' s' (fun o ho => hd o (by simp [List.mem_of_mem_drop ho])), step_keeps ar h h1.2 hk0 h1.1]
end Go.SL
