/- YtebdkaadbakhladDoor: part Z6 of this seat's own texts. -/
import Derived.Test.YtebdkaadbakhladDoorRows
import Derived.Test.YtebdkaadbakhladDoorTie
import Derived.Test.YtebdkaadbakhladDoorCards
import Derived.Stop.LaidErr
import Derived.Lib.LaidTab
import Derived.Shelf.Vars
import Derived.HandedShaped
import Derived.Lay
import Derived.ProofKit
import Derived.SevenTiedAt
import Derived.Test.YtebdkaadbakhladDoorZ1
import Derived.Test.YtebdkaadbakhladDoorP4
set_option linter.unusedVariables false
set_option linter.unusedSimpArgs false

open Go Go.Proofs Go.SL Go.RowKit
set_option maxRecDepth 100000
namespace Go.SL
theorem starD : "*" ++ "errors.errorString" = "*errors.errorString" := by decide
theorem errRow (u : TypeId) (h : Tryd.prog.typeName? 3 u = some "*errors.errorString") : u = 135 :=
  typeName_ptr_named (nm := "errors.errorString") (by rw [starD]; kernel_rfl) (by kernel_rfl) (by decide) u (by rw [starD]; exact h)
theorem cellsErr : Tryd.prog.cellsOf 137 = 1 := by kernel_rfl
theorem cellsStr : Tryd.prog.cellsOf 9 = 1 := by kernel_rfl
/-- what a row's listed variables give the walks -/
theorem laid_of {x1 x2 x4 : String × DataW Unit} {rest : List (String × DataW Unit)} {W : World}
    (h : laidMet Tryd.prog (x1 :: x2 :: ("internal/strconv.uint64pow10", YtebdkaadbakhladDoor.Rows.laid_internal_strconv_uint64pow10) :: x4 :: ("strconv.ErrRange", YtebdkaadbakhladDoor.Rows.laid_strconv_ErrRange) :: ("strconv.ErrSyntax", YtebdkaadbakhladDoor.Rows.laid_strconv_ErrSyntax) :: rest) W) (hS : W.ShapedOpen Tryd.prog) : LaidD W := by
  have h3 := h.tail.tail
  have h5 := h3.tail.tail
  have h6 := h5.tail
  refine ⟨?_, ?_, ?_, ?_⟩
  · exact Lib.tabIs_of_head (g := 2) (t := 117) (e := 99) (n := 20) (k := .u64) (zs := Lib.pow10Tab) (by kernel_rfl) (by kernel_rfl) Tryd.underlying117 Tryd.underlying99 Tryd.cz99 (by kernel_rfl) h3
  · obtain ⟨a, s, hv, _⟩ := laid_sentinel h6 (g := 6) (ti := 66) (by kernel_rfl) (by kernel_rfl) Tryd.underlying66 errRow Tryd.underlying135 Tryd.underlying137 rfl rfl Tryd.underlying9 cellsErr cellsStr
    exact ⟨_, _, hv⟩
  · obtain ⟨a, s, hv, _⟩ := laid_sentinel h5 (g := 7) (ti := 66) (by kernel_rfl) (by kernel_rfl) Tryd.underlying66 errRow Tryd.underlying135 Tryd.underlying137 rfl rfl Tryd.underlying9 cellsErr cellsStr
    exact ⟨_, _, hv⟩
  · exact cell_of_shapedOpen_int (g := 3) (t := 3) (zero := #[.int .i64 0]) (k := .i64) hS (of_decide_eq_true (by kernel_rfl)) (by kernel_rfl) rfl (by kernel_rfl) (by kernel_rfl) Tryd.underlying3
theorem told_str {H : Type} {enc : TypeId × Value → H} {P : Program} {W : World} {base : Nat} {t : TypeId} {v : Value} {d : DataW H} (ht : P.underlying t = some .string) (h : Gives enc P W base t v d) : ∃ s : List UInt8, v = strV s := by
  obtain ⟨h1, ⟨p, h2⟩, _⟩ := h
  obtain ⟨s, h3, _⟩ := Go.ChangeMaps.open_string ht h1 h2
  exact ⟨s.data.toList, h3.trans (strV_of s)⟩
/-- the frame of a row that lists variables, its world's shape kept -/
theorem handed_laid {H : Type} {enc : TypeId × Value → H} {a : Assume} {C : Checked} {os : Os} {f : FuncId} {fn : Func} {s : ChangeSpec} {conds : List PathCond} {apart fresh handsOn again : Bool} {X : World → Array Value → Prop}
    (hX : ∀ (w w' : World) (args : Array Value), w.heap = w'.heap → X w args → X w' args)
    (own : ownKnob C.prog.godebug = none) (started : os.Started) (noInit : C.prog.inits.idxOf? f = none) (hfn : C.prog.funcs[f]? = some fn)
    (witness : ∃ (w : World) (tape : Tape) (i : Input), w.os = os ∧ (w.forCall tape i).Shaped C.prog ∧ i.vars = [] ∧ Input.okWide C.prog (w.forCall tape i) .any w.heap.size f i ∧
      ((s.pre enc C.prog fn conds apart (w.forCall tape i).memory i.args ∧ X (w.forCall tape i).memory i.args) ∧ sizedMet enc C.prog fn (OpenSpec.ofChange s) apart (w.forCall tape i).memory i.args) ∧ a.holds C.prog (lone (Frame.enter C.prog f i.args .normal) [] (w.forCall tape i)))
    (contract : ∀ (W : World) (base : Nat) (args : Array Value) (ds gs : List (DataW H)) (before : List MemPlace),
      (∀ (j : Nat) t v, fn.params[j]? = some t → args[j]? = some v → Value.okWide C.prog W .any base t v) →
      DataW.Whole enc C.prog fn.params.toList s.vars apart W args.toList ds gs before →
      (DataW.weightsEach C.prog (fn.params.toList ++ s.plain.varTypes C.prog) (ds ++ gs)).all (· ≤ reachBytes) = true → X W args → W.ShapedOpen C.prog →
      Calls C.prog f args W fun e W' => ∃ v, e = .returned v ∧ s.post enc C.prog fn apart fresh handsOn again W args v W') :
    ReturnsInHanded a C os f .any (fun w args => (s.pre enc C.prog fn conds apart w args ∧ X w args) ∧ sizedMet enc C.prog fn (OpenSpec.ofChange s) apart w args) (s.post enc C.prog fn apart fresh handsOn again) := by
  refine returnsInHanded_of_calls own started noInit witness ?_
  intro w tape i _ hsh _ hok hpre hholds
  obtain ⟨_, _, _, fn', hfn', _, _, _, _, hval⟩ := hok
  have e : fn' = fn := Option.some.inj (hfn'.symm.trans hfn)
  subst e
  obtain ⟨⟨⟨ds, gs, before, hw, hc⟩, hx⟩, hz⟩ := hpre
  have hw' := DataW.Whole.of_heap (w' := w.forCall tape i) (by rfl) hw
  refine (contract (w.forCall tape i) w.heap.size i.args ds gs before hval hw' (hz.weights hw) (hX _ _ _ (by rfl) hx) hsh).mono fun e W' ⟨v, he, hp⟩ => ?_
  subst he
  exact ChangeSpec.post_blind hp
end Go.SL

