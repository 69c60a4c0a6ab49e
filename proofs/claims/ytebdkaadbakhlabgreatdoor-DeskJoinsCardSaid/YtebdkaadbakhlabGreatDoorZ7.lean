/- YtebdkaadbakhlabGreatDoor: part Z7 of this seat's own texts. -/
import Derived.Shelf.Small.Wraps
import Derived.Shelf.Strings.Search3
import Derived.Shelf.Strconv.ErrVarAll
import Derived.Shelf.SlicesE.DeleteFunc
import Derived.Lib.AppendStr
import Derived.Lib.Builder
import Derived.Lib.UnsafeStr
import Derived.Laws.Externs
import Derived.Sort.Row
import Derived.Lib.Bytealg
import Derived.Lib.ParseIntBTie
import Derived.Test.YtebdkaadbakhlabGreatDoorP1
import Derived.Test.YtebdkaadbakhlabGreatDoorZ1
import Derived.Test.YtebdkaadbakhlabGreatDoorP3
import Derived.Test.YtebdkaadbakhlabGreatDoorP2
set_option linter.unusedVariables false
set_option linter.unusedSimpArgs false
section
namespace Go.Proofs
open Go.Shelf
set_option maxRecDepth 100000
def Tryz.laysCut_ren : Go.Shelf.Ren := ⟨fun | 103 => 15 | 210 => 25 | 206 => 48 | n => n, fun | 9 => 9 | 4 => 4 | 24 => 54 | 3 => 3 | n => n, fun | n => n⟩
theorem Tryz.laysCut : Lays.n103 Tryz.prog Tryz.laysCut_ren where
  mixed := by kernel_rfl
  f103 := Tryz.func15.trans (congrArg some (by kernel_rfl))
  f206 := Tryz.func48.trans (congrArg some (by kernel_rfl))
  f210 := Tryz.func25.trans (congrArg some (by kernel_rfl))
  t3 := Tryz.underlying3
  a3 := Tryz.isAgg3
  z3 := Tryz.sizeOf3
  v3 := Tryz.zeroValue3
  t4 := Tryz.underlying4
  a4 := Tryz.isAgg4
  z4 := Tryz.sizeOf4
  v4 := Tryz.zeroValue4
  t9 := Tryz.underlying9
  a9 := Tryz.isAgg9
  z9 := Tryz.sizeOf9
  v9 := Tryz.zeroValue9
  t24 := Tryz.underlying54
  a24 := Tryz.isAgg54
  z24 := Tryz.sizeOf54
  v24 := Tryz.zeroValue54
end Go.Proofs
end
section
namespace Go.Proofs
open Go.Shelf
set_option maxRecDepth 100000
def Tryz.laysHas_ren : Go.Shelf.Ren := ⟨fun | 144 => 9 | 143 => 14 | 219 => 24 | 217 => 44 | 225 => 45 | 224 => 46 | 267 => 47 | 266 => 75 | 314 => 76 | n => n, fun | 9 => 9 | 4 => 4 | 3 => 3 | 5 => 5 | 46 => 25 | 146 => 120 | 51 => 119 | n => n, fun | 1 => 0 | n => n⟩
theorem Tryz.laysHas : Lays.n144 Tryz.prog Tryz.laysHas_ren where
  mixed := by kernel_rfl
  f143 := Tryz.func14.trans (congrArg some (by kernel_rfl))
  f144 := Tryz.func9.trans (congrArg some (by kernel_rfl))
  f217 := Tryz.func44.trans (congrArg some (by kernel_rfl))
  f219 := Tryz.func24.trans (congrArg some (by kernel_rfl))
  f224 := Tryz.func46.trans (congrArg some (by kernel_rfl))
  f225 := Tryz.func45.trans (congrArg some (by kernel_rfl))
  f266 := Tryz.func75.trans (congrArg some (by kernel_rfl))
  f267 := Tryz.func47.trans (congrArg some (by kernel_rfl))
  f314 := Tryz.func76.trans (congrArg some (by kernel_rfl))
  t3 := Tryz.underlying3
  a3 := Tryz.isAgg3
  z3 := Tryz.sizeOf3
  v3 := Tryz.zeroValue3
  t4 := Tryz.underlying4
  a4 := Tryz.isAgg4
  z4 := Tryz.sizeOf4
  v4 := Tryz.zeroValue4
  t5 := Tryz.underlying5
  a5 := Tryz.isAgg5
  z5 := Tryz.sizeOf5
  v5 := Tryz.zeroValue5
  t9 := Tryz.underlying9
  a9 := Tryz.isAgg9
  z9 := Tryz.sizeOf9
  v9 := Tryz.zeroValue9
  t46 := Tryz.underlying25
  a46 := Tryz.isAgg25
  z46 := Tryz.sizeOf25
  v46 := Tryz.zeroValue25
  t51 := Tryz.underlying119
  a51 := Tryz.isAgg119
  z51 := Tryz.sizeOf119
  v51 := Tryz.zeroValue119
  t146 := Tryz.underlying120
  a146 := Tryz.isAgg120
  z146 := Tryz.sizeOf120
  v146 := Tryz.zeroValue120
  g1 := by kernel_rfl
end Go.Proofs
end
section
namespace Go.Proofs
open Go.Shelf
set_option maxRecDepth 100000
def Tryz.laysAtoi_ren : Go.Shelf.Ren := ⟨fun | 172 => 20 | 244 => 29 | 245 => 30 | 247 => 56 | 279 => 57 | 280 => 58 | 281 => 59 | 282 => 60 | 287 => 91 | 316 => 92 | 171 => 31 | 205 => 93 | 321 => 109 | 322 => 110 | 243 => 61 | 246 => 94 | 283 => 111 | 284 => 112 | 285 => 113 | 286 => 114 | 129 => 131 | 317 => 130 | 318 => 132 | 319 => 133 | 320 => 134 | 337 => 145 | 338 => 146 | n => n, fun | 9 => 9 | 3 => 3 | 75 => 61 | 76 => 62 | 4 => 4 | 5 => 5 | 167 => 97 | 37 => 36 | 0 => 0 | 85 => 98 | 2 => 2 | 168 => 100 | 53 => 140 | 175 => 141 | 46 => 25 | 210 => 145 | 127 => 67 | 145 => 165 | 143 => 163 | 21 => 21 | 171 => 166 | 173 => 169 | 212 => 192 | 51 => 119 | 20 => 20 | 213 => 193 | 232 => 225 | 233 => 226 | 80 => 45 | n => n, fun | 15 => 1 | 16 => 2 | 17 => 5 | 18 => 6 | 19 => 7 | n => n⟩
theorem Tryz.laysAtoi : LaysC.n172 Tryz.prog Tryz.laysAtoi_ren where
  mixed := by kernel_rfl
  f129 := Tryz.func131.trans (congrArg some (by kernel_rfl))
  f171 := Tryz.func31.trans (congrArg some (by kernel_rfl))
  f172 := Tryz.func20.trans (congrArg some (by kernel_rfl))
  f205 := Tryz.func93.trans (congrArg some (by kernel_rfl))
  f243 := Tryz.func61.trans (congrArg some (by kernel_rfl))
  f244 := Tryz.func29.trans (congrArg some (by kernel_rfl))
  f245 := Tryz.func30.trans (congrArg some (by kernel_rfl))
  f246 := Tryz.func94.trans (congrArg some (by kernel_rfl))
  f247 := Tryz.func56.trans (congrArg some (by kernel_rfl))
  f279 := Tryz.func57.trans (congrArg some (by kernel_rfl))
  f280 := Tryz.func58.trans (congrArg some (by kernel_rfl))
  f281 := Tryz.func59.trans (congrArg some (by kernel_rfl))
  f282 := Tryz.func60.trans (congrArg some (by kernel_rfl))
  f283 := Tryz.func111.trans (congrArg some (by kernel_rfl))
  f284 := Tryz.func112.trans (congrArg some (by kernel_rfl))
  f285 := Tryz.func113.trans (congrArg some (by kernel_rfl))
  f286 := Tryz.func114.trans (congrArg some (by kernel_rfl))
  f287 := Tryz.func91.trans (congrArg some (by kernel_rfl))
  f316 := Tryz.func92.trans (congrArg some (by kernel_rfl))
  f317 := Tryz.func130.trans (congrArg some (by kernel_rfl))
  f318 := Tryz.func132.trans (congrArg some (by kernel_rfl))
  f319 := Tryz.func133.trans (congrArg some (by kernel_rfl))
  f320 := Tryz.func134.trans (congrArg some (by kernel_rfl))
  f321 := Tryz.func109.trans (congrArg some (by kernel_rfl))
  f322 := Tryz.func110.trans (congrArg some (by kernel_rfl))
  f337 := Tryz.func145.trans (congrArg some (by kernel_rfl))
  f338 := Tryz.func146.trans (congrArg some (by kernel_rfl))
  t0 := Tryz.underlying0
  a0 := Tryz.isAgg0
  z0 := Tryz.sizeOf0
  v0 := Tryz.zeroValue0
  t2 := Tryz.underlying2
  a2 := Tryz.isAgg2
  z2 := Tryz.sizeOf2
  v2 := Tryz.zeroValue2
  t3 := Tryz.underlying3
  a3 := Tryz.isAgg3
  z3 := Tryz.sizeOf3
  v3 := Tryz.zeroValue3
  t4 := Tryz.underlying4
  a4 := Tryz.isAgg4
  z4 := Tryz.sizeOf4
  v4 := Tryz.zeroValue4
  t5 := Tryz.underlying5
  a5 := Tryz.isAgg5
  z5 := Tryz.sizeOf5
  v5 := Tryz.zeroValue5
  t9 := Tryz.underlying9
  a9 := Tryz.isAgg9
  z9 := Tryz.sizeOf9
  v9 := Tryz.zeroValue9
  t20 := Tryz.underlying20
  a20 := Tryz.isAgg20
  z20 := Tryz.sizeOf20
  v20 := Tryz.zeroValue20
  t21 := Tryz.underlying21
  a21 := Tryz.isAgg21
  z21 := Tryz.sizeOf21
  v21 := Tryz.zeroValue21
  t37 := Tryz.underlying36
  a37 := Tryz.isAgg36
  z37 := Tryz.sizeOf36
  v37 := Tryz.zeroValue36
  t46 := Tryz.underlying25
  a46 := Tryz.isAgg25
  z46 := Tryz.sizeOf25
  v46 := Tryz.zeroValue25
  t51 := Tryz.underlying119
  a51 := Tryz.isAgg119
  z51 := Tryz.sizeOf119
  v51 := Tryz.zeroValue119
  t53 := Tryz.underlying140
  a53 := Tryz.isAgg140
  z53 := Tryz.sizeOf140
  v53 := Tryz.zeroValue140
  t75 := Tryz.underlying61
  a75 := Tryz.isAgg61
  z75 := Tryz.sizeOf61
  v75 := Tryz.zeroValue61
  t76 := Tryz.underlying62
  a76 := Tryz.isAgg62
  z76 := Tryz.sizeOf62
  v76 := Tryz.zeroValue62
  t85 := Tryz.underlying98
  a85 := Tryz.isAgg98
  z85 := Tryz.sizeOf98
  v85 := Tryz.zeroValue98
  t127 := Tryz.underlying67
  a127 := Tryz.isAgg67
  z127 := Tryz.sizeOf67
  v127 := Tryz.zeroValue67
  t143 := Tryz.underlying163
  a143 := Tryz.isAgg163
  z143 := Tryz.sizeOf163
  v143 := Tryz.zeroValue163
  t145 := Tryz.underlying165
  a145 := Tryz.isAgg165
  z145 := Tryz.sizeOf165
  v145 := Tryz.zeroValue165
  t167 := Tryz.underlying97
  a167 := Tryz.isAgg97
  z167 := Tryz.sizeOf97
  v167 := Tryz.zeroValue97
  t168 := Tryz.underlying100
  a168 := Tryz.isAgg100
  z168 := Tryz.sizeOf100
  v168 := Tryz.zeroValue100
  t171 := Tryz.underlying166
  a171 := Tryz.isAgg166
  z171 := Tryz.sizeOf166
  v171 := Tryz.zeroValue166
  t173 := Tryz.underlying169
  a173 := Tryz.isAgg169
  z173 := Tryz.sizeOf169
  v173 := Tryz.zeroValue169
  t175 := Tryz.underlying141
  a175 := Tryz.isAgg141
  z175 := Tryz.sizeOf141
  v175 := Tryz.zeroValue141
  t210 := Tryz.underlying145
  a210 := Tryz.isAgg145
  z210 := Tryz.sizeOf145
  v210 := Tryz.zeroValue145
  t212 := Tryz.underlying192
  a212 := Tryz.isAgg192
  z212 := Tryz.sizeOf192
  v212 := Tryz.zeroValue192
  t213 := Tryz.underlying193
  a213 := Tryz.isAgg193
  z213 := Tryz.sizeOf193
  t232 := Tryz.underlying225
  a232 := Tryz.isAgg225
  z232 := Tryz.sizeOf225
  v232 := Tryz.zeroValue225
  t233 := Tryz.underlying226
  a233 := Tryz.isAgg226
  z233 := Tryz.sizeOf226
  v233 := Tryz.zeroValue226
  g15 := by kernel_rfl
  g16 := by kernel_rfl
  g17 := by kernel_rfl
  g18 := by kernel_rfl
  g19 := by kernel_rfl
  t80 := Tryz.underlying45
  a80 := Tryz.isAgg45
  z80 := Tryz.sizeOf45
  v80 := Tryz.zeroValue45
  i0 := by kernel_rfl
  i2 := by kernel_rfl
  i3 := by kernel_rfl
  i4 := by kernel_rfl
  i5 := by kernel_rfl
  i9 := by kernel_rfl
  i20 := by kernel_rfl
  i21 := by kernel_rfl
  i37 := by kernel_rfl
  i46 := by kernel_rfl
  i51 := by kernel_rfl
  i53 := by kernel_rfl
  i75 := by kernel_rfl
  i76 := by kernel_rfl
  i80 := by kernel_rfl
  i85 := by kernel_rfl
  i127 := by kernel_rfl
  i143 := by kernel_rfl
  i145 := by kernel_rfl
  i167 := by kernel_rfl
  i168 := by kernel_rfl
  i171 := by kernel_rfl
  i173 := by kernel_rfl
  i175 := by kernel_rfl
  i210 := by kernel_rfl
  i212 := by kernel_rfl
  i232 := by kernel_rfl
  i233 := by kernel_rfl
  m15 := by kernel_rfl
  m16 := by kernel_rfl
  m17 := by kernel_rfl
  m18 := by kernel_rfl
  m19 := by kernel_rfl
  c0 := by kernel_rfl
  c2 := by kernel_rfl
  c3 := by kernel_rfl
  c4 := by kernel_rfl
  c5 := by kernel_rfl
  c9 := by kernel_rfl
  c20 := by kernel_rfl
  c21 := by kernel_rfl
  c37 := by kernel_rfl
  c46 := by kernel_rfl
  c51 := by kernel_rfl
  c53 := by kernel_rfl
  c75 := by kernel_rfl
  c76 := by kernel_rfl
  c80 := by kernel_rfl
  c85 := by kernel_rfl
  c127 := by kernel_rfl
  c143 := by kernel_rfl
  c145 := by kernel_rfl
  c167 := by kernel_rfl
  c168 := by kernel_rfl
  c171 := by kernel_rfl
  c173 := by kernel_rfl
  c175 := by kernel_rfl
  c210 := by kernel_rfl
  c212 := by kernel_rfl
  c213 := by kernel_rfl
  c232 := by kernel_rfl
  c233 := by kernel_rfl
end Go.Proofs
end
section

namespace Go.Proofs
open Go.Shelf
set_option maxRecDepth 100000
def Tryz.laysDel_ren : Go.Shelf.Ren := ⟨fun | 6 => 27 | 10 => 17 | n => n, fun | 0 => 0 | 3 => 3 | 4 => 4 | 22 => 22 | 23 => 9 | 25 => 58 | n => n, fun | n => n⟩
theorem Tryz.laysDel : SlLaysH.n10 Tryz.prog Tryz.laysDel_ren where
  mixed := by kernel_rfl
  f6 := ⟨Tryz.f27.name, by kernel_rfl, Tryz.func27.trans (congrArg some (by kernel_rfl))⟩
  f10 := ⟨Tryz.f17.name, by kernel_rfl, Tryz.func17.trans (congrArg some (by kernel_rfl))⟩
  t0 := Tryz.underlying0
  a0 := Tryz.isAgg0
  z0 := Tryz.sizeOf0
  v0 := Tryz.zeroValue0
  t3 := Tryz.underlying3
  a3 := Tryz.isAgg3
  z3 := Tryz.sizeOf3
  v3 := Tryz.zeroValue3
  t4 := Tryz.underlying4
  a4 := Tryz.isAgg4
  z4 := Tryz.sizeOf4
  v4 := Tryz.zeroValue4
  t22 := Tryz.underlying22
  a22 := Tryz.isAgg22
  z22 := Tryz.sizeOf22
  v22 := Tryz.zeroValue22
  a23 := Tryz.isAgg9
  z23 := Tryz.sizeOf9
  t25 := Tryz.underlying58
  a25 := Tryz.isAgg58
  z25 := Tryz.sizeOf58
  v25 := Tryz.zeroValue58
end Go.Proofs
end
section
namespace Go.SL
open Go.RowKit
set_option linter.unusedSectionVars false
theorem strCells_bytes (s : List UInt8) : Lib.strCells ⟨s.toArray⟩ = byteCells s := by simp [Lib.strCells, byteCells]
/-- append of a string's bytes to a row of one's own -/
theorem run_append_str {P : Program} {w : World} (t u ty e : TypeId) (i : TypeInfo) (ht : P.underlying t = some (.slice e)) (hu : P.underlying u = some .string) (hi : P.info? e = some i) (hz : i.zero = some (.int .u8 0))
    (hsize : i.size = 1) (hby : i.bytes = 1) {v : Value} {n : Nat} {xs : List Value} (hown : (Own v e 1 n xs).holds w) (s : List UInt8) (hb : n + s.length ≤ 140737488355328) :
    ∃ v' w', (Builtin.append_ #[t, u] ty #[v, strV s]).run P w = .ok v' w' ∧ Res w [Own v e 1 n xs] [Own v' e 1 (n + s.length) (xs ++ byteCells s)] w' := by
  have hown' : w.ownsRow 0 e 1 v n xs := hown
  have hxl : xs.length = n := by simpa using hown'.1
  have hsz : (ByteArray.mk s.toArray).size = s.length := bytesS s
  obtain ⟨v', w', hr, h2, h3, h4⟩ := Lib.run_append_own_string (P := P) w 0 t u ty e i ht hu hi hz hsize hby v n xs hown' ⟨s.toArray⟩ (by rw [hsz]; simp only [maxLen]; omega) (by rw [hsz]; exact hb) (Nat.zero_le _)
  rw [hsz, strCells_bytes] at h2
  have hblk : v'.ownBlock = v.ownBlock ∨ v'.ownBlock = some w.heap.size := by
    rcases hown'.2 with ⟨rfl, rfl⟩ | ⟨g, cap, cur, rfl, hbg, hg, hnc, hcm, hcs, htake⟩
    · by_cases hm : s.length = 0
      · rw [h4.2 ⟨rfl, by rw [hsz]; exact hm⟩]; exact .inl rfl
      · have hr2 := run_append_nil_string (P := P) w t u ty e i (.int .u8 0) ht hu hi hz ⟨s.toArray⟩ (by rw [hsz]; omega) (by rw [hsz]; omega) (by rw [hby, hsz]; omega)
        rw [hr2] at hr
        injection hr with hv hw
        subst hv
        exact .inr rfl
    · by_cases hroom : n + s.length ≤ cap
      · have hcs' : cur.size = cap := by simpa using hcs
        have hr2 := Lib.run_append_room_string (P := P) w t u ty e i ht hu hi hsize g n cap cur hg ⟨s.toArray⟩ (by rw [hsz]; exact hroom) (by rw [hsz]; omega)
        rw [hr2] at hr
        injection hr with hv hw
        subst hv
        exact .inl rfl
      · have hr2 := Lib.run_append_grow_string (P := P) w t u ty e i (.int .u8 0) ht hu hi hz ⟨g, 0, none⟩ n cap xs (by rw [hsize]; simpa using hxl) (hown'.cells (g := g) rfl) ⟨s.toArray⟩ (by rw [hsz]; omega) (by rw [hsz]; omega) (by rw [hby, hsz]; exact growslice_fits (by omega) (by omega))
        rw [hr2] at hr
        injection hr with hv hw
        subst hv
        exact .inr rfl
  refine ⟨v', w', hr, ⟨⟨h3.os, h3.tape, h3.output, h3.size, fun b hb hn => h3.block b hb (fun he => hn ⟨_, List.mem_singleton.2 rfl, he.symm⟩)⟩, ?_, by simp, ?_⟩⟩
  · intro c hc
    simp only [List.mem_singleton] at hc
    subst hc
    exact h2
  · intro c hc b hb
    simp only [List.mem_singleton] at hc
    subst hc
    have hb : v'.ownBlock = some b := hb
    rcases hblk with h4 | h4
    · exact .inr ⟨_, List.mem_singleton.2 rfl, h4.symm.trans hb⟩
    · rw [h4] at hb
      injection hb with hb
      left; omega
section
variable {C : Cx} {ks : List Kt} {l : Fr} {m : Hp} {ops : Array Oper} {rest : List Oper} {op : Op} {ty : TypeId} {pos : String} {after : Array Edge} {d : Nat} {dst : Option Nat} {g : Option (Nat × Bool)}
theorem x_appendStr {Φ : Act → World → Prop} {Q : Exit → Act → World → Prop} {x y : Operand} {t u e : TypeId} {v : Value} {n : Nat} {xs : List Value} {s : List UInt8} (i : Nat) (hm : m[i]? = some (Own v e 1 n xs)) (hx : rd l x = some v) (hy : rd l y = some (strV s))
    (ht : C.P.underlying t = some (.slice e)) (hu : C.P.underlying u = some .string) (hi : (C.P.info? e).map (fun i => (i.zero, i.size, i.bytes)) = some (some (.int .u8 0), 1, 1)) (hb : n + s.length ≤ 140737488355328) (hd : Nat.blt d C.N = true)
    (h : ∀ A cap, G C ((d, .slice A (n + s.length) cap) :: l) (m.set i (Own (.slice A (n + s.length) cap) e 1 (n + s.length) (xs ++ byteCells s))) Φ) :
    G C l m (fun a w => Oper.wp C.P ⟨some d, .call ⟨.builtin .append, #[x, y], #[t, u]⟩, ty, pos, after, none⟩ a w Φ Q) := by
  intro a w ha hw
  obtain ⟨inf, hi, he⟩ := Option.map_eq_some_iff.1 hi
  simp only [Prod.mk.injEq] at he
  obtain ⟨v', w', hr, hres⟩ := run_append_str (P := C.P) t u ty e inf ht hu hi he.1 he.2.1 he.2.2 (hw.mem hm) s hb
  obtain ⟨A, k, rfl, _⟩ := own_rds (hres.hold _ (List.mem_singleton.2 rfl))
  have : (execOp a.eval (⟨some d, .call ⟨.builtin .append, #[x, y], #[t, u]⟩, ty, pos, after, none⟩ : Oper)).run C.P w = .ok (.value (.slice A (n + s.length) k)) w' := by
    simp only [execOp, resolve, invoke, builtin, Sem.run_bind, Sem.run_pure, Result.andThen_ok, List.map_toArray, List.map_cons, List.map_nil, rd_eval ha.knows hx, rd_eval ha.knows hy, hr]
  unfold Oper.wp
  rw [this]
  exact h A k _ _ (ha.put (Nat.le_of_ble_eq_true hd)) (hw.at_ hm hres)
/-- all of an array behind a pointer -/
theorem v_sliceArr {x : Operand} {t e : TypeId} {n z b o : Nat} (ht : C.P.underlying t = some (.array n e)) (hn : n ≠ 0) (hz : C.P.info? e ≠ none) (hc : C.P.cellsOf e = z) (hx : rd l x = some (.pointer (some ⟨b, o, none⟩))) :
    OpV C l m ⟨dst, .slice t x none none none, ty, pos, after, g⟩ (.slice (some ⟨b, o, none⟩) n n) := fun a w ha _ => by
  have h1 : (sizeOf e).run C.P w = .ok z w := by
    unfold Program.cellsOf at hc
    cases hi : C.P.info? e with
    | none => exact absurd hi hz
    | some i => simp [hi] at hc; simp [sizeOf, typeInfo, hi, hc]
  have h2 : (Instr.sliceAt t (.pointer (some ⟨b, o, none⟩)) none none none).run C.P w = .ok (.slice (some ⟨b, o, none⟩) n n) w := by
    simp [Instr.sliceAt, Instr.sureAddr, run_underlying ht, Instr.sliceBounds, h1, hn, add_mk]
  simp [execOp, rd_eval ha.knows hx, h2]
/-- a call of a function without a body that answers a value and leaves the world alone -/
theorem v_callExt {f : FuncId} {fx : Operand} {xs : Array Operand} {ats : Array TypeId} {vs : List Value} {v : Value} (hf : rd l fx = some (.func (.func f) #[] #[])) (hx : rdAll l xs.toList = some vs)
    (hcall : ∀ w, (callFunc f vs.toArray).run C.P w = .ok (.value v) w) : OpV C l m ⟨dst, .call ⟨.value fx, xs, ats⟩, ty, pos, after, g⟩ v := by
  intro a w ha _
  have h1 : xs.map a.eval = vs.toArray := by
    have := rdAll_eval ha.knows hx
    rw [← this]
    apply Array.ext'
    simp
  simp only [execOp, resolve, h1, rd_eval ha.knows hf, Deferred.ofValue, Sem.run_bind, Sem.run_pure, Result.andThen_ok, invoke, Array.empty_append, Array.append_empty, hcall]
theorem v_toUnsafe {x : Operand} {b o e n : Nat} {src dd t : TypeId} {cs : List Value} (i : Nat) (hm : m[i]? = some (.blk b e cs)) (hs : C.P.underlying src = some (.pointer t)) (hd : C.P.underlying dd = some .unsafePointer) (hj : (C.P.info? t).map (·.size) = some n) (hn : n ≠ 0)
    (hx : rd l x = some (.pointer (some ⟨b, o, none⟩))) (ho : o < cs.length) : OpV C l m ⟨dst, .convert src dd x, ty, pos, after, g⟩ (.pointer (some ⟨b, o, none⟩)) := by
  intro a w ha hw
  obtain ⟨j, hj, hjn⟩ := Option.map_eq_some_iff.1 hj
  have hb : w.heap[b]? = some (.cells cs.toArray e (0, 0)) := hw.mem hm
  have hsh : w.shape? b = some (e, cs.length) := by simp [World.shape?, hb]
  have := Lib.run_to_unsafe (P := C.P) (w := w) (src := src) (dst := dd) (t := t) ⟨b, o, none⟩ hs hd hj (by rw [hjn]; exact hn) hsh ho
  simp [execOp, rd_eval ha.knows hx, this]
theorem v_fromUnsafe {x : Operand} {b o e n : Nat} {src dd t : TypeId} {cs : List Value} (i : Nat) (hm : m[i]? = some (.blk b e cs)) (hs : C.P.underlying src = some .unsafePointer) (hd : C.P.underlying dd = some (.pointer t)) (hj : (C.P.info? t).map (·.size) = some n)
    (hx : rd l x = some (.pointer (some ⟨b, o, none⟩))) (hlies : liesAt C.P C.P.depth e (cs.length / C.P.cellsOf e) o t 1 = true) : OpV C l m ⟨dst, .convert src dd x, ty, pos, after, g⟩ (.pointer (some ⟨b, o, none⟩)) := by
  intro a w ha hw
  obtain ⟨j, hj, hjn⟩ := Option.map_eq_some_iff.1 hj
  have hb : w.heap[b]? = some (.cells cs.toArray e (0, 0)) := hw.mem hm
  have hsh : w.shape? b = some (e, cs.length) := by simp [World.shape?, hb]
  have := Lib.run_from_unsafe (P := C.P) (w := w) (src := src) (dst := dd) (u := t) ⟨b, o, none⟩ hs hd hj hsh hlies
  simp [execOp, rd_eval ha.knows hx, this]
theorem v_neqPtrSame {x y : Operand} {ad : Addr} {t e t' : TypeId} {n : Nat} (ht : C.P.underlying t = some (.pointer e)) (hj : (C.P.info? e).map (·.size) = some n) (hx : rd l x = some (.pointer (some ad))) (hy : rd l y = some (.pointer (some ad))) :
    OpV C l m ⟨dst, .binOp .neq t x y t', ty, pos, after, g⟩ (.bool false) := by
  intro a w ha _
  obtain ⟨j, hj, hjn⟩ := Option.map_eq_some_iff.1 hj
  have := Lib.run_neq_ptr_same (P := C.P) (w := w) ad ht hj
  simp [execOp, rd_eval ha.knows hx, rd_eval ha.knows hy, eqGuard, this]
theorem v_sliceData {x : Operand} {t : TypeId} {ad : Addr} {n c : Nat} (hx : rd l x = some (.slice (some ad) n c)) (hc : c ≠ 0) : OpV C l m ⟨dst, .call ⟨.builtin .unsafeSliceData, #[x], #[t]⟩, ty, pos, after, g⟩ (.pointer (some ad)) :=
  fun a w ha _ => by
    have := Lib.run_unsafeSliceData_row (P := C.P) (w := w) #[t] ty ad n c hc
    simp [execOp, resolve, invoke, builtin, rd_eval ha.knows hx, this]
theorem v_sliceDataNil {x : Operand} {t : TypeId} {n c : Nat} (hx : rd l x = some (.slice none n c)) : OpV C l m ⟨dst, .call ⟨.builtin .unsafeSliceData, #[x], #[t]⟩, ty, pos, after, g⟩ (.pointer none) :=
  fun a w ha _ => by
    have := Lib.run_unsafeSliceData_nil (P := C.P) (w := w) #[t] ty n c
    simp [execOp, resolve, invoke, builtin, rd_eval ha.knows hx, this]
theorem g_shape0 {Φ : Act → World → Prop} {v : Value} {e size n : Nat} {xs : List Value} (i : Nat) (hm : m[i]? = some (Own v e size n xs)) (h0 : v = .slice none 0 0 → G C l m Φ) (h1 : ∀ g cap, v = .slice (some ⟨g, 0, none⟩) n cap → G C l m Φ) : G C l m Φ := fun a w ha hw => by
  have hown : w.ownsRow 0 e size v n xs := hw.mem hm
  rcases hown.2 with ⟨h, _⟩ | ⟨g, cap, _, h, _⟩
  · exact h0 h a w ha hw
  · exact h1 g cap h a w ha hw
/-- .. of a row without room: some address -/
theorem x_sliceDataZero {Φ : Act → World → Prop} {Q : Exit → Act → World → Prop} {x : Operand} {t e : TypeId} {gb n k size : Nat} {xs : List Value} (i : Nat) (hm : m[i]? = some (Own (.slice (some ⟨gb, 0, none⟩) n 0) e size k xs)) (hx : rd l x = some (.slice (some ⟨gb, 0, none⟩) n 0)) (ht : C.P.underlying ty = some (.pointer e)) (hd : Nat.blt d C.N = true)
    (h : ∀ b, G C ((d, .pointer (some ⟨b, 0, none⟩)) :: l) m Φ) : G C l m (fun a w => Oper.wp C.P ⟨some d, .call ⟨.builtin .unsafeSliceData, #[x], #[t]⟩, ty, pos, after, none⟩ a w Φ Q) := by
  intro a w ha hw
  have hown : w.ownsRow 0 e size (.slice (some ⟨gb, 0, none⟩) n 0) k xs := hw.mem hm
  obtain ⟨h1, ⟨hx0, _⟩ | ⟨g', cap, cur, hv, h3, h4, h5⟩⟩ := id hown
  · cases hx0
  · injection hv with e1 e2 e3
    injection e1 with e1
    injection e1 with e1
    subst e1
    have hr := Lib.run_unsafeSliceData_zero (P := C.P) w #[t] ty e ht ⟨gb, 0, none⟩ n (e, cur.size) (by simp [World.shape?, h4])
    have : (execOp a.eval (⟨some d, .call ⟨.builtin .unsafeSliceData, #[x], #[t]⟩, ty, pos, after, none⟩ : Oper)).run C.P w = .ok (.value (.pointer (some ⟨w.heap.size, 0, none⟩))) (w.alloc (.view ⟨gb, 0, none⟩ e)) := by
      simp only [execOp, resolve, invoke, builtin, Sem.run_bind, Sem.run_pure, Result.andThen_ok, List.map_toArray, List.map_cons, List.map_nil, rd_eval ha.knows hx, hr]
    unfold Oper.wp
    rw [this]
    refine h _ _ _ (ha.put (Nat.le_of_ble_eq_true hd)) ?_
    exact St.call (mc := []) (mc' := []) hw ⟨⟨rfl, rfl, rfl, by simp, fun b hb _ => Below.heap_alloc w _ b hb⟩, (fun c hc => by cases hc), List.Pairwise.nil, (fun c hc => by cases hc)⟩
theorem v_unsafeStringNil {x y : Operand} {t u : TypeId} {A : Option Addr} (hx : rd l x = some (.pointer A)) (hy : rd l y = some (.int .i64 0)) : OpV C l m ⟨dst, .call ⟨.builtin .unsafeString, #[x, y], #[t, u]⟩, ty, pos, after, g⟩ (strV []) :=
  fun a w ha _ => by
    have := Lib.run_unsafeString_none (P := C.P) (w := w) t u ty A
    simp [execOp, resolve, invoke, builtin, rd_eval ha.knows hx, rd_eval ha.knows hy, this]
    rfl
theorem x_unsafeString {Φ : Act → World → Prop} {Q : Exit → Act → World → Prop} {x y : Operand} {t u e : TypeId} {gb n c : Nat} {s : List UInt8} (i : Nat) (hm : m[i]? = some (Own (.slice (some ⟨gb, 0, none⟩) n c) e 1 n (byteCells s))) (hns : n = s.length)
    (hx : rd l x = some (.pointer (some ⟨gb, 0, none⟩))) (hy : rd l y = some (.int .i64 (n : Int))) (hs0 : s ≠ []) (ht : C.P.underlying t = some (.pointer e)) (hc : C.P.cellsOf e = 1) (hd : Nat.blt d C.N = true)
    (h : G C ((d, strV s) :: l) (m.eraseIdx i) Φ) : G C l m (fun a w => Oper.wp C.P ⟨some d, .call ⟨.builtin .unsafeString, #[x, y], #[t, u]⟩, ty, pos, after, none⟩ a w Φ Q) := by
  intro a w ha hw
  subst hns
  have hown : w.ownsRow 0 e 1 (.slice (some ⟨gb, 0, none⟩) s.length c) s.length (byteCells s) := hw.mem hm
  obtain ⟨h1, ⟨hx0, _⟩ | ⟨g', cap, cur, hv, h3, h4, h5, h6, h7, h8⟩⟩ := id hown
  · cases hx0
  · simp only [Value.slice.injEq, Option.some.injEq, Addr.mk.injEq, and_true, true_and] at hv
    obtain ⟨rfl, rfl⟩ := hv
    have hr := Lib.run_unsafeString_row (P := C.P) w t u ty e ht hc gb cur.size (by simp [World.shape?, h4]) s hs0 (by omega) (by simp only [maxLen] at h6; omega) (fun j b hb => hown.cells (g := gb) rfl j _ (by simp [byteCells, hb]))
    have : (execOp a.eval (⟨some d, .call ⟨.builtin .unsafeString, #[x, y], #[t, u]⟩, ty, pos, after, none⟩ : Oper)).run C.P w = .ok (.value (strV s)) (w.freeze ⟨gb, 0, none⟩ s.length) := by
      simp only [execOp, resolve, invoke, builtin, Sem.run_bind, Sem.run_pure, Result.andThen_ok, List.map_toArray, List.map_cons, List.map_nil, rd_eval ha.knows hx, rd_eval ha.knows hy, hr]
    unfold Oper.wp
    rw [this]
    have hfz := Lib.below_freeze (Below.refl gb w) (p := ⟨gb, 0, none⟩) (Nat.le_refl _) s.length
    refine h _ _ (ha.put (Nat.le_of_ble_eq_true hd)) ?_
    refine St.call (mc := [Own (.slice (some ⟨gb, 0, none⟩) s.length c) e 1 s.length (byteCells s)]) (mc' := []) (hw.front hm) ⟨⟨hfz.os, hfz.tape, hfz.output, ?_, fun b hb hn => ?_⟩, (fun c hc => by cases hc), List.Pairwise.nil, (fun c hc => by cases hc)⟩
    · unfold World.freeze; split <;> simp
    · have hne : gb ≠ b := fun e => hn ⟨_, List.mem_singleton.2 rfl, by subst e; rfl⟩
      unfold World.freeze
      split
      · rfl
      · simp [Array.getElem?_modify, hne]
end
end Go.SL
end
section
namespace Go.SL
open Go.RowKit Go.Sort
/-! ## words by parting and striking the empty ones -/
def headApp (w : List UInt8) : List (List UInt8) → List (List UInt8)
  | [] => [w]
  | p :: ps => (w ++ p) :: ps
theorem words_split : ∀ (s w : List UInt8), wordsW w s = (headApp w (splitL 32 s)).filter fun x => !(x == [])
  | [], w => by
    simp only [wordsW, splitL, headApp, List.append_nil, List.filter_cons, List.filter_nil]
    by_cases h : w = []
    · subst h; rfl
    · rw [if_neg h, if_pos (by simpa using h)]
  | b :: t, w => by
    have ih0 := words_split t []
    have ihb := words_split t (w ++ [b])
    rw [wordsW]
    by_cases hb : b = 32
    · subst hb
      have e : splitL 32 (32 :: t) = [] :: splitL 32 t := by rw [splitL, if_pos rfl]
      have e0 : headApp [] (splitL 32 t) = splitL 32 t := by
        cases h : splitL 32 t with
        | nil => exact absurd h (splitL_ne 32 t)
        | cons p ps => rfl
      rw [if_pos rfl, e, headApp, List.append_nil, List.filter_cons, ih0, e0]
      by_cases h : w = []
      · subst h; rfl
      · rw [if_neg h, if_pos (by simpa using h)]
    · rw [if_neg hb, ihb]
      congr 1
      cases h : splitL 32 t with
      | nil => exact absurd h (splitL_ne 32 t)
      | cons p ps =>
        have e : splitL 32 (b :: t) = (b :: p) :: ps := by rw [splitL, if_neg hb, h]
        rw [e]
        simp [headApp]
theorem del_words (s : List UInt8) : ((splitL 32 s).filter fun x => !(x == [])) = wordsL s := by
  unfold wordsL
  rw [words_split]
  cases h : splitL 32 s with
  | nil => exact absurd h (splitL_ne 32 s)
  | cons p ps => rfl
theorem index_mem (c : UInt8) : ∀ s : List UInt8, decide (0 ≤ Lib.indexByte s c) = decide (c ∈ s)
  | [] => by simp [Lib.indexByte]
  | b :: l => by
    have ih := index_mem c l
    have hge := Lib.indexByte_ge l c
    rw [decide_eq_decide] at ih ⊢
    unfold Lib.indexByte
    by_cases hb : b = c
    · subst hb; simp
    · have hb' : (b == c) = false := by simpa using hb
      have hb2 : ¬ c = b := fun e => hb e.symm
      rw [hb']
      by_cases h1 : Lib.indexByte l c = -1
      · have h2 : ¬ c ∈ l := fun h => by have := ih.2 h; omega
        simp [h1, hb2, h2]
      · have h2 : c ∈ l := ih.1 (by omega)
        simp [h1, h2]
        omega
/-- what slices.DeleteFunc leaves of a row of strings that is a whole block -/
theorem del_holds {w : World} {b e : Nat} {ps : List (List UInt8)} (h : (Chunk.blk b e (strC ps)).holds w) : Holds strV w b 0 ps.toArray := fun j hj => by
  have hj' : j < ps.length := by simpa using hj
  refine ⟨?_, Lib.frozen_of_heap h _⟩
  rw [blk_cell h, Nat.zero_add, getElem!_pos ps.toArray j hj]
  exact strC_at (by simp)
theorem del_res {w : World} {b e q : Nat} {ps rs : List (List UInt8)} (h : (Chunk.blk b e (strC ps)).holds w) (hl : rs.length = ps.length) : Res w [.blk b e (strC ps)] [.blk b e (strC rs)] (putRow strV (Sort.ahead w q) b 0 rs.toArray) := by
  have hb : w.heap[b]? = some (.cells (strC ps).toArray e (0, 0)) := h
  have hp : putCells strV 0 rs.toArray (strC ps).toArray = (strC rs).toArray := by
    apply Array.ext
    · simp [putCells, strC_len, hl]
    · intro i h1 h2
      have hi : i < rs.length := by simpa [strC_len] using h2
      simp only [putCells, Array.getElem_mapIdx]
      rw [if_pos ⟨Nat.zero_le _, by simpa using hi⟩]
      simp [strC, hi]
  refine ⟨⟨rfl, rfl, rfl, by simp, fun k hk hn => ?_⟩, ?_, by simp, ?_⟩
  · have hkb : b ≠ k := fun e => hn ⟨_, List.mem_singleton.2 rfl, e.symm⟩
    simp [putRow, mapBlock, Array.getElem?_modify, hkb]
  · intro c hc
    rw [List.mem_singleton] at hc
    subst hc
    show (putRow strV (Sort.ahead w q) b 0 rs.toArray).heap[b]? = _
    simp [putRow, mapBlock, Array.getElem?_modify, hb, onCells, hp]
  · intro c hc k hk
    rw [List.mem_singleton] at hc
    subst hc
    exact .inr ⟨_, List.mem_singleton.2 rfl, hk⟩
end Go.SL
end
