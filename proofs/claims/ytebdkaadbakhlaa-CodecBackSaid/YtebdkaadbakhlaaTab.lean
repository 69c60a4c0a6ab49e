/- Ytebdkaadbakhlaa: part Tab of this seat's own texts. -/
/- Closed facts on the types of the dump, printed by a program. -/
import Derived.Test.YtebdkaadbakhlaaProg
import Derived.Test.YtebdkaadbakhlaaDraw
set_option linter.unusedVariables false
set_option linter.unusedSimpArgs false
namespace Go.Proofs
theorem Try.hi1 : Try.prog.info? 1 ≠ none := Go.SL.ne_of_isSome (by kernel_rfl)
theorem Try.cz1 : Try.prog.cellsOf 1 = 1 := by kernel_rfl
theorem Try.nz1 : Try.prog.cellsOf 1 ≠ 0 := by rw [Try.cz1]; decide
theorem Try.hi2 : Try.prog.info? 2 ≠ none := Go.SL.ne_of_isSome (by kernel_rfl)
theorem Try.cz2 : Try.prog.cellsOf 2 = 1 := by kernel_rfl
theorem Try.nz2 : Try.prog.cellsOf 2 ≠ 0 := by rw [Try.cz2]; decide
theorem Try.hi3 : Try.prog.info? 3 ≠ none := Go.SL.ne_of_isSome (by kernel_rfl)
theorem Try.cz3 : Try.prog.cellsOf 3 = 1 := by kernel_rfl
theorem Try.nz3 : Try.prog.cellsOf 3 ≠ 0 := by rw [Try.cz3]; decide
theorem Try.hi4 : Try.prog.info? 4 ≠ none := Go.SL.ne_of_isSome (by kernel_rfl)
theorem Try.cz4 : Try.prog.cellsOf 4 = 1 := by kernel_rfl
theorem Try.nz4 : Try.prog.cellsOf 4 ≠ 0 := by rw [Try.cz4]; decide
theorem Try.hi5 : Try.prog.info? 5 ≠ none := Go.SL.ne_of_isSome (by kernel_rfl)
theorem Try.cz5 : Try.prog.cellsOf 5 = 1 := by kernel_rfl
theorem Try.nz5 : Try.prog.cellsOf 5 ≠ 0 := by rw [Try.cz5]; decide
theorem Try.hi6 : Try.prog.info? 6 ≠ none := Go.SL.ne_of_isSome (by kernel_rfl)
theorem Try.cz6 : Try.prog.cellsOf 6 = 1 := by kernel_rfl
theorem Try.nz6 : Try.prog.cellsOf 6 ≠ 0 := by rw [Try.cz6]; decide
theorem Try.hi7 : Try.prog.info? 7 ≠ none := Go.SL.ne_of_isSome (by kernel_rfl)
theorem Try.cz7 : Try.prog.cellsOf 7 = 4 := by kernel_rfl
theorem Try.nz7 : Try.prog.cellsOf 7 ≠ 0 := by rw [Try.cz7]; decide
theorem Try.hi8 : Try.prog.info? 8 ≠ none := Go.SL.ne_of_isSome (by kernel_rfl)
theorem Try.cz8 : Try.prog.cellsOf 8 = 4 := by kernel_rfl
theorem Try.nz8 : Try.prog.cellsOf 8 ≠ 0 := by rw [Try.cz8]; decide
theorem Try.hi9 : Try.prog.info? 9 ≠ none := Go.SL.ne_of_isSome (by kernel_rfl)
theorem Try.cz9 : Try.prog.cellsOf 9 = 1 := by kernel_rfl
theorem Try.nz9 : Try.prog.cellsOf 9 ≠ 0 := by rw [Try.cz9]; decide
theorem Try.hi10 : Try.prog.info? 10 ≠ none := Go.SL.ne_of_isSome (by kernel_rfl)
theorem Try.cz10 : Try.prog.cellsOf 10 = 1 := by kernel_rfl
theorem Try.nz10 : Try.prog.cellsOf 10 ≠ 0 := by rw [Try.cz10]; decide
theorem Try.hi11 : Try.prog.info? 11 ≠ none := Go.SL.ne_of_isSome (by kernel_rfl)
theorem Try.cz11 : Try.prog.cellsOf 11 = 1 := by kernel_rfl
theorem Try.nz11 : Try.prog.cellsOf 11 ≠ 0 := by rw [Try.cz11]; decide
theorem Try.hi12 : Try.prog.info? 12 ≠ none := Go.SL.ne_of_isSome (by kernel_rfl)
theorem Try.cz12 : Try.prog.cellsOf 12 = 1 := by kernel_rfl
theorem Try.nz12 : Try.prog.cellsOf 12 ≠ 0 := by rw [Try.cz12]; decide
theorem Try.hi13 : Try.prog.info? 13 ≠ none := Go.SL.ne_of_isSome (by kernel_rfl)
theorem Try.cz13 : Try.prog.cellsOf 13 = 2 := by kernel_rfl
theorem Try.nz13 : Try.prog.cellsOf 13 ≠ 0 := by rw [Try.cz13]; decide
theorem Try.hi14 : Try.prog.info? 14 ≠ none := Go.SL.ne_of_isSome (by kernel_rfl)
theorem Try.cz14 : Try.prog.cellsOf 14 = 2 := by kernel_rfl
theorem Try.nz14 : Try.prog.cellsOf 14 ≠ 0 := by rw [Try.cz14]; decide
theorem Try.hi15 : Try.prog.info? 15 ≠ none := Go.SL.ne_of_isSome (by kernel_rfl)
theorem Try.cz15 : Try.prog.cellsOf 15 = 1 := by kernel_rfl
theorem Try.nz15 : Try.prog.cellsOf 15 ≠ 0 := by rw [Try.cz15]; decide
theorem Try.hi16 : Try.prog.info? 16 ≠ none := Go.SL.ne_of_isSome (by kernel_rfl)
theorem Try.cz16 : Try.prog.cellsOf 16 = 1 := by kernel_rfl
theorem Try.nz16 : Try.prog.cellsOf 16 ≠ 0 := by rw [Try.cz16]; decide
theorem Try.hi17 : Try.prog.info? 17 ≠ none := Go.SL.ne_of_isSome (by kernel_rfl)
theorem Try.cz17 : Try.prog.cellsOf 17 = 1 := by kernel_rfl
theorem Try.nz17 : Try.prog.cellsOf 17 ≠ 0 := by rw [Try.cz17]; decide
theorem Try.hi18 : Try.prog.info? 18 ≠ none := Go.SL.ne_of_isSome (by kernel_rfl)
theorem Try.cz18 : Try.prog.cellsOf 18 = 1 := by kernel_rfl
theorem Try.nz18 : Try.prog.cellsOf 18 ≠ 0 := by rw [Try.cz18]; decide
theorem Try.hi19 : Try.prog.info? 19 ≠ none := Go.SL.ne_of_isSome (by kernel_rfl)
theorem Try.cz19 : Try.prog.cellsOf 19 = 1 := by kernel_rfl
theorem Try.nz19 : Try.prog.cellsOf 19 ≠ 0 := by rw [Try.cz19]; decide
theorem Try.hi20 : Try.prog.info? 20 ≠ none := Go.SL.ne_of_isSome (by kernel_rfl)
theorem Try.cz20 : Try.prog.cellsOf 20 = 1 := by kernel_rfl
theorem Try.nz20 : Try.prog.cellsOf 20 ≠ 0 := by rw [Try.cz20]; decide
theorem Try.hi21 : Try.prog.info? 21 ≠ none := Go.SL.ne_of_isSome (by kernel_rfl)
theorem Try.cz21 : Try.prog.cellsOf 21 = 1 := by kernel_rfl
theorem Try.nz21 : Try.prog.cellsOf 21 ≠ 0 := by rw [Try.cz21]; decide
theorem Try.hi22 : Try.prog.info? 22 ≠ none := Go.SL.ne_of_isSome (by kernel_rfl)
theorem Try.cz22 : Try.prog.cellsOf 22 = 10 := by kernel_rfl
theorem Try.nz22 : Try.prog.cellsOf 22 ≠ 0 := by rw [Try.cz22]; decide
theorem Try.hi23 : Try.prog.info? 23 ≠ none := Go.SL.ne_of_isSome (by kernel_rfl)
theorem Try.cz23 : Try.prog.cellsOf 23 = 10 := by kernel_rfl
theorem Try.nz23 : Try.prog.cellsOf 23 ≠ 0 := by rw [Try.cz23]; decide
theorem Try.hi24 : Try.prog.info? 24 ≠ none := Go.SL.ne_of_isSome (by kernel_rfl)
theorem Try.cz24 : Try.prog.cellsOf 24 = 1 := by kernel_rfl
theorem Try.nz24 : Try.prog.cellsOf 24 ≠ 0 := by rw [Try.cz24]; decide
theorem Try.hi25 : Try.prog.info? 25 ≠ none := Go.SL.ne_of_isSome (by kernel_rfl)
theorem Try.cz25 : Try.prog.cellsOf 25 = 1 := by kernel_rfl
theorem Try.nz25 : Try.prog.cellsOf 25 ≠ 0 := by rw [Try.cz25]; decide
theorem Try.hi26 : Try.prog.info? 26 ≠ none := Go.SL.ne_of_isSome (by kernel_rfl)
theorem Try.cz26 : Try.prog.cellsOf 26 = 1 := by kernel_rfl
theorem Try.nz26 : Try.prog.cellsOf 26 ≠ 0 := by rw [Try.cz26]; decide
theorem Try.hi27 : Try.prog.info? 27 ≠ none := Go.SL.ne_of_isSome (by kernel_rfl)
theorem Try.cz27 : Try.prog.cellsOf 27 = 4 := by kernel_rfl
theorem Try.nz27 : Try.prog.cellsOf 27 ≠ 0 := by rw [Try.cz27]; decide
theorem Try.hi28 : Try.prog.info? 28 ≠ none := Go.SL.ne_of_isSome (by kernel_rfl)
theorem Try.cz28 : Try.prog.cellsOf 28 = 4 := by kernel_rfl
theorem Try.nz28 : Try.prog.cellsOf 28 ≠ 0 := by rw [Try.cz28]; decide
theorem Try.hi29 : Try.prog.info? 29 ≠ none := Go.SL.ne_of_isSome (by kernel_rfl)
theorem Try.cz29 : Try.prog.cellsOf 29 = 5 := by kernel_rfl
theorem Try.nz29 : Try.prog.cellsOf 29 ≠ 0 := by rw [Try.cz29]; decide
theorem Try.hi30 : Try.prog.info? 30 ≠ none := Go.SL.ne_of_isSome (by kernel_rfl)
theorem Try.cz30 : Try.prog.cellsOf 30 = 5 := by kernel_rfl
theorem Try.nz30 : Try.prog.cellsOf 30 ≠ 0 := by rw [Try.cz30]; decide
theorem Try.hi32 : Try.prog.info? 32 ≠ none := Go.SL.ne_of_isSome (by kernel_rfl)
theorem Try.cz32 : Try.prog.cellsOf 32 = 1 := by kernel_rfl
theorem Try.nz32 : Try.prog.cellsOf 32 ≠ 0 := by rw [Try.cz32]; decide
theorem Try.hi33 : Try.prog.info? 33 ≠ none := Go.SL.ne_of_isSome (by kernel_rfl)
theorem Try.cz33 : Try.prog.cellsOf 33 = 1 := by kernel_rfl
theorem Try.nz33 : Try.prog.cellsOf 33 ≠ 0 := by rw [Try.cz33]; decide
theorem Try.hi34 : Try.prog.info? 34 ≠ none := Go.SL.ne_of_isSome (by kernel_rfl)
theorem Try.cz34 : Try.prog.cellsOf 34 = 1 := by kernel_rfl
theorem Try.nz34 : Try.prog.cellsOf 34 ≠ 0 := by rw [Try.cz34]; decide
theorem Try.hi35 : Try.prog.info? 35 ≠ none := Go.SL.ne_of_isSome (by kernel_rfl)
theorem Try.cz35 : Try.prog.cellsOf 35 = 5 := by kernel_rfl
theorem Try.nz35 : Try.prog.cellsOf 35 ≠ 0 := by rw [Try.cz35]; decide
theorem Try.hi36 : Try.prog.info? 36 ≠ none := Go.SL.ne_of_isSome (by kernel_rfl)
theorem Try.cz36 : Try.prog.cellsOf 36 = 5 := by kernel_rfl
theorem Try.nz36 : Try.prog.cellsOf 36 ≠ 0 := by rw [Try.cz36]; decide
theorem Try.hi37 : Try.prog.info? 37 ≠ none := Go.SL.ne_of_isSome (by kernel_rfl)
theorem Try.cz37 : Try.prog.cellsOf 37 = 1 := by kernel_rfl
theorem Try.nz37 : Try.prog.cellsOf 37 ≠ 0 := by rw [Try.cz37]; decide
theorem Try.hi38 : Try.prog.info? 38 ≠ none := Go.SL.ne_of_isSome (by kernel_rfl)
theorem Try.cz38 : Try.prog.cellsOf 38 = 1 := by kernel_rfl
theorem Try.nz38 : Try.prog.cellsOf 38 ≠ 0 := by rw [Try.cz38]; decide
theorem Try.hi39 : Try.prog.info? 39 ≠ none := Go.SL.ne_of_isSome (by kernel_rfl)
theorem Try.cz39 : Try.prog.cellsOf 39 = 1 := by kernel_rfl
theorem Try.nz39 : Try.prog.cellsOf 39 ≠ 0 := by rw [Try.cz39]; decide
theorem Try.hi40 : Try.prog.info? 40 ≠ none := Go.SL.ne_of_isSome (by kernel_rfl)
theorem Try.cz40 : Try.prog.cellsOf 40 = 1 := by kernel_rfl
theorem Try.nz40 : Try.prog.cellsOf 40 ≠ 0 := by rw [Try.cz40]; decide
theorem Try.hi41 : Try.prog.info? 41 ≠ none := Go.SL.ne_of_isSome (by kernel_rfl)
theorem Try.cz41 : Try.prog.cellsOf 41 = 1 := by kernel_rfl
theorem Try.nz41 : Try.prog.cellsOf 41 ≠ 0 := by rw [Try.cz41]; decide
theorem Try.hi42 : Try.prog.info? 42 ≠ none := Go.SL.ne_of_isSome (by kernel_rfl)
theorem Try.cz42 : Try.prog.cellsOf 42 = 1 := by kernel_rfl
theorem Try.nz42 : Try.prog.cellsOf 42 ≠ 0 := by rw [Try.cz42]; decide
theorem Try.hi43 : Try.prog.info? 43 ≠ none := Go.SL.ne_of_isSome (by kernel_rfl)
theorem Try.cz43 : Try.prog.cellsOf 43 = 2 := by kernel_rfl
theorem Try.nz43 : Try.prog.cellsOf 43 ≠ 0 := by rw [Try.cz43]; decide
theorem Try.hi44 : Try.prog.info? 44 ≠ none := Go.SL.ne_of_isSome (by kernel_rfl)
theorem Try.cz44 : Try.prog.cellsOf 44 = 2 := by kernel_rfl
theorem Try.nz44 : Try.prog.cellsOf 44 ≠ 0 := by rw [Try.cz44]; decide
theorem Try.hi45 : Try.prog.info? 45 ≠ none := Go.SL.ne_of_isSome (by kernel_rfl)
theorem Try.cz45 : Try.prog.cellsOf 45 = 1 := by kernel_rfl
theorem Try.nz45 : Try.prog.cellsOf 45 ≠ 0 := by rw [Try.cz45]; decide
theorem Try.hi47 : Try.prog.info? 47 ≠ none := Go.SL.ne_of_isSome (by kernel_rfl)
theorem Try.cz47 : Try.prog.cellsOf 47 = 1 := by kernel_rfl
theorem Try.nz47 : Try.prog.cellsOf 47 ≠ 0 := by rw [Try.cz47]; decide
theorem Try.hi48 : Try.prog.info? 48 ≠ none := Go.SL.ne_of_isSome (by kernel_rfl)
theorem Try.cz48 : Try.prog.cellsOf 48 = 1 := by kernel_rfl
theorem Try.nz48 : Try.prog.cellsOf 48 ≠ 0 := by rw [Try.cz48]; decide
theorem Try.hi50 : Try.prog.info? 50 ≠ none := Go.SL.ne_of_isSome (by kernel_rfl)
theorem Try.cz50 : Try.prog.cellsOf 50 = 1 := by kernel_rfl
theorem Try.nz50 : Try.prog.cellsOf 50 ≠ 0 := by rw [Try.cz50]; decide
theorem Try.hi51 : Try.prog.info? 51 ≠ none := Go.SL.ne_of_isSome (by kernel_rfl)
theorem Try.cz51 : Try.prog.cellsOf 51 = 1 := by kernel_rfl
theorem Try.nz51 : Try.prog.cellsOf 51 ≠ 0 := by rw [Try.cz51]; decide
theorem Try.hi53 : Try.prog.info? 53 ≠ none := Go.SL.ne_of_isSome (by kernel_rfl)
theorem Try.cz53 : Try.prog.cellsOf 53 = 1 := by kernel_rfl
theorem Try.nz53 : Try.prog.cellsOf 53 ≠ 0 := by rw [Try.cz53]; decide
theorem Try.hi54 : Try.prog.info? 54 ≠ none := Go.SL.ne_of_isSome (by kernel_rfl)
theorem Try.cz54 : Try.prog.cellsOf 54 = 1 := by kernel_rfl
theorem Try.nz54 : Try.prog.cellsOf 54 ≠ 0 := by rw [Try.cz54]; decide
theorem Try.hi55 : Try.prog.info? 55 ≠ none := Go.SL.ne_of_isSome (by kernel_rfl)
theorem Try.cz55 : Try.prog.cellsOf 55 = 1 := by kernel_rfl
theorem Try.nz55 : Try.prog.cellsOf 55 ≠ 0 := by rw [Try.cz55]; decide
theorem Try.hi56 : Try.prog.info? 56 ≠ none := Go.SL.ne_of_isSome (by kernel_rfl)
theorem Try.cz56 : Try.prog.cellsOf 56 = 1 := by kernel_rfl
theorem Try.nz56 : Try.prog.cellsOf 56 ≠ 0 := by rw [Try.cz56]; decide
theorem Try.hi57 : Try.prog.info? 57 ≠ none := Go.SL.ne_of_isSome (by kernel_rfl)
theorem Try.cz57 : Try.prog.cellsOf 57 = 1 := by kernel_rfl
theorem Try.nz57 : Try.prog.cellsOf 57 ≠ 0 := by rw [Try.cz57]; decide
theorem Try.hi58 : Try.prog.info? 58 ≠ none := Go.SL.ne_of_isSome (by kernel_rfl)
theorem Try.cz58 : Try.prog.cellsOf 58 = 1 := by kernel_rfl
theorem Try.nz58 : Try.prog.cellsOf 58 ≠ 0 := by rw [Try.cz58]; decide
theorem Try.hi59 : Try.prog.info? 59 ≠ none := Go.SL.ne_of_isSome (by kernel_rfl)
theorem Try.cz59 : Try.prog.cellsOf 59 = 1 := by kernel_rfl
theorem Try.nz59 : Try.prog.cellsOf 59 ≠ 0 := by rw [Try.cz59]; decide
theorem Try.hi61 : Try.prog.info? 61 ≠ none := Go.SL.ne_of_isSome (by kernel_rfl)
theorem Try.cz61 : Try.prog.cellsOf 61 = 1 := by kernel_rfl
theorem Try.nz61 : Try.prog.cellsOf 61 ≠ 0 := by rw [Try.cz61]; decide
theorem Try.hi62 : Try.prog.info? 62 ≠ none := Go.SL.ne_of_isSome (by kernel_rfl)
theorem Try.cz62 : Try.prog.cellsOf 62 = 1 := by kernel_rfl
theorem Try.nz62 : Try.prog.cellsOf 62 ≠ 0 := by rw [Try.cz62]; decide
theorem Try.hi64 : Try.prog.info? 64 ≠ none := Go.SL.ne_of_isSome (by kernel_rfl)
theorem Try.cz64 : Try.prog.cellsOf 64 = 1 := by kernel_rfl
theorem Try.nz64 : Try.prog.cellsOf 64 ≠ 0 := by rw [Try.cz64]; decide
theorem Try.hi65 : Try.prog.info? 65 ≠ none := Go.SL.ne_of_isSome (by kernel_rfl)
theorem Try.cz65 : Try.prog.cellsOf 65 = 1 := by kernel_rfl
theorem Try.nz65 : Try.prog.cellsOf 65 ≠ 0 := by rw [Try.cz65]; decide
theorem Try.hi66 : Try.prog.info? 66 ≠ none := Go.SL.ne_of_isSome (by kernel_rfl)
theorem Try.cz66 : Try.prog.cellsOf 66 = 1 := by kernel_rfl
theorem Try.nz66 : Try.prog.cellsOf 66 ≠ 0 := by rw [Try.cz66]; decide
theorem Try.hi67 : Try.prog.info? 67 ≠ none := Go.SL.ne_of_isSome (by kernel_rfl)
theorem Try.cz67 : Try.prog.cellsOf 67 = 1 := by kernel_rfl
theorem Try.nz67 : Try.prog.cellsOf 67 ≠ 0 := by rw [Try.cz67]; decide
theorem Try.hi68 : Try.prog.info? 68 ≠ none := Go.SL.ne_of_isSome (by kernel_rfl)
theorem Try.cz68 : Try.prog.cellsOf 68 = 1 := by kernel_rfl
theorem Try.nz68 : Try.prog.cellsOf 68 ≠ 0 := by rw [Try.cz68]; decide
theorem Try.hi69 : Try.prog.info? 69 ≠ none := Go.SL.ne_of_isSome (by kernel_rfl)
theorem Try.cz69 : Try.prog.cellsOf 69 = 1 := by kernel_rfl
theorem Try.nz69 : Try.prog.cellsOf 69 ≠ 0 := by rw [Try.cz69]; decide
theorem Try.hi70 : Try.prog.info? 70 ≠ none := Go.SL.ne_of_isSome (by kernel_rfl)
theorem Try.cz70 : Try.prog.cellsOf 70 = 1 := by kernel_rfl
theorem Try.nz70 : Try.prog.cellsOf 70 ≠ 0 := by rw [Try.cz70]; decide
theorem Try.hi71 : Try.prog.info? 71 ≠ none := Go.SL.ne_of_isSome (by kernel_rfl)
theorem Try.cz71 : Try.prog.cellsOf 71 = 1 := by kernel_rfl
theorem Try.nz71 : Try.prog.cellsOf 71 ≠ 0 := by rw [Try.cz71]; decide
theorem Try.hi72 : Try.prog.info? 72 ≠ none := Go.SL.ne_of_isSome (by kernel_rfl)
theorem Try.cz72 : Try.prog.cellsOf 72 = 1 := by kernel_rfl
theorem Try.nz72 : Try.prog.cellsOf 72 ≠ 0 := by rw [Try.cz72]; decide
theorem Try.hi73 : Try.prog.info? 73 ≠ none := Go.SL.ne_of_isSome (by kernel_rfl)
theorem Try.cz73 : Try.prog.cellsOf 73 = 1 := by kernel_rfl
theorem Try.nz73 : Try.prog.cellsOf 73 ≠ 0 := by rw [Try.cz73]; decide
theorem Try.hi74 : Try.prog.info? 74 ≠ none := Go.SL.ne_of_isSome (by kernel_rfl)
theorem Try.cz74 : Try.prog.cellsOf 74 = 1 := by kernel_rfl
theorem Try.nz74 : Try.prog.cellsOf 74 ≠ 0 := by rw [Try.cz74]; decide
theorem Try.hi75 : Try.prog.info? 75 ≠ none := Go.SL.ne_of_isSome (by kernel_rfl)
theorem Try.cz75 : Try.prog.cellsOf 75 = 1 := by kernel_rfl
theorem Try.nz75 : Try.prog.cellsOf 75 ≠ 0 := by rw [Try.cz75]; decide
theorem Try.hi76 : Try.prog.info? 76 ≠ none := Go.SL.ne_of_isSome (by kernel_rfl)
theorem Try.cz76 : Try.prog.cellsOf 76 = 2 := by kernel_rfl
theorem Try.nz76 : Try.prog.cellsOf 76 ≠ 0 := by rw [Try.cz76]; decide
theorem Try.hi77 : Try.prog.info? 77 ≠ none := Go.SL.ne_of_isSome (by kernel_rfl)
theorem Try.cz77 : Try.prog.cellsOf 77 = 2 := by kernel_rfl
theorem Try.nz77 : Try.prog.cellsOf 77 ≠ 0 := by rw [Try.cz77]; decide
theorem Try.hi78 : Try.prog.info? 78 ≠ none := Go.SL.ne_of_isSome (by kernel_rfl)
theorem Try.cz78 : Try.prog.cellsOf 78 = 1 := by kernel_rfl
theorem Try.nz78 : Try.prog.cellsOf 78 ≠ 0 := by rw [Try.cz78]; decide
theorem Try.hi79 : Try.prog.info? 79 ≠ none := Go.SL.ne_of_isSome (by kernel_rfl)
theorem Try.cz79 : Try.prog.cellsOf 79 = 3 := by kernel_rfl
theorem Try.nz79 : Try.prog.cellsOf 79 ≠ 0 := by rw [Try.cz79]; decide
theorem Try.hi80 : Try.prog.info? 80 ≠ none := Go.SL.ne_of_isSome (by kernel_rfl)
theorem Try.cz80 : Try.prog.cellsOf 80 = 3 := by kernel_rfl
theorem Try.nz80 : Try.prog.cellsOf 80 ≠ 0 := by rw [Try.cz80]; decide
theorem Try.hi81 : Try.prog.info? 81 ≠ none := Go.SL.ne_of_isSome (by kernel_rfl)
theorem Try.cz81 : Try.prog.cellsOf 81 = 1 := by kernel_rfl
theorem Try.nz81 : Try.prog.cellsOf 81 ≠ 0 := by rw [Try.cz81]; decide
theorem Try.hi82 : Try.prog.info? 82 ≠ none := Go.SL.ne_of_isSome (by kernel_rfl)
theorem Try.cz82 : Try.prog.cellsOf 82 = 1 := by kernel_rfl
theorem Try.nz82 : Try.prog.cellsOf 82 ≠ 0 := by rw [Try.cz82]; decide
theorem Try.hi83 : Try.prog.info? 83 ≠ none := Go.SL.ne_of_isSome (by kernel_rfl)
theorem Try.cz83 : Try.prog.cellsOf 83 = 1 := by kernel_rfl
theorem Try.nz83 : Try.prog.cellsOf 83 ≠ 0 := by rw [Try.cz83]; decide
theorem Try.hi84 : Try.prog.info? 84 ≠ none := Go.SL.ne_of_isSome (by kernel_rfl)
theorem Try.cz84 : Try.prog.cellsOf 84 = 1 := by kernel_rfl
theorem Try.nz84 : Try.prog.cellsOf 84 ≠ 0 := by rw [Try.cz84]; decide
theorem Try.hi86 : Try.prog.info? 86 ≠ none := Go.SL.ne_of_isSome (by kernel_rfl)
theorem Try.cz86 : Try.prog.cellsOf 86 = 1 := by kernel_rfl
theorem Try.nz86 : Try.prog.cellsOf 86 ≠ 0 := by rw [Try.cz86]; decide
theorem Try.hi88 : Try.prog.info? 88 ≠ none := Go.SL.ne_of_isSome (by kernel_rfl)
theorem Try.cz88 : Try.prog.cellsOf 88 = 1 := by kernel_rfl
theorem Try.nz88 : Try.prog.cellsOf 88 ≠ 0 := by rw [Try.cz88]; decide
theorem Try.hi89 : Try.prog.info? 89 ≠ none := Go.SL.ne_of_isSome (by kernel_rfl)
theorem Try.cz89 : Try.prog.cellsOf 89 = 1 := by kernel_rfl
theorem Try.nz89 : Try.prog.cellsOf 89 ≠ 0 := by rw [Try.cz89]; decide
theorem Try.hi90 : Try.prog.info? 90 ≠ none := Go.SL.ne_of_isSome (by kernel_rfl)
theorem Try.cz90 : Try.prog.cellsOf 90 = 1 := by kernel_rfl
theorem Try.nz90 : Try.prog.cellsOf 90 ≠ 0 := by rw [Try.cz90]; decide
theorem Try.hi91 : Try.prog.info? 91 ≠ none := Go.SL.ne_of_isSome (by kernel_rfl)
theorem Try.cz91 : Try.prog.cellsOf 91 = 14 := by kernel_rfl
theorem Try.nz91 : Try.prog.cellsOf 91 ≠ 0 := by rw [Try.cz91]; decide
theorem Try.hi92 : Try.prog.info? 92 ≠ none := Go.SL.ne_of_isSome (by kernel_rfl)
theorem Try.cz92 : Try.prog.cellsOf 92 = 14 := by kernel_rfl
theorem Try.nz92 : Try.prog.cellsOf 92 ≠ 0 := by rw [Try.cz92]; decide
theorem Try.hi93 : Try.prog.info? 93 ≠ none := Go.SL.ne_of_isSome (by kernel_rfl)
theorem Try.cz93 : Try.prog.cellsOf 93 = 1 := by kernel_rfl
theorem Try.nz93 : Try.prog.cellsOf 93 ≠ 0 := by rw [Try.cz93]; decide
theorem Try.hi94 : Try.prog.info? 94 ≠ none := Go.SL.ne_of_isSome (by kernel_rfl)
theorem Try.cz94 : Try.prog.cellsOf 94 = 1 := by kernel_rfl
theorem Try.nz94 : Try.prog.cellsOf 94 ≠ 0 := by rw [Try.cz94]; decide
theorem Try.hi95 : Try.prog.info? 95 ≠ none := Go.SL.ne_of_isSome (by kernel_rfl)
theorem Try.cz95 : Try.prog.cellsOf 95 = 1 := by kernel_rfl
theorem Try.nz95 : Try.prog.cellsOf 95 ≠ 0 := by rw [Try.cz95]; decide
theorem Try.hi96 : Try.prog.info? 96 ≠ none := Go.SL.ne_of_isSome (by kernel_rfl)
theorem Try.cz96 : Try.prog.cellsOf 96 = 1 := by kernel_rfl
theorem Try.nz96 : Try.prog.cellsOf 96 ≠ 0 := by rw [Try.cz96]; decide
theorem Try.hi97 : Try.prog.info? 97 ≠ none := Go.SL.ne_of_isSome (by kernel_rfl)
theorem Try.cz97 : Try.prog.cellsOf 97 = 1 := by kernel_rfl
theorem Try.nz97 : Try.prog.cellsOf 97 ≠ 0 := by rw [Try.cz97]; decide
theorem Try.hi99 : Try.prog.info? 99 ≠ none := Go.SL.ne_of_isSome (by kernel_rfl)
theorem Try.cz99 : Try.prog.cellsOf 99 = 1 := by kernel_rfl
theorem Try.nz99 : Try.prog.cellsOf 99 ≠ 0 := by rw [Try.cz99]; decide
theorem Try.hi100 : Try.prog.info? 100 ≠ none := Go.SL.ne_of_isSome (by kernel_rfl)
theorem Try.cz100 : Try.prog.cellsOf 100 = 1 := by kernel_rfl
theorem Try.nz100 : Try.prog.cellsOf 100 ≠ 0 := by rw [Try.cz100]; decide
theorem Try.hi101 : Try.prog.info? 101 ≠ none := Go.SL.ne_of_isSome (by kernel_rfl)
theorem Try.cz101 : Try.prog.cellsOf 101 = 1 := by kernel_rfl
theorem Try.nz101 : Try.prog.cellsOf 101 ≠ 0 := by rw [Try.cz101]; decide
theorem Try.hi102 : Try.prog.info? 102 ≠ none := Go.SL.ne_of_isSome (by kernel_rfl)
theorem Try.cz102 : Try.prog.cellsOf 102 = 3 := by kernel_rfl
theorem Try.nz102 : Try.prog.cellsOf 102 ≠ 0 := by rw [Try.cz102]; decide
theorem Try.hi103 : Try.prog.info? 103 ≠ none := Go.SL.ne_of_isSome (by kernel_rfl)
theorem Try.cz103 : Try.prog.cellsOf 103 = 3 := by kernel_rfl
theorem Try.nz103 : Try.prog.cellsOf 103 ≠ 0 := by rw [Try.cz103]; decide
theorem Try.hi104 : Try.prog.info? 104 ≠ none := Go.SL.ne_of_isSome (by kernel_rfl)
theorem Try.cz104 : Try.prog.cellsOf 104 = 1 := by kernel_rfl
theorem Try.nz104 : Try.prog.cellsOf 104 ≠ 0 := by rw [Try.cz104]; decide
theorem Try.hi105 : Try.prog.info? 105 ≠ none := Go.SL.ne_of_isSome (by kernel_rfl)
theorem Try.cz105 : Try.prog.cellsOf 105 = 1 := by kernel_rfl
theorem Try.nz105 : Try.prog.cellsOf 105 ≠ 0 := by rw [Try.cz105]; decide
theorem Try.hi106 : Try.prog.info? 106 ≠ none := Go.SL.ne_of_isSome (by kernel_rfl)
theorem Try.cz106 : Try.prog.cellsOf 106 = 1 := by kernel_rfl
theorem Try.nz106 : Try.prog.cellsOf 106 ≠ 0 := by rw [Try.cz106]; decide
theorem Try.hi107 : Try.prog.info? 107 ≠ none := Go.SL.ne_of_isSome (by kernel_rfl)
theorem Try.cz107 : Try.prog.cellsOf 107 = 1 := by kernel_rfl
theorem Try.nz107 : Try.prog.cellsOf 107 ≠ 0 := by rw [Try.cz107]; decide
theorem Try.hi108 : Try.prog.info? 108 ≠ none := Go.SL.ne_of_isSome (by kernel_rfl)
theorem Try.cz108 : Try.prog.cellsOf 108 = 1 := by kernel_rfl
theorem Try.nz108 : Try.prog.cellsOf 108 ≠ 0 := by rw [Try.cz108]; decide
theorem Try.hi110 : Try.prog.info? 110 ≠ none := Go.SL.ne_of_isSome (by kernel_rfl)
theorem Try.cz110 : Try.prog.cellsOf 110 = 1 := by kernel_rfl
theorem Try.nz110 : Try.prog.cellsOf 110 ≠ 0 := by rw [Try.cz110]; decide
theorem Try.hi111 : Try.prog.info? 111 ≠ none := Go.SL.ne_of_isSome (by kernel_rfl)
theorem Try.cz111 : Try.prog.cellsOf 111 = 1 := by kernel_rfl
theorem Try.nz111 : Try.prog.cellsOf 111 ≠ 0 := by rw [Try.cz111]; decide
theorem Try.hi112 : Try.prog.info? 112 ≠ none := Go.SL.ne_of_isSome (by kernel_rfl)
theorem Try.cz112 : Try.prog.cellsOf 112 = 1 := by kernel_rfl
theorem Try.nz112 : Try.prog.cellsOf 112 ≠ 0 := by rw [Try.cz112]; decide
theorem Try.hi113 : Try.prog.info? 113 ≠ none := Go.SL.ne_of_isSome (by kernel_rfl)
theorem Try.cz113 : Try.prog.cellsOf 113 = 1 := by kernel_rfl
theorem Try.nz113 : Try.prog.cellsOf 113 ≠ 0 := by rw [Try.cz113]; decide
theorem Try.hi114 : Try.prog.info? 114 ≠ none := Go.SL.ne_of_isSome (by kernel_rfl)
theorem Try.cz114 : Try.prog.cellsOf 114 = 1 := by kernel_rfl
theorem Try.nz114 : Try.prog.cellsOf 114 ≠ 0 := by rw [Try.cz114]; decide
theorem Try.hi115 : Try.prog.info? 115 ≠ none := Go.SL.ne_of_isSome (by kernel_rfl)
theorem Try.cz115 : Try.prog.cellsOf 115 = 3 := by kernel_rfl
theorem Try.nz115 : Try.prog.cellsOf 115 ≠ 0 := by rw [Try.cz115]; decide
theorem Try.hi116 : Try.prog.info? 116 ≠ none := Go.SL.ne_of_isSome (by kernel_rfl)
theorem Try.cz116 : Try.prog.cellsOf 116 = 1 := by kernel_rfl
theorem Try.nz116 : Try.prog.cellsOf 116 ≠ 0 := by rw [Try.cz116]; decide
theorem Try.hi117 : Try.prog.info? 117 ≠ none := Go.SL.ne_of_isSome (by kernel_rfl)
theorem Try.cz117 : Try.prog.cellsOf 117 = 1 := by kernel_rfl
theorem Try.nz117 : Try.prog.cellsOf 117 ≠ 0 := by rw [Try.cz117]; decide
theorem Try.hi118 : Try.prog.info? 118 ≠ none := Go.SL.ne_of_isSome (by kernel_rfl)
theorem Try.cz118 : Try.prog.cellsOf 118 = 30 := by kernel_rfl
theorem Try.nz118 : Try.prog.cellsOf 118 ≠ 0 := by rw [Try.cz118]; decide
theorem Try.hi119 : Try.prog.info? 119 ≠ none := Go.SL.ne_of_isSome (by kernel_rfl)
theorem Try.cz119 : Try.prog.cellsOf 119 = 1 := by kernel_rfl
theorem Try.nz119 : Try.prog.cellsOf 119 ≠ 0 := by rw [Try.cz119]; decide
theorem Try.hi120 : Try.prog.info? 120 ≠ none := Go.SL.ne_of_isSome (by kernel_rfl)
theorem Try.cz120 : Try.prog.cellsOf 120 = 1 := by kernel_rfl
theorem Try.nz120 : Try.prog.cellsOf 120 ≠ 0 := by rw [Try.cz120]; decide
theorem Try.hi121 : Try.prog.info? 121 ≠ none := Go.SL.ne_of_isSome (by kernel_rfl)
theorem Try.cz121 : Try.prog.cellsOf 121 = 4 := by kernel_rfl
theorem Try.nz121 : Try.prog.cellsOf 121 ≠ 0 := by rw [Try.cz121]; decide
theorem Try.hi122 : Try.prog.info? 122 ≠ none := Go.SL.ne_of_isSome (by kernel_rfl)
theorem Try.cz122 : Try.prog.cellsOf 122 = 4 := by kernel_rfl
theorem Try.nz122 : Try.prog.cellsOf 122 ≠ 0 := by rw [Try.cz122]; decide
theorem Try.hi123 : Try.prog.info? 123 ≠ none := Go.SL.ne_of_isSome (by kernel_rfl)
theorem Try.cz123 : Try.prog.cellsOf 123 = 0 := by kernel_rfl
theorem Try.hi124 : Try.prog.info? 124 ≠ none := Go.SL.ne_of_isSome (by kernel_rfl)
theorem Try.cz124 : Try.prog.cellsOf 124 = 0 := by kernel_rfl
theorem Try.hi125 : Try.prog.info? 125 ≠ none := Go.SL.ne_of_isSome (by kernel_rfl)
theorem Try.cz125 : Try.prog.cellsOf 125 = 0 := by kernel_rfl
theorem Try.hi126 : Try.prog.info? 126 ≠ none := Go.SL.ne_of_isSome (by kernel_rfl)
theorem Try.cz126 : Try.prog.cellsOf 126 = 1 := by kernel_rfl
theorem Try.nz126 : Try.prog.cellsOf 126 ≠ 0 := by rw [Try.cz126]; decide
theorem Try.hi127 : Try.prog.info? 127 ≠ none := Go.SL.ne_of_isSome (by kernel_rfl)
theorem Try.cz127 : Try.prog.cellsOf 127 = 1 := by kernel_rfl
theorem Try.nz127 : Try.prog.cellsOf 127 ≠ 0 := by rw [Try.cz127]; decide
theorem Try.hi128 : Try.prog.info? 128 ≠ none := Go.SL.ne_of_isSome (by kernel_rfl)
theorem Try.cz128 : Try.prog.cellsOf 128 = 1 := by kernel_rfl
theorem Try.nz128 : Try.prog.cellsOf 128 ≠ 0 := by rw [Try.cz128]; decide
theorem Try.hi129 : Try.prog.info? 129 ≠ none := Go.SL.ne_of_isSome (by kernel_rfl)
theorem Try.cz129 : Try.prog.cellsOf 129 = 1 := by kernel_rfl
theorem Try.nz129 : Try.prog.cellsOf 129 ≠ 0 := by rw [Try.cz129]; decide
theorem Try.hi130 : Try.prog.info? 130 ≠ none := Go.SL.ne_of_isSome (by kernel_rfl)
theorem Try.cz130 : Try.prog.cellsOf 130 = 1 := by kernel_rfl
theorem Try.nz130 : Try.prog.cellsOf 130 ≠ 0 := by rw [Try.cz130]; decide
theorem Try.hi131 : Try.prog.info? 131 ≠ none := Go.SL.ne_of_isSome (by kernel_rfl)
theorem Try.cz131 : Try.prog.cellsOf 131 = 1 := by kernel_rfl
theorem Try.nz131 : Try.prog.cellsOf 131 ≠ 0 := by rw [Try.cz131]; decide
theorem Try.hi132 : Try.prog.info? 132 ≠ none := Go.SL.ne_of_isSome (by kernel_rfl)
theorem Try.cz132 : Try.prog.cellsOf 132 = 1 := by kernel_rfl
theorem Try.nz132 : Try.prog.cellsOf 132 ≠ 0 := by rw [Try.cz132]; decide
theorem Try.hi133 : Try.prog.info? 133 ≠ none := Go.SL.ne_of_isSome (by kernel_rfl)
theorem Try.cz133 : Try.prog.cellsOf 133 = 11 := by kernel_rfl
theorem Try.nz133 : Try.prog.cellsOf 133 ≠ 0 := by rw [Try.cz133]; decide
theorem Try.hi134 : Try.prog.info? 134 ≠ none := Go.SL.ne_of_isSome (by kernel_rfl)
theorem Try.cz134 : Try.prog.cellsOf 134 = 11 := by kernel_rfl
theorem Try.nz134 : Try.prog.cellsOf 134 ≠ 0 := by rw [Try.cz134]; decide
theorem Try.hi135 : Try.prog.info? 135 ≠ none := Go.SL.ne_of_isSome (by kernel_rfl)
theorem Try.cz135 : Try.prog.cellsOf 135 = 1 := by kernel_rfl
theorem Try.nz135 : Try.prog.cellsOf 135 ≠ 0 := by rw [Try.cz135]; decide
theorem Try.mixed : Try.prog.follows .mixedOrders = true := by kernel_rfl
end Go.Proofs
