/-
  Each function's code is the program's, printed by a tool.
-/
import Derived.Test.YtlmffooffbjdkaaEvFuncs1
import Derived.Test.YtlmffooffbjdkaaRows
import Derived.KernelRfl
set_option maxRecDepth 1000000
namespace Go.Proofs.Ytlmffooffbjdkaa.Ev
open Go.Ev
def ml : List Nat := [26, 44, 56, 57, 75, 85, 86, 89, 101, 114, 121, 141]
theorem k5 : HOk Try.prog 5 F5 := hok (m := mutsOf ml false) (kept := [0, 1, 2, 3, 10, 81, 14, 9, 19, 20, 138, 13, 18, 12, 17, 62, 71, 16, 15, 139, 132, 8]) (by kernel_rfl) Try.func5 (by kernel_rfl) (by kernel_rfl)
theorem k6 : HOk Try.prog 6 F6 := hok (m := mutsOf ml false) (kept := [0, 1, 2, 3, 16, 13, 15, 78, 19, 49, 88, 10, 151, 9, 12, 103, 158, 11, 38, 39, 14, 59, 81, 91, 18, 143, 153, 162, 163, 8]) (by kernel_rfl) Try.func6 (by kernel_rfl) (by kernel_rfl)
theorem k7 : HOk Try.prog 7 F7 := hok (m := mutsOf ml false) (kept := [0, 1, 9, 23, 5, 6, 10, 20, 4]) (by kernel_rfl) Try.func7 (by kernel_rfl) (by kernel_rfl)
theorem k8 : HOk Try.prog 8 F8 := hok (m := mutsOf ml false) (kept := [0, 1, 5, 36, 6, 7, 8, 42, 28, 10, 9, 38, 45, 48, 4]) (by kernel_rfl) Try.func8 (by kernel_rfl) (by kernel_rfl)
theorem k18 : HOk Try.prog 18 F18 := hok (m := mutsOf ml false) (kept := [1, 59, 4, 3, 28, 8, 9, 20, 5, 29, 30, 6, 60, 0]) (by kernel_rfl) Try.func18 (by kernel_rfl) (by kernel_rfl)
theorem k21 : HOk Try.prog 21 F21 := hok (m := mutsOf ml false) (kept := [0, 1, 2, 5, 3, 51, 30, 7, 20, 58, 6, 4, 37, 21, 31, 39, 41, 61, 60, 9, 8]) (by kernel_rfl) Try.func21 (by kernel_rfl) (by kernel_rfl)
theorem k24 : HOk Try.prog 24 F24 := hok (m := mutsOf ml false) (kept := [0, 1, 11, 2, 21, 3, 14, 24, 23, 4]) (by kernel_rfl) Try.func24 (by kernel_rfl) (by kernel_rfl)
theorem k29 : HOk Try.prog 29 F29 := hok (m := mutsOf ml false) (kept := [0, 1, 4, 13, 14, 15, 5]) (by kernel_rfl) Try.func29 (by kernel_rfl) (by kernel_rfl)
theorem k30 : HOk Try.prog 30 F30 := hok (m := mutsOf ml false) (kept := [0, 1, 2, 3, 6, 22, 10, 9, 5, 21, 38, 7, 8]) (by kernel_rfl) Try.func30 (by kernel_rfl) (by kernel_rfl)
theorem k31 : HOk Try.prog 31 F31 := hok (m := mutsOf ml false) (kept := [0, 1, 2, 7, 9, 6]) (by kernel_rfl) Try.func31 (by kernel_rfl) (by kernel_rfl)
theorem k32 : HOk Try.prog 32 F32 := hok (m := mutsOf ml false) (kept := [0, 1, 2, 3]) (by kernel_rfl) Try.func32 (by kernel_rfl) (by kernel_rfl)
theorem k33 : HOk Try.prog 33 F33 := hok (m := mutsOf ml false) (kept := [0, 1, 5, 2, 15, 4, 17, 3]) (by kernel_rfl) Try.func33 (by kernel_rfl) (by kernel_rfl)
theorem k34 : HOk Try.prog 34 F34 := hok (m := mutsOf ml false) (kept := [0, 1, 3, 2, 13, 32, 14, 24, 34, 53, 4]) (by kernel_rfl) Try.func34 (by kernel_rfl) (by kernel_rfl)
theorem k35 : HOk Try.prog 35 F35 := hok (m := mutsOf ml false) (kept := [0, 1, 5, 4]) (by kernel_rfl) Try.func35 (by kernel_rfl) (by kernel_rfl)
theorem k36 : HOk Try.prog 36 F36 := hok (m := mutsOf ml false) (kept := [0, 2]) (by kernel_rfl) Try.func36 (by kernel_rfl) (by kernel_rfl)
theorem k39 : HOk Try.prog 39 F39 := hok (m := mutsOf ml false) (kept := [0, 1, 2]) (by kernel_rfl) Try.func39 (by kernel_rfl) (by kernel_rfl)
theorem k40 : HOk Try.prog 40 F40 := hok (m := mutsOf ml false) (kept := [0, 1, 7, 98, 169, 125, 36, 5, 158, 112, 136, 24, 95, 3, 14, 17, 27, 37, 87, 90, 101, 111, 110, 135, 134, 144, 149, 159, 176, 179, 2]) (by kernel_rfl) Try.func40 (by kernel_rfl) (by kernel_rfl)
theorem k41 : HOk Try.prog 41 F41 := hok (m := mutsOf ml false) (kept := [0, 1, 5, 80, 9, 64, 90, 114, 127, 26, 33, 8, 100, 96, 110, 124, 4, 3, 25, 24, 7, 56, 10, 66, 11, 81, 91, 101, 115, 130, 140, 2]) (by kernel_rfl) Try.func41 (by kernel_rfl) (by kernel_rfl)
theorem k42 : HOk Try.prog 42 F42 := hok (m := mutsOf ml false) (kept := [0, 1, 2]) (by kernel_rfl) Try.func42 (by kernel_rfl) (by kernel_rfl)
theorem k43 : HOk Try.prog 43 F43 := hok (m := mutsOf ml false) (kept := [0, 1, 7, 35, 9, 6, 8, 42, 39, 40, 48, 50, 31, 4, 5]) (by kernel_rfl) Try.func43 (by kernel_rfl) (by kernel_rfl)
theorem k44 : HOk Try.prog 44 F44 := hok (m := mutsOf ml false) (kept := [0, 1, 2, 7, 8, 6]) (by kernel_rfl) Try.func44 (by kernel_rfl) (by kernel_rfl)
theorem k46 : HOk Try.prog 46 F46 := hok (m := mutsOf ml false) (kept := [0, 1, 2]) (by kernel_rfl) Try.func46 (by kernel_rfl) (by kernel_rfl)
theorem k49 : HOk Try.prog 49 F49 := hok (m := mutsOf ml false) (kept := [0, 1, 7, 142, 17, 4, 6, 46, 5, 133, 229, 224, 3, 34, 63, 59, 139, 24, 27, 37, 47, 52, 57, 65, 67, 134, 144, 230, 240, 2]) (by kernel_rfl) Try.func49 (by kernel_rfl) (by kernel_rfl)
theorem k51 : HOk Try.prog 51 F51 := hok (m := mutsOf ml false) (kept := [0, 12, 2]) (by kernel_rfl) Try.func51 (by kernel_rfl) (by kernel_rfl)
theorem k52 : HOk Try.prog 52 F52 := hok (m := mutsOf ml false) (kept := [0, 1, 2]) (by kernel_rfl) Try.func52 (by kernel_rfl) (by kernel_rfl)
theorem k53 : HOk Try.prog 53 F53 := hok (m := mutsOf ml false) (kept := [0, 1, 2]) (by kernel_rfl) Try.func53 (by kernel_rfl) (by kernel_rfl)
theorem k54 : HOk Try.prog 54 F54 := hok (m := mutsOf ml false) (kept := [0, 1, 4, 5, 3, 2]) (by kernel_rfl) Try.func54 (by kernel_rfl) (by kernel_rfl)
theorem k55 : HOk Try.prog 55 F55 := hok (m := mutsOf ml false) (kept := [0, 1, 4, 5, 3, 2]) (by kernel_rfl) Try.func55 (by kernel_rfl) (by kernel_rfl)
theorem k56 : HOk Try.prog 56 F56 := hok (m := mutsOf ml false) (kept := [0, 1]) (by kernel_rfl) Try.func56 (by kernel_rfl) (by kernel_rfl)
theorem k57 : HOk Try.prog 57 F57 := hok (m := mutsOf ml false) (kept := [0, 2, 6, 5, 3]) (by kernel_rfl) Try.func57 (by kernel_rfl) (by kernel_rfl)
theorem k59 : HOk Try.prog 59 F59 := hok (m := mutsOf ml false) (kept := [0, 2]) (by kernel_rfl) Try.func59 (by kernel_rfl) (by kernel_rfl)
theorem k60 : HOk Try.prog 60 F60 := hok (m := mutsOf ml false) (kept := [0, 1, 11, 14, 24, 4]) (by kernel_rfl) Try.func60 (by kernel_rfl) (by kernel_rfl)
theorem k61 : HOk Try.prog 61 F61 := hok (m := mutsOf ml false) (kept := [0, 2]) (by kernel_rfl) Try.func61 (by kernel_rfl) (by kernel_rfl)
theorem k62 : HOk Try.prog 62 F62 := hok (m := mutsOf ml false) (kept := [0, 1, 13, 23, 38, 19, 14, 24, 37, 36, 4, 2]) (by kernel_rfl) Try.func62 (by kernel_rfl) (by kernel_rfl)
theorem k63 : HOk Try.prog 63 F63 := hok (m := mutsOf ml false) (kept := [0, 1, 4]) (by kernel_rfl) Try.func63 (by kernel_rfl) (by kernel_rfl)
theorem k64 : HOk Try.prog 64 F64 := hok (m := mutsOf ml false) (kept := [0, 2]) (by kernel_rfl) Try.func64 (by kernel_rfl) (by kernel_rfl)
theorem k65 : HOk Try.prog 65 F65 := hok (m := mutsOf ml false) (kept := [0, 4, 5, 6, 7, 8, 9, 10, 11, 12, 13, 14, 2, 3]) (by kernel_rfl) Try.func65 (by kernel_rfl) (by kernel_rfl)
theorem k66 : HOk Try.prog 66 F66 := hok (m := mutsOf ml false) (kept := [0, 8, 21, 9, 12, 3, 4, 24, 22, 2]) (by kernel_rfl) Try.func66 (by kernel_rfl) (by kernel_rfl)
theorem k67 : HOk Try.prog 67 F67 := hok (m := mutsOf ml false) (kept := [0, 1, 5, 4]) (by kernel_rfl) Try.func67 (by kernel_rfl) (by kernel_rfl)
theorem k68 : HOk Try.prog 68 F68 := hok (m := mutsOf ml false) (kept := [0, 1, 29, 26, 4, 5]) (by kernel_rfl) Try.func68 (by kernel_rfl) (by kernel_rfl)
end Go.Proofs.Ytlmffooffbjdkaa.Ev
