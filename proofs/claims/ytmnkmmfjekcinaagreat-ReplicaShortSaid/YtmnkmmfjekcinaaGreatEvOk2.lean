/-
  Each function's code is the program's, printed by a tool.
-/
import Derived.Test.YtmnkmmfjekcinaaGreatEvOk1
import Derived.Test.YtmnkmmfjekcinaaGreatEvFuncs2
import Derived.Test.YtmnkmmfjekcinaaGreatRows
import Derived.KernelRfl
set_option maxRecDepth 1000000
namespace Go.Proofs.YtmnkmmfjekcinaaGreat.Ev
open Go.Ev
theorem k52 : HOk Tryz.prog 52 F52 := hok (m := mutsOf ml false) (kept := [0, 2]) (by kernel_rfl) Tryz.func52 (by kernel_rfl) (by kernel_rfl)
theorem k53 : HOk Tryz.prog 53 F53 := hok (m := mutsOf ml false) (kept := [0, 2]) (by kernel_rfl) Tryz.func53 (by kernel_rfl) (by kernel_rfl)
theorem k54 : HOk Tryz.prog 54 F54 := hok (m := mutsOf ml false) (kept := [0, 1, 2, 9, 39, 11, 8, 10, 40, 44, 35, 6, 7]) (by kernel_rfl) Tryz.func54 (by kernel_rfl) (by kernel_rfl)
theorem k55 : HOk Tryz.prog 55 F55 := hok (m := mutsOf ml false) (kept := [0, 1, 2, 4]) (by kernel_rfl) Tryz.func55 (by kernel_rfl) (by kernel_rfl)
theorem k56 : HOk Tryz.prog 56 F56 := hok (m := mutsOf ml false) (kept := [0, 1, 6, 5, 4]) (by kernel_rfl) Tryz.func56 (by kernel_rfl) (by kernel_rfl)
theorem k57 : HOk Tryz.prog 57 F57 := hok (m := mutsOf ml false) (kept := [0, 1, 2, 7, 8, 6]) (by kernel_rfl) Tryz.func57 (by kernel_rfl) (by kernel_rfl)
theorem k58 : HOk Tryz.prog 58 F58 := hok (m := mutsOf ml false) (kept := [0, 1, 2, 4, 7, 6]) (by kernel_rfl) Tryz.func58 (by kernel_rfl) (by kernel_rfl)
theorem k59 : HOk Tryz.prog 59 F59 := hok (m := mutsOf ml false) (kept := [0, 1, 2]) (by kernel_rfl) Tryz.func59 (by kernel_rfl) (by kernel_rfl)
theorem k60 : HOk Tryz.prog 60 F60 := hok (m := mutsOf ml false) (kept := [0, 10, 4, 23, 20]) (by kernel_rfl) Tryz.func60 (by kernel_rfl) (by kernel_rfl)
theorem k61 : HOk Tryz.prog 61 F61 := hok (m := mutsOf ml false) (kept := [0, 1, 10, 4, 9, 3]) (by kernel_rfl) Tryz.func61 (by kernel_rfl) (by kernel_rfl)
theorem k62 : HOk Tryz.prog 62 F62 := hok (m := mutsOf ml false) (kept := [0, 2]) (by kernel_rfl) Tryz.func62 (by kernel_rfl) (by kernel_rfl)
theorem k63 : HOk Tryz.prog 63 F63 := hok (m := mutsOf ml false) (kept := [0, 11, 5, 4, 10, 2, 3]) (by kernel_rfl) Tryz.func63 (by kernel_rfl) (by kernel_rfl)
theorem k64 : HOk Tryz.prog 64 F64 := hok (m := mutsOf ml false) (kept := [0, 1, 15, 33, 4, 29, 14, 13, 35, 2]) (by kernel_rfl) Tryz.func64 (by kernel_rfl) (by kernel_rfl)
theorem k65 : HOk Tryz.prog 65 F65 := hok (m := mutsOf ml false) (kept := [0, 1, 8, 5, 7, 4]) (by kernel_rfl) Tryz.func65 (by kernel_rfl) (by kernel_rfl)
theorem k66 : HOk Tryz.prog 66 F66 := hok (m := mutsOf ml false) (kept := [0, 1, 2, 3, 14, 11, 10, 8, 12, 16, 17, 18, 9, 13, 15]) (by kernel_rfl) Tryz.func66 (by kernel_rfl) (by kernel_rfl)
theorem k67 : HOk Tryz.prog 67 F67 := hok (m := mutsOf ml false) (kept := [0, 2]) (by kernel_rfl) Tryz.func67 (by kernel_rfl) (by kernel_rfl)
theorem k68 : HOk Tryz.prog 68 F68 := hok (m := mutsOf ml false) (kept := [0, 2]) (by kernel_rfl) Tryz.func68 (by kernel_rfl) (by kernel_rfl)
theorem k69 : HOk Tryz.prog 69 F69 := hok (m := mutsOf ml false) (kept := [0, 2]) (by kernel_rfl) Tryz.func69 (by kernel_rfl) (by kernel_rfl)
theorem k70 : HOk Tryz.prog 70 F70 := hok (m := mutsOf ml false) (kept := [0, 1, 4]) (by kernel_rfl) Tryz.func70 (by kernel_rfl) (by kernel_rfl)
theorem k71 : HOk Tryz.prog 71 F71 := hok (m := mutsOf ml false) (kept := [0, 1, 2]) (by kernel_rfl) Tryz.func71 (by kernel_rfl) (by kernel_rfl)
theorem k72 : HOk Tryz.prog 72 F72 := hok (m := mutsOf ml false) (kept := [0, 1, 11, 12, 2]) (by kernel_rfl) Tryz.func72 (by kernel_rfl) (by kernel_rfl)
theorem k73 : HOk Tryz.prog 73 F73 := hok (m := mutsOf ml false) (kept := [0, 1, 12, 13, 14, 4]) (by kernel_rfl) Tryz.func73 (by kernel_rfl) (by kernel_rfl)
theorem k74 : HOk Tryz.prog 74 F74 := hok (m := mutsOf ml false) (kept := [0, 2]) (by kernel_rfl) Tryz.func74 (by kernel_rfl) (by kernel_rfl)
theorem k76 : HOk Tryz.prog 76 F76 := hok (m := mutsOf ml false) (kept := [0, 1]) (by kernel_rfl) Tryz.func76 (by kernel_rfl) (by kernel_rfl)
theorem k77 : HOk Tryz.prog 77 F77 := hok (m := mutsOf ml false) (kept := [0, 2]) (by kernel_rfl) Tryz.func77 (by kernel_rfl) (by kernel_rfl)
theorem k79 : HOk Tryz.prog 79 F79 := hok (m := mutsOf ml false) (kept := [0, 1]) (by kernel_rfl) Tryz.func79 (by kernel_rfl) (by kernel_rfl)
theorem k80 : HOk Tryz.prog 80 F80 := hok (m := mutsOf ml false) (kept := [0, 1, 2, 3, 4, 5]) (by kernel_rfl) Tryz.func80 (by kernel_rfl) (by kernel_rfl)
theorem k81 : HOk Tryz.prog 81 F81 := hok (m := mutsOf ml false) (kept := [0, 1, 2, 3, 5, 6, 4]) (by kernel_rfl) Tryz.func81 (by kernel_rfl) (by kernel_rfl)
theorem k82 : HOk Tryz.prog 82 F82 := hok (m := mutsOf ml false) (kept := [0, 1, 2, 7, 6]) (by kernel_rfl) Tryz.func82 (by kernel_rfl) (by kernel_rfl)
theorem k83 : HOk Tryz.prog 83 F83 := hok (m := mutsOf ml false) (kept := [0, 1, 2, 6, 10, 8, 9, 7]) (by kernel_rfl) Tryz.func83 (by kernel_rfl) (by kernel_rfl)
theorem k84 : HOk Tryz.prog 84 F84 := hok (m := mutsOf ml false) (kept := [0, 1, 2, 6, 9, 10, 7, 8]) (by kernel_rfl) Tryz.func84 (by kernel_rfl) (by kernel_rfl)
theorem k85 : HOk Tryz.prog 85 F85 := hok (m := mutsOf ml false) (kept := [0, 1, 2, 8, 9, 11, 10, 12, 49, 6, 7]) (by kernel_rfl) Tryz.func85 (by kernel_rfl) (by kernel_rfl)
theorem k86 : HOk Tryz.prog 86 F86 := hok (m := mutsOf ml false) (kept := [0, 1, 2, 6, 7]) (by kernel_rfl) Tryz.func86 (by kernel_rfl) (by kernel_rfl)
theorem k87 : HOk Tryz.prog 87 F87 := hok (m := mutsOf ml false) (kept := [0, 1, 2, 7, 9, 10, 8, 6]) (by kernel_rfl) Tryz.func87 (by kernel_rfl) (by kernel_rfl)
theorem k88 : HOk Tryz.prog 88 F88 := hok (m := mutsOf ml false) (kept := [0, 1, 2, 3, 9, 10, 8]) (by kernel_rfl) Tryz.func88 (by kernel_rfl) (by kernel_rfl)
theorem k89 : HOk Tryz.prog 89 F89 := hok (m := mutsOf ml false) (kept := [0, 1, 2, 3, 11, 10, 8, 9]) (by kernel_rfl) Tryz.func89 (by kernel_rfl) (by kernel_rfl)
theorem k90 : HOk Tryz.prog 90 F90 := hok (m := mutsOf ml false) (kept := [0, 2]) (by kernel_rfl) Tryz.func90 (by kernel_rfl) (by kernel_rfl)
theorem k91 : HOk Tryz.prog 91 F91 := hok (m := mutsOf ml false) (kept := [0, 2]) (by kernel_rfl) Tryz.func91 (by kernel_rfl) (by kernel_rfl)
theorem k92 : HOk Tryz.prog 92 F92 := hok (m := mutsOf ml false) (kept := [0, 1, 8, 5, 7, 4]) (by kernel_rfl) Tryz.func92 (by kernel_rfl) (by kernel_rfl)
theorem k93 : HOk Tryz.prog 93 F93 := hok (m := mutsOf ml false) (kept := [0, 2]) (by kernel_rfl) Tryz.func93 (by kernel_rfl) (by kernel_rfl)
theorem k94 : HOk Tryz.prog 94 F94 := hok (m := mutsOf ml false) (kept := [0, 1]) (by kernel_rfl) Tryz.func94 (by kernel_rfl) (by kernel_rfl)
theorem k95 : HOk Tryz.prog 95 F95 := hok (m := mutsOf ml false) (kept := [0, 1]) (by kernel_rfl) Tryz.func95 (by kernel_rfl) (by kernel_rfl)
theorem k96 : HOk Tryz.prog 96 F96 := hok (m := mutsOf ml false) (kept := [0, 1, 2, 3, 9, 8]) (by kernel_rfl) Tryz.func96 (by kernel_rfl) (by kernel_rfl)
theorem k97 : HOk Tryz.prog 97 F97 := hok (m := mutsOf ml false) (kept := [0, 2]) (by kernel_rfl) Tryz.func97 (by kernel_rfl) (by kernel_rfl)
theorem k98 : HOk Tryz.prog 98 F98 := hok (m := mutsOf ml false) (kept := [0, 2]) (by kernel_rfl) Tryz.func98 (by kernel_rfl) (by kernel_rfl)
theorem k99 : HOk Tryz.prog 99 F99 := hok (m := mutsOf ml false) (kept := [0, 1, 2, 6]) (by kernel_rfl) Tryz.func99 (by kernel_rfl) (by kernel_rfl)
theorem k100 : HOk Tryz.prog 100 F100 := hok (m := mutsOf ml false) (kept := [0, 1, 2, 3, 4, 10]) (by kernel_rfl) Tryz.func100 (by kernel_rfl) (by kernel_rfl)
theorem k101 : HOk Tryz.prog 101 F101 := hok (m := mutsOf ml false) (kept := [0, 2, 3]) (by kernel_rfl) Tryz.func101 (by kernel_rfl) (by kernel_rfl)
theorem k102 : HOk Tryz.prog 102 F102 := hok (m := mutsOf ml false) (kept := [0, 2, 3]) (by kernel_rfl) Tryz.func102 (by kernel_rfl) (by kernel_rfl)
theorem k103 : HOk Tryz.prog 103 F103 := hok (m := mutsOf ml false) (kept := [0, 1, 2, 3, 8, 9]) (by kernel_rfl) Tryz.func103 (by kernel_rfl) (by kernel_rfl)
theorem ftOk : FT.Ok Tryz.prog := ⟨k52, ⟨k27, ⟨k15, ⟨k9, ⟨k6, ⟨k4, ⟨k3, trivial, trivial⟩, ⟨k5, trivial, trivial⟩⟩, ⟨k8, ⟨k7, trivial, trivial⟩, trivial⟩⟩, ⟨k12, ⟨k11, ⟨k10, trivial, trivial⟩, trivial⟩, ⟨k14, ⟨k13, trivial, trivial⟩, trivial⟩⟩⟩, ⟨k21, ⟨k18, ⟨k17, ⟨k16, trivial, trivial⟩, trivial⟩, ⟨k20, ⟨k19, trivial, trivial⟩, trivial⟩⟩, ⟨k24, ⟨k23, ⟨k22, trivial, trivial⟩, trivial⟩, ⟨k26, ⟨k25, trivial, trivial⟩, trivial⟩⟩⟩⟩, ⟨k40, ⟨k34, ⟨k31, ⟨k29, ⟨k28, trivial, trivial⟩, ⟨k30, trivial, trivial⟩⟩, ⟨k33, ⟨k32, trivial, trivial⟩, trivial⟩⟩, ⟨k37, ⟨k36, ⟨k35, trivial, trivial⟩, trivial⟩, ⟨k39, ⟨k38, trivial, trivial⟩, trivial⟩⟩⟩, ⟨k46, ⟨k43, ⟨k42, ⟨k41, trivial, trivial⟩, trivial⟩, ⟨k45, ⟨k44, trivial, trivial⟩, trivial⟩⟩, ⟨k49, ⟨k48, ⟨k47, trivial, trivial⟩, trivial⟩, ⟨k51, ⟨k50, trivial, trivial⟩, trivial⟩⟩⟩⟩⟩, ⟨k79, ⟨k65, ⟨k59, ⟨k56, ⟨k54, ⟨k53, trivial, trivial⟩, ⟨k55, trivial, trivial⟩⟩, ⟨k58, ⟨k57, trivial, trivial⟩, trivial⟩⟩, ⟨k62, ⟨k61, ⟨k60, trivial, trivial⟩, trivial⟩, ⟨k64, ⟨k63, trivial, trivial⟩, trivial⟩⟩⟩, ⟨k71, ⟨k68, ⟨k67, ⟨k66, trivial, trivial⟩, trivial⟩, ⟨k70, ⟨k69, trivial, trivial⟩, trivial⟩⟩, ⟨k74, ⟨k73, ⟨k72, trivial, trivial⟩, trivial⟩, ⟨k77, ⟨k76, trivial, trivial⟩, trivial⟩⟩⟩⟩, ⟨k92, ⟨k86, ⟨k83, ⟨k81, ⟨k80, trivial, trivial⟩, ⟨k82, trivial, trivial⟩⟩, ⟨k85, ⟨k84, trivial, trivial⟩, trivial⟩⟩, ⟨k89, ⟨k88, ⟨k87, trivial, trivial⟩, trivial⟩, ⟨k91, ⟨k90, trivial, trivial⟩, trivial⟩⟩⟩, ⟨k98, ⟨k95, ⟨k94, ⟨k93, trivial, trivial⟩, trivial⟩, ⟨k97, ⟨k96, trivial, trivial⟩, trivial⟩⟩, ⟨k101, ⟨k100, ⟨k99, trivial, trivial⟩, trivial⟩, ⟨k103, ⟨k102, trivial, trivial⟩, trivial⟩⟩⟩⟩⟩⟩
end Go.Proofs.YtmnkmmfjekcinaaGreat.Ev
