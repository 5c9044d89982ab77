/-
  Each function's code is the program's, printed by a tool.
-/
import Derived.Test.YtlmffooffbjdkaaEvOk1
import Derived.Test.YtlmffooffbjdkaaEvFuncs1
import Derived.Test.YtlmffooffbjdkaaRows
import Derived.KernelRfl
set_option maxRecDepth 1000000
namespace Go.Proofs.Ytlmffooffbjdkaa.Ev
open Go.Ev
theorem k69 : HOk Try.prog 69 F69 := hok (m := mutsOf ml false) (kept := [0, 4, 14, 13, 3, 20, 2]) (by kernel_rfl) Try.func69 (by kernel_rfl) (by kernel_rfl)
theorem k70 : HOk Try.prog 70 F70 := hok (m := mutsOf ml false) (kept := [0, 2]) (by kernel_rfl) Try.func70 (by kernel_rfl) (by kernel_rfl)
theorem k71 : HOk Try.prog 71 F71 := hok (m := mutsOf ml false) (kept := [0, 12, 2]) (by kernel_rfl) Try.func71 (by kernel_rfl) (by kernel_rfl)
theorem k72 : HOk Try.prog 72 F72 := hok (m := mutsOf ml false) (kept := [0, 1, 12, 13, 14, 4]) (by kernel_rfl) Try.func72 (by kernel_rfl) (by kernel_rfl)
theorem k73 : HOk Try.prog 73 F73 := hok (m := mutsOf ml false) (kept := [0, 2]) (by kernel_rfl) Try.func73 (by kernel_rfl) (by kernel_rfl)
theorem k75 : HOk Try.prog 75 F75 := hok (m := mutsOf ml false) (kept := [0, 1]) (by kernel_rfl) Try.func75 (by kernel_rfl) (by kernel_rfl)
theorem k77 : HOk Try.prog 77 F77 := hok (m := mutsOf ml false) (kept := [0, 1, 4]) (by kernel_rfl) Try.func77 (by kernel_rfl) (by kernel_rfl)
theorem k80 : HOk Try.prog 80 F80 := hok (m := mutsOf ml false) (kept := [0, 2]) (by kernel_rfl) Try.func80 (by kernel_rfl) (by kernel_rfl)
theorem k81 : HOk Try.prog 81 F81 := hok (m := mutsOf ml false) (kept := [0, 1, 3, 13, 23, 2]) (by kernel_rfl) Try.func81 (by kernel_rfl) (by kernel_rfl)
theorem k82 : HOk Try.prog 82 F82 := hok (m := mutsOf ml false) (kept := [0, 1, 2]) (by kernel_rfl) Try.func82 (by kernel_rfl) (by kernel_rfl)
theorem k84 : HOk Try.prog 84 F84 := hok (m := mutsOf ml false) (kept := [0, 1, 14, 3, 2, 13, 12, 5]) (by kernel_rfl) Try.func84 (by kernel_rfl) (by kernel_rfl)
theorem k85 : HOk Try.prog 85 F85 := hok (m := mutsOf ml false) (kept := [0, 23, 20]) (by kernel_rfl) Try.func85 (by kernel_rfl) (by kernel_rfl)
theorem k86 : HOk Try.prog 86 F86 := hok (m := mutsOf ml false) (kept := [0, 1, 4, 3]) (by kernel_rfl) Try.func86 (by kernel_rfl) (by kernel_rfl)
theorem k87 : HOk Try.prog 87 F87 := hok (m := mutsOf ml false) (kept := [0, 2]) (by kernel_rfl) Try.func87 (by kernel_rfl) (by kernel_rfl)
theorem k88 : HOk Try.prog 88 F88 := hok (m := mutsOf ml false) (kept := [0, 5, 4, 2, 3]) (by kernel_rfl) Try.func88 (by kernel_rfl) (by kernel_rfl)
theorem k89 : HOk Try.prog 89 F89 := hok (m := mutsOf ml false) (kept := [0, 1, 2, 6, 4, 7]) (by kernel_rfl) Try.func89 (by kernel_rfl) (by kernel_rfl)
theorem k90 : HOk Try.prog 90 F90 := hok (m := mutsOf ml false) (kept := [0, 1, 2, 8, 10, 9, 29, 35, 7, 6]) (by kernel_rfl) Try.func90 (by kernel_rfl) (by kernel_rfl)
theorem k92 : HOk Try.prog 92 F92 := hok (m := mutsOf ml false) (kept := [0, 1, 15, 33, 4, 29, 14, 13, 35, 2]) (by kernel_rfl) Try.func92 (by kernel_rfl) (by kernel_rfl)
theorem k93 : HOk Try.prog 93 F93 := hok (m := mutsOf ml false) (kept := [0, 1, 8, 5, 7, 4]) (by kernel_rfl) Try.func93 (by kernel_rfl) (by kernel_rfl)
theorem k94 : HOk Try.prog 94 F94 := hok (m := mutsOf ml false) (kept := [0, 2]) (by kernel_rfl) Try.func94 (by kernel_rfl) (by kernel_rfl)
theorem k95 : HOk Try.prog 95 F95 := hok (m := mutsOf ml false) (kept := [0, 2]) (by kernel_rfl) Try.func95 (by kernel_rfl) (by kernel_rfl)
theorem k96 : HOk Try.prog 96 F96 := hok (m := mutsOf ml false) (kept := [0, 1, 4]) (by kernel_rfl) Try.func96 (by kernel_rfl) (by kernel_rfl)
theorem k97 : HOk Try.prog 97 F97 := hok (m := mutsOf ml false) (kept := [0, 1, 2]) (by kernel_rfl) Try.func97 (by kernel_rfl) (by kernel_rfl)
theorem k98 : HOk Try.prog 98 F98 := hok (m := mutsOf ml false) (kept := [0, 1, 11, 12, 2]) (by kernel_rfl) Try.func98 (by kernel_rfl) (by kernel_rfl)
theorem k99 : HOk Try.prog 99 F99 := hok (m := mutsOf ml false) (kept := [0, 2]) (by kernel_rfl) Try.func99 (by kernel_rfl) (by kernel_rfl)
theorem k100 : HOk Try.prog 100 F100 := hok (m := mutsOf ml false) (kept := [0, 2]) (by kernel_rfl) Try.func100 (by kernel_rfl) (by kernel_rfl)
theorem k101 : HOk Try.prog 101 F101 := hok (m := mutsOf ml false) (kept := [0, 1]) (by kernel_rfl) Try.func101 (by kernel_rfl) (by kernel_rfl)
theorem k107 : HOk Try.prog 107 F107 := hok (m := mutsOf ml false) (kept := [0, 4, 3, 31, 2]) (by kernel_rfl) Try.func107 (by kernel_rfl) (by kernel_rfl)
theorem k108 : HOk Try.prog 108 F108 := hok (m := mutsOf ml false) (kept := [0, 3, 2]) (by kernel_rfl) Try.func108 (by kernel_rfl) (by kernel_rfl)
theorem k111 : HOk Try.prog 111 F111 := hok (m := mutsOf ml false) (kept := [0, 1, 11, 21, 30, 26, 12, 22, 32, 2]) (by kernel_rfl) Try.func111 (by kernel_rfl) (by kernel_rfl)
theorem k113 : HOk Try.prog 113 F113 := hok (m := mutsOf ml false) (kept := [0, 1, 2]) (by kernel_rfl) Try.func113 (by kernel_rfl) (by kernel_rfl)
theorem k114 : HOk Try.prog 114 F114 := hok (m := mutsOf ml false) (kept := [0, 1, 2, 5]) (by kernel_rfl) Try.func114 (by kernel_rfl) (by kernel_rfl)
theorem k115 : HOk Try.prog 115 F115 := hok (m := mutsOf ml false) (kept := [0, 1, 2, 3, 4]) (by kernel_rfl) Try.func115 (by kernel_rfl) (by kernel_rfl)
theorem k116 : HOk Try.prog 116 F116 := hok (m := mutsOf ml false) (kept := [0, 1, 2, 3, 4, 5]) (by kernel_rfl) Try.func116 (by kernel_rfl) (by kernel_rfl)
theorem k118 : HOk Try.prog 118 F118 := hok (m := mutsOf ml false) (kept := [0, 1, 8, 5, 7, 4]) (by kernel_rfl) Try.func118 (by kernel_rfl) (by kernel_rfl)
theorem k119 : HOk Try.prog 119 F119 := hok (m := mutsOf ml false) (kept := [0, 2]) (by kernel_rfl) Try.func119 (by kernel_rfl) (by kernel_rfl)
theorem k120 : HOk Try.prog 120 F120 := hok (m := mutsOf ml false) (kept := [0, 1, 4]) (by kernel_rfl) Try.func120 (by kernel_rfl) (by kernel_rfl)
theorem k121 : HOk Try.prog 121 F121 := hok (m := mutsOf ml false) (kept := [0, 2, 3]) (by kernel_rfl) Try.func121 (by kernel_rfl) (by kernel_rfl)
theorem k122 : HOk Try.prog 122 F122 := hok (m := mutsOf ml false) (kept := [0, 2]) (by kernel_rfl) Try.func122 (by kernel_rfl) (by kernel_rfl)
theorem k123 : HOk Try.prog 123 F123 := hok (m := mutsOf ml false) (kept := [0, 1, 11, 12, 2]) (by kernel_rfl) Try.func123 (by kernel_rfl) (by kernel_rfl)
theorem ftOk : FT.Ok Try.prog := ⟨k69, ⟨k44, ⟨k32, ⟨k21, ⟨k7, ⟨k6, ⟨k5, trivial, trivial⟩, trivial⟩, ⟨k18, ⟨k8, trivial, trivial⟩, trivial⟩⟩, ⟨k30, ⟨k29, ⟨k24, trivial, trivial⟩, trivial⟩, ⟨k31, trivial, trivial⟩⟩⟩, ⟨k39, ⟨k35, ⟨k34, ⟨k33, trivial, trivial⟩, trivial⟩, ⟨k36, trivial, trivial⟩⟩, ⟨k42, ⟨k41, ⟨k40, trivial, trivial⟩, trivial⟩, ⟨k43, trivial, trivial⟩⟩⟩⟩, ⟨k59, ⟨k53, ⟨k51, ⟨k49, ⟨k46, trivial, trivial⟩, trivial⟩, ⟨k52, trivial, trivial⟩⟩, ⟨k56, ⟨k55, ⟨k54, trivial, trivial⟩, trivial⟩, ⟨k57, trivial, trivial⟩⟩⟩, ⟨k64, ⟨k62, ⟨k61, ⟨k60, trivial, trivial⟩, trivial⟩, ⟨k63, trivial, trivial⟩⟩, ⟨k67, ⟨k66, ⟨k65, trivial, trivial⟩, trivial⟩, ⟨k68, trivial, trivial⟩⟩⟩⟩⟩, ⟨k95, ⟨k84, ⟨k75, ⟨k72, ⟨k71, ⟨k70, trivial, trivial⟩, trivial⟩, ⟨k73, trivial, trivial⟩⟩, ⟨k81, ⟨k80, ⟨k77, trivial, trivial⟩, trivial⟩, ⟨k82, trivial, trivial⟩⟩⟩, ⟨k89, ⟨k87, ⟨k86, ⟨k85, trivial, trivial⟩, trivial⟩, ⟨k88, trivial, trivial⟩⟩, ⟨k93, ⟨k92, ⟨k90, trivial, trivial⟩, trivial⟩, ⟨k94, trivial, trivial⟩⟩⟩⟩, ⟨k113, ⟨k100, ⟨k98, ⟨k97, ⟨k96, trivial, trivial⟩, trivial⟩, ⟨k99, trivial, trivial⟩⟩, ⟨k108, ⟨k107, ⟨k101, trivial, trivial⟩, trivial⟩, ⟨k111, trivial, trivial⟩⟩⟩, ⟨k119, ⟨k116, ⟨k115, ⟨k114, trivial, trivial⟩, trivial⟩, ⟨k118, trivial, trivial⟩⟩, ⟨k122, ⟨k121, ⟨k120, trivial, trivial⟩, trivial⟩, ⟨k123, trivial, trivial⟩⟩⟩⟩⟩⟩
end Go.Proofs.Ytlmffooffbjdkaa.Ev
