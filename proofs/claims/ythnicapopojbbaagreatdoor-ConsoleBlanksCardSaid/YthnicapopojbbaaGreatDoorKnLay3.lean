import Derived.Test.YthnicapopojbbaaGreatDoorProg
import Derived.Shelf.Lays
import Derived.Shelf.Lays2
import Derived.KernelRfl
set_option maxRecDepth 1000000
namespace Go.Kn
open Go Go.Proofs
def lays171_ren : Go.Shelf.Ren := ⟨fun | 129 => 97 | 171 => 27 | 243 => 43 | 246 => 63 | 283 => 83 | 284 => 84 | 285 => 85 | 286 => 86 | 317 => 107 | 318 => 108 | 319 => 109 | 320 => 110 | 337 => 120 | 338 => 121 | n => n, fun | 0 => 0 | 1 => 1 | 2 => 2 | 3 => 3 | 4 => 4 | 5 => 5 | 6 => 6 | 7 => 7 | 8 => 8 | 9 => 9 | 10 => 10 | 11 => 11 | 12 => 12 | 13 => 13 | 14 => 14 | 15 => 15 | 16 => 16 | 17 => 17 | 18 => 18 | 19 => 19 | 20 => 20 | 21 => 21 | 22 => 98 | 23 => 71 | 24 => 23 | 27 => 70 | 28 => 58 | 31 => 32 | 35 => 80 | 37 => 39 | 40 => 44 | 43 => 66 | 46 => 40 | 47 => 96 | 51 => 123 | 52 => 122 | 53 => 26 | 54 => 110 | 55 => 86 | 61 => 41 | 69 => 30 | 70 => 46 | 71 => 47 | 72 => 48 | 74 => 49 | 75 => 50 | 76 => 51 | 77 => 52 | 78 => 72 | 80 => 53 | 81 => 160 | 83 => 29 | 84 => 94 | 85 => 100 | 86 => 101 | 103 => 83 | 104 => 28 | 105 => 84 | 106 => 85 | 108 => 134 | 111 => 31 | 112 => 37 | 113 => 54 | 114 => 97 | 119 => 124 | 120 => 43 | 127 => 68 | 128 => 87 | 131 => 120 | 134 => 95 | 137 => 125 | 138 => 126 | 139 => 127 | 143 => 147 | 144 => 148 | 145 => 149 | 146 => 128 | 150 => 69 | 151 => 129 | 152 => 55 | 153 => 56 | 154 => 57 | 164 => 81 | 165 => 82 | 167 => 99 | 168 => 102 | 169 => 103 | 170 => 104 | 171 => 109 | 172 => 111 | 173 => 112 | 174 => 113 | 175 => 130 | 176 => 131 | 181 => 114 | 182 => 115 | 183 => 116 | 184 => 117 | 185 => 118 | 186 => 119 | 187 => 121 | 209 => 132 | 210 => 133 | 211 => 137 | 212 => 138 | 213 => 139 | 214 => 146 | 218 => 140 | 219 => 141 | 220 => 142 | 221 => 143 | 222 => 144 | 223 => 145 | 228 => 150 | 229 => 151 | 230 => 152 | 232 => 153 | 233 => 154 | 238 => 155 | 239 => 156 | 240 => 157 | 241 => 158 | 242 => 159 | 243 => 161 | 244 => 162 | 245 => 163 | 246 => 164 | 247 => 165 | 248 => 166 | 249 => 167 | n => n, fun | 17 => 5 | 18 => 6 | 19 => 7 | n => n⟩
theorem lays171 : Go.Proofs.Lays.n171 Tryz.prog lays171_ren where
  mixed := by kernel_rfl
  f129 := by kernel_rfl
  f171 := by kernel_rfl
  f243 := by kernel_rfl
  f246 := by kernel_rfl
  f283 := by kernel_rfl
  f284 := by kernel_rfl
  f285 := by kernel_rfl
  f286 := by kernel_rfl
  f317 := by kernel_rfl
  f318 := by kernel_rfl
  f319 := by kernel_rfl
  f320 := by kernel_rfl
  f337 := by kernel_rfl
  f338 := by kernel_rfl
  t0 := by kernel_rfl
  a0 := fun w => by kernel_rfl
  z0 := fun w => by kernel_rfl
  v0 := fun w => by kernel_rfl
  t2 := by kernel_rfl
  a2 := fun w => by kernel_rfl
  z2 := fun w => by kernel_rfl
  v2 := fun w => by kernel_rfl
  t3 := by kernel_rfl
  a3 := fun w => by kernel_rfl
  z3 := fun w => by kernel_rfl
  v3 := fun w => by kernel_rfl
  t4 := by kernel_rfl
  a4 := fun w => by kernel_rfl
  z4 := fun w => by kernel_rfl
  v4 := fun w => by kernel_rfl
  t5 := by kernel_rfl
  a5 := fun w => by kernel_rfl
  z5 := fun w => by kernel_rfl
  v5 := fun w => by kernel_rfl
  t9 := by kernel_rfl
  a9 := fun w => by kernel_rfl
  z9 := fun w => by kernel_rfl
  v9 := fun w => by kernel_rfl
  t20 := by kernel_rfl
  a20 := fun w => by kernel_rfl
  z20 := fun w => by kernel_rfl
  v20 := fun w => by kernel_rfl
  t37 := by kernel_rfl
  a37 := fun w => by kernel_rfl
  z37 := fun w => by kernel_rfl
  v37 := fun w => by kernel_rfl
  t46 := by kernel_rfl
  a46 := fun w => by kernel_rfl
  z46 := fun w => by kernel_rfl
  v46 := fun w => by kernel_rfl
  t51 := by kernel_rfl
  a51 := fun w => by kernel_rfl
  z51 := fun w => by kernel_rfl
  v51 := fun w => by kernel_rfl
  t53 := by kernel_rfl
  a53 := fun w => by kernel_rfl
  z53 := fun w => by kernel_rfl
  v53 := fun w => by kernel_rfl
  t171 := by kernel_rfl
  a171 := fun w => by kernel_rfl
  z171 := fun w => by kernel_rfl
  v171 := fun w => by kernel_rfl
  t173 := by kernel_rfl
  a173 := fun w => by kernel_rfl
  z173 := fun w => by kernel_rfl
  v173 := fun w => by kernel_rfl
  t212 := by kernel_rfl
  a212 := fun w => by kernel_rfl
  z212 := fun w => by kernel_rfl
  v212 := fun w => by kernel_rfl
  t213 := by kernel_rfl
  a213 := fun w => by kernel_rfl
  z213 := fun w => by kernel_rfl
  t232 := by kernel_rfl
  a232 := fun w => by kernel_rfl
  z232 := fun w => by kernel_rfl
  v232 := fun w => by kernel_rfl
  t233 := by kernel_rfl
  a233 := fun w => by kernel_rfl
  z233 := fun w => by kernel_rfl
  v233 := fun w => by kernel_rfl
  g17 := by kernel_rfl
  g18 := by kernel_rfl
  g19 := by kernel_rfl
def lays189_ren : Go.Shelf.Ren := ⟨fun | 125 => 65 | 128 => 96 | 129 => 97 | 189 => 47 | 215 => 106 | 216 => 93 | 257 => 64 | 294 => 87 | 295 => 88 | 296 => 89 | 297 => 90 | 298 => 91 | 299 => 92 | 300 => 94 | 301 => 95 | 328 => 111 | 329 => 112 | 330 => 113 | 331 => 114 | 332 => 115 | 343 => 122 | n => n, fun | 0 => 0 | 1 => 1 | 2 => 2 | 3 => 3 | 4 => 4 | 5 => 5 | 6 => 6 | 7 => 7 | 8 => 8 | 9 => 9 | 10 => 10 | 11 => 11 | 12 => 12 | 13 => 13 | 14 => 14 | 15 => 15 | 16 => 16 | 17 => 17 | 18 => 18 | 19 => 19 | 20 => 20 | 21 => 21 | 22 => 98 | 23 => 71 | 24 => 23 | 27 => 70 | 28 => 58 | 31 => 32 | 35 => 80 | 37 => 39 | 40 => 44 | 43 => 66 | 46 => 40 | 47 => 96 | 51 => 123 | 52 => 122 | 53 => 26 | 54 => 110 | 55 => 86 | 61 => 41 | 69 => 30 | 70 => 46 | 71 => 47 | 72 => 48 | 74 => 49 | 75 => 50 | 76 => 51 | 77 => 52 | 78 => 72 | 80 => 53 | 81 => 160 | 83 => 29 | 84 => 94 | 85 => 100 | 86 => 101 | 103 => 83 | 104 => 28 | 105 => 84 | 106 => 85 | 108 => 134 | 111 => 31 | 112 => 37 | 113 => 54 | 114 => 97 | 119 => 124 | 120 => 43 | 127 => 68 | 128 => 87 | 131 => 120 | 134 => 95 | 137 => 125 | 138 => 126 | 139 => 127 | 143 => 147 | 144 => 148 | 145 => 149 | 146 => 128 | 150 => 69 | 151 => 129 | 152 => 55 | 153 => 56 | 154 => 57 | 164 => 81 | 165 => 82 | 167 => 99 | 168 => 102 | 169 => 103 | 170 => 104 | 171 => 109 | 172 => 111 | 173 => 112 | 174 => 113 | 175 => 130 | 176 => 131 | 181 => 114 | 182 => 115 | 183 => 116 | 184 => 117 | 185 => 118 | 186 => 119 | 187 => 121 | 209 => 132 | 210 => 133 | 211 => 137 | 212 => 138 | 213 => 139 | 214 => 146 | 218 => 140 | 219 => 141 | 220 => 142 | 221 => 143 | 222 => 144 | 223 => 145 | 228 => 150 | 229 => 151 | 230 => 152 | 232 => 153 | 233 => 154 | 238 => 155 | 239 => 156 | 240 => 157 | 241 => 158 | 242 => 159 | 243 => 161 | 244 => 162 | 245 => 163 | 246 => 164 | 247 => 165 | 248 => 166 | 249 => 167 | n => n, fun | n => n⟩
theorem lays189 : Go.Proofs.Lays.n189 Tryz.prog lays189_ren where
  mixed := by kernel_rfl
  f125 := by kernel_rfl
  f128 := by kernel_rfl
  f129 := by kernel_rfl
  f189 := by kernel_rfl
  f215 := by kernel_rfl
  f216 := by kernel_rfl
  f257 := by kernel_rfl
  f294 := by kernel_rfl
  f295 := by kernel_rfl
  f296 := by kernel_rfl
  f297 := by kernel_rfl
  f298 := by kernel_rfl
  f299 := by kernel_rfl
  f300 := by kernel_rfl
  f301 := by kernel_rfl
  f328 := by kernel_rfl
  f329 := by kernel_rfl
  f330 := by kernel_rfl
  f331 := by kernel_rfl
  f332 := by kernel_rfl
  f343 := by kernel_rfl
  t0 := by kernel_rfl
  a0 := fun w => by kernel_rfl
  z0 := fun w => by kernel_rfl
  v0 := fun w => by kernel_rfl
  t3 := by kernel_rfl
  a3 := fun w => by kernel_rfl
  z3 := fun w => by kernel_rfl
  v3 := fun w => by kernel_rfl
  t4 := by kernel_rfl
  a4 := fun w => by kernel_rfl
  z4 := fun w => by kernel_rfl
  v4 := fun w => by kernel_rfl
  t5 := by kernel_rfl
  a5 := fun w => by kernel_rfl
  z5 := fun w => by kernel_rfl
  v5 := fun w => by kernel_rfl
  t9 := by kernel_rfl
  a9 := fun w => by kernel_rfl
  z9 := fun w => by kernel_rfl
  v9 := fun w => by kernel_rfl
  t28 := by kernel_rfl
  a28 := fun w => by kernel_rfl
  z28 := fun w => by kernel_rfl
  v28 := fun w => by kernel_rfl
  t46 := by kernel_rfl
  a46 := fun w => by kernel_rfl
  z46 := fun w => by kernel_rfl
  v46 := fun w => by kernel_rfl
  t51 := by kernel_rfl
  a51 := fun w => by kernel_rfl
  z51 := fun w => by kernel_rfl
  v51 := fun w => by kernel_rfl
  t53 := by kernel_rfl
  a53 := fun w => by kernel_rfl
  z53 := fun w => by kernel_rfl
  v53 := fun w => by kernel_rfl
  t131 := by kernel_rfl
  a131 := fun w => by kernel_rfl
  z131 := fun w => by kernel_rfl
  v131 := fun w => by kernel_rfl
  t182 := by kernel_rfl
  a182 := fun w => by kernel_rfl
  z182 := fun w => by kernel_rfl
  v182 := fun w => by kernel_rfl
  t183 := by kernel_rfl
  a183 := fun w => by kernel_rfl
  z183 := fun w => by kernel_rfl
  v183 := fun w => by kernel_rfl
  t218 := by kernel_rfl
  a218 := fun w => by kernel_rfl
  z218 := fun w => by kernel_rfl
  v218 := fun w => by kernel_rfl
  t222 := by kernel_rfl
  a222 := fun w => by kernel_rfl
  z222 := fun w => by kernel_rfl
  v222 := fun w => by kernel_rfl
  t228 := by kernel_rfl
  a228 := fun w => by kernel_rfl
  z228 := fun w => by kernel_rfl
  v228 := fun w => by kernel_rfl
  t229 := by kernel_rfl
  a229 := fun w => by kernel_rfl
  z229 := fun w => by kernel_rfl
  v229 := fun w => by kernel_rfl
def lays215_ren : Go.Shelf.Ren := ⟨fun | 15 => 46 | n => n, fun | 0 => 0 | 1 => 1 | 2 => 2 | 3 => 3 | 4 => 4 | 5 => 5 | 6 => 6 | 7 => 7 | 8 => 8 | 9 => 9 | 10 => 10 | 11 => 11 | 12 => 12 | 13 => 13 | 14 => 14 | 15 => 15 | 16 => 16 | 17 => 17 | 18 => 18 | 19 => 19 | 20 => 20 | 21 => 21 | 22 => 58 | 23 => 79 | 24 => 32 | 27 => 45 | 29 => 78 | 33 => 120 | 40 => 40 | 41 => 37 | 42 => 31 | 43 => 98 | 44 => 28 | 45 => 80 | 46 => 53 | 47 => 155 | 48 => 156 | 49 => 157 | 50 => 158 | 51 => 159 | 52 => 160 | 53 => 123 | 54 => 161 | 55 => 162 | 56 => 163 | 57 => 68 | 58 => 164 | 59 => 165 | 60 => 166 | 61 => 167 | 62 => 81 | n => n, fun | n => n⟩
theorem lays215 : Go.Proofs.Lays2.n15 Tryz.prog lays215_ren where
  mixed := by kernel_rfl
  f15 := by kernel_rfl
  t3 := by kernel_rfl
  a3 := fun w => by kernel_rfl
  z3 := fun w => by kernel_rfl
  v3 := fun w => by kernel_rfl
  t4 := by kernel_rfl
  a4 := fun w => by kernel_rfl
  z4 := fun w => by kernel_rfl
  v4 := fun w => by kernel_rfl
  t22 := by kernel_rfl
  a22 := fun w => by kernel_rfl
  z22 := fun w => by kernel_rfl
  v22 := fun w => by kernel_rfl
  i3 := by kernel_rfl
def lays223_ren : Go.Shelf.Ren := ⟨fun | 23 => 45 | n => n, fun | 0 => 0 | 1 => 1 | 2 => 2 | 3 => 3 | 4 => 4 | 5 => 5 | 6 => 6 | 7 => 7 | 8 => 8 | 9 => 9 | 10 => 10 | 11 => 11 | 12 => 12 | 13 => 13 | 14 => 14 | 15 => 15 | 16 => 16 | 17 => 17 | 18 => 18 | 19 => 19 | 20 => 20 | 21 => 21 | 22 => 58 | 23 => 79 | 24 => 32 | 27 => 45 | 29 => 78 | 33 => 120 | 40 => 40 | 41 => 37 | 42 => 31 | 43 => 98 | 44 => 28 | 45 => 80 | 46 => 53 | 47 => 155 | 48 => 156 | 49 => 157 | 50 => 158 | 51 => 159 | 52 => 160 | 53 => 123 | 54 => 161 | 55 => 162 | 56 => 163 | 57 => 68 | 58 => 164 | 59 => 165 | 60 => 166 | 61 => 167 | 62 => 81 | n => n, fun | n => n⟩
theorem lays223 : Go.Proofs.Lays2.n23 Tryz.prog lays223_ren where
  mixed := by kernel_rfl
  f23 := by kernel_rfl
  t0 := by kernel_rfl
  a0 := fun w => by kernel_rfl
  z0 := fun w => by kernel_rfl
  v0 := fun w => by kernel_rfl
  t3 := by kernel_rfl
  a3 := fun w => by kernel_rfl
  z3 := fun w => by kernel_rfl
  v3 := fun w => by kernel_rfl
  t4 := by kernel_rfl
  a4 := fun w => by kernel_rfl
  z4 := fun w => by kernel_rfl
  v4 := fun w => by kernel_rfl
  t22 := by kernel_rfl
  a22 := fun w => by kernel_rfl
  z22 := fun w => by kernel_rfl
  v22 := fun w => by kernel_rfl
  i3 := by kernel_rfl
end Go.Kn
