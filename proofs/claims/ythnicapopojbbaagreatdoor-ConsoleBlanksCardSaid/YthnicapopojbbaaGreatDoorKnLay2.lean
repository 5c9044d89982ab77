import Derived.Test.YthnicapopojbbaaGreatDoorProg
import Derived.Shelf.Lays
import Derived.Shelf.Lays2
import Derived.KernelRfl
set_option maxRecDepth 1000000
namespace Go.Kn
open Go Go.Proofs
def lays172_ren : Go.Shelf.Ren := ⟨fun | 129 => 97 | 171 => 27 | 172 => 36 | 205 => 102 | 243 => 43 | 244 => 54 | 245 => 55 | 246 => 63 | 247 => 72 | 279 => 73 | 280 => 74 | 281 => 75 | 282 => 76 | 283 => 83 | 284 => 84 | 285 => 85 | 286 => 86 | 287 => 100 | 316 => 101 | 317 => 107 | 318 => 108 | 319 => 109 | 320 => 110 | 321 => 116 | 322 => 117 | 337 => 120 | 338 => 121 | n => n, fun | 0 => 0 | 1 => 1 | 2 => 2 | 3 => 3 | 4 => 4 | 5 => 5 | 6 => 6 | 7 => 7 | 8 => 8 | 9 => 9 | 10 => 10 | 11 => 11 | 12 => 12 | 13 => 13 | 14 => 14 | 15 => 15 | 16 => 16 | 17 => 17 | 18 => 18 | 19 => 19 | 20 => 20 | 21 => 21 | 22 => 98 | 23 => 71 | 24 => 23 | 27 => 70 | 28 => 58 | 31 => 32 | 35 => 80 | 37 => 39 | 40 => 44 | 43 => 66 | 46 => 40 | 47 => 96 | 51 => 123 | 52 => 122 | 53 => 26 | 54 => 110 | 55 => 86 | 61 => 41 | 69 => 30 | 70 => 46 | 71 => 47 | 72 => 48 | 74 => 49 | 75 => 50 | 76 => 51 | 77 => 52 | 78 => 72 | 80 => 53 | 81 => 160 | 83 => 29 | 84 => 94 | 85 => 100 | 86 => 101 | 103 => 83 | 104 => 28 | 105 => 84 | 106 => 85 | 108 => 134 | 111 => 31 | 112 => 37 | 113 => 54 | 114 => 97 | 119 => 124 | 120 => 43 | 127 => 68 | 128 => 87 | 131 => 120 | 134 => 95 | 137 => 125 | 138 => 126 | 139 => 127 | 143 => 147 | 144 => 148 | 145 => 149 | 146 => 128 | 150 => 69 | 151 => 129 | 152 => 55 | 153 => 56 | 154 => 57 | 164 => 81 | 165 => 82 | 167 => 99 | 168 => 102 | 169 => 103 | 170 => 104 | 171 => 109 | 172 => 111 | 173 => 112 | 174 => 113 | 175 => 130 | 176 => 131 | 181 => 114 | 182 => 115 | 183 => 116 | 184 => 117 | 185 => 118 | 186 => 119 | 187 => 121 | 209 => 132 | 210 => 133 | 211 => 137 | 212 => 138 | 213 => 139 | 214 => 146 | 218 => 140 | 219 => 141 | 220 => 142 | 221 => 143 | 222 => 144 | 223 => 145 | 228 => 150 | 229 => 151 | 230 => 152 | 232 => 153 | 233 => 154 | 238 => 155 | 239 => 156 | 240 => 157 | 241 => 158 | 242 => 159 | 243 => 161 | 244 => 162 | 245 => 163 | 246 => 164 | 247 => 165 | 248 => 166 | 249 => 167 | n => n, fun | 15 => 3 | 16 => 4 | 17 => 5 | 18 => 6 | 19 => 7 | n => n⟩
theorem lays172 : Go.Proofs.Lays.n172 Tryz.prog lays172_ren where
  mixed := by kernel_rfl
  f129 := by kernel_rfl
  f171 := by kernel_rfl
  f172 := by kernel_rfl
  f205 := by kernel_rfl
  f243 := by kernel_rfl
  f244 := by kernel_rfl
  f245 := by kernel_rfl
  f246 := by kernel_rfl
  f247 := by kernel_rfl
  f279 := by kernel_rfl
  f280 := by kernel_rfl
  f281 := by kernel_rfl
  f282 := by kernel_rfl
  f283 := by kernel_rfl
  f284 := by kernel_rfl
  f285 := by kernel_rfl
  f286 := by kernel_rfl
  f287 := by kernel_rfl
  f316 := by kernel_rfl
  f317 := by kernel_rfl
  f318 := by kernel_rfl
  f319 := by kernel_rfl
  f320 := by kernel_rfl
  f321 := by kernel_rfl
  f322 := by kernel_rfl
  f337 := by kernel_rfl
  f338 := by kernel_rfl
  t0 := by kernel_rfl
  a0 := fun w => by kernel_rfl
  z0 := fun w => by kernel_rfl
  v0 := fun w => by kernel_rfl
  t2 := by kernel_rfl
  a2 := fun w => by kernel_rfl
  z2 := fun w => by kernel_rfl
  v2 := fun w => by kernel_rfl
  t3 := by kernel_rfl
  a3 := fun w => by kernel_rfl
  z3 := fun w => by kernel_rfl
  v3 := fun w => by kernel_rfl
  t4 := by kernel_rfl
  a4 := fun w => by kernel_rfl
  z4 := fun w => by kernel_rfl
  v4 := fun w => by kernel_rfl
  t5 := by kernel_rfl
  a5 := fun w => by kernel_rfl
  z5 := fun w => by kernel_rfl
  v5 := fun w => by kernel_rfl
  t9 := by kernel_rfl
  a9 := fun w => by kernel_rfl
  z9 := fun w => by kernel_rfl
  v9 := fun w => by kernel_rfl
  t20 := by kernel_rfl
  a20 := fun w => by kernel_rfl
  z20 := fun w => by kernel_rfl
  v20 := fun w => by kernel_rfl
  t21 := by kernel_rfl
  a21 := fun w => by kernel_rfl
  z21 := fun w => by kernel_rfl
  v21 := fun w => by kernel_rfl
  t37 := by kernel_rfl
  a37 := fun w => by kernel_rfl
  z37 := fun w => by kernel_rfl
  v37 := fun w => by kernel_rfl
  t46 := by kernel_rfl
  a46 := fun w => by kernel_rfl
  z46 := fun w => by kernel_rfl
  v46 := fun w => by kernel_rfl
  t51 := by kernel_rfl
  a51 := fun w => by kernel_rfl
  z51 := fun w => by kernel_rfl
  v51 := fun w => by kernel_rfl
  t53 := by kernel_rfl
  a53 := fun w => by kernel_rfl
  z53 := fun w => by kernel_rfl
  v53 := fun w => by kernel_rfl
  t75 := by kernel_rfl
  a75 := fun w => by kernel_rfl
  z75 := fun w => by kernel_rfl
  v75 := fun w => by kernel_rfl
  t76 := by kernel_rfl
  a76 := fun w => by kernel_rfl
  z76 := fun w => by kernel_rfl
  v76 := fun w => by kernel_rfl
  t85 := by kernel_rfl
  a85 := fun w => by kernel_rfl
  z85 := fun w => by kernel_rfl
  v85 := fun w => by kernel_rfl
  t127 := by kernel_rfl
  a127 := fun w => by kernel_rfl
  z127 := fun w => by kernel_rfl
  v127 := fun w => by kernel_rfl
  t143 := by kernel_rfl
  a143 := fun w => by kernel_rfl
  z143 := fun w => by kernel_rfl
  v143 := fun w => by kernel_rfl
  t145 := by kernel_rfl
  a145 := fun w => by kernel_rfl
  z145 := fun w => by kernel_rfl
  v145 := fun w => by kernel_rfl
  t167 := by kernel_rfl
  a167 := fun w => by kernel_rfl
  z167 := fun w => by kernel_rfl
  v167 := fun w => by kernel_rfl
  t168 := by kernel_rfl
  a168 := fun w => by kernel_rfl
  z168 := fun w => by kernel_rfl
  v168 := fun w => by kernel_rfl
  t171 := by kernel_rfl
  a171 := fun w => by kernel_rfl
  z171 := fun w => by kernel_rfl
  v171 := fun w => by kernel_rfl
  t173 := by kernel_rfl
  a173 := fun w => by kernel_rfl
  z173 := fun w => by kernel_rfl
  v173 := fun w => by kernel_rfl
  t175 := by kernel_rfl
  a175 := fun w => by kernel_rfl
  z175 := fun w => by kernel_rfl
  v175 := fun w => by kernel_rfl
  t210 := by kernel_rfl
  a210 := fun w => by kernel_rfl
  z210 := fun w => by kernel_rfl
  v210 := fun w => by kernel_rfl
  t212 := by kernel_rfl
  a212 := fun w => by kernel_rfl
  z212 := fun w => by kernel_rfl
  v212 := fun w => by kernel_rfl
  t213 := by kernel_rfl
  a213 := fun w => by kernel_rfl
  z213 := fun w => by kernel_rfl
  t232 := by kernel_rfl
  a232 := fun w => by kernel_rfl
  z232 := fun w => by kernel_rfl
  v232 := fun w => by kernel_rfl
  t233 := by kernel_rfl
  a233 := fun w => by kernel_rfl
  z233 := fun w => by kernel_rfl
  v233 := fun w => by kernel_rfl
  g15 := by kernel_rfl
  g16 := by kernel_rfl
  g17 := by kernel_rfl
  g18 := by kernel_rfl
  g19 := by kernel_rfl
def lays101_ren : Go.Shelf.Ren := ⟨fun | 101 => 35 | 206 => 71 | 208 => 53 | n => n, fun | 0 => 0 | 1 => 1 | 2 => 2 | 3 => 3 | 4 => 4 | 5 => 5 | 6 => 6 | 7 => 7 | 8 => 8 | 9 => 9 | 10 => 10 | 11 => 11 | 12 => 12 | 13 => 13 | 14 => 14 | 15 => 15 | 16 => 16 | 17 => 17 | 18 => 18 | 19 => 19 | 20 => 20 | 21 => 21 | 22 => 98 | 23 => 71 | 24 => 23 | 27 => 70 | 28 => 58 | 31 => 32 | 35 => 80 | 37 => 39 | 40 => 44 | 43 => 66 | 46 => 40 | 47 => 96 | 51 => 123 | 52 => 122 | 53 => 26 | 54 => 110 | 55 => 86 | 61 => 41 | 69 => 30 | 70 => 46 | 71 => 47 | 72 => 48 | 74 => 49 | 75 => 50 | 76 => 51 | 77 => 52 | 78 => 72 | 80 => 53 | 81 => 160 | 83 => 29 | 84 => 94 | 85 => 100 | 86 => 101 | 103 => 83 | 104 => 28 | 105 => 84 | 106 => 85 | 108 => 134 | 111 => 31 | 112 => 37 | 113 => 54 | 114 => 97 | 119 => 124 | 120 => 43 | 127 => 68 | 128 => 87 | 131 => 120 | 134 => 95 | 137 => 125 | 138 => 126 | 139 => 127 | 143 => 147 | 144 => 148 | 145 => 149 | 146 => 128 | 150 => 69 | 151 => 129 | 152 => 55 | 153 => 56 | 154 => 57 | 164 => 81 | 165 => 82 | 167 => 99 | 168 => 102 | 169 => 103 | 170 => 104 | 171 => 109 | 172 => 111 | 173 => 112 | 174 => 113 | 175 => 130 | 176 => 131 | 181 => 114 | 182 => 115 | 183 => 116 | 184 => 117 | 185 => 118 | 186 => 119 | 187 => 121 | 209 => 132 | 210 => 133 | 211 => 137 | 212 => 138 | 213 => 139 | 214 => 146 | 218 => 140 | 219 => 141 | 220 => 142 | 221 => 143 | 222 => 144 | 223 => 145 | 228 => 150 | 229 => 151 | 230 => 152 | 232 => 153 | 233 => 154 | 238 => 155 | 239 => 156 | 240 => 157 | 241 => 158 | 242 => 159 | 243 => 161 | 244 => 162 | 245 => 163 | 246 => 164 | 247 => 165 | 248 => 166 | 249 => 167 | n => n, fun | n => n⟩
theorem lays101 : Go.Proofs.Lays.n101 Tryz.prog lays101_ren where
  mixed := by kernel_rfl
  f101 := by kernel_rfl
  f206 := by kernel_rfl
  f208 := by kernel_rfl
  t3 := by kernel_rfl
  a3 := fun w => by kernel_rfl
  z3 := fun w => by kernel_rfl
  v3 := fun w => by kernel_rfl
  t4 := by kernel_rfl
  a4 := fun w => by kernel_rfl
  z4 := fun w => by kernel_rfl
  v4 := fun w => by kernel_rfl
  t9 := by kernel_rfl
  a9 := fun w => by kernel_rfl
  z9 := fun w => by kernel_rfl
  v9 := fun w => by kernel_rfl
def lays167_ren : Go.Shelf.Ren := ⟨fun | 167 => 37 | 240 => 31 | 276 => 48 | n => n, fun | 0 => 0 | 1 => 1 | 2 => 2 | 3 => 3 | 4 => 4 | 5 => 5 | 6 => 6 | 7 => 7 | 8 => 8 | 9 => 9 | 10 => 10 | 11 => 11 | 12 => 12 | 13 => 13 | 14 => 14 | 15 => 15 | 16 => 16 | 17 => 17 | 18 => 18 | 19 => 19 | 20 => 20 | 21 => 21 | 22 => 98 | 23 => 71 | 24 => 23 | 27 => 70 | 28 => 58 | 31 => 32 | 35 => 80 | 37 => 39 | 40 => 44 | 43 => 66 | 46 => 40 | 47 => 96 | 51 => 123 | 52 => 122 | 53 => 26 | 54 => 110 | 55 => 86 | 61 => 41 | 69 => 30 | 70 => 46 | 71 => 47 | 72 => 48 | 74 => 49 | 75 => 50 | 76 => 51 | 77 => 52 | 78 => 72 | 80 => 53 | 81 => 160 | 83 => 29 | 84 => 94 | 85 => 100 | 86 => 101 | 103 => 83 | 104 => 28 | 105 => 84 | 106 => 85 | 108 => 134 | 111 => 31 | 112 => 37 | 113 => 54 | 114 => 97 | 119 => 124 | 120 => 43 | 127 => 68 | 128 => 87 | 131 => 120 | 134 => 95 | 137 => 125 | 138 => 126 | 139 => 127 | 143 => 147 | 144 => 148 | 145 => 149 | 146 => 128 | 150 => 69 | 151 => 129 | 152 => 55 | 153 => 56 | 154 => 57 | 164 => 81 | 165 => 82 | 167 => 99 | 168 => 102 | 169 => 103 | 170 => 104 | 171 => 109 | 172 => 111 | 173 => 112 | 174 => 113 | 175 => 130 | 176 => 131 | 181 => 114 | 182 => 115 | 183 => 116 | 184 => 117 | 185 => 118 | 186 => 119 | 187 => 121 | 209 => 132 | 210 => 133 | 211 => 137 | 212 => 138 | 213 => 139 | 214 => 146 | 218 => 140 | 219 => 141 | 220 => 142 | 221 => 143 | 222 => 144 | 223 => 145 | 228 => 150 | 229 => 151 | 230 => 152 | 232 => 153 | 233 => 154 | 238 => 155 | 239 => 156 | 240 => 157 | 241 => 158 | 242 => 159 | 243 => 161 | 244 => 162 | 245 => 163 | 246 => 164 | 247 => 165 | 248 => 166 | 249 => 167 | n => n, fun | n => n⟩
theorem lays167 : Go.Proofs.Lays.n167 Tryz.prog lays167_ren where
  mixed := by kernel_rfl
  f167 := by kernel_rfl
  f240 := by kernel_rfl
  f276 := by kernel_rfl
  t0 := by kernel_rfl
  a0 := fun w => by kernel_rfl
  z0 := fun w => by kernel_rfl
  v0 := fun w => by kernel_rfl
  t4 := by kernel_rfl
  a4 := fun w => by kernel_rfl
  z4 := fun w => by kernel_rfl
  v4 := fun w => by kernel_rfl
  t5 := by kernel_rfl
  a5 := fun w => by kernel_rfl
  z5 := fun w => by kernel_rfl
  v5 := fun w => by kernel_rfl
  t9 := by kernel_rfl
  a9 := fun w => by kernel_rfl
  z9 := fun w => by kernel_rfl
  v9 := fun w => by kernel_rfl
  t20 := by kernel_rfl
  a20 := fun w => by kernel_rfl
  z20 := fun w => by kernel_rfl
  v20 := fun w => by kernel_rfl
  t37 := by kernel_rfl
  a37 := fun w => by kernel_rfl
  z37 := fun w => by kernel_rfl
  v37 := fun w => by kernel_rfl
  t70 := by kernel_rfl
  a70 := fun w => by kernel_rfl
  z70 := fun w => by kernel_rfl
  v70 := fun w => by kernel_rfl
  t72 := by kernel_rfl
  a72 := fun w => by kernel_rfl
  z72 := fun w => by kernel_rfl
  v72 := fun w => by kernel_rfl
  t75 := by kernel_rfl
  a75 := fun w => by kernel_rfl
  z75 := fun w => by kernel_rfl
  v75 := fun w => by kernel_rfl
  t164 := by kernel_rfl
  a164 := fun w => by kernel_rfl
  z164 := fun w => by kernel_rfl
  v164 := fun w => by kernel_rfl
end Go.Kn
