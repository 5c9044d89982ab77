import Derived.Test.YthnicapopojbbaaGreatDoorProg
import Derived.Shelf.Lays
import Derived.KernelRfl
set_option maxRecDepth 1000000
namespace Go.Kn
open Go Go.Proofs
def lays146_ren : Go.Shelf.Ren := ⟨fun | 138 => 33 | 143 => 34 | 146 => 16 | 195 => 49 | 197 => 50 | 217 => 67 | 218 => 51 | 219 => 52 | 221 => 22 | 224 => 69 | 225 => 68 | 260 => 66 | 266 => 98 | 267 => 70 | 268 => 32 | 314 => 99 | n => n, fun | 0 => 0 | 1 => 1 | 2 => 2 | 3 => 3 | 4 => 4 | 5 => 5 | 6 => 6 | 7 => 7 | 8 => 8 | 9 => 9 | 10 => 10 | 11 => 11 | 12 => 12 | 13 => 13 | 14 => 14 | 15 => 15 | 16 => 16 | 17 => 17 | 18 => 18 | 19 => 19 | 20 => 20 | 21 => 21 | 22 => 98 | 23 => 71 | 24 => 23 | 27 => 70 | 28 => 58 | 31 => 32 | 35 => 80 | 37 => 39 | 40 => 44 | 43 => 66 | 46 => 40 | 47 => 96 | 51 => 123 | 52 => 122 | 53 => 26 | 54 => 110 | 55 => 86 | 61 => 41 | 69 => 30 | 70 => 46 | 71 => 47 | 72 => 48 | 74 => 49 | 75 => 50 | 76 => 51 | 77 => 52 | 78 => 72 | 80 => 53 | 81 => 160 | 83 => 29 | 84 => 94 | 85 => 100 | 86 => 101 | 103 => 83 | 104 => 28 | 105 => 84 | 106 => 85 | 108 => 134 | 111 => 31 | 112 => 37 | 113 => 54 | 114 => 97 | 119 => 124 | 120 => 43 | 127 => 68 | 128 => 87 | 131 => 120 | 134 => 95 | 137 => 125 | 138 => 126 | 139 => 127 | 143 => 147 | 144 => 148 | 145 => 149 | 146 => 128 | 150 => 69 | 151 => 129 | 152 => 55 | 153 => 56 | 154 => 57 | 164 => 81 | 165 => 82 | 167 => 99 | 168 => 102 | 169 => 103 | 170 => 104 | 171 => 109 | 172 => 111 | 173 => 112 | 174 => 113 | 175 => 130 | 176 => 131 | 181 => 114 | 182 => 115 | 183 => 116 | 184 => 117 | 185 => 118 | 186 => 119 | 187 => 121 | 209 => 132 | 210 => 133 | 211 => 137 | 212 => 138 | 213 => 139 | 214 => 146 | 218 => 140 | 219 => 141 | 220 => 142 | 221 => 143 | 222 => 144 | 223 => 145 | 228 => 150 | 229 => 151 | 230 => 152 | 232 => 153 | 233 => 154 | 238 => 155 | 239 => 156 | 240 => 157 | 241 => 158 | 242 => 159 | 243 => 161 | 244 => 162 | 245 => 163 | 246 => 164 | 247 => 165 | 248 => 166 | 249 => 167 | n => n, fun | 1 => 0 | 3 => 1 | 4 => 2 | n => n⟩
theorem lays146 : Go.Proofs.Lays.n146 Tryz.prog lays146_ren where
  mixed := by kernel_rfl
  f138 := by kernel_rfl
  f143 := by kernel_rfl
  f146 := by kernel_rfl
  f195 := by kernel_rfl
  f197 := by kernel_rfl
  f217 := by kernel_rfl
  f218 := by kernel_rfl
  f219 := by kernel_rfl
  f221 := by kernel_rfl
  f224 := by kernel_rfl
  f225 := by kernel_rfl
  f260 := by kernel_rfl
  f266 := by kernel_rfl
  f267 := by kernel_rfl
  f268 := by kernel_rfl
  f314 := by kernel_rfl
  t0 := by kernel_rfl
  a0 := fun w => by kernel_rfl
  z0 := fun w => by kernel_rfl
  v0 := fun w => by kernel_rfl
  t3 := by kernel_rfl
  a3 := fun w => by kernel_rfl
  z3 := fun w => by kernel_rfl
  v3 := fun w => by kernel_rfl
  t4 := by kernel_rfl
  a4 := fun w => by kernel_rfl
  z4 := fun w => by kernel_rfl
  v4 := fun w => by kernel_rfl
  t5 := by kernel_rfl
  a5 := fun w => by kernel_rfl
  z5 := fun w => by kernel_rfl
  v5 := fun w => by kernel_rfl
  t9 := by kernel_rfl
  a9 := fun w => by kernel_rfl
  z9 := fun w => by kernel_rfl
  v9 := fun w => by kernel_rfl
  t21 := by kernel_rfl
  a21 := fun w => by kernel_rfl
  z21 := fun w => by kernel_rfl
  v21 := fun w => by kernel_rfl
  t31 := by kernel_rfl
  a31 := fun w => by kernel_rfl
  z31 := fun w => by kernel_rfl
  v31 := fun w => by kernel_rfl
  t46 := by kernel_rfl
  a46 := fun w => by kernel_rfl
  z46 := fun w => by kernel_rfl
  v46 := fun w => by kernel_rfl
  t51 := by kernel_rfl
  a51 := fun w => by kernel_rfl
  z51 := fun w => by kernel_rfl
  v51 := fun w => by kernel_rfl
  t105 := by kernel_rfl
  a105 := fun w => by kernel_rfl
  z105 := fun w => by kernel_rfl
  v105 := fun w => by kernel_rfl
  t119 := by kernel_rfl
  a119 := fun w => by kernel_rfl
  z119 := fun w => by kernel_rfl
  t138 := by kernel_rfl
  a138 := fun w => by kernel_rfl
  z138 := fun w => by kernel_rfl
  v138 := fun w => by kernel_rfl
  t139 := by kernel_rfl
  a139 := fun w => by kernel_rfl
  z139 := fun w => by kernel_rfl
  v139 := fun w => by kernel_rfl
  t146 := by kernel_rfl
  a146 := fun w => by kernel_rfl
  z146 := fun w => by kernel_rfl
  v146 := fun w => by kernel_rfl
  g1 := by kernel_rfl
  g3 := by kernel_rfl
  g4 := by kernel_rfl
def lays166_ren : Go.Shelf.Ren := ⟨fun | 166 => 20 | 240 => 31 | 276 => 48 | n => n, fun | 0 => 0 | 1 => 1 | 2 => 2 | 3 => 3 | 4 => 4 | 5 => 5 | 6 => 6 | 7 => 7 | 8 => 8 | 9 => 9 | 10 => 10 | 11 => 11 | 12 => 12 | 13 => 13 | 14 => 14 | 15 => 15 | 16 => 16 | 17 => 17 | 18 => 18 | 19 => 19 | 20 => 20 | 21 => 21 | 22 => 98 | 23 => 71 | 24 => 23 | 27 => 70 | 28 => 58 | 31 => 32 | 35 => 80 | 37 => 39 | 40 => 44 | 43 => 66 | 46 => 40 | 47 => 96 | 51 => 123 | 52 => 122 | 53 => 26 | 54 => 110 | 55 => 86 | 61 => 41 | 69 => 30 | 70 => 46 | 71 => 47 | 72 => 48 | 74 => 49 | 75 => 50 | 76 => 51 | 77 => 52 | 78 => 72 | 80 => 53 | 81 => 160 | 83 => 29 | 84 => 94 | 85 => 100 | 86 => 101 | 103 => 83 | 104 => 28 | 105 => 84 | 106 => 85 | 108 => 134 | 111 => 31 | 112 => 37 | 113 => 54 | 114 => 97 | 119 => 124 | 120 => 43 | 127 => 68 | 128 => 87 | 131 => 120 | 134 => 95 | 137 => 125 | 138 => 126 | 139 => 127 | 143 => 147 | 144 => 148 | 145 => 149 | 146 => 128 | 150 => 69 | 151 => 129 | 152 => 55 | 153 => 56 | 154 => 57 | 164 => 81 | 165 => 82 | 167 => 99 | 168 => 102 | 169 => 103 | 170 => 104 | 171 => 109 | 172 => 111 | 173 => 112 | 174 => 113 | 175 => 130 | 176 => 131 | 181 => 114 | 182 => 115 | 183 => 116 | 184 => 117 | 185 => 118 | 186 => 119 | 187 => 121 | 209 => 132 | 210 => 133 | 211 => 137 | 212 => 138 | 213 => 139 | 214 => 146 | 218 => 140 | 219 => 141 | 220 => 142 | 221 => 143 | 222 => 144 | 223 => 145 | 228 => 150 | 229 => 151 | 230 => 152 | 232 => 153 | 233 => 154 | 238 => 155 | 239 => 156 | 240 => 157 | 241 => 158 | 242 => 159 | 243 => 161 | 244 => 162 | 245 => 163 | 246 => 164 | 247 => 165 | 248 => 166 | 249 => 167 | n => n, fun | n => n⟩
theorem lays166 : Go.Proofs.Lays.n166 Tryz.prog lays166_ren where
  mixed := by kernel_rfl
  f166 := by kernel_rfl
  f240 := by kernel_rfl
  f276 := by kernel_rfl
  t0 := by kernel_rfl
  a0 := fun w => by kernel_rfl
  z0 := fun w => by kernel_rfl
  v0 := fun w => by kernel_rfl
  t3 := by kernel_rfl
  a3 := fun w => by kernel_rfl
  z3 := fun w => by kernel_rfl
  v3 := fun w => by kernel_rfl
  t4 := by kernel_rfl
  a4 := fun w => by kernel_rfl
  z4 := fun w => by kernel_rfl
  v4 := fun w => by kernel_rfl
  t9 := by kernel_rfl
  a9 := fun w => by kernel_rfl
  z9 := fun w => by kernel_rfl
  v9 := fun w => by kernel_rfl
  t20 := by kernel_rfl
  a20 := fun w => by kernel_rfl
  z20 := fun w => by kernel_rfl
  v20 := fun w => by kernel_rfl
  t37 := by kernel_rfl
  a37 := fun w => by kernel_rfl
  z37 := fun w => by kernel_rfl
  v37 := fun w => by kernel_rfl
  t70 := by kernel_rfl
  a70 := fun w => by kernel_rfl
  z70 := fun w => by kernel_rfl
  v70 := fun w => by kernel_rfl
  t72 := by kernel_rfl
  a72 := fun w => by kernel_rfl
  z72 := fun w => by kernel_rfl
  v72 := fun w => by kernel_rfl
  t75 := by kernel_rfl
  a75 := fun w => by kernel_rfl
  z75 := fun w => by kernel_rfl
  v75 := fun w => by kernel_rfl
  t164 := by kernel_rfl
  a164 := fun w => by kernel_rfl
  z164 := fun w => by kernel_rfl
  v164 := fun w => by kernel_rfl
def lays169_ren : Go.Shelf.Ren := ⟨fun | 169 => 21 | n => n, fun | 0 => 0 | 1 => 1 | 2 => 2 | 3 => 3 | 4 => 4 | 5 => 5 | 6 => 6 | 7 => 7 | 8 => 8 | 9 => 9 | 10 => 10 | 11 => 11 | 12 => 12 | 13 => 13 | 14 => 14 | 15 => 15 | 16 => 16 | 17 => 17 | 18 => 18 | 19 => 19 | 20 => 20 | 21 => 21 | 22 => 98 | 23 => 71 | 24 => 23 | 27 => 70 | 28 => 58 | 31 => 32 | 35 => 80 | 37 => 39 | 40 => 44 | 43 => 66 | 46 => 40 | 47 => 96 | 51 => 123 | 52 => 122 | 53 => 26 | 54 => 110 | 55 => 86 | 61 => 41 | 69 => 30 | 70 => 46 | 71 => 47 | 72 => 48 | 74 => 49 | 75 => 50 | 76 => 51 | 77 => 52 | 78 => 72 | 80 => 53 | 81 => 160 | 83 => 29 | 84 => 94 | 85 => 100 | 86 => 101 | 103 => 83 | 104 => 28 | 105 => 84 | 106 => 85 | 108 => 134 | 111 => 31 | 112 => 37 | 113 => 54 | 114 => 97 | 119 => 124 | 120 => 43 | 127 => 68 | 128 => 87 | 131 => 120 | 134 => 95 | 137 => 125 | 138 => 126 | 139 => 127 | 143 => 147 | 144 => 148 | 145 => 149 | 146 => 128 | 150 => 69 | 151 => 129 | 152 => 55 | 153 => 56 | 154 => 57 | 164 => 81 | 165 => 82 | 167 => 99 | 168 => 102 | 169 => 103 | 170 => 104 | 171 => 109 | 172 => 111 | 173 => 112 | 174 => 113 | 175 => 130 | 176 => 131 | 181 => 114 | 182 => 115 | 183 => 116 | 184 => 117 | 185 => 118 | 186 => 119 | 187 => 121 | 209 => 132 | 210 => 133 | 211 => 137 | 212 => 138 | 213 => 139 | 214 => 146 | 218 => 140 | 219 => 141 | 220 => 142 | 221 => 143 | 222 => 144 | 223 => 145 | 228 => 150 | 229 => 151 | 230 => 152 | 232 => 153 | 233 => 154 | 238 => 155 | 239 => 156 | 240 => 157 | 241 => 158 | 242 => 159 | 243 => 161 | 244 => 162 | 245 => 163 | 246 => 164 | 247 => 165 | 248 => 166 | 249 => 167 | n => n, fun | n => n⟩
theorem lays169 : Go.Proofs.Lays.n169 Tryz.prog lays169_ren where
  mixed := by kernel_rfl
  f169 := by kernel_rfl
  t0 := by kernel_rfl
  a0 := fun w => by kernel_rfl
  z0 := fun w => by kernel_rfl
  v0 := fun w => by kernel_rfl
  t3 := by kernel_rfl
  a3 := fun w => by kernel_rfl
  z3 := fun w => by kernel_rfl
  v3 := fun w => by kernel_rfl
  t9 := by kernel_rfl
  a9 := fun w => by kernel_rfl
  z9 := fun w => by kernel_rfl
  v9 := fun w => by kernel_rfl
  t37 := by kernel_rfl
  a37 := fun w => by kernel_rfl
  z37 := fun w => by kernel_rfl
  v37 := fun w => by kernel_rfl
  t70 := by kernel_rfl
  a70 := fun w => by kernel_rfl
  z70 := fun w => by kernel_rfl
  v70 := fun w => by kernel_rfl
  t72 := by kernel_rfl
  a72 := fun w => by kernel_rfl
  z72 := fun w => by kernel_rfl
  v72 := fun w => by kernel_rfl
  t127 := by kernel_rfl
  a127 := fun w => by kernel_rfl
  z127 := fun w => by kernel_rfl
  v127 := fun w => by kernel_rfl
def lays229_ren : Go.Shelf.Ren := ⟨fun | 229 => 17 | n => n, fun | 0 => 0 | 1 => 1 | 2 => 2 | 3 => 3 | 4 => 4 | 5 => 5 | 6 => 6 | 7 => 7 | 8 => 8 | 9 => 9 | 10 => 10 | 11 => 11 | 12 => 12 | 13 => 13 | 14 => 14 | 15 => 15 | 16 => 16 | 17 => 17 | 18 => 18 | 19 => 19 | 20 => 20 | 21 => 21 | 22 => 98 | 23 => 71 | 24 => 23 | 27 => 70 | 28 => 58 | 31 => 32 | 35 => 80 | 37 => 39 | 40 => 44 | 43 => 66 | 46 => 40 | 47 => 96 | 51 => 123 | 52 => 122 | 53 => 26 | 54 => 110 | 55 => 86 | 61 => 41 | 69 => 30 | 70 => 46 | 71 => 47 | 72 => 48 | 74 => 49 | 75 => 50 | 76 => 51 | 77 => 52 | 78 => 72 | 80 => 53 | 81 => 160 | 83 => 29 | 84 => 94 | 85 => 100 | 86 => 101 | 103 => 83 | 104 => 28 | 105 => 84 | 106 => 85 | 108 => 134 | 111 => 31 | 112 => 37 | 113 => 54 | 114 => 97 | 119 => 124 | 120 => 43 | 127 => 68 | 128 => 87 | 131 => 120 | 134 => 95 | 137 => 125 | 138 => 126 | 139 => 127 | 143 => 147 | 144 => 148 | 145 => 149 | 146 => 128 | 150 => 69 | 151 => 129 | 152 => 55 | 153 => 56 | 154 => 57 | 164 => 81 | 165 => 82 | 167 => 99 | 168 => 102 | 169 => 103 | 170 => 104 | 171 => 109 | 172 => 111 | 173 => 112 | 174 => 113 | 175 => 130 | 176 => 131 | 181 => 114 | 182 => 115 | 183 => 116 | 184 => 117 | 185 => 118 | 186 => 119 | 187 => 121 | 209 => 132 | 210 => 133 | 211 => 137 | 212 => 138 | 213 => 139 | 214 => 146 | 218 => 140 | 219 => 141 | 220 => 142 | 221 => 143 | 222 => 144 | 223 => 145 | 228 => 150 | 229 => 151 | 230 => 152 | 232 => 153 | 233 => 154 | 238 => 155 | 239 => 156 | 240 => 157 | 241 => 158 | 242 => 159 | 243 => 161 | 244 => 162 | 245 => 163 | 246 => 164 | 247 => 165 | 248 => 166 | 249 => 167 | n => n, fun | n => n⟩
theorem lays229 : Go.Proofs.Lays.n229 Tryz.prog lays229_ren where
  mixed := by kernel_rfl
  f229 := by kernel_rfl
  t0 := by kernel_rfl
  a0 := fun w => by kernel_rfl
  z0 := fun w => by kernel_rfl
  v0 := fun w => by kernel_rfl
  t3 := by kernel_rfl
  a3 := fun w => by kernel_rfl
  z3 := fun w => by kernel_rfl
  v3 := fun w => by kernel_rfl
  t4 := by kernel_rfl
  a4 := fun w => by kernel_rfl
  z4 := fun w => by kernel_rfl
  v4 := fun w => by kernel_rfl
  t9 := by kernel_rfl
  a9 := fun w => by kernel_rfl
  z9 := fun w => by kernel_rfl
  v9 := fun w => by kernel_rfl
  t21 := by kernel_rfl
  a21 := fun w => by kernel_rfl
  z21 := fun w => by kernel_rfl
  v21 := fun w => by kernel_rfl
  t31 := by kernel_rfl
  a31 := fun w => by kernel_rfl
  z31 := fun w => by kernel_rfl
  v31 := fun w => by kernel_rfl
  t40 := by kernel_rfl
  a40 := fun w => by kernel_rfl
  z40 := fun w => by kernel_rfl
  v40 := fun w => by kernel_rfl
  t152 := by kernel_rfl
  a152 := fun w => by kernel_rfl
  z152 := fun w => by kernel_rfl
  v152 := fun w => by kernel_rfl
  t154 := by kernel_rfl
  a154 := fun w => by kernel_rfl
  z154 := fun w => by kernel_rfl
  v154 := fun w => by kernel_rfl
end Go.Kn
