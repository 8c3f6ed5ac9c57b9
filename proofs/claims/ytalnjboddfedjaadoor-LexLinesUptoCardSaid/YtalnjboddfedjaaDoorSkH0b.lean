/-
  Steps of functions, plain law, and walks of functions: what the laws rest on.
-/
import Derived.Test.YtalnjboddfedjaaDoorSkH0a
set_option linter.unusedVariables false
set_option linter.unusedSimpArgs false
set_option linter.unusedSectionVars false
namespace Go.SK
open Go Go.Proofs Go.Shelf
def lx_lays156_ren : Go.Shelf.Ren := ⟨fun | 156 => 45 | 165 => 58 | 166 => 59 | 169 => 60 | 240 => 73 | 241 => 74 | 276 => 83 | 277 => 84 | n => n, fun | 31 => 41 | 9 => 9 | 3 => 3 | 4 => 4 | 0 => 0 | 20 => 20 | 72 => 87 | 76 => 89 | 70 => 85 | 37 => 70 | 75 => 66 | 127 => 100 | 164 => 111 | 5 => 5 | 80 => 91 | n => n, fun | n => n⟩
theorem lx_lays156 : Go.Proofs.Lays.n156 Tryd.prog lx_lays156_ren := {
 mixed := by kernel_rfl
 f156 := Tryd.func45.trans (congrArg some (by kernel_rfl))
 f165 := Tryd.func58.trans (congrArg some (by kernel_rfl))
 f166 := Tryd.func59.trans (congrArg some (by kernel_rfl))
 f169 := Tryd.func60.trans (congrArg some (by kernel_rfl))
 f240 := Tryd.func73.trans (congrArg some (by kernel_rfl))
 f241 := Tryd.func74.trans (congrArg some (by kernel_rfl))
 f276 := Tryd.func83.trans (congrArg some (by kernel_rfl))
 f277 := Tryd.func84.trans (congrArg some (by kernel_rfl))
 t0 := Tryd.underlying0
 a0 := Tryd.isAgg0
 z0 := Tryd.sizeOf0
 v0 := Tryd.zeroValue0
 t3 := Tryd.underlying3
 a3 := Tryd.isAgg3
 z3 := Tryd.sizeOf3
 v3 := Tryd.zeroValue3
 t4 := Tryd.underlying4
 a4 := Tryd.isAgg4
 z4 := Tryd.sizeOf4
 v4 := Tryd.zeroValue4
 t9 := Tryd.underlying9
 a9 := Tryd.isAgg9
 z9 := Tryd.sizeOf9
 v9 := Tryd.zeroValue9
 t20 := Tryd.underlying20
 a20 := Tryd.isAgg20
 z20 := Tryd.sizeOf20
 v20 := Tryd.zeroValue20
 t31 := Tryd.underlying41
 a31 := Tryd.isAgg41
 z31 := Tryd.sizeOf41
 v31 := Tryd.zeroValue41
 t37 := Tryd.underlying70
 a37 := Tryd.isAgg70
 z37 := Tryd.sizeOf70
 v37 := Tryd.zeroValue70
 t70 := Tryd.underlying85
 a70 := Tryd.isAgg85
 z70 := Tryd.sizeOf85
 v70 := Tryd.zeroValue85
 t72 := Tryd.underlying87
 a72 := Tryd.isAgg87
 z72 := Tryd.sizeOf87
 v72 := Tryd.zeroValue87
 t75 := Tryd.underlying66
 a75 := Tryd.isAgg66
 z75 := Tryd.sizeOf66
 v75 := Tryd.zeroValue66
 t76 := Tryd.underlying89
 a76 := Tryd.isAgg89
 z76 := Tryd.sizeOf89
 v76 := Tryd.zeroValue89
 t127 := Tryd.underlying100
 a127 := Tryd.isAgg100
 z127 := Tryd.sizeOf100
 v127 := Tryd.zeroValue100
 t164 := Tryd.underlying111
 a164 := Tryd.isAgg111
 z164 := Tryd.sizeOf111
 v164 := Tryd.zeroValue111 }
theorem lx_extra156 : Builder.Extra Tryd.prog lx_lays156_ren := {
 sizeBuilder := by kernel_rfl
 liesBuilder := by kernel_rfl
 t5 := Tryd.underlying5
 a5 := Tryd.isAgg5
 z5 := Tryd.sizeOf5
 v5 := Tryd.zeroValue5
 infoByte := by kernel_rfl
 cellsByte := by kernel_rfl
 sizeByte := by kernel_rfl
 neB5 := by decide }
def lx_lays137_ren : Go.Shelf.Ren := ⟨fun | 137 => 41 | 217 => 57 | 266 => 72 | n => n, fun | 9 => 9 | 5 => 5 | 3 => 3 | n => n, fun | n => n⟩
theorem lx_lays137 : Go.Proofs.Lays.n137 Tryd.prog lx_lays137_ren := {
 mixed := by kernel_rfl
 f137 := Tryd.func41.trans (congrArg some (by kernel_rfl))
 f217 := Tryd.func57.trans (congrArg some (by kernel_rfl))
 f266 := Tryd.func72.trans (congrArg some (by kernel_rfl))
 t3 := Tryd.underlying3
 a3 := Tryd.isAgg3
 z3 := Tryd.sizeOf3
 v3 := Tryd.zeroValue3
 t5 := Tryd.underlying5
 a5 := Tryd.isAgg5
 z5 := Tryd.sizeOf5
 v5 := Tryd.zeroValue5
 t9 := Tryd.underlying9
 a9 := Tryd.isAgg9
 z9 := Tryd.sizeOf9
 v9 := Tryd.zeroValue9 }
def lx_lays103_ren : Go.Shelf.Ren := ⟨fun | 103 => 38 | 210 => 54 | 206 => 65 | n => n, fun | 9 => 9 | 4 => 4 | 24 => 63 | 3 => 3 | n => n, fun | n => n⟩
theorem lx_lays103 : Go.Proofs.Lays.n103 Tryd.prog lx_lays103_ren := {
 mixed := by kernel_rfl
 f103 := Tryd.func38.trans (congrArg some (by kernel_rfl))
 f206 := Tryd.func65.trans (congrArg some (by kernel_rfl))
 f210 := Tryd.func54.trans (congrArg some (by kernel_rfl))
 t3 := Tryd.underlying3
 a3 := Tryd.isAgg3
 z3 := Tryd.sizeOf3
 v3 := Tryd.zeroValue3
 t4 := Tryd.underlying4
 a4 := Tryd.isAgg4
 z4 := Tryd.sizeOf4
 v4 := Tryd.zeroValue4
 t9 := Tryd.underlying9
 a9 := Tryd.isAgg9
 z9 := Tryd.sizeOf9
 v9 := Tryd.zeroValue9
 t24 := Tryd.underlying63
 a24 := Tryd.isAgg63
 z24 := Tryd.sizeOf63
 v24 := Tryd.zeroValue63 }
def lx_lays283_ren : Go.Shelf.Ren := ⟨fun | 283 => 76 | n => n, fun | 3 => 3 | 9 => 9 | 4 => 4 | n => n, fun | n => n⟩
theorem lx_lays283 : Go.Proofs.Lays.n283 Tryd.prog lx_lays283_ren := {
 mixed := by kernel_rfl
 f283 := Tryd.func76.trans (congrArg some (by kernel_rfl))
 t3 := Tryd.underlying3
 a3 := Tryd.isAgg3
 z3 := Tryd.sizeOf3
 v3 := Tryd.zeroValue3
 t4 := Tryd.underlying4
 a4 := Tryd.isAgg4
 z4 := Tryd.sizeOf4
 v4 := Tryd.zeroValue4
 t9 := Tryd.underlying9
 a9 := Tryd.isAgg9
 z9 := Tryd.sizeOf9
 v9 := Tryd.zeroValue9 }
def lx_laysM284_ren : Go.Shelf.Ren := ⟨fun | 284 => 77 | 129 => 89 | 317 => 88 | 318 => 90 | n => n, fun | 53 => 57 | 3 => 3 | 212 => 116 | 0 => 0 | 4 => 4 | 46 => 71 | 5 => 5 | 9 => 9 | n => n, fun | 17 => 3 | n => n⟩
theorem lx_laysM284 : Go.Proofs.LaysM.n284 Tryd.prog lx_laysM284_ren := {
 mixed := by kernel_rfl
 f129 := Tryd.func89.trans (congrArg some (by kernel_rfl))
 f284 := Tryd.func77.trans (congrArg some (by kernel_rfl))
 f317 := Tryd.func88.trans (congrArg some (by kernel_rfl))
 f318 := Tryd.func90.trans (congrArg some (by kernel_rfl))
 t0 := Tryd.underlying0
 a0 := Tryd.isAgg0
 z0 := Tryd.sizeOf0
 v0 := Tryd.zeroValue0
 t3 := Tryd.underlying3
 a3 := Tryd.isAgg3
 z3 := Tryd.sizeOf3
 v3 := Tryd.zeroValue3
 t4 := Tryd.underlying4
 a4 := Tryd.isAgg4
 z4 := Tryd.sizeOf4
 v4 := Tryd.zeroValue4
 t5 := Tryd.underlying5
 a5 := Tryd.isAgg5
 z5 := Tryd.sizeOf5
 v5 := Tryd.zeroValue5
 t9 := Tryd.underlying9
 a9 := Tryd.isAgg9
 z9 := Tryd.sizeOf9
 v9 := Tryd.zeroValue9
 t46 := Tryd.underlying71
 a46 := Tryd.isAgg71
 z46 := Tryd.sizeOf71
 v46 := Tryd.zeroValue71
 t53 := Tryd.underlying57
 a53 := Tryd.isAgg57
 z53 := Tryd.sizeOf57
 v53 := Tryd.zeroValue57
 t212 := Tryd.underlying116
 a212 := Tryd.isAgg116
 z212 := Tryd.sizeOf116
 v212 := Tryd.zeroValue116
 g17 := by kernel_rfl
 i0 := by kernel_rfl
 i3 := by kernel_rfl
 i4 := by kernel_rfl
 i5 := by kernel_rfl
 i9 := by kernel_rfl
 i46 := by kernel_rfl
 i53 := by kernel_rfl
 i212 := by kernel_rfl
 m17 := by kernel_rfl }
def lx_lays285_ren : Go.Shelf.Ren := ⟨fun | 285 => 78 | n => n, fun | 37 => 70 | 53 => 57 | 3 => 3 | 4 => 4 | 51 => 33 | 9 => 9 | 5 => 5 | 0 => 0 | n => n, fun | n => n⟩
theorem lx_lays285 : Go.Proofs.Lays.n285 Tryd.prog lx_lays285_ren := {
 mixed := by kernel_rfl
 f285 := Tryd.func78.trans (congrArg some (by kernel_rfl))
 t0 := Tryd.underlying0
 a0 := Tryd.isAgg0
 z0 := Tryd.sizeOf0
 v0 := Tryd.zeroValue0
 t3 := Tryd.underlying3
 a3 := Tryd.isAgg3
 z3 := Tryd.sizeOf3
 v3 := Tryd.zeroValue3
 t4 := Tryd.underlying4
 a4 := Tryd.isAgg4
 z4 := Tryd.sizeOf4
 v4 := Tryd.zeroValue4
 t5 := Tryd.underlying5
 a5 := Tryd.isAgg5
 z5 := Tryd.sizeOf5
 v5 := Tryd.zeroValue5
 t9 := Tryd.underlying9
 a9 := Tryd.isAgg9
 z9 := Tryd.sizeOf9
 v9 := Tryd.zeroValue9
 t37 := Tryd.underlying70
 a37 := Tryd.isAgg70
 z37 := Tryd.sizeOf70
 v37 := Tryd.zeroValue70
 t51 := Tryd.underlying33
 a51 := Tryd.isAgg33
 z51 := Tryd.sizeOf33
 v51 := Tryd.zeroValue33
 t53 := Tryd.underlying57
 a53 := Tryd.isAgg57
 z53 := Tryd.sizeOf57
 v53 := Tryd.zeroValue57 }
def lx_laysC245_ren : Go.Shelf.Ren := ⟨fun | 245 => 56 | 279 => 68 | 280 => 69 | 281 => 70 | 282 => 71 | 316 => 80 | 171 => 82 | 205 => 81 | 243 => 93 | 246 => 97 | 283 => 76 | 284 => 77 | 285 => 78 | 286 => 79 | 129 => 89 | 317 => 88 | 318 => 90 | 319 => 91 | 320 => 92 | 337 => 95 | 338 => 96 | n => n, fun | 9 => 9 | 3 => 3 | 75 => 66 | 167 => 96 | 4 => 4 | 168 => 97 | 210 => 109 | 37 => 70 | 0 => 0 | 127 => 100 | 145 => 122 | 143 => 120 | 2 => 2 | 171 => 103 | 53 => 57 | 5 => 5 | 173 => 106 | 212 => 116 | 51 => 33 | 20 => 20 | 213 => 117 | 46 => 71 | 232 => 127 | 233 => 128 | 80 => 91 | n => n, fun | 15 => 0 | 16 => 1 | 17 => 3 | 18 => 4 | 19 => 5 | n => n⟩
theorem lx_laysC245 : Go.Proofs.LaysC.n245 Tryd.prog lx_laysC245_ren := {
 mixed := by kernel_rfl
 f129 := Tryd.func89.trans (congrArg some (by kernel_rfl))
 f171 := Tryd.func82.trans (congrArg some (by kernel_rfl))
 f205 := Tryd.func81.trans (congrArg some (by kernel_rfl))
 f243 := Tryd.func93.trans (congrArg some (by kernel_rfl))
 f245 := Tryd.func56.trans (congrArg some (by kernel_rfl))
 f246 := Tryd.func97.trans (congrArg some (by kernel_rfl))
 f279 := Tryd.func68.trans (congrArg some (by kernel_rfl))
 f280 := Tryd.func69.trans (congrArg some (by kernel_rfl))
 f281 := Tryd.func70.trans (congrArg some (by kernel_rfl))
 f282 := Tryd.func71.trans (congrArg some (by kernel_rfl))
 f283 := Tryd.func76.trans (congrArg some (by kernel_rfl))
 f284 := Tryd.func77.trans (congrArg some (by kernel_rfl))
 f285 := Tryd.func78.trans (congrArg some (by kernel_rfl))
 f286 := Tryd.func79.trans (congrArg some (by kernel_rfl))
 f316 := Tryd.func80.trans (congrArg some (by kernel_rfl))
 f317 := Tryd.func88.trans (congrArg some (by kernel_rfl))
 f318 := Tryd.func90.trans (congrArg some (by kernel_rfl))
 f319 := Tryd.func91.trans (congrArg some (by kernel_rfl))
 f320 := Tryd.func92.trans (congrArg some (by kernel_rfl))
 f337 := Tryd.func95.trans (congrArg some (by kernel_rfl))
 f338 := Tryd.func96.trans (congrArg some (by kernel_rfl))
 t0 := Tryd.underlying0
 a0 := Tryd.isAgg0
 z0 := Tryd.sizeOf0
 v0 := Tryd.zeroValue0
 t2 := Tryd.underlying2
 a2 := Tryd.isAgg2
 z2 := Tryd.sizeOf2
 v2 := Tryd.zeroValue2
 t3 := Tryd.underlying3
 a3 := Tryd.isAgg3
 z3 := Tryd.sizeOf3
 v3 := Tryd.zeroValue3
 t4 := Tryd.underlying4
 a4 := Tryd.isAgg4
 z4 := Tryd.sizeOf4
 v4 := Tryd.zeroValue4
 t5 := Tryd.underlying5
 a5 := Tryd.isAgg5
 z5 := Tryd.sizeOf5
 v5 := Tryd.zeroValue5
 t9 := Tryd.underlying9
 a9 := Tryd.isAgg9
 z9 := Tryd.sizeOf9
 v9 := Tryd.zeroValue9
 t20 := Tryd.underlying20
 a20 := Tryd.isAgg20
 z20 := Tryd.sizeOf20
 v20 := Tryd.zeroValue20
 t37 := Tryd.underlying70
 a37 := Tryd.isAgg70
 z37 := Tryd.sizeOf70
 v37 := Tryd.zeroValue70
 t46 := Tryd.underlying71
 a46 := Tryd.isAgg71
 z46 := Tryd.sizeOf71
 v46 := Tryd.zeroValue71
 t51 := Tryd.underlying33
 a51 := Tryd.isAgg33
 z51 := Tryd.sizeOf33
 v51 := Tryd.zeroValue33
 t53 := Tryd.underlying57
 a53 := Tryd.isAgg57
 z53 := Tryd.sizeOf57
 v53 := Tryd.zeroValue57
 t75 := Tryd.underlying66
 a75 := Tryd.isAgg66
 z75 := Tryd.sizeOf66
 v75 := Tryd.zeroValue66
 t127 := Tryd.underlying100
 a127 := Tryd.isAgg100
 z127 := Tryd.sizeOf100
 v127 := Tryd.zeroValue100
 t143 := Tryd.underlying120
 a143 := Tryd.isAgg120
 z143 := Tryd.sizeOf120
 v143 := Tryd.zeroValue120
 t145 := Tryd.underlying122
 a145 := Tryd.isAgg122
 z145 := Tryd.sizeOf122
 v145 := Tryd.zeroValue122
 t167 := Tryd.underlying96
 a167 := Tryd.isAgg96
 z167 := Tryd.sizeOf96
 v167 := Tryd.zeroValue96
 t168 := Tryd.underlying97
 a168 := Tryd.isAgg97
 z168 := Tryd.sizeOf97
 v168 := Tryd.zeroValue97
 t171 := Tryd.underlying103
 a171 := Tryd.isAgg103
 z171 := Tryd.sizeOf103
 v171 := Tryd.zeroValue103
 t173 := Tryd.underlying106
 a173 := Tryd.isAgg106
 z173 := Tryd.sizeOf106
 v173 := Tryd.zeroValue106
 t210 := Tryd.underlying109
 a210 := Tryd.isAgg109
 z210 := Tryd.sizeOf109
 v210 := Tryd.zeroValue109
 t212 := Tryd.underlying116
 a212 := Tryd.isAgg116
 z212 := Tryd.sizeOf116
 v212 := Tryd.zeroValue116
 t213 := Tryd.underlying117
 a213 := Tryd.isAgg117
 z213 := Tryd.sizeOf117
 t232 := Tryd.underlying127
 a232 := Tryd.isAgg127
 z232 := Tryd.sizeOf127
 v232 := Tryd.zeroValue127
 t233 := Tryd.underlying128
 a233 := Tryd.isAgg128
 z233 := Tryd.sizeOf128
 v233 := Tryd.zeroValue128
 g15 := by kernel_rfl
 g16 := by kernel_rfl
 g17 := by kernel_rfl
 g18 := by kernel_rfl
 g19 := by kernel_rfl
 t80 := Tryd.underlying91
 a80 := Tryd.isAgg91
 z80 := Tryd.sizeOf91
 v80 := Tryd.zeroValue91
 i0 := by kernel_rfl
 i2 := by kernel_rfl
 i3 := by kernel_rfl
 i4 := by kernel_rfl
 i5 := by kernel_rfl
 i9 := by kernel_rfl
 i20 := by kernel_rfl
 i37 := by kernel_rfl
 i46 := by kernel_rfl
 i51 := by kernel_rfl
 i53 := by kernel_rfl
 i75 := by kernel_rfl
 i80 := by kernel_rfl
 i127 := by kernel_rfl
 i143 := by kernel_rfl
 i145 := by kernel_rfl
 i167 := by kernel_rfl
 i168 := by kernel_rfl
 i171 := by kernel_rfl
 i173 := by kernel_rfl
 i210 := by kernel_rfl
 i212 := by kernel_rfl
 i232 := by kernel_rfl
 i233 := by kernel_rfl
 m15 := by kernel_rfl
 m16 := by kernel_rfl
 m17 := by kernel_rfl
 m18 := by kernel_rfl
 m19 := by kernel_rfl
 c0 := by kernel_rfl
 c2 := by kernel_rfl
 c3 := by kernel_rfl
 c4 := by kernel_rfl
 c5 := by kernel_rfl
 c9 := by kernel_rfl
 c20 := by kernel_rfl
 c37 := by kernel_rfl
 c46 := by kernel_rfl
 c51 := by kernel_rfl
 c53 := by kernel_rfl
 c75 := by kernel_rfl
 c80 := by kernel_rfl
 c127 := by kernel_rfl
 c143 := by kernel_rfl
 c145 := by kernel_rfl
 c167 := by kernel_rfl
 c168 := by kernel_rfl
 c171 := by kernel_rfl
 c173 := by kernel_rfl
 c210 := by kernel_rfl
 c212 := by kernel_rfl
 c213 := by kernel_rfl
 c232 := by kernel_rfl
 c233 := by kernel_rfl }
def lx_lays321_ren : Go.Shelf.Ren := ⟨fun | 321 => 66 | n => n, fun | 5 => 5 | n => n, fun | n => n⟩
theorem lx_lays321 : Go.Proofs.Lays.n321 Tryd.prog lx_lays321_ren := {
 mixed := by kernel_rfl
 f321 := Tryd.func66.trans (congrArg some (by kernel_rfl))
 t5 := Tryd.underlying5
 a5 := Tryd.isAgg5
 z5 := Tryd.sizeOf5
 v5 := Tryd.zeroValue5 }
def lx_laysPu14_ren : Go.Shelf.Ren := ⟨fun | 14 => 40 | 16 => 55 | 17 => 56 | 19 => 66 | 20 => 67 | 21 => 68 | 22 => 69 | 23 => 70 | 24 => 71 | 25 => 80 | 27 => 82 | 26 => 81 | 28 => 93 | 29 => 97 | 30 => 76 | 31 => 77 | 32 => 78 | 33 => 79 | 35 => 89 | 34 => 88 | 36 => 90 | 37 => 91 | 38 => 92 | 39 => 95 | 40 => 96 | n => n, fun | 9 => 9 | 3 => 3 | 22 => 57 | 24 => 66 | 25 => 67 | 4 => 4 | 34 => 96 | 5 => 5 | 36 => 71 | 37 => 70 | 0 => 0 | 39 => 97 | 21 => 21 | 44 => 109 | 47 => 100 | 50 => 122 | 48 => 120 | 2 => 2 | 52 => 103 | 55 => 106 | 59 => 116 | 60 => 33 | 20 => 20 | 61 => 117 | 65 => 127 | 66 => 128 | 67 => 91 | n => n, fun | 0 => 0 | 1 => 1 | 2 => 3 | 3 => 4 | 4 => 5 | n => n⟩
theorem lx_laysPu14 : Go.Proofs.LaysPu.n14 Tryd.prog lx_laysPu14_ren := {
 mixed := by kernel_rfl
 f14 := Tryd.func40.trans (congrArg some (by kernel_rfl))
 f16 := Tryd.func55.trans (congrArg some (by kernel_rfl))
 f17 := Tryd.func56.trans (congrArg some (by kernel_rfl))
 f19 := Tryd.func66.trans (congrArg some (by kernel_rfl))
 f20 := Tryd.func67.trans (congrArg some (by kernel_rfl))
 f21 := Tryd.func68.trans (congrArg some (by kernel_rfl))
 f22 := Tryd.func69.trans (congrArg some (by kernel_rfl))
 f23 := Tryd.func70.trans (congrArg some (by kernel_rfl))
 f24 := Tryd.func71.trans (congrArg some (by kernel_rfl))
 f25 := Tryd.func80.trans (congrArg some (by kernel_rfl))
 f26 := Tryd.func81.trans (congrArg some (by kernel_rfl))
 f27 := Tryd.func82.trans (congrArg some (by kernel_rfl))
 f28 := Tryd.func93.trans (congrArg some (by kernel_rfl))
 f29 := Tryd.func97.trans (congrArg some (by kernel_rfl))
 f30 := Tryd.func76.trans (congrArg some (by kernel_rfl))
 f31 := Tryd.func77.trans (congrArg some (by kernel_rfl))
 f32 := Tryd.func78.trans (congrArg some (by kernel_rfl))
 f33 := Tryd.func79.trans (congrArg some (by kernel_rfl))
 f34 := Tryd.func88.trans (congrArg some (by kernel_rfl))
 f35 := Tryd.func89.trans (congrArg some (by kernel_rfl))
 f36 := Tryd.func90.trans (congrArg some (by kernel_rfl))
 f37 := Tryd.func91.trans (congrArg some (by kernel_rfl))
 f38 := Tryd.func92.trans (congrArg some (by kernel_rfl))
 f39 := Tryd.func95.trans (congrArg some (by kernel_rfl))
 f40 := Tryd.func96.trans (congrArg some (by kernel_rfl))
 t0 := Tryd.underlying0
 a0 := Tryd.isAgg0
 z0 := Tryd.sizeOf0
 v0 := Tryd.zeroValue0
 i0 := by kernel_rfl
 t2 := Tryd.underlying2
 a2 := Tryd.isAgg2
 z2 := Tryd.sizeOf2
 v2 := Tryd.zeroValue2
 i2 := by kernel_rfl
 t3 := Tryd.underlying3
 a3 := Tryd.isAgg3
 z3 := Tryd.sizeOf3
 v3 := Tryd.zeroValue3
 i3 := by kernel_rfl
 t4 := Tryd.underlying4
 a4 := Tryd.isAgg4
 z4 := Tryd.sizeOf4
 v4 := Tryd.zeroValue4
 i4 := by kernel_rfl
 t5 := Tryd.underlying5
 a5 := Tryd.isAgg5
 z5 := Tryd.sizeOf5
 v5 := Tryd.zeroValue5
 i5 := by kernel_rfl
 t9 := Tryd.underlying9
 a9 := Tryd.isAgg9
 z9 := Tryd.sizeOf9
 v9 := Tryd.zeroValue9
 i9 := by kernel_rfl
 t20 := Tryd.underlying20
 a20 := Tryd.isAgg20
 z20 := Tryd.sizeOf20
 v20 := Tryd.zeroValue20
 i20 := by kernel_rfl
 t21 := Tryd.underlying21
 a21 := Tryd.isAgg21
 z21 := Tryd.sizeOf21
 v21 := Tryd.zeroValue21
 i21 := by kernel_rfl
 t22 := Tryd.underlying57
 a22 := Tryd.isAgg57
 z22 := Tryd.sizeOf57
 v22 := Tryd.zeroValue57
 i22 := by kernel_rfl
 t24 := Tryd.underlying66
 a24 := Tryd.isAgg66
 z24 := Tryd.sizeOf66
 v24 := Tryd.zeroValue66
 i24 := by kernel_rfl
 t25 := Tryd.underlying67
 a25 := Tryd.isAgg67
 z25 := Tryd.sizeOf67
 v25 := Tryd.zeroValue67
 i25 := by kernel_rfl
 t34 := Tryd.underlying96
 a34 := Tryd.isAgg96
 z34 := Tryd.sizeOf96
 v34 := Tryd.zeroValue96
 i34 := by kernel_rfl
 c34 := by kernel_rfl
 t36 := Tryd.underlying71
 a36 := Tryd.isAgg71
 z36 := Tryd.sizeOf71
 v36 := Tryd.zeroValue71
 i36 := by kernel_rfl
 t37 := Tryd.underlying70
 a37 := Tryd.isAgg70
 z37 := Tryd.sizeOf70
 v37 := Tryd.zeroValue70
 i37 := by kernel_rfl
 t39 := Tryd.underlying97
 a39 := Tryd.isAgg97
 z39 := Tryd.sizeOf97
 v39 := Tryd.zeroValue97
 i39 := by kernel_rfl
 t44 := Tryd.underlying109
 a44 := Tryd.isAgg109
 z44 := Tryd.sizeOf109
 v44 := Tryd.zeroValue109
 i44 := by kernel_rfl
 t47 := Tryd.underlying100
 a47 := Tryd.isAgg100
 z47 := Tryd.sizeOf100
 v47 := Tryd.zeroValue100
 i47 := by kernel_rfl
 t48 := Tryd.underlying120
 a48 := Tryd.isAgg120
 z48 := Tryd.sizeOf120
 v48 := Tryd.zeroValue120
 i48 := by kernel_rfl
 t50 := Tryd.underlying122
 a50 := Tryd.isAgg122
 z50 := Tryd.sizeOf122
 v50 := Tryd.zeroValue122
 i50 := by kernel_rfl
 t52 := Tryd.underlying103
 a52 := Tryd.isAgg103
 z52 := Tryd.sizeOf103
 v52 := Tryd.zeroValue103
 i52 := by kernel_rfl
 t55 := Tryd.underlying106
 a55 := Tryd.isAgg106
 z55 := Tryd.sizeOf106
 v55 := Tryd.zeroValue106
 i55 := by kernel_rfl
 t59 := Tryd.underlying116
 a59 := Tryd.isAgg116
 z59 := Tryd.sizeOf116
 v59 := Tryd.zeroValue116
 i59 := by kernel_rfl
 t60 := Tryd.underlying33
 a60 := Tryd.isAgg33
 z60 := Tryd.sizeOf33
 v60 := Tryd.zeroValue33
 i60 := by kernel_rfl
 t61 := Tryd.underlying117
 a61 := Tryd.isAgg117
 z61 := Tryd.sizeOf117
 t65 := Tryd.underlying127
 a65 := Tryd.isAgg127
 z65 := Tryd.sizeOf127
 v65 := Tryd.zeroValue127
 i65 := by kernel_rfl
 t66 := Tryd.underlying128
 a66 := Tryd.isAgg128
 z66 := Tryd.sizeOf128
 v66 := Tryd.zeroValue128
 i66 := by kernel_rfl
 t67 := Tryd.underlying91
 a67 := Tryd.isAgg91
 z67 := Tryd.sizeOf91
 v67 := Tryd.zeroValue91
 i67 := by kernel_rfl
 g0 := by kernel_rfl
 m0 := by kernel_rfl
 g1 := by kernel_rfl
 m1 := by kernel_rfl
 g2 := by kernel_rfl
 m2 := by kernel_rfl
 g3 := by kernel_rfl
 m3 := by kernel_rfl
 g4 := by kernel_rfl
 m4 := by kernel_rfl }
def lx_lays219_ren : Go.Shelf.Ren := ⟨fun | 219 => 75 | 217 => 57 | 225 => 85 | 224 => 86 | 267 => 87 | 266 => 72 | 314 => 94 | n => n, fun | 9 => 9 | 3 => 3 | 4 => 4 | 5 => 5 | 46 => 71 | 146 => 123 | 51 => 33 | n => n, fun | 1 => 2 | n => n⟩
theorem lx_lays219 : Go.Proofs.Lays.n219 Tryd.prog lx_lays219_ren := {
 mixed := by kernel_rfl
 f217 := Tryd.func57.trans (congrArg some (by kernel_rfl))
 f219 := Tryd.func75.trans (congrArg some (by kernel_rfl))
 f224 := Tryd.func86.trans (congrArg some (by kernel_rfl))
 f225 := Tryd.func85.trans (congrArg some (by kernel_rfl))
 f266 := Tryd.func72.trans (congrArg some (by kernel_rfl))
 f267 := Tryd.func87.trans (congrArg some (by kernel_rfl))
 f314 := Tryd.func94.trans (congrArg some (by kernel_rfl))
 t3 := Tryd.underlying3
 a3 := Tryd.isAgg3
 z3 := Tryd.sizeOf3
 v3 := Tryd.zeroValue3
 t4 := Tryd.underlying4
 a4 := Tryd.isAgg4
 z4 := Tryd.sizeOf4
 v4 := Tryd.zeroValue4
 t5 := Tryd.underlying5
 a5 := Tryd.isAgg5
 z5 := Tryd.sizeOf5
 v5 := Tryd.zeroValue5
 t9 := Tryd.underlying9
 a9 := Tryd.isAgg9
 z9 := Tryd.sizeOf9
 v9 := Tryd.zeroValue9
 t46 := Tryd.underlying71
 a46 := Tryd.isAgg71
 z46 := Tryd.sizeOf71
 v46 := Tryd.zeroValue71
 t51 := Tryd.underlying33
 a51 := Tryd.isAgg33
 z51 := Tryd.sizeOf33
 v51 := Tryd.zeroValue33
 t146 := Tryd.underlying123
 a146 := Tryd.isAgg123
 z146 := Tryd.sizeOf123
 v146 := Tryd.zeroValue123
 g1 := by kernel_rfl }
end Go.SK
namespace Go.SK
open Go Go.Proofs
theorem ty5 : TyF Tryd.prog 5 (.int .u8) 1 1 [.int .u8 0] := TyF.of (by kernel_rfl) (by kernel_rfl)
theorem ty57 : TyF Tryd.prog 57 (.int .u64) 1 8 [.int .u64 0] := TyF.of (by kernel_rfl) (by kernel_rfl)
end Go.SK
namespace Go.SK
open Go Go.Proofs
open Go.RowKit
theorem R4lx_kindOf (c : UInt8) (w : World) : Ret Tryd.prog 32 #[.int .u8 (c.toNat : Int)] w (fun v w' => v = .int .i64 (kindF c) ∧ St w NoM [] [] w') := by
 refine Ret.enter (args := [.int .u8 (c.toNat : Int)]) Tryd.func32 rfl rfl rfl ?_
 have hst := St.init w
 refine SR <| AI rfl <| NL <| SQ <| run_block <| SQ <| SR <| MC rfl <| CN <| Op1.eql rfl rfl <| AB rfl <| NL <| run_cond_dec rfl (fun g1 => ?_) (fun g1 => ?_)
 · skip
   refine run_skip <| run_cond_true (congrArg Value.bool (decide_eq_true g1)) <| SR <| AI rfl <| NL <| run_ret1 Tryd.func32 rfl (TP (v := .int .i64 _) rfl) <| ⟨congrArg (Value.int .i64) ?_, hst.pure⟩
   first | exact (kind1 (by omega)).symm | exact (kind2 (by omega) (by omega)).symm | exact (kind3 (by omega)).symm | exact (kind0 (by omega) (by omega) (by omega)).symm
 refine SR <| MC rfl <| CN <| Op1.eql rfl rfl <| AB rfl <| NL <| run_cond_dec rfl (fun g2 => ?_) (fun g2 => ?_)
 · skip
   refine run_skip <| run_cond_true (congrArg Value.bool (decide_eq_true g2)) <| SR <| AI rfl <| NL <| run_ret1 Tryd.func32 rfl (TP (v := .int .i64 _) rfl) <| ⟨congrArg (Value.int .i64) ?_, hst.pure⟩
   first | exact (kind1 (by omega)).symm | exact (kind2 (by omega) (by omega)).symm | exact (kind3 (by omega)).symm | exact (kind0 (by omega) (by omega) (by omega)).symm
 refine RG <| MC rfl <| CN <| Op1.eql rfl rfl <| AB rfl <| NL <| run_cond_dec rfl (fun g3 => ?_) (fun g3 => ?_)
 · skip
   refine SR <| AI rfl <| NL <| run_ret1 Tryd.func32 rfl (TP (v := .int .i64 _) rfl) <| ⟨congrArg (Value.int .i64) ?_, hst.pure⟩
   first | exact (kind1 (by omega)).symm | exact (kind2 (by omega) (by omega)).symm | exact (kind3 (by omega)).symm | exact (kind0 (by omega) (by omega) (by omega)).symm
 refine SQ <| SR <| MC rfl <| CN <| Op1.geq rfl rfl <| MB rfl <| RunL.splitD (d := 13) rfl (fun g4 => ?_) (fun g4 => ?_)
 · skip
   refine TK (t := 13) rfl (congrArg Value.bool (decide_eq_true g4)) <| Op1.move (v := .int .u8 _) rfl <| TK (t := 13) rfl (congrArg Value.bool (decide_eq_true g4)) <| Op1.leq rfl rfl <| CN <| Op1.pickT (u := .bool _) (congrArg Value.bool (decide_eq_true g4)) rfl <| AB rfl <| NL <| run_cond_dec rfl (fun g5 => ?_) (fun g5 => ?_)
   · skip
     refine run_skip <| run_cond_true (congrArg Value.bool (decide_eq_true g5)) <| SR <| AI rfl <| NL <| run_ret1 Tryd.func32 rfl (TP (v := .int .i64 _) rfl) <| ⟨congrArg (Value.int .i64) ?_, hst.pure⟩
     first | exact (kind1 (by omega)).symm | exact (kind2 (by omega) (by omega)).symm | exact (kind3 (by omega)).symm | exact (kind0 (by omega) (by omega) (by omega)).symm
   refine SR <| MC rfl <| CN <| Op1.geq rfl rfl <| MB rfl <| RunL.splitD (d := 19) rfl (fun g6 => ?_) (fun g6 => ?_)
   · skip
     refine TK (t := 19) rfl (congrArg Value.bool (decide_eq_true g6)) <| Op1.move (v := .int .u8 _) rfl <| TK (t := 19) rfl (congrArg Value.bool (decide_eq_true g6)) <| Op1.leq rfl rfl <| CN <| Op1.pickT (u := .bool _) (congrArg Value.bool (decide_eq_true g6)) rfl <| AB rfl <| NL <| Run.forget [(0, .int .u8 _), (10, .bool _)] ⟨rfl, rfl, trivial⟩ fun f => run_cond_dec rfl (fun g7 => ?_) (fun g7 => ?_)
     · skip
       refine run_skip <| run_cond_true (congrArg Value.bool (decide_eq_true g7)) <| SR <| AI rfl <| NL <| run_ret1 Tryd.func32 rfl (TP (v := .int .i64 _) rfl) <| ⟨congrArg (Value.int .i64) ?_, hst.pure⟩
       first | exact (kind1 (by omega)).symm | exact (kind2 (by omega) (by omega)).symm | exact (kind3 (by omega)).symm | exact (kind0 (by omega) (by omega) (by omega)).symm
     refine RG <| MC rfl <| CN <| Op1.eql rfl rfl <| AB rfl <| NL <| run_cond_dec rfl (fun g8 => ?_) (fun g8 => ?_)
     · skip
       refine SR <| AI rfl <| NL <| run_ret1 Tryd.func32 rfl (TP (v := .int .i64 _) rfl) <| ⟨congrArg (Value.int .i64) ?_, hst.pure⟩
       first | exact (kind1 (by omega)).symm | exact (kind2 (by omega) (by omega)).symm | exact (kind3 (by omega)).symm | exact (kind0 (by omega) (by omega) (by omega)).symm
     refine SR <| MC rfl <| CN <| Op1.geq rfl rfl <| MB rfl <| RunL.splitD (d := 28) rfl (fun g9 => ?_) (fun g9 => ?_)
     · skip
       refine TK (t := 28) rfl (congrArg Value.bool (decide_eq_true g9)) <| Op1.move (v := .int .u8 _) rfl <| TK (t := 28) rfl (congrArg Value.bool (decide_eq_true g9)) <| Op1.leq rfl rfl <| CN <| Op1.pickT (u := .bool _) (congrArg Value.bool (decide_eq_true g9)) rfl <| AB rfl <| NL <| run_cond_dec rfl (fun g10 => ?_) (fun g10 => ?_)
       · skip
         refine SR <| AI rfl <| NL <| run_ret1 Tryd.func32 rfl (TP (v := .int .i64 _) rfl) <| ⟨congrArg (Value.int .i64) ?_, hst.pure⟩
         first | exact (kind1 (by omega)).symm | exact (kind2 (by omega) (by omega)).symm | exact (kind3 (by omega)).symm | exact (kind0 (by omega) (by omega) (by omega)).symm
       refine run_skip <| run_inBlock <| SR <| AI rfl <| NL <| run_ret1 Tryd.func32 rfl (TP (v := .int .i64 _) rfl) <| ⟨congrArg (Value.int .i64) ?_, hst.pure⟩
       first | exact (kind1 (by omega)).symm | exact (kind2 (by omega) (by omega)).symm | exact (kind3 (by omega)).symm | exact (kind0 (by omega) (by omega) (by omega)).symm
     refine OM (t := 28) rfl (congrArg Value.bool (decide_eq_false g9)) rfl <| OM (t := 28) rfl (congrArg Value.bool (decide_eq_false g9)) rfl <| CN <| Op1.pickF (u := .bool _) (congrArg Value.bool (decide_eq_false g9)) rfl <| AB rfl <| NL <| run_cond_false (congrArg Value.bool (rfl : false = _)) <| run_skip <| run_inBlock <| SR <| AI rfl <| NL <| run_ret1 Tryd.func32 rfl (TP (v := .int .i64 _) rfl) <| ⟨congrArg (Value.int .i64) ?_, hst.pure⟩
     first | exact (kind1 (by omega)).symm | exact (kind2 (by omega) (by omega)).symm | exact (kind3 (by omega)).symm | exact (kind0 (by omega) (by omega) (by omega)).symm
   refine OM (t := 19) rfl (congrArg Value.bool (decide_eq_false g6)) rfl <| OM (t := 19) rfl (congrArg Value.bool (decide_eq_false g6)) rfl <| CN <| Op1.pickF (u := .bool _) (congrArg Value.bool (decide_eq_false g6)) rfl <| AB rfl <| NL <| Run.forget [(0, .int .u8 _), (10, .bool _)] ⟨rfl, rfl, trivial⟩ fun f => run_cond_false (congrArg Value.bool (rfl : false = _)) <| RG <| MC rfl <| CN <| Op1.eql rfl rfl <| AB rfl <| NL <| run_cond_dec rfl (fun g11 => ?_) (fun g11 => ?_)
   · skip
     refine SR <| AI rfl <| NL <| run_ret1 Tryd.func32 rfl (TP (v := .int .i64 _) rfl) <| ⟨congrArg (Value.int .i64) ?_, hst.pure⟩
     first | exact (kind1 (by omega)).symm | exact (kind2 (by omega) (by omega)).symm | exact (kind3 (by omega)).symm | exact (kind0 (by omega) (by omega) (by omega)).symm
   refine SR <| MC rfl <| CN <| Op1.geq rfl rfl <| MB rfl <| RunL.splitD (d := 28) rfl (fun g12 => ?_) (fun g12 => ?_)
   · skip
     refine TK (t := 28) rfl (congrArg Value.bool (decide_eq_true g12)) <| Op1.move (v := .int .u8 _) rfl <| TK (t := 28) rfl (congrArg Value.bool (decide_eq_true g12)) <| Op1.leq rfl rfl <| CN <| Op1.pickT (u := .bool _) (congrArg Value.bool (decide_eq_true g12)) rfl <| AB rfl <| NL <| run_cond_dec rfl (fun g13 => ?_) (fun g13 => ?_)
     · skip
       refine SR <| AI rfl <| NL <| run_ret1 Tryd.func32 rfl (TP (v := .int .i64 _) rfl) <| ⟨congrArg (Value.int .i64) ?_, hst.pure⟩
       first | exact (kind1 (by omega)).symm | exact (kind2 (by omega) (by omega)).symm | exact (kind3 (by omega)).symm | exact (kind0 (by omega) (by omega) (by omega)).symm
     refine run_skip <| run_inBlock <| SR <| AI rfl <| NL <| run_ret1 Tryd.func32 rfl (TP (v := .int .i64 _) rfl) <| ⟨congrArg (Value.int .i64) ?_, hst.pure⟩
     first | exact (kind1 (by omega)).symm | exact (kind2 (by omega) (by omega)).symm | exact (kind3 (by omega)).symm | exact (kind0 (by omega) (by omega) (by omega)).symm
   refine OM (t := 28) rfl (congrArg Value.bool (decide_eq_false g12)) rfl <| OM (t := 28) rfl (congrArg Value.bool (decide_eq_false g12)) rfl <| CN <| Op1.pickF (u := .bool _) (congrArg Value.bool (decide_eq_false g12)) rfl <| AB rfl <| NL <| run_cond_false (congrArg Value.bool (rfl : false = _)) <| run_skip <| run_inBlock <| SR <| AI rfl <| NL <| run_ret1 Tryd.func32 rfl (TP (v := .int .i64 _) rfl) <| ⟨congrArg (Value.int .i64) ?_, hst.pure⟩
   first | exact (kind1 (by omega)).symm | exact (kind2 (by omega) (by omega)).symm | exact (kind3 (by omega)).symm | exact (kind0 (by omega) (by omega) (by omega)).symm
 refine OM (t := 13) rfl (congrArg Value.bool (decide_eq_false g4)) rfl <| OM (t := 13) rfl (congrArg Value.bool (decide_eq_false g4)) rfl <| CN <| Op1.pickF (u := .bool _) (congrArg Value.bool (decide_eq_false g4)) rfl <| AB rfl <| NL <| run_cond_false (congrArg Value.bool (rfl : false = _)) <| SR <| MC rfl <| CN <| Op1.geq rfl rfl <| MB rfl <| RunL.splitD (d := 19) rfl (fun g14 => ?_) (fun g14 => ?_)
 · skip
   refine TK (t := 19) rfl (congrArg Value.bool (decide_eq_true g14)) <| Op1.move (v := .int .u8 _) rfl <| TK (t := 19) rfl (congrArg Value.bool (decide_eq_true g14)) <| Op1.leq rfl rfl <| CN <| Op1.pickT (u := .bool _) (congrArg Value.bool (decide_eq_true g14)) rfl <| AB rfl <| NL <| Run.forget [(0, .int .u8 _), (10, .bool _)] ⟨rfl, rfl, trivial⟩ fun f => run_cond_dec rfl (fun g15 => ?_) (fun g15 => ?_)
   · skip
     refine run_skip <| run_cond_true (congrArg Value.bool (decide_eq_true g15)) <| SR <| AI rfl <| NL <| run_ret1 Tryd.func32 rfl (TP (v := .int .i64 _) rfl) <| ⟨congrArg (Value.int .i64) ?_, hst.pure⟩
     first | exact (kind1 (by omega)).symm | exact (kind2 (by omega) (by omega)).symm | exact (kind3 (by omega)).symm | exact (kind0 (by omega) (by omega) (by omega)).symm
   refine RG <| MC rfl <| CN <| Op1.eql rfl rfl <| AB rfl <| NL <| run_cond_dec rfl (fun g16 => ?_) (fun g16 => ?_)
   · skip
     refine SR <| AI rfl <| NL <| run_ret1 Tryd.func32 rfl (TP (v := .int .i64 _) rfl) <| ⟨congrArg (Value.int .i64) ?_, hst.pure⟩
     first | exact (kind1 (by omega)).symm | exact (kind2 (by omega) (by omega)).symm | exact (kind3 (by omega)).symm | exact (kind0 (by omega) (by omega) (by omega)).symm
   refine SR <| MC rfl <| CN <| Op1.geq rfl rfl <| MB rfl <| RunL.splitD (d := 28) rfl (fun g17 => ?_) (fun g17 => ?_)
   · skip
     refine TK (t := 28) rfl (congrArg Value.bool (decide_eq_true g17)) <| Op1.move (v := .int .u8 _) rfl <| TK (t := 28) rfl (congrArg Value.bool (decide_eq_true g17)) <| Op1.leq rfl rfl <| CN <| Op1.pickT (u := .bool _) (congrArg Value.bool (decide_eq_true g17)) rfl <| AB rfl <| NL <| run_cond_dec rfl (fun g18 => ?_) (fun g18 => ?_)
     · skip
       refine SR <| AI rfl <| NL <| run_ret1 Tryd.func32 rfl (TP (v := .int .i64 _) rfl) <| ⟨congrArg (Value.int .i64) ?_, hst.pure⟩
       first | exact (kind1 (by omega)).symm | exact (kind2 (by omega) (by omega)).symm | exact (kind3 (by omega)).symm | exact (kind0 (by omega) (by omega) (by omega)).symm
     refine run_skip <| run_inBlock <| SR <| AI rfl <| NL <| run_ret1 Tryd.func32 rfl (TP (v := .int .i64 _) rfl) <| ⟨congrArg (Value.int .i64) ?_, hst.pure⟩
     first | exact (kind1 (by omega)).symm | exact (kind2 (by omega) (by omega)).symm | exact (kind3 (by omega)).symm | exact (kind0 (by omega) (by omega) (by omega)).symm
   refine OM (t := 28) rfl (congrArg Value.bool (decide_eq_false g17)) rfl <| OM (t := 28) rfl (congrArg Value.bool (decide_eq_false g17)) rfl <| CN <| Op1.pickF (u := .bool _) (congrArg Value.bool (decide_eq_false g17)) rfl <| AB rfl <| NL <| run_cond_false (congrArg Value.bool (rfl : false = _)) <| run_skip <| run_inBlock <| SR <| AI rfl <| NL <| run_ret1 Tryd.func32 rfl (TP (v := .int .i64 _) rfl) <| ⟨congrArg (Value.int .i64) ?_, hst.pure⟩
   first | exact (kind1 (by omega)).symm | exact (kind2 (by omega) (by omega)).symm | exact (kind3 (by omega)).symm | exact (kind0 (by omega) (by omega) (by omega)).symm
 refine OM (t := 19) rfl (congrArg Value.bool (decide_eq_false g14)) rfl <| OM (t := 19) rfl (congrArg Value.bool (decide_eq_false g14)) rfl <| CN <| Op1.pickF (u := .bool _) (congrArg Value.bool (decide_eq_false g14)) rfl <| AB rfl <| NL <| Run.forget [(0, .int .u8 _), (10, .bool _)] ⟨rfl, rfl, trivial⟩ fun f => run_cond_false (congrArg Value.bool (rfl : false = _)) <| RG <| MC rfl <| CN <| Op1.eql rfl rfl <| AB rfl <| NL <| run_cond_dec rfl (fun g19 => ?_) (fun g19 => ?_)
 · skip
   refine SR <| AI rfl <| NL <| run_ret1 Tryd.func32 rfl (TP (v := .int .i64 _) rfl) <| ⟨congrArg (Value.int .i64) ?_, hst.pure⟩
   first | exact (kind1 (by omega)).symm | exact (kind2 (by omega) (by omega)).symm | exact (kind3 (by omega)).symm | exact (kind0 (by omega) (by omega) (by omega)).symm
 refine SR <| MC rfl <| CN <| Op1.geq rfl rfl <| MB rfl <| RunL.splitD (d := 28) rfl (fun g20 => ?_) (fun g20 => ?_)
 · skip
   refine TK (t := 28) rfl (congrArg Value.bool (decide_eq_true g20)) <| Op1.move (v := .int .u8 _) rfl <| TK (t := 28) rfl (congrArg Value.bool (decide_eq_true g20)) <| Op1.leq rfl rfl <| CN <| Op1.pickT (u := .bool _) (congrArg Value.bool (decide_eq_true g20)) rfl <| AB rfl <| NL <| run_cond_dec rfl (fun g21 => ?_) (fun g21 => ?_)
   · skip
     refine SR <| AI rfl <| NL <| run_ret1 Tryd.func32 rfl (TP (v := .int .i64 _) rfl) <| ⟨congrArg (Value.int .i64) ?_, hst.pure⟩
     first | exact (kind1 (by omega)).symm | exact (kind2 (by omega) (by omega)).symm | exact (kind3 (by omega)).symm | exact (kind0 (by omega) (by omega) (by omega)).symm
   refine run_skip <| run_inBlock <| SR <| AI rfl <| NL <| run_ret1 Tryd.func32 rfl (TP (v := .int .i64 _) rfl) <| ⟨congrArg (Value.int .i64) ?_, hst.pure⟩
   first | exact (kind1 (by omega)).symm | exact (kind2 (by omega) (by omega)).symm | exact (kind3 (by omega)).symm | exact (kind0 (by omega) (by omega) (by omega)).symm
 refine OM (t := 28) rfl (congrArg Value.bool (decide_eq_false g20)) rfl <| OM (t := 28) rfl (congrArg Value.bool (decide_eq_false g20)) rfl <| CN <| Op1.pickF (u := .bool _) (congrArg Value.bool (decide_eq_false g20)) rfl <| AB rfl <| NL <| run_cond_false (congrArg Value.bool (rfl : false = _)) <| run_skip <| run_inBlock <| SR <| AI rfl <| NL <| run_ret1 Tryd.func32 rfl (TP (v := .int .i64 _) rfl) <| ⟨congrArg (Value.int .i64) ?_, hst.pure⟩
 first | exact (kind1 (by omega)).symm | exact (kind2 (by omega) (by omega)).symm | exact (kind3 (by omega)).symm | exact (kind0 (by omega) (by omega) (by omega)).symm
end Go.SK
namespace Go.SK
open Go Go.Proofs
theorem ty9 : TyF Tryd.prog 9 .string 1 16 [str []] := TyF.of (by kernel_rfl) (by kernel_rfl)
theorem ent32 : Enters Tryd.prog 32 := ⟨Tryd.f32, _, Tryd.func32, by kernel_rfl, rfl⟩
end Go.SK
namespace Go.SK
open Go Go.Proofs
open Go.RowKit
theorem R4lx_run (s : Tx) (w : World) (hl : s.length ≤ 140737488355328) : Ret Tryd.prog 39 #[str s] w (fun v w' => v = str (runF s) ∧ St w NoM [] [] w') := by
 refine Ret.enter (args := [str s]) Tryd.func39 rfl rfl rfl ?_
 have hst := St.init w
 refine SR <| AS rfl <| NSR <| AI rfl <| NL <| SQ <| run_block <| run_loop <| Run.indW [(0, str _)] ⟨rfl, trivial⟩ (fun (qq : Nat) => [(3, .int .i64 (qq : Int))]) (fun (qq : Nat) => []) (fun (qq : Nat) => qq ≤ s.length ∧ (runF s).length = qq + (runF (s.drop qq)).length) (fun (qq : Nat) => s.length - qq) (0) hst ⟨Nat.zero_le _, (Nat.zero_add _).symm⟩ ⟨rfl, trivial⟩ ?_
 intro i f w hst hJ ih1
 replace hst : St _ _ ([] ++ []) _ _ := hst
 replace hJ : i ≤ s.length ∧ (runF s).length = i + (runF (s.drop i)).length := hJ
 refine Run.slots (sl := [(3, .int .i64 (i : Int))]) ⟨rfl, trivial⟩ ?_
 have hidx : kindF (s.getD ((i : Int).toNat) 0) = kindF (s.getD i 0) := rfl
 refine SQ <| SR <| MI rfl <| MS rfl <| CN <| Op1.lenS (rest := []) ty9 rfl <| CN <| Op1.lss rfl rfl <| MB rfl <| RunL.splitD (d := 8) rfl (fun g2 => ?_) (fun g2 => ?_)
 · skip
   refine TK (t := 8) rfl (congrArg Value.bool (decide_eq_true g2)) <| Op1.move (v := str _) rfl <| TK (t := 8) rfl (congrArg Value.bool (decide_eq_true g2)) <| Op1.move (v := .int .i64 _) rfl <| TK (t := 8) rfl (congrArg Value.bool (decide_eq_true g2)) <| Op1.indexS ty9 rfl rfl (by omega) (by omega) <| TK (t := 8) rfl (congrArg Value.bool (decide_eq_true g2)) (Op1.call1 (v1 := .int .u8 _) ent32 rfl rfl ((R4lx_kindOf _ _).mono fun v w hp => ?_))
   obtain ⟨rfl, hp⟩ := hp
   replace hst := hst.keepc hp
   clear hp
   refine TK (t := 8) rfl (congrArg Value.bool (decide_eq_true g2)) <| Op1.geq rfl rfl <| CN <| Op1.pickT (u := .bool _) (congrArg Value.bool (decide_eq_true g2)) rfl <| NL <| run_cond_dec rfl (fun g3 => ?_) (fun g3 => ?_)
   · skip
     refine run_skip <| run_block <| RG <| MI rfl <| CN <| Op1.addN rfl rfl rfl (wrap_i64 (by omega) (by omega)) <| AI rfl <| NL <| run_inBlock <| run_inLoop ?_
     have hs1 := run_step (s := s) (i := i) (by omega) ((kind_run (s.getD i 0)).1 (by omega))
     exact ih1 (i + 1) _ w (by omega) hst (⟨by omega, by omega⟩) ⟨rfl, trivial⟩ ⟨(congrArg (Value.int .i64) (by omega)), trivial⟩
   refine run_exit (id := 0) rfl <| SR <| MS rfl <| MI rfl <| CN <| Op1.sliceTo ty9 rfl rfl (by omega) (by omega) <| AS rfl <| NL <| run_ret1 Tryd.func39 rfl (TP (v := str _) rfl) ?_
   have hz : (runF (s.drop i)).length = 0 := run_stop (by omega) (fun hr => by have := (kind_run (s.getD i 0)).2 hr; omega)
   refine ⟨congrArg str ?_, hst.pure⟩
   exact runF_take s (by omega)
 refine OM (t := 8) rfl (congrArg Value.bool (decide_eq_false g2)) rfl <| OM (t := 8) rfl (congrArg Value.bool (decide_eq_false g2)) rfl <| OM (t := 8) rfl (congrArg Value.bool (decide_eq_false g2)) rfl <| OM (t := 8) rfl (congrArg Value.bool (decide_eq_false g2)) rfl <| OM (t := 8) rfl (congrArg Value.bool (decide_eq_false g2)) rfl <| CN <| Op1.pickF (u := .bool _) (congrArg Value.bool (decide_eq_false g2)) rfl <| NL <| run_cond_false (congrArg Value.bool (rfl : false = _)) <| run_exit (id := 0) rfl <| SR <| MS rfl <| MI rfl <| CN <| Op1.sliceTo ty9 rfl rfl (by omega) (by omega) <| AS rfl ?_
 refine NL <| run_ret1 Tryd.func39 rfl (TP (v := str _) rfl) ?_
 have hz : (runF (s.drop i)).length = 0 := run_end (by omega)
 refine ⟨congrArg str ?_, hst.pure⟩
 exact runF_take s (by omega)
end Go.SK
namespace Go.SK
open Go Go.Proofs
theorem ty33 : TyF Tryd.prog 33 (.int .u32) 1 4 [.int .u32 0] := TyF.of (by kernel_rfl) (by kernel_rfl)
theorem followsMixed : Tryd.prog.follows .mixedOrders = true := by kernel_rfl
end Go.SK
namespace Go.SK
open Go Go.Proofs
open Go.RowKit
open Go.Shelf
def LxG : Res where
 foot := fun b => b = 0 ∨ b = 1 ∨ b = 3
 holds := fun w => (∃ tp p T fz, w.heap[0]? = some (.cells #[.iface tp p] T fz)) ∧ (∃ tp p T fz, w.heap[1]? = some (.cells #[.iface tp p] T fz)) ∧ ∃ T fz, w.heap[3]? = some (.cells (Lib.pow10Tab.map fun z => Value.int .u64 z).toArray T fz)
 stable := fun w w' h hh => by rw [h _ (.inl rfl), h _ (.inr (.inl rfl)), h _ (.inr (.inr rfl))]; exact hh
 inb := fun w hh b hb => by
   obtain ⟨⟨_, _, _, _, h0⟩, ⟨_, _, _, _, h1⟩, ⟨_, _, h3⟩⟩ := hh
   rcases hb with rfl | rfl | rfl
   · exact (Array.getElem?_eq_some_iff.1 h0).1
   · exact (Array.getElem?_eq_some_iff.1 h1).1
   · exact (Array.getElem?_eq_some_iff.1 h3).1
theorem var_of {P : Program} {n : String} {k : Nat} {w : World} {cs : Array Value} {T : TypeId} {fz : Nat × Nat} (hn : P.globalNamed n = some k) (h : w.heap[k]? = some (.cells cs T fz)) : w.var? P n = some cs := by
 simp [World.var?, hn, h]
theorem cell_of {w : World} {k : Nat} {v : Value} {T : TypeId} {fz : Nat × Nat} (h : w.heap[k]? = some (.cells #[v] T fz)) : w.cell? ⟨k, 0, none⟩ = some v := by
 simp [World.cell?, h]
theorem lx_PU10 (s : Tx) (w : World) (hG : LxG.holds w) (hl : s.length ≤ 140737488355328) : Ret Tryd.prog 40 #[str s, .int .i64 10, .int .i64 32] w (fun v w' => (((puO s).isSome = true ∧ v = .tuple #[.int .u64 (puV s : Int), .nilIface]) ∨ ((puO s).isSome = false ∧ ∃ N, v = .tuple #[.int .u64 (puV s : Int), .iface 97 (.pointer (some ⟨N, 0, none⟩))])) ∧ St w NoM [] [] w') := by
 obtain ⟨⟨tp0, p0, _, _, h0⟩, ⟨tp1, p1, _, _, h1⟩, _⟩ := hG
 unfold puO puV
 cases h : Lib.parseUintB 32 s
 · rename_i u
   refine Calls.mono (Any.strconv_ParseUint_10_at32_ok lx_laysPu14 ⟨s.toArray⟩ (by rw [str_size]; omega) u h w) ?_
   rintro e w' ⟨he, hw⟩
   refine ⟨_, he, .inl ⟨rfl, rfl⟩, ?_⟩
   rcases hw with rfl | rfl
   · exact St.init _
   · exact St.ofBelow (Lib.bytesWorld_below _ _ _)
 · refine Calls.mono (Any.strconv_ParseUint_10_at32_syntax_var lx_laysPu14 ⟨s.toArray⟩ (by rw [str_size]; omega) h tp0 p0 w (var_of (by kernel_rfl) h0)) ?_
   rintro e w' ⟨N, he, _, _, hw⟩
   exact ⟨_, he, .inr ⟨rfl, N, rfl⟩, St.ofBelow hw⟩
 · refine Calls.mono (Any.strconv_ParseUint_10_at32_range_var lx_laysPu14 ⟨s.toArray⟩ (by rw [str_size]; omega) h tp1 p1 w (var_of (by kernel_rfl) h1)) ?_
   rintro e w' ⟨N, he, _, _, hw⟩
   exact ⟨_, he, .inr ⟨rfl, N, rfl⟩, St.ofBelow hw⟩
theorem lx_CP (s p : Tx) (w : World) : Ret Tryd.prog 38 #[str s, str p] w (fun v w' => v = .tuple #[str (Lib.trimPrefix s p), .bool (Lib.hasPrefix s p)] ∧ St w NoM [] [] w') :=
 Ret.ofEq (Any.strings_CutPrefix lx_lays103 ⟨s.toArray⟩ ⟨p.toArray⟩ w)
theorem lx_CPc (s p : Tx) (w : World) : Ret Tryd.prog 38 #[str s, str p] w (fun v w' => (s.take p.length = p ∧ v = .tuple #[str (s.drop p.length), .bool true] ∧ St w NoM [] [] w') ∨ (s.take p.length ≠ p ∧ v = .tuple #[str s, .bool false] ∧ St w NoM [] [] w')) :=
 (lx_CP s p w).mono fun v w' ⟨hv, hst⟩ => by
   cases h : Lib.hasPrefix s p
   · exact .inr ⟨(trim_no h).2, by rw [hv, (trim_no h).1, h], hst⟩
   · exact .inl ⟨(trim_yes h).2, by rw [hv, (trim_yes h).1, h], hst⟩
theorem lx_IB (s : Tx) (c : Int) (w : World) : Ret Tryd.prog 41 #[str s, .int .u8 c] w (fun v w' => v = .int .i64 (Lib.indexByte s c.toNat.toUInt8) ∧ St w NoM [] [] w') :=
 Ret.ofEq (Any.strings_IndexByte lx_lays137 ⟨s.toArray⟩ c w)
theorem lx_IX (s : Tx) (c : UInt8) (w : World) : Ret Tryd.prog 75 #[str s, str [c]] w (fun v w' => v = .int .i64 (Lib.indexByte s c) ∧ St w NoM [] [] w') :=
 Ret.ofEq (Any.stringslite_Index_one lx_lays219 ⟨s.toArray⟩ c w)
theorem lx_small (i : Nat) (h : i < 100) (w : World) : Ret Tryd.prog 76 #[.int .i64 (i : Int)] w (fun v w' => v = str (Lib.decDigits i) ∧ St w NoM [] [] w') :=
 Ret.ofEq (Any.internal_strconv_small lx_lays283 i h w)
theorem lx_numDigits (u : Nat) (w : World) (hG : LxG.holds w) (h1 : 1 ≤ u) (h2 : u < 18446744073709551616) : Ret Tryd.prog 77 #[.int .u64 (u : Int)] w (fun v w' => v = .int .i64 (Lib.nDigits u : Int) ∧ St w NoM [] [] w') := by
 obtain ⟨_, _, _, _, h3⟩ := hG
 exact Ret.ofEq (Any.internal_strconv_numDigits lx_laysM284 u h1 h2 w (var_of (by kernel_rfl) h3))
theorem lx_lower (c : Int) (w : World) : Ret Tryd.prog 66 #[.int .u8 c] w (fun v w' => v = .int .u8 (bits .or .u8 c 32) ∧ St w NoM [] [] w') :=
 Ret.ofEq (Any.internal_strconv_lower lx_lays321 c w)
theorem lx_TE (f0 s : Tx) (w : World) (hG : LxG.holds w) (hl : s.length ≤ 140737488355328) : Ret Tryd.prog 56 #[str f0, str s, .int .i64 16, .int .i64 32, .iface 96 (.int .i64 2)] w (fun v w' => (∃ N, v = .iface 97 (.pointer (some ⟨N, 0, none⟩))) ∧ St w NoM [] [] w') := by
 obtain ⟨⟨tp0, p0, _, _, h0⟩, _, _⟩ := hG
 refine Calls.mono (Any.strconv_toError_syntax lx_laysC245 ⟨f0.toArray⟩ ⟨s.toArray⟩ 16 32 (.iface tp0 p0) w (by rw [str_size]; omega) (cell_of h0) (.inr ⟨_, _, rfl⟩)) ?_
 rintro e w' ⟨N, he, _, _, hw⟩
 exact ⟨_, he, ⟨N, rfl⟩, St.ofBelow hw⟩
theorem lx_JoinNone (ao : Option Addr) (cp : Nat) (sep : Tx) (w : World) : Ret Tryd.prog 45 #[.slice ao 0 cp, str sep] w (fun v w' => v = str [] ∧ St w NoM [] [] w') :=
 Ret.ofEq (Any.strings_Join_none lx_lays156 lx_extra156 ao cp ⟨sep.toArray⟩ w)
theorem lx_Join (l : List Tx) (ao : Option Addr) (cp : Nat) (sep : Tx) (w : World) (hR : (Res.rs ao l.length 1 (l.flatMap fun s => [str s])).holds w) (hcp : l.length ≤ cp) (hn : l.length ≤ 140737488355328) (hl : (Lib.join l sep).length ≤ 140737488355328) : Ret Tryd.prog 45 #[.slice ao l.length cp, str sep] w (fun v w' => v = str (Lib.join l sep) ∧ St w NoM [] [] w') := by
 rcases Nat.eq_zero_or_pos l.length with h0 | h0
 · obtain rfl := List.length_eq_zero_iff.1 h0
   exact lx_JoinNone ao cp sep w
 · obtain ⟨b, o, rfl⟩ := Res.rs_some hR h0
   have hm : (l.map fun s => ByteArray.mk s.toArray).map (·.data.toList) = l := by
     rw [List.map_map]; exact (List.map_congr_left (fun s _ => rfl)).trans (List.map_id l)
   have hlen : (l.map fun s => ByteArray.mk s.toArray).length = l.length := List.length_map _
   have := Any.strings_Join lx_lays156 lx_extra156 b o cp (l.map fun s => ⟨s.toArray⟩) ⟨sep.toArray⟩ w (fun j x hx => ?_) (hR |> fun h => (Res.rs (some ⟨b, o, none⟩) l.length 1 (l.flatMap fun s => [str s])).inb w h b ⟨by rw [flat_len (es := 1) (fun _ => rfl)]; omega, o, rfl⟩) (by rw [hlen]; exact hn) (by rw [hlen]; exact hcp) (by rw [hm]; exact hl)
   · rw [hm, hlen] at this
     exact Ret.ofBelow this
   · rw [List.getElem?_map, Option.map_eq_some_iff] at hx
     obtain ⟨s, hs, rfl⟩ := hx
     refine Res.rs_all hR j _ ?_
     have : ∀ l : List Tx, (l.flatMap fun s => [str s]) = l.map str := fun l => by
       induction l with
       | nil => rfl
       | cons a r ih => rw [List.flatMap_cons, ih]; rfl
     rw [this, List.getElem?_map, hs]; rfl
end Go.SK
namespace Go.SK
open Go Go.Proofs Go.RowKit Go.ChangeShapes Go.WideShapes Go.ChangeAt
open Go.Proofs.YtalnjboddfedjaaDoor
theorem var_inv {P : Program} {n : String} {k : Nat} {w : World} {cs : Array Value} (hn : P.globalNamed n = some k) (h : w.var? P n = some cs) : ∃ T fz, w.heap[k]? = some (.cells cs T fz) := by
 unfold World.var? at h
 rw [hn, Option.bind_some] at h
 split at h
 · cases h; rename_i T fz he; exact ⟨_, _, he⟩
 · cases h
theorem lxG_of {W : World} (h : laidMet Tryd.prog Rows.lexNumberRow.laid W) : LxG.holds W := by
 have h3 := Lib.tabIs_of_head (k := .u64) (zs := Lib.pow10Tab) (g := 3) (t := 116) (e := 57) (n := 20) (by kernel_rfl) (by kernel_rfl) Tryd.underlying116 Tryd.underlying57 (by kernel_rfl) (by kernel_rfl) (show laidMet Tryd.prog ((_, Lib.tabData .u64 Lib.pow10Tab) :: _) W from h.tail.tail)
 obtain ⟨a1, s1, hv1, _⟩ := laid_sentinel (g := 1) (ti := 66) (tp := 120) (te := 122) (ts := 9) h.tail.tail.tail (by kernel_rfl) (by kernel_rfl) Tryd.underlying66 (fun u hu => typeName_ptr_named (nm := "errors.errorString") (by kernel_rfl) (by kernel_rfl) (by decide) u (hu.trans (congrArg some (by decide)))) Tryd.underlying120 Tryd.underlying122 rfl rfl Tryd.underlying9 (by kernel_rfl) (by kernel_rfl)
 obtain ⟨a0, s0, hv0, _⟩ := laid_sentinel (g := 0) (ti := 66) (tp := 120) (te := 122) (ts := 9) h.tail.tail.tail.tail (by kernel_rfl) (by kernel_rfl) Tryd.underlying66 (fun u hu => typeName_ptr_named (nm := "errors.errorString") (by kernel_rfl) (by kernel_rfl) (by decide) u (hu.trans (congrArg some (by decide)))) Tryd.underlying120 Tryd.underlying122 rfl rfl Tryd.underlying9 (by kernel_rfl) (by kernel_rfl)
 obtain ⟨T1, f1, hh1⟩ := var_inv (by kernel_rfl) hv1
 obtain ⟨T0, f0, hh0⟩ := var_inv (by kernel_rfl) hv0
 obtain ⟨T3, f3, hh3⟩ := var_inv (by kernel_rfl) h3
 exact ⟨⟨_, _, _, _, hh0⟩, ⟨_, _, _, _, hh1⟩, ⟨_, _, hh3⟩⟩
theorem lx_door (os : Os) (args : Array Value) : laidMet Tryd.prog Rows.lexNumberRow.laid ((World.doorLaid Tryd.prog 400 os).forCall (fun _ _ => 0) ⟨#[], args, []⟩).memory :=
 laidMet_of_run' 8 (by kernel_rfl) (by kernel_rfl)
theorem lx_own : ownKnob Tryd.prog.godebug = none := by kernel_rfl
theorem lx_out : laidOutB Tryd.prog = true := by kernel_rfl
end Go.SK
namespace Go.SK
open Go Go.RowKit Go.ChangeShapes Go.WideShapes Go.ChangeAt
theorem open_str {H : Type} {enc : TypeId × Value → H} {P : Program} {w : World} {base : Nat} {sp : Nat → Bool} {held : Bool} {r : Reach} {b0 : Nat} {t : TypeId} {v : Value} {d : DataW H} {ps : List MemPlace} (ht : P.underlying t = some .string) (hval : Value.okWide P w r b0 t v) (hd : DataW.Trod enc P w base sp held t v d ps) :
   ∃ l : List UInt8, v = str l ∧ d = .lit (.string l) ∧ l.length ≤ 9223372036854775807 := by
 obtain ⟨s, rfl, rfl, _, hs⟩ := Go.ChangeMaps.open_string ht hval hd
 refine ⟨s.data.toList, str_of s, rfl, ?_⟩
 have h3 : s.size = s.data.toList.length := by cases s; rfl
 have : maxLen = 9223372036854775807 := by simp [maxLen]
 omega
end Go.SK
namespace Go.SK
theorem part_pos {s : Tx} {c : UInt8} {k : Nat} (e : partF s = some (c, k)) : 1 ≤ k ∧ k ≤ s.length := by
  cases s with
  | nil => cases e
  | cons a r => have := part_len (s := a :: r) (a := 0) (by simp) e; omega
theorem quoN_fuel : ∀ (n m : Nat) (s : Tx), s.length ≤ n → s.length ≤ m → quoN n s = quoN m s
  | 0, 0, s, _, _ => rfl
  | 0, m + 1, s, h, _ => by
    obtain rfl := List.length_eq_zero_iff.1 (Nat.le_zero.1 h); rfl
  | n + 1, 0, s, _, h => by
    obtain rfl := List.length_eq_zero_iff.1 (Nat.le_zero.1 h); rfl
  | n + 1, m + 1, s, h1, h2 => by
    rw [quoN, quoN]
    split
    · rfl
    · split
      · rfl
      · cases hp : partF s with
        | none => rfl
        | some q =>
          have := part_pos (c := q.1) (k := q.2) hp
          dsimp only
          rw [quoN_fuel n m (s.drop q.2) (by rw [List.length_drop]; omega) (by rw [List.length_drop]; omega)]
def quoA (s : Tx) (a : Nat) : Option (Tx × Nat) := quoN (s.length - a) (s.drop a)
theorem quo_end {s : Tx} {a : Nat} (h : s.length ≤ a) : quoA s a = none := by
  unfold quoA; rw [List.drop_eq_nil_of_le h, show s.length - a = 0 by omega]; rfl
theorem quo_unf {s : Tx} {a : Nat} (h : a < s.length) : quoA s a = if (s.getD a 0).toNat = 34 then some ([], 1) else match partF (s.drop a) with
    | none => none
    | some (c, k) => (quoN (s.length - a - 1) ((s.drop a).drop k)).map fun q => (c :: q.1, k + q.2) := by
  unfold quoA
  rw [show s.length - a = (s.length - a - 1) + 1 by omega, quoN, if_neg (by rw [List.length_drop]; omega)]
  have e : (s.drop a).getD 0 0 = s.getD a 0 := by rw [getD_drop]; rfl
  rw [e]; rfl
theorem quo_mark {s : Tx} {a : Nat} (h : a < s.length) (h1 : (s.getD a 0).toNat = 34) : quoA s a = some ([], 1) := by
  rw [quo_unf h, if_pos h1]
theorem quo_none {s : Tx} {a : Nat} (h : a < s.length) (h1 : ¬ (s.getD a 0).toNat = 34) (h2 : partF (s.drop a) = none) : quoA s a = none := by
  rw [quo_unf h, if_neg h1, h2]
theorem quo_step {s : Tx} {a k : Nat} {c : UInt8} (h : a < s.length) (h1 : ¬ (s.getD a 0).toNat = 34) (h2 : partF (s.drop a) = some (c, k)) : quoA s a = (quoA s (a + k)).map fun q => (c :: q.1, k + q.2) := by
  rw [quo_unf h, if_neg h1, h2]
  dsimp only
  unfold quoA
  have hk := part_len h h2
  rw [List.drop_drop, quoN_fuel (s.length - a - 1) (s.length - (a + k)) _ (by rw [List.length_drop]; omega) (by rw [List.length_drop]; omega)]
def quoI (s : Tx) (a i : Nat) (b : Tx) : Prop := a ≤ i ∧ i ≤ s.length ∧ b.length + a ≤ i ∧ quoA s a = (quoA s i).map fun q => (b ++ q.1, (i - a) + q.2)
theorem quoI_start {s : Tx} {a : Nat} (h : a ≤ s.length) : quoI s a a [] := by
  refine ⟨Nat.le_refl _, h, by simp, ?_⟩
  cases quoA s a with
  | none => rfl
  | some q => simp
theorem quoI_mark {s : Tx} {a i : Nat} {b : Tx} (h : quoI s a i b) (hi : i < s.length) (h1 : (s.getD i 0).toNat = 34) : quoA s a = some (b, i - a + 1) := by
  rw [h.2.2.2, quo_mark hi h1]; simp
theorem quoI_none {s : Tx} {a i : Nat} {b : Tx} (h : quoI s a i b) (hn : quoA s i = none) : quoA s a = none := by
  rw [h.2.2.2, hn]; rfl
theorem quoI_step {s : Tx} {a i k : Nat} {b : Tx} {c : UInt8} (h : quoI s a i b) (hi : i < s.length) (h1 : ¬ (s.getD i 0).toNat = 34) (h2 : partF (s.drop i) = some (c, k)) : quoI s a (i + k) (b ++ [c]) := by
  have hk := part_len hi h2
  refine ⟨by have := h.1; omega, hk.2, by rw [List.length_append, List.length_singleton]; have := h.2.2.1; omega, ?_⟩
  rw [h.2.2.2, quo_step hi h1 h2]
  cases quoA s (i + k) with
  | none => rfl
  | some q =>
    simp only [Option.map_some, List.append_assoc, List.singleton_append]
    congr 2
    have := h.1; omega
def quoP (o : Option (Tx × Nat)) : Tx × Nat := match o with
  | some (t, m) => (t, m + 1)
  | none => ([], 0)
theorem quoP_none {o : Option (Tx × Nat)} : (quoP o).2 = 0 ↔ o = none := by
  cases o with
  | none => exact ⟨fun _ => rfl, fun _ => rfl⟩
  | some q => exact ⟨fun h => absurd h (Nat.succ_ne_zero _), fun h => by cases h⟩
theorem get_none {α : Type} {o : Option (α × Nat)} {d : α} (hpos : ∀ c k, o = some (c, k) → 1 ≤ k) (h : (o.getD (d, 0)).2 = 0) : o = none := by
  cases o with
  | none => rfl
  | some q => have := hpos q.1 q.2 rfl; simp at h; omega
theorem get_some {α : Type} {o : Option (α × Nat)} {d : α} (h : ¬ (o.getD (d, 0)).2 = 0) : o = some ((o.getD (d, 0)).1, (o.getD (d, 0)).2) := by
  cases o with
  | none => exact absurd rfl h
  | some q => rfl
theorem esc_pos {r : Tx} {c : UInt8} {k : Nat} (h : escF r = some (c, k)) : 1 ≤ k := by
  unfold escF at h
  cases hp : partF (92 :: r) with
  | none => rw [hp] at h; cases h
  | some q =>
    have : 2 ≤ q.2 := by
      have hpp : partF ((92 :: r).drop 0) = some q := hp
      rw [part_drop (by simp)] at hpp
      unfold partA at hpp
      have e92 : ((92 :: r).getD 0 0).toNat = 92 := rfl
      rw [if_neg (by omega), if_neg (by omega)] at hpp
      split at hpp
      · cases hpp; show 2 ≤ 2; omega
      · split at hpp
        · cases hpp; show 2 ≤ 4; omega
        · cases hpp
    rw [hp] at h; cases h
    show 1 ≤ q.2 - 1; omega
theorem partV_byte {x : Int} {k : Nat} (h : 0 ≤ x ∧ x ≤ 255) : Value.tuple #[.int .u8 x, .int .i64 (k : Int)] = partV (some (UInt8.ofNat x.toNat, k)) := by
  have : ((UInt8.ofNat x.toNat).toNat : Int) = x := by rw [UInt8.toNat_ofNat']; omega
  unfold partV; dsimp only [Option.getD]; rw [this]
theorem part_plain {s : Tx} {a : Nat} (h : a < s.length) (h1 : ¬ ((s.getD a 0).toNat < 32 ∨ 126 < (s.getD a 0).toNat)) (h2 : (s.getD a 0).toNat ≠ 34) (h3 : (s.getD a 0).toNat ≠ 92) : partF (s.drop a) = some (s.getD a 0, 1) := part_one h (by omega) h3
theorem part_escS {s : Tx} {a : Nat} (h : a < s.length) (hc : (s.getD a 0).toNat = 92) (hn : ¬ ((escF (s.drop (a + 1))).getD (0, 0)).2 = 0) : partF (s.drop a) = some (((escF (s.drop (a + 1))).getD (0, 0)).1, ((escF (s.drop (a + 1))).getD (0, 0)).2 + 1) := by
  rw [part_esc h hc]
  have := get_some hn
  rw [this]; rfl
theorem part_escN {s : Tx} {a : Nat} (h : a < s.length) (hc : (s.getD a 0).toNat = 92) (hn : ((escF (s.drop (a + 1))).getD (0, 0)).2 = 0) : partF (s.drop a) = none := by
  rw [part_esc h hc, get_none (fun c k => esc_pos) hn]; rfl
theorem quo_len : ∀ (n : Nat) (s t : Tx) (m : Nat), quoN n s = some (t, m) → 1 ≤ m ∧ m ≤ s.length ∧ t.length + 1 ≤ m
  | 0, s, t, m, h => by cases h
  | n + 1, s, t, m, h => by
    rw [quoN] at h
    split at h
    · cases h
    · rename_i h0
      split at h
      · cases h; simp; omega
      · cases hp : partF s with
        | none => rw [hp] at h; cases h
        | some q =>
          rw [hp] at h; dsimp only at h
          have hk := part_pos (c := q.1) (k := q.2) hp
          cases hr : quoN n (s.drop q.2) with
          | none => rw [hr] at h; cases h
          | some r =>
            rw [hr] at h; cases h
            have := quo_len n _ r.1 r.2 hr
            rw [List.length_drop] at this
            simp only [List.length_cons]; omega
end Go.SK
namespace Go.SK
open Go.RowKit
section
variable {P : Program} {ty : TypeId} {ρ : Operand → Value} {w : World} {C : Value → World → Prop} {T T2 : TypeId}
theorem Op1.andN {x y : Operand} {k : IntKind} {a b : Int} {m1 m2 : Nat} {c : Int} (hx : ρ x = .int k a) (hy : ρ y = .int k b) (ha : a = (m1 : Int)) (hb : b = (m2 : Int)) (h1 : m1 < 2 ^ k.bits) (h2 : m2 < 2 ^ k.bits) (hc : ((m1 &&& m2 : Nat) : Int) = c) (hw : k.wrap c = c) (h : C (.int k c) w) : Op1 P (.binOp .and T x y T2) ty ρ w C := by
  refine Op1.bits (v := .int k c) hx hy rfl ?_ h
  subst ha; subst hb; subst hc
  have e1 : (BitVec.ofInt k.bits (m1 : Int)).toNat = m1 := by
    rw [BitVec.toNat_ofInt]; rw [← Int.natCast_emod, Int.toNat_natCast]; exact Nat.mod_eq_of_lt h1
  have e2 : (BitVec.ofInt k.bits (m2 : Int)).toNat = m2 := by
    rw [BitVec.toNat_ofInt]; rw [← Int.natCast_emod, Int.toNat_natCast]; exact Nat.mod_eq_of_lt h2
  simp only [Op.intBits, BitVec.toNat_and, e1, e2, hw]
  rfl
theorem Op1.and15 {x y : Operand} {a : Int} {m : Nat} (hx : ρ x = .int .u8 a) (hy : ρ y = .int .u8 15) (ha : a = (m : Int)) (hm : m < 256) (h : C (.int .u8 ((m % 16 : Nat) : Int)) w) : Op1 P (.binOp .and T x y T2) ty ρ w C := by
  have e : m &&& 15 = m % 16 := Nat.and_two_pow_sub_one_eq_mod m 4
  exact Op1.andN (m1 := m) (m2 := 15) hx hy ha rfl hm (by decide) (by rw [e]) (wrap_u8 (by omega) (by omega)) h
end
def qb (s : Tx) (i : Nat) : Tx := 34 :: (s.take i).flatMap quoC
theorem qb_step {s : Tx} {i : Nat} {x : Tx} (h : i < s.length) (hx : quoC (s.getD i 0) = x) : qb s (i + 1) = qb s i ++ x := by
  unfold qb
  have : s.take (i + 1) = s.take i ++ [s.getD i 0] := by
    rw [List.take_add_one]; simp [List.getD, h]
  rw [this, List.flatMap_append, List.flatMap_cons, List.flatMap_nil, List.append_nil, hx, List.cons_append]
theorem quoC_len (c : UInt8) : 1 ≤ (quoC c).length ∧ (quoC c).length ≤ 4 := by
  unfold quoC; split
  · simp
  · split <;> simp
theorem qb_len (s : Tx) (i : Nat) : (qb s i).length ≤ 1 + 4 * i := by
  unfold qb
  have : ∀ l : Tx, (l.flatMap quoC).length ≤ 4 * l.length := fun l => by
    induction l with
    | nil => simp
    | cons c r ih => rw [List.flatMap_cons, List.length_append, List.length_cons]; have := (quoC_len c).2; omega
  have h2 := this (s.take i)
  rw [List.length_cons]; have := List.length_take_le i s; omega
theorem qb_end {s : Tx} {i : Nat} (h : s.length ≤ i) : qb s i ++ [34] = quoteF s := by
  unfold qb quoteF; rw [List.take_of_length_le h, List.cons_append]
theorem quoC_hex {c : UInt8} (h : c.toNat < 32 ∨ 126 < c.toNat) : quoC c = [92, 120, hexD (c.toNat / 16), hexD (c.toNat % 16)] := by unfold quoC; rw [if_pos h]
theorem quoC_esc {c : UInt8} (h : ¬ (c.toNat < 32 ∨ 126 < c.toNat)) (h2 : c.toNat = 34 ∨ c.toNat = 92) : quoC c = [92, c] := by unfold quoC; rw [if_neg h, if_pos h2]
theorem quoC_one {c : UInt8} (h : ¬ (c.toNat < 32 ∨ 126 < c.toNat)) (h2 : ¬ (c.toNat = 34 ∨ c.toNat = 92)) : quoC c = [c] := by unfold quoC; rw [if_neg h, if_neg h2]
theorem hex_tab : ∀ n < 16, ([48, 49, 50, 51, 52, 53, 54, 55, 56, 57, 97, 98, 99, 100, 101, 102] : Tx).getD n 0 = hexD n := by decide
theorem quote_len (s : Tx) : (quoteF s).length ≤ 2 + 4 * s.length := by
  rw [← qb_end (Nat.le_refl s.length), List.length_append]; have := qb_len s s.length; simp; omega
end Go.SK
namespace Go.SK
theorem f_no {b : Bool} (h : b = false) : ¬ b = true := by rw [h]; decide
theorem drop_get0 (s : Tx) (a : Nat) : (s.drop a).getD 0 0 = s.getD a 0 := by rw [getD_drop]; rfl
theorem drop1 (s : Tx) (a : Nat) : (s.drop a).drop 1 = s.drop (a + 1) := List.drop_drop
theorem let_ne {c : UInt8} {n : Nat} (h : letB c = true) (hn : n < 65) : c.toNat ≠ n := by
  unfold letB at h; simp only [decide_eq_true_eq] at h; omega
section
variable {s : Tx} {a : Nat}
theorem tok_word (h : letB (s.getD a 0) = true) : tokF (s.drop a) = .ok (1, runF (s.drop a), (runF (s.drop a)).length) := by
  unfold tokF; dsimp only; rw [drop_get0, if_pos h]
theorem tok_id (h : (s.getD a 0).toNat = 37) : tokF (s.drop a) = if (plainF (runF (s.drop (a + 1)))).isSome = true then .ok (2, runF (s.drop (a + 1)), (runF (s.drop (a + 1))).length + 1) else .error 62 := by
  unfold tokF; dsimp only; rw [drop_get0, drop1, if_neg (fun q => let_ne q (n := 37) (by omega) h), if_pos h]
theorem tok_num (h : digB (s.getD a 0) = true ∨ (s.getD a 0).toNat = 45) : tokF (s.drop a) = if (numLx ((s.drop a).take (1 + (runF (s.drop (a + 1))).length))).2 = 0 then .ok (3, (s.drop a).take (1 + (runF (s.drop (a + 1))).length), ((s.drop a).take (1 + (runF (s.drop (a + 1))).length)).length) else .error 62 := by
  have hl : ¬ letB (s.getD a 0) = true := fun q => by
    rcases h with h | h
    · rw [dig_let h] at q; cases q
    · exact let_ne q (n := 45) (by omega) h
  have h37 : ¬ (s.getD a 0).toNat = 37 := by
    rcases h with h | h
    · have := dig_bd h; omega
    · omega
  unfold tokF; dsimp only; rw [drop_get0, drop1, if_neg hl, if_neg h37, if_pos h]
theorem quoA_eq (s : Tx) (a : Nat) : quoN ((s.drop a).drop 1).length ((s.drop a).drop 1) = quoA s (a + 1) := by
  unfold quoA; rw [drop1, List.length_drop]
theorem tok_str (h : (s.getD a 0).toNat = 34) : tokF (s.drop a) = match quoA s (a + 1) with
    | none => .error 61
    | some (t, n) => .ok (4, t, n + 1) := by
  have hd : ¬ (digB (s.getD a 0) = true ∨ (s.getD a 0).toNat = 45) := fun q => by
    rcases q with q | q
    · have := dig_bd q; omega
    · omega
  unfold tokF; dsimp only; rw [drop_get0, if_neg (fun q => let_ne q (n := 34) (by omega) h), if_neg (by omega), if_neg hd, if_pos h, quoA_eq]; rfl
theorem tok_eq (h : (s.getD a 0).toNat = 61) : tokF (s.drop a) = .ok (5, [61], 1) := by
  have hd : ¬ (digB (s.getD a 0) = true ∨ (s.getD a 0).toNat = 45) := fun q => by
    rcases q with q | q
    · have := dig_bd q; omega
    · omega
  unfold tokF; dsimp only; rw [drop_get0, if_neg (fun q => let_ne q (n := 61) (by omega) h), if_neg (by omega), if_neg hd, if_neg (by omega), if_pos h]
theorem tok_bad (h1 : ¬ letB (s.getD a 0) = true) (h2 : ¬ (s.getD a 0).toNat = 37) (h3 : ¬ digB (s.getD a 0) = true) (h4 : ¬ (s.getD a 0).toNat = 45) (h5 : ¬ (s.getD a 0).toNat = 34) (h6 : ¬ (s.getD a 0).toNat = 61) : tokF (s.drop a) = .error 60 := by
  unfold tokF; dsimp only; rw [drop_get0, if_neg h1, if_neg h2, if_neg (fun q => q.elim h3 h4), if_neg h5, if_neg h6]
theorem tok_idOk (h : (s.getD a 0).toNat = 37) (hp : (plainF (runF (s.drop (a + 1)))).isSome = true) : tokF (s.drop a) = .ok (2, runF (s.drop (a + 1)), (runF (s.drop (a + 1))).length + 1) := by rw [tok_id h, if_pos hp]
theorem tok_idNo (h : (s.getD a 0).toNat = 37) (hp : ¬ (plainF (runF (s.drop (a + 1)))).isSome = true) : tokF (s.drop a) = .error 62 := by rw [tok_id h, if_neg hp]
theorem tok_numOk {t : Tx} (h : digB (s.getD a 0) = true ∨ (s.getD a 0).toNat = 45) (ht : (s.drop a).take (1 + (runF (s.drop (a + 1))).length) = t) (hp : (numLx t).2 = 0) : tokF (s.drop a) = .ok (3, t, t.length) := by rw [tok_num h, ht, if_pos hp]
theorem tok_numNo {t : Tx} (h : digB (s.getD a 0) = true ∨ (s.getD a 0).toNat = 45) (ht : (s.drop a).take (1 + (runF (s.drop (a + 1))).length) = t) (hp : ¬ (numLx t).2 = 0) : tokF (s.drop a) = .error 62 := by rw [tok_num h, ht, if_neg hp]
theorem tok_strNo (h : (s.getD a 0).toNat = 34) (hq : (quoP (quoA s (a + 1))).2 = 0) : tokF (s.drop a) = .error 61 := by rw [tok_str h, quoP_none.1 hq]
theorem tok_strOk (h : (s.getD a 0).toNat = 34) (hq : ¬ (quoP (quoA s (a + 1))).2 = 0) : tokF (s.drop a) = .ok (4, (quoP (quoA s (a + 1))).1, (quoP (quoA s (a + 1))).2) := by
  rw [tok_str h]
  cases e : quoA s (a + 1) with
  | none => rw [e] at hq; exact absurd rfl hq
  | some q => rfl
end
theorem numF_err (s : Tx) : (numLx s).2 = 0 ∨ (numLx s).2 = 62 := by
  unfold numLx
  split
  · exact .inl rfl
  · split
    · split
      · split
        · exact .inl rfl
        · exact .inr rfl
      · exact .inr rfl
    · split
      · exact .inr rfl
      · split
        · exact .inl rfl
        · exact .inr rfl
theorem tokF_len {s t : Tx} {kd : Int} {m : Nat} (h0 : 0 < s.length) (h : tokF s = .ok (kd, t, m)) : 1 ≤ m ∧ m ≤ s.length ∧ t.length ≤ m ∧ 1 ≤ kd ∧ kd ≤ 5 := by
  have hs : s.drop 0 = s := rfl
  have h1 : s.drop (0 + 1) = s.drop 1 := rfl
  have hr := runF_le (s.drop 1)
  rw [List.length_drop] at hr
  by_cases hl : letB (s.getD 0 0) = true
  · have e := tok_word (a := 0) hl
    rw [hs, h] at e; cases e
    have := run_step (s := s) (i := 0) h0 (run_l hl)
    rw [hs] at this
    exact ⟨by omega, runF_le s, Nat.le_refl _, by omega, by omega⟩
  by_cases h37 : (s.getD 0 0).toNat = 37
  · have e := tok_id (a := 0) h37
    rw [hs, h, h1] at e; split at e
    · cases e; exact ⟨by omega, by omega, by omega, by omega, by omega⟩
    · cases e
  by_cases hd : digB (s.getD 0 0) = true ∨ (s.getD 0 0).toNat = 45
  · have e := tok_num (a := 0) hd
    rw [hs, h, h1] at e; split at e
    · cases e
      rw [List.length_take]
      exact ⟨by omega, by omega, by omega, by omega, by omega⟩
    · cases e
  by_cases h34 : (s.getD 0 0).toNat = 34
  · have e := tok_str (a := 0) h34
    rw [hs, h] at e
    cases hq : quoA s (0 + 1) with
    | none => rw [hq] at e; cases e
    | some q =>
      rw [hq] at e; cases e
      have hq2 := quo_len _ _ q.1 q.2 hq
      rw [List.length_drop] at hq2
      exact ⟨by omega, by omega, by omega, by omega, by omega⟩
  by_cases h61 : (s.getD 0 0).toNat = 61
  · have e := tok_eq (a := 0) h61
    rw [hs, h] at e; cases e
    exact ⟨by omega, by omega, by simp, by omega, by omega⟩
  · have e := tok_bad (a := 0) hl h37 (fun q => hd (.inl q)) (fun q => hd (.inr q)) h34 h61
    rw [hs, h] at e; cases e
theorem tokF_err {s : Tx} {e : Int} (h : tokF s = .error e) : e = 60 ∨ e = 61 ∨ e = 62 := by
  unfold tokF at h; dsimp only at h
  split at h
  · cases h
  split at h
  · split at h
    · cases h
    · cases h; omega
  split at h
  · split at h
    · cases h
    · cases h; omega
  split at h
  · split at h
    · cases h; omega
    · cases h
  split at h
  · cases h
  · cases h; omega
theorem toksN_fuel : ∀ (n m : Nat) (s : Tx) (k : Nat), s.length ≤ n → s.length ≤ m → toksN n s k = toksN m s k
  | 0, 0, s, _, _, _ => rfl
  | 0, m + 1, s, k, h, _ => by
    obtain rfl := List.length_eq_zero_iff.1 (Nat.le_zero.1 h); rfl
  | n + 1, 0, s, k, _, h => by
    obtain rfl := List.length_eq_zero_iff.1 (Nat.le_zero.1 h); rfl
  | n + 1, m + 1, s, k, h1, h2 => by
    rw [toksN, toksN]
    split
    · rfl
    · rename_i h0
      have h0' : 0 < s.length := by rcases Nat.eq_zero_or_pos s.length with h | h; exact absurd (.inl h) h0; exact h
      split
      · exact toksN_fuel n m _ _ (by rw [List.length_drop]; omega) (by rw [List.length_drop]; omega)
      · cases hp : tokF s with
        | error e => rfl
        | ok q =>
          have := tokF_len (kd := q.1) (t := q.2.1) (m := q.2.2) h0' hp
          dsimp only
          rw [toksN_fuel n m (s.drop q.2.2) _ (by rw [List.length_drop]; omega) (by rw [List.length_drop]; omega)]
def toksG (s : Tx) (i : Nat) : List TokL × (Int × Int) := toksN (s.length - i) (s.drop i) i
theorem toks_end {s : Tx} {i : Nat} (h : s.length ≤ i ∨ (s.getD i 0).toNat = 59) : toksG s i = ([], (0, 0)) := by
  unfold toksG
  rcases Nat.lt_or_ge i s.length with hi | hi
  · rw [show s.length - i = (s.length - i - 1) + 1 by omega, toksN, if_pos (.inr (by rw [drop_get0]; rcases h with h | h; omega; exact h))]
  · rw [List.drop_eq_nil_of_le hi, show s.length - i = 0 by omega]; rfl
theorem toks_unf {s : Tx} {i : Nat} (hi : i < s.length) (h1 : ¬ (s.getD i 0).toNat = 59) : toksG s i = if blankB (s.getD i 0) = true then toksN (s.length - i - 1) (s.drop (i + 1)) (i + 1) else match tokF (s.drop i) with
    | .error e => ([], (e, (i : Int)))
    | .ok (kd, t, m) =>
        let r := toksN (s.length - i - 1) ((s.drop i).drop m) (i + m)
        if r.2.1 = 0 then (⟨kd, t, (i : Int)⟩ :: r.1, (0, 0)) else ([], r.2) := by
  unfold toksG
  rw [show s.length - i = (s.length - i - 1) + 1 by omega, toksN, if_neg (by rw [drop_get0, List.length_drop]; omega), drop_get0, drop1]; rfl
theorem toks_blank {s : Tx} {i : Nat} (hi : i < s.length) (h1 : ¬ (s.getD i 0).toNat = 59) (h2 : blankB (s.getD i 0) = true) : toksG s i = toksG s (i + 1) := by
  rw [toks_unf hi h1, if_pos h2]; unfold toksG; rw [show s.length - i - 1 = s.length - (i + 1) by omega]
theorem toks_err {s : Tx} {i : Nat} {e : Int} (hi : i < s.length) (h1 : ¬ (s.getD i 0).toNat = 59) (h2 : ¬ blankB (s.getD i 0) = true) (h : tokF (s.drop i) = .error e) : toksG s i = ([], (e, (i : Int))) := by
  rw [toks_unf hi h1, if_neg h2, h]
theorem toks_ok {s t : Tx} {i m : Nat} {kd : Int} (hi : i < s.length) (h1 : ¬ (s.getD i 0).toNat = 59) (h2 : ¬ blankB (s.getD i 0) = true) (h : tokF (s.drop i) = .ok (kd, t, m)) : toksG s i = if (toksG s (i + m)).2.1 = 0 then (⟨kd, t, (i : Int)⟩ :: (toksG s (i + m)).1, (0, 0)) else ([], (toksG s (i + m)).2) := by
  rw [toks_unf hi h1, if_neg h2, h]
  have hm := tokF_len (by rw [List.length_drop]; omega) h
  rw [List.length_drop] at hm
  dsimp only
  unfold toksG
  rw [List.drop_drop, toksN_fuel (s.length - i - 1) (s.length - (i + m)) _ _ (by rw [List.length_drop]; omega) (by rw [List.length_drop]; omega)]
theorem toksF_eq (s : Tx) : toksF s = toksG s 0 := rfl
def joinT (l : List TokL) (r : List TokL × (Int × Int)) : List TokL × (Int × Int) := if r.2.1 = 0 then (l ++ r.1, (0, 0)) else ([], r.2)
def toksI (s : Tx) (i : Nat) (l : List TokL) : Prop := i ≤ s.length ∧ l.length ≤ i ∧ toksF s = joinT l (toksG s i)
theorem toksN_zero : ∀ (n : Nat) (s : Tx) (k : Nat), (toksN n s k).2.1 = 0 → (toksN n s k).2 = (0, 0)
  | 0, s, k, _ => rfl
  | n + 1, s, k, h => by
    rw [toksN] at h ⊢
    split
    · rfl
    · rename_i h0
      rw [if_neg h0] at h
      split
      · rename_i hb; rw [if_pos hb] at h; exact toksN_zero n _ _ h
      · rename_i hb
        rw [if_neg hb] at h
        cases hp : tokF s with
        | error e =>
          rw [hp] at h; dsimp only at h
          have := tokF_err hp; omega
        | ok q =>
          rw [hp] at h
          dsimp only at h ⊢
          split
          · rfl
          · rename_i h3
            rw [if_neg h3] at h
            exact absurd h h3
theorem toksI_start (s : Tx) : toksI s 0 [] := by
  refine ⟨Nat.zero_le _, Nat.le_refl _, ?_⟩
  unfold joinT; rw [← toksF_eq]
  split
  · rename_i h; have := toksN_zero _ _ _ h; exact Prod.ext rfl this
  · rename_i h
    have : (toksF s).1 = [] := by
      have hz : ∀ (n : Nat) (s : Tx) (k : Nat), ¬ (toksN n s k).2.1 = 0 → (toksN n s k).1 = [] := fun n => by
        induction n with
        | zero => intro s k h; exact absurd rfl h
        | succ n ih =>
          intro s k h
          rw [toksN] at h ⊢
          split
          · rfl
          · rename_i h0; rw [if_neg h0] at h
            split
            · rename_i hb; rw [if_pos hb] at h; exact ih _ _ h
            · rename_i hb; rw [if_neg hb] at h
              cases hp : tokF s with
              | error e => rfl
              | ok q =>
                rw [hp] at h; dsimp only at h ⊢
                split
                · rename_i h3; rw [if_pos h3] at h; exact absurd rfl h
                · rfl
      exact hz _ _ _ h
    exact Prod.ext this rfl
theorem toksI_blank {s : Tx} {i : Nat} {l : List TokL} (h : toksI s i l) (hi : i < s.length) (h1 : ¬ (s.getD i 0).toNat = 59) (h2 : blankB (s.getD i 0) = true) : toksI s (i + 1) l :=
  ⟨hi, by have := h.2.1; omega, by rw [h.2.2, toks_blank hi h1 h2]⟩
theorem toksI_end {s : Tx} {i : Nat} {l : List TokL} (h : toksI s i l) (h1 : s.length ≤ i ∨ (s.getD i 0).toNat = 59) : toksF s = (l, (0, 0)) := by
  rw [h.2.2, toks_end h1]; unfold joinT; rw [if_pos rfl, List.append_nil]
theorem toksI_err {s : Tx} {i : Nat} {l : List TokL} {e : Int} (h : toksI s i l) (hi : i < s.length) (h1 : ¬ (s.getD i 0).toNat = 59) (h2 : ¬ blankB (s.getD i 0) = true) (h3 : tokF (s.drop i) = .error e) : toksF s = ([], (e, (i : Int))) := by
  have he := tokF_err h3
  rw [h.2.2, toks_err hi h1 h2 h3]; unfold joinT; rw [if_neg (by dsimp only; omega)]
theorem toksI_ok {s t : Tx} {i m : Nat} {kd : Int} {l : List TokL} (h : toksI s i l) (hi : i < s.length) (h1 : ¬ (s.getD i 0).toNat = 59) (h2 : ¬ blankB (s.getD i 0) = true) (h3 : tokF (s.drop i) = .ok (kd, t, m)) : toksI s (i + m) (l ++ [⟨kd, t, (i : Int)⟩]) := by
  have hm := tokF_len (by rw [List.length_drop]; omega) h3
  rw [List.length_drop] at hm
  refine ⟨by omega, by rw [List.length_append, List.length_singleton]; have := h.2.1; omega, ?_⟩
  rw [h.2.2, toks_ok hi h1 h2 h3]
  unfold joinT
  by_cases hz : (toksG s (i + m)).2.1 = 0
  · rw [if_pos hz, if_pos rfl, if_pos hz, List.append_assoc]; rfl
  · rw [if_neg hz, if_neg hz, if_neg hz]
def tokC (t : TokL) : List Value := [.int .u8 t.kind, str t.text, .int .i64 t.at_]
theorem tokC_len (t : TokL) : (tokC t).length = 3 := rfl
def tok0 : TokL := ⟨0, [], 0⟩
end Go.SK
namespace Go.SK
section
variable {t : TokL}
theorem wr1_ok (h : t.kind = 1) (h0 : t.text ≠ []) (h1 : letB (t.text.getD 0 0) = true) (h2 : runF t.text = t.text) : wrT t = some t.text := by
  have hl : 0 < t.text.length := List.length_pos_iff.2 h0
  unfold wrT; rw [if_pos h, if_pos ⟨hl, h1, h2⟩]
theorem wr1_no (h : t.kind = 1) (hq : ¬ (t.text ≠ [] ∧ letB (t.text.getD 0 0) = true ∧ runF t.text = t.text)) : wrT t = none := by
  unfold wrT; rw [if_pos h, if_neg (fun q => hq ⟨List.length_pos_iff.1 q.1, q.2⟩)]
theorem wr2_ok (h : t.kind = 2) (h1 : (plainF t.text).isSome = true) : wrT t = some (37 :: t.text) := by
  unfold wrT; rw [if_neg (by omega), if_pos h, if_pos h1]
theorem wr2_no (h : t.kind = 2) (h1 : ¬ (plainF t.text).isSome = true) : wrT t = none := by
  unfold wrT; rw [if_neg (by omega), if_pos h, if_neg h1]
theorem wr3_ok (h : t.kind = 3) (h1 : (numLx t.text).2 = 0) : wrT t = some t.text := by
  unfold wrT; rw [if_neg (by omega), if_neg (by omega), if_pos h, if_pos h1]
theorem wr3_no (h : t.kind = 3) (h1 : ¬ (numLx t.text).2 = 0) : wrT t = none := by
  unfold wrT; rw [if_neg (by omega), if_neg (by omega), if_pos h, if_neg h1]
theorem wr4_ok (h : t.kind = 4) : wrT t = some (quoteF t.text) := by
  unfold wrT; rw [if_neg (by omega), if_neg (by omega), if_neg (by omega), if_pos h]
theorem wr5_ok (h : t.kind = 5) (h1 : t.text = [61]) : wrT t = some [61] := by
  unfold wrT; rw [if_neg (by omega), if_neg (by omega), if_neg (by omega), if_neg (by omega), if_pos h, if_pos h1]
theorem wr5_no (h : t.kind = 5) (h1 : ¬ t.text = [61]) : wrT t = none := by
  unfold wrT; rw [if_neg (by omega), if_neg (by omega), if_neg (by omega), if_neg (by omega), if_pos h, if_neg h1]
theorem wr_no (h1 : ¬ t.kind = 1) (h2 : ¬ t.kind = 2) (h3 : ¬ t.kind = 3) (h4 : ¬ t.kind = 4) (h5 : ¬ t.kind = 5) : wrT t = none := by
  unfold wrT; rw [if_neg h1, if_neg h2, if_neg h3, if_neg h4, if_neg h5]
theorem wr_len {x : Tx} (h : wrT t = some x) : x.length + 1 ≤ 4 * t.text.length + 3 := by
  unfold wrT at h
  split at h
  · split at h
    · cases h; omega
    · cases h
  split at h
  · split at h
    · cases h; simp only [List.length_cons]; omega
    · cases h
  split at h
  · split at h
    · cases h; omega
    · cases h
  split at h
  · cases h; have := quote_len t.text; omega
  split at h
  · split at h
    · cases h; simp only [List.length_cons, List.length_nil]; omega
    · cases h
  · cases h
end
def wrL : List TokL → Option (List Tx)
  | [] => some []
  | t :: r => (wrT t).bind fun a => (wrL r).map fun b => a :: b
def wsz : List TokL → Nat
  | [] => 0
  | t :: r => 4 * t.text.length + 3 + wsz r
def osz : List Tx → Nat
  | [] => 0
  | x :: r => x.length + 1 + osz r
theorem osz_app (a b : List Tx) : osz (a ++ b) = osz a + osz b := by
  induction a with
  | nil => simp [osz]
  | cons x r ih => rw [List.cons_append, osz, osz, ih]; omega
theorem join_cons (x y : Tx) (r : List Tx) : Lib.join (x :: y :: r) [32] = x ++ 32 :: Lib.join (y :: r) [32] := by
  unfold Lib.join; rw [List.intercalate_cons_cons]; simp
theorem join_one' (x : Tx) : Lib.join [x] [32] = x := Lib.join_one x [32]
theorem join_len : ∀ l : List Tx, (Lib.join l [32]).length ≤ osz l
  | [] => Nat.zero_le _
  | [x] => by rw [join_one', osz, osz]; omega
  | x :: y :: r => by
    have := join_len (y :: r)
    rw [join_cons, osz, List.length_append, List.length_cons]; omega
theorem wrR_join : ∀ l : List TokL, wrR l = (wrL l).map fun x => x.flatMap fun a => 32 :: a
  | [] => rfl
  | t :: r => by
    rw [wrR, wrL]
    cases wrT t with
    | none => rfl
    | some a =>
      simp only [Option.bind_some]
      rw [wrR_join r]
      cases wrL r with
      | none => rfl
      | some b => simp
theorem wrF_join (l : List TokL) : wrF l = (wrL l).map fun x => Lib.join x [32] := by
  cases l with
  | nil => rfl
  | cons t r =>
    rw [wrF, wrL, wrR_join]
    cases wrT t with
    | none => rfl
    | some a =>
      simp only [Option.bind_some]
      cases wrL r with
      | none => rfl
      | some b =>
        simp only [Option.map_some]; congr 1
        have : ∀ (b : List Tx) (a : Tx), a ++ (b.flatMap fun x => 32 :: x) = Lib.join (a :: b) [32] := fun b => by
          induction b with
          | nil => intro a; rw [join_one']; simp
          | cons c q ih => intro a; rw [join_cons, ← ih c]; simp
        exact this b a
def wrI (l : List TokL) (i : Nat) (o : List Tx) : Prop := i ≤ l.length ∧ o.length = i ∧ osz o + wsz (l.drop i) ≤ wsz l ∧ wrL l = (wrL (l.drop i)).map (o ++ ·)
theorem wrI_start (l : List TokL) : wrI l 0 [] := by
  refine ⟨Nat.zero_le _, rfl, by simp [osz], ?_⟩
  rw [List.drop_zero]; cases wrL l <;> simp
theorem drop_tok {l : List TokL} {i : Nat} (h : i < l.length) : l.drop i = l.getD i tok0 :: l.drop (i + 1) := by
  rw [List.drop_eq_getElem_cons h]; simp [List.getD, h]
theorem wsz_get {l : List TokL} {i : Nat} (h : i < l.length) : 4 * (l.getD i tok0).text.length + 3 + wsz (l.drop (i + 1)) = wsz (l.drop i) := by
  rw [drop_tok h, wsz]
theorem wsz_text {l : List TokL} {i : Nat} {o : List Tx} (hI : wrI l i o) (h : i < l.length) : 4 * (l.getD i tok0).text.length + 3 + osz o ≤ wsz l := by
  have := wsz_get h; have := hI.2.2.1; omega
theorem wrI_step {l : List TokL} {i : Nat} {o : List Tx} {x : Tx} (hI : wrI l i o) (h : i < l.length) (hx : wrT (l.getD i tok0) = some x) : wrI l (i + 1) (o ++ [x]) := by
  refine ⟨h, by rw [List.length_append, List.length_singleton, hI.2.1], ?_, ?_⟩
  · have h1 := wsz_get h; have h2 := hI.2.2.1; have h3 := wr_len hx
    rw [osz_app, osz, osz]; omega
  · rw [hI.2.2.2, drop_tok h, wrL, hx]
    cases wrL (l.drop (i + 1)) with
    | none => rfl
    | some b => simp
theorem wrI_no {l : List TokL} {i : Nat} {o : List Tx} (hI : wrI l i o) (h : i < l.length) (hx : wrT (l.getD i tok0) = none) : wrF l = none := by
  rw [wrF_join, hI.2.2.2, drop_tok h, wrL, hx]; rfl
theorem wrI_end {l : List TokL} {i : Nat} {o : List Tx} (hI : wrI l i o) (h : l.length ≤ i) : wrF l = some (Lib.join o [32]) := by
  rw [wrF_join, hI.2.2.2, List.drop_eq_nil_of_le h, wrL]; simp
end Go.SK
namespace Go.SK
abbrev strC (s : Tx) : List Value := [str s]
def wrS (l : List TokL) : Tx := (wrF l).getD []
def wrE (l : List TokL) : Int := if (wrF l).isSome = true then 0 else 2
theorem wrSE_some {l : List TokL} {x : Tx} (h : wrF l = some x) : wrS l = x ∧ wrE l = 0 := by unfold wrS wrE; rw [h]; exact ⟨rfl, rfl⟩
theorem wrSE_none {l : List TokL} (h : wrF l = none) : wrS l = [] ∧ wrE l = 2 := by unfold wrS wrE; rw [h]; exact ⟨rfl, rfl⟩
end Go.SK
namespace Go.SK
def awT : List TokL := [⟨2, [53], 0⟩, ⟨5, [61], 3⟩, ⟨1, [79, 112, 73, 65, 100, 100], 5⟩, ⟨3, [45, 49], 12⟩, ⟨4, [97], 15⟩]
def awW : Tx := [37, 53, 32, 61, 32, 79, 112, 73, 65, 100, 100, 32, 45, 49, 32, 34, 97, 34]
theorem awT_eq : toksF awL = (awT, (0, 0)) := aw_toks
theorem awT_wr : wrF awT = some awW := by have h := aw_wr; rw [aw_toks] at h; exact h
end Go.SK
namespace Go.SK
def cutA (r : Tx) : Tx := r.takeWhile fun c => decide (c.toNat ≠ 10)
def cutB (r : Tx) : Tx := r.drop ((cutA r).length + 1)
def lnN : Nat → Tx → List Tx
  | 0, _ => []
  | n + 1, r => if r.length = 0 then [] else cutA r :: lnN n (cutB r)
def lnF (r : Tx) : List Tx := lnN r.length r
theorem cutB_len (r : Tx) : (cutB r).length ≤ r.length - 1 := by unfold cutB; rw [List.length_drop]; omega
theorem lnN_fuel : ∀ (n m : Nat) (r : Tx), r.length ≤ n → r.length ≤ m → lnN n r = lnN m r
  | 0, 0, r, _, _ => rfl
  | 0, m + 1, r, h, _ => by rw [lnN, lnN, if_pos (by omega)]
  | n + 1, 0, r, _, h => by rw [lnN, lnN, if_pos (by omega)]
  | n + 1, m + 1, r, h1, h2 => by
    rw [lnN, lnN]
    split
    · rfl
    · rw [lnN_fuel n m (cutB r) (by have := cutB_len r; omega) (by have := cutB_len r; omega)]
theorem lnF_nil {r : Tx} (h : r.length = 0) : lnF r = [] := by
  unfold lnF; rw [h]; rfl
theorem lnF_cons {r : Tx} (h : 0 < r.length) : lnF r = cutA r :: lnF (cutB r) := by
  unfold lnF
  rw [show r.length = (r.length - 1) + 1 by omega, lnN, if_neg (by omega), lnN_fuel (r.length - 1) (cutB r).length (cutB r) (by have := cutB_len r; omega) (Nat.le_refl _)]
theorem cutA_cons (c : UInt8) (r : Tx) : cutA (c :: r) = if c.toNat = 10 then [] else c :: cutA r := by
  unfold cutA; rw [List.takeWhile_cons]
  by_cases h : c.toNat = 10
  · rw [if_pos h, if_neg (by simp [h])]
  · rw [if_neg h, if_pos (by simp [h])]
theorem cut_all : ∀ {r : Tx}, (∀ j, j < r.length → (r.getD j 0).toNat ≠ 10) → cutA r = r ∧ cutB r = []
  | [], _ => ⟨rfl, rfl⟩
  | c :: r, h => by
    have h0 : c.toNat ≠ 10 := h 0 (by simp)
    have ih := cut_all (r := r) fun j hj => h (j + 1) (by simpa using hj)
    have e : cutA (c :: r) = c :: r := by rw [cutA_cons, if_neg h0, ih.1]
    refine ⟨e, ?_⟩
    unfold cutB; rw [e]; exact List.drop_eq_nil_of_le (by omega)
theorem cut_at : ∀ {r : Tx} {k : Nat}, k < r.length → (∀ j, j < k → (r.getD j 0).toNat ≠ 10) → (r.getD k 0).toNat = 10 → cutA r = r.take k ∧ cutB r = r.drop (k + 1)
  | [], k, h, _, _ => by simp at h
  | c :: r, 0, _, _, h => by
    have h0 : c.toNat = 10 := h
    have e : cutA (c :: r) = [] := by rw [cutA_cons, if_pos h0]
    refine ⟨e, ?_⟩
    unfold cutB; rw [e]; rfl
  | c :: r, k + 1, hk, hn, h => by
    have h0 : c.toNat ≠ 10 := hn 0 (by omega)
    have ih := cut_at (r := r) (k := k) (by simpa using hk) (fun j hj => hn (j + 1) (by omega)) h
    have e : cutA (c :: r) = (c :: r).take (k + 1) := by rw [cutA_cons, if_neg h0, ih.1]; rfl
    refine ⟨e, ?_⟩
    unfold cutB; rw [e, List.length_take, Nat.min_eq_left (by omega)]
theorem idx_ge (l : Tx) : -1 ≤ Lib.indexByte l 10 := Lib.indexByte_ge l 10
theorem idx_cases : ∀ r : Tx, (Lib.indexByte r 10 = -1 ∧ ∀ j, j < r.length → (r.getD j 0).toNat ≠ 10) ∨ ∃ k, k < r.length ∧ Lib.indexByte r 10 = (k : Int) ∧ (∀ j, j < k → (r.getD j 0).toNat ≠ 10) ∧ (r.getD k 0).toNat = 10
  | [] => .inl ⟨rfl, fun j h => absurd h (Nat.not_lt_zero _)⟩
  | c :: r => by
    by_cases h : c = 10
    · subst h
      exact .inr ⟨0, by simp, rfl, fun j hj => absurd hj (Nat.not_lt_zero _), rfl⟩
    · have hb : (c == 10) = false := by rw [beq_eq_false_iff_ne]; exact h
      have h0 : c.toNat ≠ 10 := fun e => h (UInt8.toNat_inj.1 e)
      rcases idx_cases r with ⟨h1, h2⟩ | ⟨k, h1, h2, h3, h4⟩
      · refine .inl ⟨?_, fun j hj => ?_⟩
        · unfold Lib.indexByte; rw [hb, h1]; rfl
        · cases j with
          | zero => exact h0
          | succ j => exact h2 j (by simpa using hj)
      · refine .inr ⟨k + 1, by simpa using h1, ?_, fun j hj => ?_, h4⟩
        · unfold Lib.indexByte; rw [hb, h2]
          have : ((k : Int) == -1) = false := by rw [beq_eq_false_iff_ne]; omega
          simp only [this]; rfl
        · cases j with
          | zero => exact h0
          | succ j => exact h3 j (by omega)
theorem idx_neg {r : Tx} (h : Lib.indexByte r 10 < 0) : cutA r = r ∧ cutB r = [] := by
  rcases idx_cases r with ⟨_, h2⟩ | ⟨k, _, h2, _, _⟩
  · exact cut_all h2
  · omega
theorem idx_pos {r : Tx} (h : ¬ Lib.indexByte r 10 < 0) : Lib.indexByte r 10 < r.length ∧ cutA r = r.take (Lib.indexByte r 10).toNat ∧ cutB r = r.drop (Lib.indexByte r 10 + 1).toNat := by
  rcases idx_cases r with ⟨h1, h2⟩ | ⟨k, h1, h2, h3, h4⟩
  · omega
  · have := cut_at h1 h3 h4
    rw [h2]; exact ⟨by omega, this.1, by rw [this.2]; congr 1⟩
theorem lnF_len : ∀ (n : Nat) (r : Tx), r.length ≤ n → (lnF r).length ≤ r.length
  | 0, r, h => by rw [lnF_nil (by omega)]; exact Nat.zero_le _
  | n + 1, r, h => by
    rcases Nat.eq_zero_or_pos r.length with h0 | h0
    · rw [lnF_nil h0]; exact Nat.zero_le _
    · have h1 := cutB_len r
      have := lnF_len n (cutB r) (by omega)
      rw [lnF_cons h0, List.length_cons]; omega
theorem lines_len (r : Tx) : (lnF r).length ≤ r.length := lnF_len _ r (Nat.le_refl _)
def lnR (t : Tx) (i : Nat) (r : Tx) : Prop := i ≤ (lnF t).length ∧ (lnF t).drop i = lnF r ∧ r.length ≤ t.length
theorem lnR_start (t : Tx) : lnR t 0 t := ⟨Nat.zero_le _, rfl, Nat.le_refl _⟩
theorem lnR_in {t r : Tx} {i : Nat} (h : lnR t i r) (hr : r ≠ []) : i < (lnF t).length ∧ (lnF t).getD i [] = cutA r ∧ lnR t (i + 1) (cutB r) ∧ (cutB r).length < r.length := by
  have hp := List.length_pos_iff.2 hr
  have e := h.2.1
  rw [lnF_cons hp] at e
  have hi : i < (lnF t).length := by
    rcases Nat.lt_or_ge i (lnF t).length with h1 | h1
    · exact h1
    · rw [List.drop_eq_nil_of_le h1] at e; cases e
  rw [List.drop_eq_getElem_cons hi] at e
  injection e with e1 e2
  have hb := cutB_len r
  have hl := h.2.2
  refine ⟨hi, ?_, ⟨hi, e2, by omega⟩, by omega⟩
  rw [← e1]; simp [List.getD, hi]
theorem lnR_out {t : Tx} {i : Nat} (h : lnR t i []) : i = (lnF t).length := by
  have e := h.2.1
  rw [lnF_nil (r := ([] : Tx)) rfl] at e
  have := congrArg List.length e
  rw [List.length_drop] at this
  have := h.1
  simp at *; omega
end Go.SK
namespace Go.SK
open Go Go.Proofs
theorem ty3 : TyF Tryd.prog 3 (.int .i64) 1 8 [.int .i64 0] := TyF.of (by kernel_rfl) (by kernel_rfl)
theorem ent76 : Enters Tryd.prog 76 := ⟨Tryd.f76, _, Tryd.func76, by kernel_rfl, rfl⟩
theorem ty103 : TyF Tryd.prog 103 (.array 24 5) 24 24 [.int .u8 0, .int .u8 0, .int .u8 0, .int .u8 0, .int .u8 0, .int .u8 0, .int .u8 0, .int .u8 0, .int .u8 0, .int .u8 0, .int .u8 0, .int .u8 0, .int .u8 0, .int .u8 0, .int .u8 0, .int .u8 0, .int .u8 0, .int .u8 0, .int .u8 0, .int .u8 0, .int .u8 0, .int .u8 0, .int .u8 0, .int .u8 0] := TyF.of (by kernel_rfl) (by kernel_rfl)
theorem ent77 : Enters Tryd.prog 77 := ⟨Tryd.f77, _, Tryd.func77, by kernel_rfl, rfl⟩
theorem ent78 : Enters Tryd.prog 78 := ⟨Tryd.f78, _, Tryd.func78, by kernel_rfl, rfl⟩
theorem ty70 : TyF Tryd.prog 70 (.slice 5) 1 24 [.slice none 0 0] := TyF.of (by kernel_rfl) (by kernel_rfl)
theorem ent64 : Enters Tryd.prog 64 := ⟨Tryd.f64, _, Tryd.func64, by kernel_rfl, rfl⟩
end Go.SK
namespace Go.SK
open Go Go.Proofs
open Go.RowKit
theorem lx_FB (b u k : Nat) (xs : List Value) (hx : xs = List.replicate 24 (Value.int .u8 0)) (w : World) (hR : (Res.row b 103 xs).holds w) (hk : k = Lib.nDigits u) (hu : u < 4294967296) : Ret Tryd.prog 78 #[.slice (some ⟨b, 0, none⟩) k 24, .int .u64 (u : Int)] w (fun v w' => ∃ ys, (ys.drop 0).take k = (Lib.decDigits u).flatMap byC ∧ v = .tuple #[] ∧ St w (Res.row b 103 xs).foot [Res.row b 103 ys] [] w') := by
 have h10 : Lib.nDigits u ≤ 10 := nDigits_le (u := u) (k := 9) (by omega)
 have hsz : (Array.replicate k (0 : UInt8)).size = k := by simp
 have hpow := Lib.lt_pow_nDigits u
 have hc := Any.internal_strconv_formatBase10 lx_lays285 b 0 24 u (Array.replicate k (0 : UInt8)) w (fun j hj => ?_) (by rw [hsz, hk]; exact hpow) (by omega) (by rw [hsz]; omega)
 · rw [hsz] at hc
   refine Calls.mono hc ?_
   rintro e w' ⟨he, n, v', dk, rfl, hf⟩
   obtain ⟨hkp, hnew⟩ := putRow_kept (fun (b : UInt8) => Value.int .u8 (b.toNat : Int)) w b 0 dk n hR
   refine ⟨_, he, _, ?_, rfl, (St.enter1 hR (fun d hd => by cases hd) (fun d hd => by cases hd)).upd .here hkp (r' := Res.row b 103 (Sort.putCells (fun (b : UInt8) => Value.int .u8 (b.toNat : Int)) 0 dk xs.toArray).toList) ?_ (fun c hc => .inl hc)⟩
   · rw [List.drop_zero]; exact fmt_row hf hk xs (by rw [hx, List.length_replicate]; omega)
   · show _ = some _
     rw [hnew]
 · rw [hsz] at hj
   have hR' : w.heap[b]? = some (.cells xs.toArray 103 (0, 0)) := hR
   refine ⟨?_, by simp [World.frozen?, hR']⟩
   have hx2 : xs[j]? = some (.int .u8 0) := by rw [hx, List.getElem?_replicate, if_pos (by omega)]
   simp [World.cell?, hR', hx2, hj]
theorem R4lx_iFU (u : Nat) (hu : u < 4294967296) (w : World) (hG : LxG.holds w) : Ret Tryd.prog 64 #[.int .u64 (u : Int), .int .i64 10] w (fun v w' => v = str (Lib.decDigits u) ∧ St w NoM [] [] w') := by
 refine Ret.enter (args := [.int .u64 (u : Int), .int .i64 10]) Tryd.func64 rfl rfl rfl ?_
 have hst : St w NoM [] [LxG] w := St.init_Ds (by simp only [List.forall_mem_cons]; exact ⟨hG, fun _ h => absurd h List.not_mem_nil⟩)
 have h10 : Lib.nDigits u ≤ 10 := nDigits_le (u := u) (k := 9) (by omega)
 have hpos := Lib.nDigits_pos u
 refine SR <| AS rfl <| NL <| SQ <| SR <| MI rfl <| CN <| Op1.eql rfl rfl <| NL <| run_cond_dec rfl (fun g1 => ?_) (fun g1 => ?_)
 · skip
   refine SQ <| SR <| CN <| Op1.move (v := .int .u64 _) rfl <| CN <| Op1.lss rfl rfl <| NL <| run_cond_dec rfl (fun g2 => ?_) (fun g2 => ?_)
   · skip
     refine SR <| CN (Op1.move (v := .int .u64 _) rfl ?_)
     first | refine CN (Op1.convN ty57 ty3 rfl (wrap_i64 (by omega) (by omega)) ?_) | refine CN (Op1.conv ty57 ty3 rfl ?_)
     refine CN <| Op1.call1 (v1 := .int .i64 _) ent76 rfl rfl <| Ret.det (lx_small u (by omega) _) hst fun w hst => AS rfl <| NL <| run_ret1 Tryd.func64 rfl (TP (v := str _) rfl) ?_
     exact ⟨rfl, hst.pure⟩
   refine run_skip <| SR <| CN <| Op1.alloc hst ty103 fun w b5 hst => NSR <| CN <| Op1.move (v := .int .u64 _) rfl <| CN <| Op1.call1 (v1 := .int .u64 _) ent77 rfl rfl <| Ret.det (lx_numDigits u _ (hst.hD _ (.head _)) (by omega) (by omega)) hst fun w hst => AI rfl <| NSR <| MI rfl <| CN (Op1.sliceArrTo (hi := Lib.nDigits u) ty103 ty5 rfl rfl rfl (by omega) ?_)
   refine CN <| Op1.move (v := .int .u64 _) rfl <| CN (Op1.call2 (v1 := .slice _ _ _) (v2 := .int .u64 _) ent78 rfl rfl rfl ((lx_FB b5 u _ _ rfl _ (hst.hL _ (.head _)) rfl (by omega)).mono fun v w hp => ?_))
   obtain ⟨ys, hys, rfl, hp⟩ := hp
   replace hst := hst.call1 hp
   clear hp
   replace hst : St _ _ [Res.row b5 103 ys] _ _ := hst
   refine NSR <| MI rfl <| CN <| Op1.sliceArrTo (hi := Lib.nDigits u) ty103 ty5 rfl rfl rfl (by omega) <| CN <| Op1.bytesStr2 (l := Lib.decDigits u) ty70 ty5 ty9 rfl (dec_len u).symm ⟨by rw [flat_len (es := 1) (fun _ => rfl), dec_len, Nat.mul_one], .inr ⟨b5, 0, rfl, cells_of_obj (n := Lib.nDigits u) (hst.objL (.head _)) _ hys⟩⟩ rfl <| AS rfl <| NL <| run_ret1 Tryd.func64 rfl (TP (v := str _) rfl) ?_
   exact ⟨rfl, hst.pure⟩
 exfalso
 exact g1 rfl
theorem R4lx_FU (u : Nat) (hu : u < 4294967296) (w : World) (hG : LxG.holds w) : Ret Tryd.prog 53 #[.int .u64 (u : Int), .int .i64 10] w (fun v w' => v = str (Lib.decDigits u) ∧ St w NoM [] [] w') := by
 refine Ret.enter (args := [.int .u64 (u : Int), .int .i64 10]) Tryd.func53 rfl rfl rfl ?_
 have hst : St w NoM [] [LxG] w := St.init_Ds (by simp only [List.forall_mem_cons]; exact ⟨hG, fun _ h => absurd h List.not_mem_nil⟩)
 refine SR <| AS rfl <| NSR <| CN <| Op1.move (v := .int .u64 _) rfl <| MI rfl <| CN <| Op1.call2 (v1 := .int .u64 _) (v2 := .int .i64 _) ent64 rfl rfl rfl <| Ret.det (R4lx_iFU u hu _ (hst.hD _ (.head _))) hst fun w hst => AS rfl <| NL <| run_ret1 Tryd.func53 rfl (TP (v := str _) rfl) ?_
 exact ⟨rfl, hst.pure⟩
end Go.SK
namespace Go.SK
open Go Go.Proofs
theorem ty96 : TyF Tryd.prog 96 (.int .i64) 1 8 [.int .i64 0] := TyF.of (by kernel_rfl) (by kernel_rfl)
theorem ty71 : TyF Tryd.prog 71 (.int .u64) 1 8 [.int .u64 0] := TyF.of (by kernel_rfl) (by kernel_rfl)
theorem ent66 : Enters Tryd.prog 66 := ⟨Tryd.f66, _, Tryd.func66, by kernel_rfl, rfl⟩
end Go.SK
namespace Go.SK
open Go Go.Proofs
open Go.RowKit
theorem R4lx_iPU16 (s : Tx) (hl : s.length ≤ 8) (w : World) : Ret Tryd.prog 55 #[str s, .int .i64 16, .int .i64 32] w (fun v w' => ((∃ n, s.length ≠ 0 ∧ hexsF s 0 = some n ∧ v = .tuple #[.int .u64 (n : Int), .nilIface]) ∨ ((s.length = 0 ∨ hexsF s 0 = none) ∧ v = .tuple #[.int .u64 0, .iface 96 (.int .i64 2)])) ∧ St w NoM [] [] w') := by
 refine Ret.enter (args := [str s, .int .i64 16, .int .i64 32]) Tryd.func55 rfl rfl rfl ?_
 have hst := St.init w
 refine SR <| CN <| Op1.assign (v := .int .u64 _) rfl <| CN <| Op1.assign (v := .nilIface) rfl <| NL <| SQ <| SR <| MS rfl <| CN <| Op1.eqlS rfl rfl <| NL <| run_cond_dec rfl (fun g1 => ?_) (fun g1 => ?_)
 · skip
   refine SR <| CN <| Op1.mkIface (v := .int .i64 _) ty96 rfl rfl <| CN <| Op1.assign (v := .int .u64 _) rfl <| CN <| Op1.assign (v := .iface _ _) rfl <| NL <| run_ret2 Tryd.func55 rfl (TP (v := .int .u64 _) rfl) (TP (v := .iface _ _) rfl) ?_
   subst g1
   exact ⟨.inr ⟨.inl rfl, rfl⟩, hst.pure⟩
 refine run_skip <| SR <| MI rfl <| CN <| Op1.eql rfl rfl <| AB rfl <| NSR <| MS rfl <| AS rfl <| NL <| SQ <| run_block <| SQ ?_
 refine RG <| MI rfl <| CN <| Op1.leq rfl rfl <| MB rfl <| RunL.splitD (d := 28) rfl (fun g2 => ?_) (fun g2 => ?_)
 · skip
   refine TK (t := 28) rfl (congrArg Value.bool (decide_eq_true g2)) <| Op1.move (v := .int .i64 _) rfl <| TK (t := 28) rfl (congrArg Value.bool (decide_eq_true g2)) <| Op1.leq rfl rfl <| CN <| Op1.pickT (u := .bool _) (congrArg Value.bool (decide_eq_true g2)) rfl <| AB rfl <| NL <| run_cond_dec rfl (fun g3 => ?_) (fun g3 => ?_)
   · skip
     refine run_skip <| run_inBlock <| SQ <| SR <| MI rfl <| CN <| Op1.eql rfl rfl <| NL <| run_cond_dec rfl (fun g4 => ?_) (fun g4 => ?_)
     · skip
       exfalso
       omega
     refine SR <| MI rfl <| CN <| Op1.lss rfl rfl <| MB rfl <| RunL.splitD (d := 80) rfl (fun g5 => ?_) (fun g5 => ?_)
     · skip
       exfalso
       omega
     refine TK (t := 80) rfl (congrArg Value.bool (decide_eq_false g5)) <| Op1.move (v := .int .i64 _) rfl <| TK (t := 80) rfl (congrArg Value.bool (decide_eq_false g5)) <| Op1.gtr rfl rfl <| CN <| Op1.pickF (u := .bool _) (congrArg Value.bool (decide_eq_false g5)) rfl <| NL <| Run.forget [(0, str _), (1, .int .i64 _), (2, .int .i64 _), (8, .bool _), (9, str _), (83, .bool _)] ⟨rfl, rfl, rfl, rfl, rfl, rfl, trivial⟩ fun f => run_cond_dec rfl (fun g6 => ?_) (fun g6 => ?_)
     · skip
       exfalso
       omega
     refine run_skip <| SR <| CN <| Op1.assign (v := .int .u64 _) rfl <| NL <| SQ <| SR <| MI rfl <| NL <| run_block <| SR <| CN <| Op1.eql rfl rfl <| AB rfl ?_
     refine NL <| run_cond_dec rfl (fun g7 => ?_) (fun g7 => ?_)
     · skip
       exfalso
       omega
     refine SR <| CN <| Op1.eql rfl rfl <| AB rfl <| NL <| run_cond_dec rfl (fun g8 => ?_) (fun g8 => ?_)
     · skip
       refine RG <| CN <| Op1.assign (v := .int .u64 _) rfl <| NL <| run_inBlock <| SR <| MI rfl ?_
       first | refine CN (Op1.convN ty3 ty71 rfl (wrap_u64 (by omega) (by omega)) ?_) | refine CN (Op1.conv ty3 ty71 rfl ?_)
       refine CN <| Op1.shlV (c := 4294967296) rfl rfl (by omega) (by decide) (by decide) <| CN <| Op1.subN rfl rfl rfl (wrap_u64 (by omega) (by omega)) <| CN <| Op1.assign (v := .int .u64 _) rfl <| NSR <| AB rfl <| NSR <| CN <| Op1.assign (v := .int .u64 _) rfl <| NL <| SQ <| SQ <| RG ?_
       refine MS rfl <| CN <| Op1.strBytes hst ty9 ty70 ty5 rfl fun w by_ cpb hst => CN <| Op1.lenSl (rest := []) ty70 rfl <| MI rfl <| NL <| run_block <| run_loop <| Run.indW [(1, .int .i64 _), (8, .bool _), (9, str _), (10, .int .u64 _), (11, .int .u64 _), (99, .slice _ _ _), (100, .int .i64 _)] ⟨rfl, rfl, rfl, rfl, rfl, rfl, rfl, trivial⟩ (fun (qq : Nat × Nat) => [(12, .bool false), (13, .int .u64 (qq.2 : Int)), (101, .int .i64 (qq.1 : Int))]) (fun (qq : Nat × Nat) => []) (fun (qq : Nat × Nat) => qq.1 ≤ s.length ∧ qq.2 < 16 ^ qq.1 ∧ hexsF s 0 = hexsF (s.drop qq.1) qq.2) (fun (qq : Nat × Nat) => s.length - qq.1) ((0, 0)) hst ⟨Nat.zero_le _, by decide, rfl⟩ ⟨rfl, rfl, rfl, trivial⟩ ?_
       intro ⟨i, n⟩ f w hst hJ ih9
       replace hst : St _ _ ([] ++ [_]) _ _ := hst
       replace hJ : i ≤ s.length ∧ n < 16 ^ i ∧ hexsF s 0 = hexsF (s.drop i) n := hJ
       refine Run.slots (sl := [(12, .bool false), (13, .int .u64 (n : Int)), (101, .int .i64 (i : Int))]) ⟨rfl, rfl, rfl, trivial⟩ ?_
       have hidx : (s.getD ((i : Int).toNat) 0).toNat = (s.getD i 0).toNat := rfl
       have hidl : bits .or .u8 ((s.getD ((i : Int).toNat) 0).toNat : Int) 32 = bits .or .u8 ((s.getD i 0).toNat : Int) 32 := rfl
       have hlow := low_nat _ (s.getD i 0).toNat_lt
       refine SR <| CN <| Op1.lss rfl rfl <| NL <| SQ <| run_cond_dec rfl (fun g10 => ?_) (fun g10 => ?_)
       · skip
         have hp16 := pow16_le (i := i) (by omega)
         refine run_skip <| SQ <| run_block <| SR <| CN <| Op1.indexRs ty70 ty5 (hst.hL _ (.head _)) rfl rfl (by omega) (by omega) <| CN <| Op1.load1 (v := .int .u8 _) ty5 rfl rfl (Res.rs2_cell (hst.hL _ (.head _)) (flat_cell0 (g := byC) (d := 0) byC_len rfl (by omega))) <| AC rfl <| NSR <| AC rfl <| NL <| SQ <| run_block ?_
         refine SR <| MC rfl <| CN <| Op1.eql rfl rfl <| MB rfl <| RunL.splitD (d := 109) rfl (fun g11 => ?_) (fun g11 => ?_)
         · skip
           refine TK (t := 109) rfl (congrArg Value.bool (decide_eq_true g11)) <| Op1.move (v := .bool _) rfl <| CN <| Op1.pickT (u := .bool _) (congrArg Value.bool (decide_eq_true g11)) rfl <| AB rfl <| NL <| run_cond_dec rfl (fun g12 => ?_) (fun g12 => ?_)
           · skip
             exfalso
             omega
           refine SR <| MC rfl <| CN <| Op1.leq rfl rfl <| MB rfl <| RunL.splitD (d := 115) rfl (fun g13 => ?_) (fun g13 => ?_)
           · skip
             refine TK (t := 115) rfl (congrArg Value.bool (decide_eq_true g13)) <| Op1.move (v := .int .u8 _) rfl <| TK (t := 115) rfl (congrArg Value.bool (decide_eq_true g13)) <| Op1.leq rfl rfl <| CN <| Op1.pickT (u := .bool _) (congrArg Value.bool (decide_eq_true g13)) rfl <| AB rfl <| NL <| run_cond_dec rfl (fun g14 => ?_) (fun g14 => ?_)
             · skip
               refine RG <| MC rfl <| CN <| Op1.subN rfl rfl rfl (wrap_u8 (by omega) (by omega)) <| AC rfl <| NL <| run_inBlock <| Run.forget [(1, .int .i64 _), (8, .bool _), (9, str _), (10, .int .u64 _), (11, .int .u64 _), (12, .bool _), (13, .int .u64 _), (16, .int .u8 _), (99, .slice _ _ _), (100, .int .i64 _), (101, .int .i64 _)] ⟨rfl, rfl, rfl, rfl, rfl, rfl, rfl, rfl, rfl, rfl, rfl, trivial⟩ fun f => SQ <| SR <| MC rfl <| MI rfl ?_
               first | refine CN (Op1.convN ty3 ty5 rfl (wrap_u8 (by omega) (by omega)) ?_) | refine CN (Op1.conv ty3 ty5 rfl ?_)
               refine CN <| Op1.geq rfl rfl <| NL <| run_cond_dec rfl (fun g15 => ?_) (fun g15 => ?_)
               · skip
                 exfalso
                 omega
               have hyd : hexB (s.getD i 0) = true := decide_eq_true (by omega)
               have hwd : (worF (s.getD i 0) : Int) = ((s.getD i 0).toNat : Int) - 48 := by have hq := of_decide_eq_true hyd; unfold worF; split <;> (try split) <;> omega
               refine run_skip <| SQ <| SR <| CN <| Op1.move (v := .int .u64 _) rfl <| CN <| Op1.move (v := .int .u64 _) rfl <| CN <| Op1.geq rfl rfl <| NL <| run_cond_dec rfl (fun g16 => ?_) (fun g16 => ?_)
               · skip
                 exfalso
                 omega
               refine run_skip <| SR <| CN <| Op1.move (v := .int .u64 _) rfl <| MI rfl ?_
               first | refine CN (Op1.convN ty3 ty57 rfl (wrap_u64 (by omega) (by omega)) ?_) | refine CN (Op1.conv ty3 ty57 rfl ?_)
               refine CN <| Op1.mulN rfl rfl rfl (wrap_u64 (by omega) (by omega)) <| CN <| Op1.assign (v := .int .u64 _) rfl <| NSR <| CN <| Op1.move (v := .int .u64 _) rfl <| MC rfl ?_
               first | refine CN (Op1.convN ty5 ty57 rfl (wrap_u64 (by omega) (by omega)) ?_) | refine CN (Op1.conv ty5 ty57 rfl ?_)
               refine CN <| Op1.addN rfl rfl rfl (wrap_u64 (by omega) (by omega)) <| CN <| Op1.assign (v := .int .u64 _) rfl <| NL <| SQ <| SR <| CN <| Op1.move (v := .int .u64 _) rfl <| CN <| Op1.move (v := .int .u64 _) rfl <| CN <| Op1.lss rfl rfl <| MB rfl <| RunL.splitD (d := 155) rfl (fun g17 => ?_) (fun g17 => ?_)
               · skip
                 exfalso
                 omega
               refine TK (t := 155) rfl (congrArg Value.bool (decide_eq_false g17)) <| Op1.move (v := .int .u64 _) rfl <| TK (t := 155) rfl (congrArg Value.bool (decide_eq_false g17)) <| Op1.move (v := .int .u64 _) rfl <| TK (t := 155) rfl (congrArg Value.bool (decide_eq_false g17)) <| Op1.gtr rfl rfl <| CN <| Op1.pickF (u := .bool _) (congrArg Value.bool (decide_eq_false g17)) rfl <| NL <| Run.forget [(1, .int .i64 _), (8, .bool _), (9, str _), (10, .int .u64 _), (11, .int .u64 _), (12, .bool _), (17, .int .u64 _), (99, .slice _ _ _), (100, .int .i64 _), (101, .int .i64 _), (159, .bool _)] ⟨rfl, rfl, rfl, rfl, rfl, rfl, rfl, rfl, rfl, rfl, rfl, trivial⟩ fun f => run_cond_dec rfl (fun g18 => ?_) (fun g18 => ?_)
               · skip
                 exfalso
                 omega
               refine run_skip <| RG <| CN <| Op1.move (v := .int .u64 _) rfl <| CN <| Op1.assign (v := .int .u64 _) rfl <| NL <| run_inBlock <| RG <| CN <| Op1.addN rfl rfl rfl (wrap_i64 (by omega) (by omega)) <| MI rfl <| NL <| run_inLoop ?_
               exact ih9 ((i + 1, 16 * n + worF (s.getD i 0))) _ w (by (try dsimp only); omega) hst (⟨by (try dsimp only); omega, by (try dsimp only); exact pow16_step hJ.2.1 (hex_bd hyd).2, by (try dsimp only); rw [hJ.2.2, hexs_step (by omega) hyd]⟩) ⟨rfl, rfl, rfl, rfl, rfl, rfl, rfl, trivial⟩ ⟨rfl, (congrArg (Value.int .u64) (by (try dsimp only); omega)), (congrArg (Value.int .i64) (by (try dsimp only); omega)), trivial⟩
             refine SR <| MC rfl <| CN <| Op1.call1 (v1 := .int .u8 _) ent66 rfl rfl <| Ret.det (lx_lower _ _) hst fun w hst => CN <| Op1.leq rfl rfl <| MB rfl <| RunL.splitD (d := 125) rfl (fun g19 => ?_) (fun g19 => ?_)
             · skip
               refine TK (t := 125) rfl (congrArg Value.bool (decide_eq_true g19)) <| Op1.move (v := .int .u8 _) rfl <| TK (t := 125) rfl (congrArg Value.bool (decide_eq_true g19)) (Op1.call1 (v1 := .int .u8 _) ent66 rfl rfl ((lx_lower _ _).mono fun v w hp => ?_))
               obtain ⟨rfl, hp⟩ := hp
               replace hst := hst.keepc hp
               clear hp
               refine TK (t := 125) rfl (congrArg Value.bool (decide_eq_true g19)) <| Op1.leq rfl rfl <| CN <| Op1.pickT (u := .bool _) (congrArg Value.bool (decide_eq_true g19)) rfl <| AB rfl <| NL <| Run.forget [(1, .int .i64 _), (8, .bool _), (9, str _), (10, .int .u64 _), (11, .int .u64 _), (12, .bool _), (13, .int .u64 _), (15, .int .u8 _), (99, .slice _ _ _), (100, .int .i64 _), (101, .int .i64 _), (121, .bool _)] ⟨rfl, rfl, rfl, rfl, rfl, rfl, rfl, rfl, rfl, rfl, rfl, rfl, trivial⟩ fun f => run_cond_dec rfl (fun g20 => ?_) (fun g20 => ?_)
               · skip
                 refine RG <| MC rfl <| CN <| Op1.call1 (v1 := .int .u8 _) ent66 rfl rfl <| Ret.det (lx_lower _ _) hst fun w hst => CN <| Op1.subN rfl rfl rfl (wrap_u8 (by omega) (by omega)) <| CN <| Op1.addN rfl rfl rfl (wrap_u8 (by omega) (by omega)) <| AC rfl <| NL <| run_inBlock <| SQ <| SR <| MC rfl <| MI rfl ?_
                 first | refine CN (Op1.convN ty3 ty5 rfl (wrap_u8 (by omega) (by omega)) ?_) | refine CN (Op1.conv ty3 ty5 rfl ?_)
                 refine CN <| Op1.geq rfl rfl <| NL <| run_cond_dec rfl (fun g21 => ?_) (fun g21 => ?_)
                 · skip
                   refine SR <| CN <| Op1.mkIface (v := .int .i64 _) ty96 rfl rfl <| CN <| Op1.assign (v := .int .u64 _) rfl <| CN <| Op1.assign (v := .iface _ _) rfl <| NL <| run_ret2 Tryd.func55 rfl (TP (v := .int .u64 _) rfl) (TP (v := .iface _ _) rfl) ?_
                   have hno : ¬ hexB (s.getD i 0) = true := fun hn => by have hn2 := of_decide_eq_true hn; omega
                   exact ⟨.inr ⟨.inr (hJ.2.2.trans (hexs_stop (by omega) hno)), rfl⟩, hst.pure⟩
                 have hyd : hexB (s.getD i 0) = true := Classical.byContradiction fun hn => by have hn2 := of_decide_eq_false (Bool.not_eq_true _ ▸ hn); omega
                 have hwd : (worF (s.getD i 0) : Int) = bits .or .u8 ((s.getD i 0).toNat : Int) 32 - 87 := by have hq := of_decide_eq_true hyd; unfold worF; split <;> (try split) <;> omega
                 refine run_skip <| SQ <| SR <| CN <| Op1.move (v := .int .u64 _) rfl <| CN <| Op1.move (v := .int .u64 _) rfl <| CN <| Op1.geq rfl rfl <| NL <| run_cond_dec rfl (fun g22 => ?_) (fun g22 => ?_)
                 · skip
                   exfalso
                   omega
                 refine run_skip <| SR <| CN <| Op1.move (v := .int .u64 _) rfl <| MI rfl ?_
                 first | refine CN (Op1.convN ty3 ty57 rfl (wrap_u64 (by omega) (by omega)) ?_) | refine CN (Op1.conv ty3 ty57 rfl ?_)
                 refine CN <| Op1.mulN rfl rfl rfl (wrap_u64 (by omega) (by omega)) <| CN <| Op1.assign (v := .int .u64 _) rfl <| NSR <| CN <| Op1.move (v := .int .u64 _) rfl <| MC rfl ?_
                 first | refine CN (Op1.convN ty5 ty57 rfl (wrap_u64 (by omega) (by omega)) ?_) | refine CN (Op1.conv ty5 ty57 rfl ?_)
                 refine CN <| Op1.addN rfl rfl rfl (wrap_u64 (by omega) (by omega)) <| CN <| Op1.assign (v := .int .u64 _) rfl <| NL <| Run.forget [(1, .int .i64 _), (8, .bool _), (9, str _), (10, .int .u64 _), (11, .int .u64 _), (12, .bool _), (13, .int .u64 _), (17, .int .u64 _), (99, .slice _ _ _), (100, .int .i64 _), (101, .int .i64 _)] ⟨rfl, rfl, rfl, rfl, rfl, rfl, rfl, rfl, rfl, rfl, rfl, trivial⟩ fun f => SQ <| SR <| CN <| Op1.move (v := .int .u64 _) rfl <| CN <| Op1.move (v := .int .u64 _) rfl <| CN <| Op1.lss rfl rfl <| MB rfl <| RunL.splitD (d := 155) rfl (fun g23 => ?_) (fun g23 => ?_)
                 · skip
                   exfalso
                   omega
                 refine TK (t := 155) rfl (congrArg Value.bool (decide_eq_false g23)) <| Op1.move (v := .int .u64 _) rfl <| TK (t := 155) rfl (congrArg Value.bool (decide_eq_false g23)) <| Op1.move (v := .int .u64 _) rfl <| TK (t := 155) rfl (congrArg Value.bool (decide_eq_false g23)) <| Op1.gtr rfl rfl <| CN <| Op1.pickF (u := .bool _) (congrArg Value.bool (decide_eq_false g23)) rfl <| NL <| run_cond_dec rfl (fun g24 => ?_) (fun g24 => ?_)
                 · skip
                   exfalso
                   omega
                 refine run_skip <| RG <| CN <| Op1.move (v := .int .u64 _) rfl <| CN <| Op1.assign (v := .int .u64 _) rfl <| NL <| run_inBlock <| RG <| CN <| Op1.addN rfl rfl rfl (wrap_i64 (by omega) (by omega)) <| MI rfl <| NL <| run_inLoop ?_
                 exact ih9 ((i + 1, 16 * n + worF (s.getD i 0))) _ w (by (try dsimp only); omega) hst (⟨by (try dsimp only); omega, by (try dsimp only); exact pow16_step hJ.2.1 (hex_bd hyd).2, by (try dsimp only); rw [hJ.2.2, hexs_step (by omega) hyd]⟩) ⟨rfl, rfl, rfl, rfl, rfl, rfl, rfl, trivial⟩ ⟨rfl, (congrArg (Value.int .u64) (by (try dsimp only); omega)), (congrArg (Value.int .i64) (by (try dsimp only); omega)), trivial⟩
               refine SR <| CN <| Op1.mkIface (v := .int .i64 _) ty96 rfl rfl <| CN <| Op1.assign (v := .int .u64 _) rfl <| CN <| Op1.assign (v := .iface _ _) rfl <| NL <| run_ret2 Tryd.func55 rfl (TP (v := .int .u64 _) rfl) (TP (v := .iface _ _) rfl) ?_
               have hno : ¬ hexB (s.getD i 0) = true := fun hn => by have hn2 := of_decide_eq_true hn; omega
               exact ⟨.inr ⟨.inr (hJ.2.2.trans (hexs_stop (by omega) hno)), rfl⟩, hst.pure⟩
             refine OM (t := 125) rfl (congrArg Value.bool (decide_eq_false g19)) rfl <| OM (t := 125) rfl (congrArg Value.bool (decide_eq_false g19)) rfl <| OM (t := 125) rfl (congrArg Value.bool (decide_eq_false g19)) rfl <| CN <| Op1.pickF (u := .bool _) (congrArg Value.bool (decide_eq_false g19)) rfl <| AB rfl <| NL <| Run.forget [(1, .int .i64 _), (8, .bool _), (9, str _), (10, .int .u64 _), (11, .int .u64 _), (12, .bool _), (13, .int .u64 _), (15, .int .u8 _), (99, .slice _ _ _), (100, .int .i64 _), (101, .int .i64 _), (121, .bool _)] ⟨rfl, rfl, rfl, rfl, rfl, rfl, rfl, rfl, rfl, rfl, rfl, rfl, trivial⟩ fun f => run_cond_false (congrArg Value.bool (rfl : false = _)) <| SR <| CN <| Op1.mkIface (v := .int .i64 _) ty96 rfl rfl <| CN <| Op1.assign (v := .int .u64 _) rfl <| CN <| Op1.assign (v := .iface _ _) rfl <| NL <| run_ret2 Tryd.func55 rfl (TP (v := .int .u64 _) rfl) (TP (v := .iface _ _) rfl) ?_
             have hno : ¬ hexB (s.getD i 0) = true := fun hn => by have hn2 := of_decide_eq_true hn; omega
             exact ⟨.inr ⟨.inr (hJ.2.2.trans (hexs_stop (by omega) hno)), rfl⟩, hst.pure⟩
           refine OM (t := 115) rfl (congrArg Value.bool (decide_eq_false g13)) rfl <| OM (t := 115) rfl (congrArg Value.bool (decide_eq_false g13)) rfl <| CN <| Op1.pickF (u := .bool _) (congrArg Value.bool (decide_eq_false g13)) rfl <| AB rfl <| NL <| run_cond_false (congrArg Value.bool (rfl : false = _)) <| SR <| MC rfl <| CN <| Op1.call1 (v1 := .int .u8 _) ent66 rfl rfl <| Ret.det (lx_lower _ _) hst fun w hst => CN <| Op1.leq rfl rfl <| MB rfl <| RunL.splitD (d := 125) rfl (fun g25 => ?_) (fun g25 => ?_)
           · skip
             refine TK (t := 125) rfl (congrArg Value.bool (decide_eq_true g25)) <| Op1.move (v := .int .u8 _) rfl <| TK (t := 125) rfl (congrArg Value.bool (decide_eq_true g25)) (Op1.call1 (v1 := .int .u8 _) ent66 rfl rfl ((lx_lower _ _).mono fun v w hp => ?_))
             obtain ⟨rfl, hp⟩ := hp
             replace hst := hst.keepc hp
             clear hp
             refine TK (t := 125) rfl (congrArg Value.bool (decide_eq_true g25)) <| Op1.leq rfl rfl <| CN <| Op1.pickT (u := .bool _) (congrArg Value.bool (decide_eq_true g25)) rfl <| AB rfl <| NL <| Run.forget [(1, .int .i64 _), (8, .bool _), (9, str _), (10, .int .u64 _), (11, .int .u64 _), (12, .bool _), (13, .int .u64 _), (15, .int .u8 _), (99, .slice _ _ _), (100, .int .i64 _), (101, .int .i64 _), (121, .bool _)] ⟨rfl, rfl, rfl, rfl, rfl, rfl, rfl, rfl, rfl, rfl, rfl, rfl, trivial⟩ fun f => run_cond_dec rfl (fun g26 => ?_) (fun g26 => ?_)
             · skip
               refine RG <| MC rfl <| CN <| Op1.call1 (v1 := .int .u8 _) ent66 rfl rfl <| Ret.det (lx_lower _ _) hst fun w hst => CN <| Op1.subN rfl rfl rfl (wrap_u8 (by omega) (by omega)) <| CN <| Op1.addN rfl rfl rfl (wrap_u8 (by omega) (by omega)) <| AC rfl <| NL <| run_inBlock <| SQ <| SR <| MC rfl <| MI rfl ?_
               first | refine CN (Op1.convN ty3 ty5 rfl (wrap_u8 (by omega) (by omega)) ?_) | refine CN (Op1.conv ty3 ty5 rfl ?_)
               refine CN <| Op1.geq rfl rfl <| NL <| run_cond_dec rfl (fun g27 => ?_) (fun g27 => ?_)
               · skip
                 refine SR <| CN <| Op1.mkIface (v := .int .i64 _) ty96 rfl rfl <| CN <| Op1.assign (v := .int .u64 _) rfl <| CN <| Op1.assign (v := .iface _ _) rfl <| NL <| run_ret2 Tryd.func55 rfl (TP (v := .int .u64 _) rfl) (TP (v := .iface _ _) rfl) ?_
                 have hno : ¬ hexB (s.getD i 0) = true := fun hn => by have hn2 := of_decide_eq_true hn; omega
                 exact ⟨.inr ⟨.inr (hJ.2.2.trans (hexs_stop (by omega) hno)), rfl⟩, hst.pure⟩
               have hyd : hexB (s.getD i 0) = true := Classical.byContradiction fun hn => by have hn2 := of_decide_eq_false (Bool.not_eq_true _ ▸ hn); omega
               have hwd : (worF (s.getD i 0) : Int) = bits .or .u8 ((s.getD i 0).toNat : Int) 32 - 87 := by have hq := of_decide_eq_true hyd; unfold worF; split <;> (try split) <;> omega
               refine run_skip <| SQ <| SR <| CN <| Op1.move (v := .int .u64 _) rfl <| CN <| Op1.move (v := .int .u64 _) rfl <| CN <| Op1.geq rfl rfl <| NL <| run_cond_dec rfl (fun g28 => ?_) (fun g28 => ?_)
               · skip
                 exfalso
                 omega
               refine run_skip <| SR <| CN <| Op1.move (v := .int .u64 _) rfl <| MI rfl ?_
               first | refine CN (Op1.convN ty3 ty57 rfl (wrap_u64 (by omega) (by omega)) ?_) | refine CN (Op1.conv ty3 ty57 rfl ?_)
               refine CN <| Op1.mulN rfl rfl rfl (wrap_u64 (by omega) (by omega)) <| CN <| Op1.assign (v := .int .u64 _) rfl <| NSR <| CN <| Op1.move (v := .int .u64 _) rfl <| MC rfl ?_
               first | refine CN (Op1.convN ty5 ty57 rfl (wrap_u64 (by omega) (by omega)) ?_) | refine CN (Op1.conv ty5 ty57 rfl ?_)
               refine CN <| Op1.addN rfl rfl rfl (wrap_u64 (by omega) (by omega)) <| CN <| Op1.assign (v := .int .u64 _) rfl <| NL <| Run.forget [(1, .int .i64 _), (8, .bool _), (9, str _), (10, .int .u64 _), (11, .int .u64 _), (12, .bool _), (13, .int .u64 _), (17, .int .u64 _), (99, .slice _ _ _), (100, .int .i64 _), (101, .int .i64 _)] ⟨rfl, rfl, rfl, rfl, rfl, rfl, rfl, rfl, rfl, rfl, rfl, trivial⟩ fun f => SQ <| SR <| CN <| Op1.move (v := .int .u64 _) rfl <| CN <| Op1.move (v := .int .u64 _) rfl <| CN <| Op1.lss rfl rfl <| MB rfl <| RunL.splitD (d := 155) rfl (fun g29 => ?_) (fun g29 => ?_)
               · skip
                 exfalso
                 omega
               refine TK (t := 155) rfl (congrArg Value.bool (decide_eq_false g29)) <| Op1.move (v := .int .u64 _) rfl <| TK (t := 155) rfl (congrArg Value.bool (decide_eq_false g29)) <| Op1.move (v := .int .u64 _) rfl <| TK (t := 155) rfl (congrArg Value.bool (decide_eq_false g29)) <| Op1.gtr rfl rfl <| CN <| Op1.pickF (u := .bool _) (congrArg Value.bool (decide_eq_false g29)) rfl <| NL <| run_cond_dec rfl (fun g30 => ?_) (fun g30 => ?_)
               · skip
                 exfalso
                 omega
               refine run_skip <| RG <| CN <| Op1.move (v := .int .u64 _) rfl <| CN <| Op1.assign (v := .int .u64 _) rfl <| NL <| run_inBlock <| RG <| CN <| Op1.addN rfl rfl rfl (wrap_i64 (by omega) (by omega)) <| MI rfl <| NL <| run_inLoop ?_
               exact ih9 ((i + 1, 16 * n + worF (s.getD i 0))) _ w (by (try dsimp only); omega) hst (⟨by (try dsimp only); omega, by (try dsimp only); exact pow16_step hJ.2.1 (hex_bd hyd).2, by (try dsimp only); rw [hJ.2.2, hexs_step (by omega) hyd]⟩) ⟨rfl, rfl, rfl, rfl, rfl, rfl, rfl, trivial⟩ ⟨rfl, (congrArg (Value.int .u64) (by (try dsimp only); omega)), (congrArg (Value.int .i64) (by (try dsimp only); omega)), trivial⟩
             refine SR <| CN <| Op1.mkIface (v := .int .i64 _) ty96 rfl rfl <| CN <| Op1.assign (v := .int .u64 _) rfl <| CN <| Op1.assign (v := .iface _ _) rfl <| NL <| run_ret2 Tryd.func55 rfl (TP (v := .int .u64 _) rfl) (TP (v := .iface _ _) rfl) ?_
             have hno : ¬ hexB (s.getD i 0) = true := fun hn => by have hn2 := of_decide_eq_true hn; omega
             exact ⟨.inr ⟨.inr (hJ.2.2.trans (hexs_stop (by omega) hno)), rfl⟩, hst.pure⟩
           refine OM (t := 125) rfl (congrArg Value.bool (decide_eq_false g25)) rfl <| OM (t := 125) rfl (congrArg Value.bool (decide_eq_false g25)) rfl <| OM (t := 125) rfl (congrArg Value.bool (decide_eq_false g25)) rfl <| CN <| Op1.pickF (u := .bool _) (congrArg Value.bool (decide_eq_false g25)) rfl <| AB rfl <| NL <| Run.forget [(1, .int .i64 _), (8, .bool _), (9, str _), (10, .int .u64 _), (11, .int .u64 _), (12, .bool _), (13, .int .u64 _), (15, .int .u8 _), (99, .slice _ _ _), (100, .int .i64 _), (101, .int .i64 _), (121, .bool _)] ⟨rfl, rfl, rfl, rfl, rfl, rfl, rfl, rfl, rfl, rfl, rfl, rfl, trivial⟩ fun f => run_cond_false (congrArg Value.bool (rfl : false = _)) <| SR <| CN <| Op1.mkIface (v := .int .i64 _) ty96 rfl rfl <| CN <| Op1.assign (v := .int .u64 _) rfl <| CN <| Op1.assign (v := .iface _ _) rfl <| NL <| run_ret2 Tryd.func55 rfl (TP (v := .int .u64 _) rfl) (TP (v := .iface _ _) rfl) ?_
           have hno : ¬ hexB (s.getD i 0) = true := fun hn => by have hn2 := of_decide_eq_true hn; omega
           exact ⟨.inr ⟨.inr (hJ.2.2.trans (hexs_stop (by omega) hno)), rfl⟩, hst.pure⟩
         refine OM (t := 109) rfl (congrArg Value.bool (decide_eq_false g11)) rfl <| CN <| Op1.pickF (u := .bool _) (congrArg Value.bool (decide_eq_false g11)) rfl <| AB rfl <| NL <| run_cond_false (congrArg Value.bool (rfl : false = _)) <| SR <| MC rfl <| CN <| Op1.leq rfl rfl <| MB rfl <| RunL.splitD (d := 115) rfl (fun g31 => ?_) (fun g31 => ?_)
         · skip
           refine TK (t := 115) rfl (congrArg Value.bool (decide_eq_true g31)) <| Op1.move (v := .int .u8 _) rfl <| TK (t := 115) rfl (congrArg Value.bool (decide_eq_true g31)) <| Op1.leq rfl rfl <| CN <| Op1.pickT (u := .bool _) (congrArg Value.bool (decide_eq_true g31)) rfl <| AB rfl <| NL <| run_cond_dec rfl (fun g32 => ?_) (fun g32 => ?_)
           · skip
             refine RG <| MC rfl <| CN <| Op1.subN rfl rfl rfl (wrap_u8 (by omega) (by omega)) <| AC rfl <| NL <| run_inBlock <| Run.forget [(1, .int .i64 _), (8, .bool _), (9, str _), (10, .int .u64 _), (11, .int .u64 _), (12, .bool _), (13, .int .u64 _), (16, .int .u8 _), (99, .slice _ _ _), (100, .int .i64 _), (101, .int .i64 _)] ⟨rfl, rfl, rfl, rfl, rfl, rfl, rfl, rfl, rfl, rfl, rfl, trivial⟩ fun f => SQ <| SR <| MC rfl <| MI rfl ?_
             first | refine CN (Op1.convN ty3 ty5 rfl (wrap_u8 (by omega) (by omega)) ?_) | refine CN (Op1.conv ty3 ty5 rfl ?_)
             refine CN <| Op1.geq rfl rfl <| NL <| run_cond_dec rfl (fun g33 => ?_) (fun g33 => ?_)
             · skip
               exfalso
               omega
             have hyd : hexB (s.getD i 0) = true := decide_eq_true (by omega)
             have hwd : (worF (s.getD i 0) : Int) = ((s.getD i 0).toNat : Int) - 48 := by have hq := of_decide_eq_true hyd; unfold worF; split <;> (try split) <;> omega
             refine run_skip <| SQ <| SR <| CN <| Op1.move (v := .int .u64 _) rfl <| CN <| Op1.move (v := .int .u64 _) rfl <| CN <| Op1.geq rfl rfl <| NL <| run_cond_dec rfl (fun g34 => ?_) (fun g34 => ?_)
             · skip
               exfalso
               omega
             refine run_skip <| SR <| CN <| Op1.move (v := .int .u64 _) rfl <| MI rfl ?_
             first | refine CN (Op1.convN ty3 ty57 rfl (wrap_u64 (by omega) (by omega)) ?_) | refine CN (Op1.conv ty3 ty57 rfl ?_)
             refine CN <| Op1.mulN rfl rfl rfl (wrap_u64 (by omega) (by omega)) <| CN <| Op1.assign (v := .int .u64 _) rfl <| NSR <| CN <| Op1.move (v := .int .u64 _) rfl <| MC rfl ?_
             first | refine CN (Op1.convN ty5 ty57 rfl (wrap_u64 (by omega) (by omega)) ?_) | refine CN (Op1.conv ty5 ty57 rfl ?_)
             refine CN <| Op1.addN rfl rfl rfl (wrap_u64 (by omega) (by omega)) <| CN <| Op1.assign (v := .int .u64 _) rfl <| NL <| SQ <| SR <| CN <| Op1.move (v := .int .u64 _) rfl <| CN <| Op1.move (v := .int .u64 _) rfl <| CN <| Op1.lss rfl rfl <| MB rfl <| RunL.splitD (d := 155) rfl (fun g35 => ?_) (fun g35 => ?_)
             · skip
               exfalso
               omega
             refine TK (t := 155) rfl (congrArg Value.bool (decide_eq_false g35)) <| Op1.move (v := .int .u64 _) rfl <| TK (t := 155) rfl (congrArg Value.bool (decide_eq_false g35)) <| Op1.move (v := .int .u64 _) rfl <| TK (t := 155) rfl (congrArg Value.bool (decide_eq_false g35)) <| Op1.gtr rfl rfl <| CN <| Op1.pickF (u := .bool _) (congrArg Value.bool (decide_eq_false g35)) rfl <| NL <| Run.forget [(1, .int .i64 _), (8, .bool _), (9, str _), (10, .int .u64 _), (11, .int .u64 _), (12, .bool _), (17, .int .u64 _), (99, .slice _ _ _), (100, .int .i64 _), (101, .int .i64 _), (159, .bool _)] ⟨rfl, rfl, rfl, rfl, rfl, rfl, rfl, rfl, rfl, rfl, rfl, trivial⟩ fun f => run_cond_dec rfl (fun g36 => ?_) (fun g36 => ?_)
             · skip
               exfalso
               omega
             refine run_skip <| RG <| CN <| Op1.move (v := .int .u64 _) rfl <| CN <| Op1.assign (v := .int .u64 _) rfl <| NL <| run_inBlock <| RG <| CN <| Op1.addN rfl rfl rfl (wrap_i64 (by omega) (by omega)) <| MI rfl <| NL <| run_inLoop ?_
             exact ih9 ((i + 1, 16 * n + worF (s.getD i 0))) _ w (by (try dsimp only); omega) hst (⟨by (try dsimp only); omega, by (try dsimp only); exact pow16_step hJ.2.1 (hex_bd hyd).2, by (try dsimp only); rw [hJ.2.2, hexs_step (by omega) hyd]⟩) ⟨rfl, rfl, rfl, rfl, rfl, rfl, rfl, trivial⟩ ⟨rfl, (congrArg (Value.int .u64) (by (try dsimp only); omega)), (congrArg (Value.int .i64) (by (try dsimp only); omega)), trivial⟩
           refine SR <| MC rfl <| CN <| Op1.call1 (v1 := .int .u8 _) ent66 rfl rfl <| Ret.det (lx_lower _ _) hst fun w hst => CN <| Op1.leq rfl rfl <| MB rfl <| RunL.splitD (d := 125) rfl (fun g37 => ?_) (fun g37 => ?_)
           · skip
             refine TK (t := 125) rfl (congrArg Value.bool (decide_eq_true g37)) <| Op1.move (v := .int .u8 _) rfl <| TK (t := 125) rfl (congrArg Value.bool (decide_eq_true g37)) (Op1.call1 (v1 := .int .u8 _) ent66 rfl rfl ((lx_lower _ _).mono fun v w hp => ?_))
             obtain ⟨rfl, hp⟩ := hp
             replace hst := hst.keepc hp
             clear hp
             refine TK (t := 125) rfl (congrArg Value.bool (decide_eq_true g37)) <| Op1.leq rfl rfl <| CN <| Op1.pickT (u := .bool _) (congrArg Value.bool (decide_eq_true g37)) rfl <| AB rfl <| NL <| Run.forget [(1, .int .i64 _), (8, .bool _), (9, str _), (10, .int .u64 _), (11, .int .u64 _), (12, .bool _), (13, .int .u64 _), (15, .int .u8 _), (99, .slice _ _ _), (100, .int .i64 _), (101, .int .i64 _), (121, .bool _)] ⟨rfl, rfl, rfl, rfl, rfl, rfl, rfl, rfl, rfl, rfl, rfl, rfl, trivial⟩ fun f => run_cond_dec rfl (fun g38 => ?_) (fun g38 => ?_)
             · skip
               refine RG <| MC rfl <| CN <| Op1.call1 (v1 := .int .u8 _) ent66 rfl rfl <| Ret.det (lx_lower _ _) hst fun w hst => CN <| Op1.subN rfl rfl rfl (wrap_u8 (by omega) (by omega)) <| CN <| Op1.addN rfl rfl rfl (wrap_u8 (by omega) (by omega)) <| AC rfl <| NL <| run_inBlock <| SQ <| SR <| MC rfl <| MI rfl ?_
               first | refine CN (Op1.convN ty3 ty5 rfl (wrap_u8 (by omega) (by omega)) ?_) | refine CN (Op1.conv ty3 ty5 rfl ?_)
               refine CN <| Op1.geq rfl rfl <| NL <| run_cond_dec rfl (fun g39 => ?_) (fun g39 => ?_)
               · skip
                 refine SR <| CN <| Op1.mkIface (v := .int .i64 _) ty96 rfl rfl <| CN <| Op1.assign (v := .int .u64 _) rfl <| CN <| Op1.assign (v := .iface _ _) rfl <| NL <| run_ret2 Tryd.func55 rfl (TP (v := .int .u64 _) rfl) (TP (v := .iface _ _) rfl) ?_
                 have hno : ¬ hexB (s.getD i 0) = true := fun hn => by have hn2 := of_decide_eq_true hn; omega
                 exact ⟨.inr ⟨.inr (hJ.2.2.trans (hexs_stop (by omega) hno)), rfl⟩, hst.pure⟩
               have hyd : hexB (s.getD i 0) = true := Classical.byContradiction fun hn => by have hn2 := of_decide_eq_false (Bool.not_eq_true _ ▸ hn); omega
               have hwd : (worF (s.getD i 0) : Int) = bits .or .u8 ((s.getD i 0).toNat : Int) 32 - 87 := by have hq := of_decide_eq_true hyd; unfold worF; split <;> (try split) <;> omega
               refine run_skip <| SQ <| SR <| CN <| Op1.move (v := .int .u64 _) rfl <| CN <| Op1.move (v := .int .u64 _) rfl <| CN <| Op1.geq rfl rfl <| NL <| run_cond_dec rfl (fun g40 => ?_) (fun g40 => ?_)
               · skip
                 exfalso
                 omega
               refine run_skip <| SR <| CN <| Op1.move (v := .int .u64 _) rfl <| MI rfl ?_
               first | refine CN (Op1.convN ty3 ty57 rfl (wrap_u64 (by omega) (by omega)) ?_) | refine CN (Op1.conv ty3 ty57 rfl ?_)
               refine CN <| Op1.mulN rfl rfl rfl (wrap_u64 (by omega) (by omega)) <| CN <| Op1.assign (v := .int .u64 _) rfl <| NSR <| CN <| Op1.move (v := .int .u64 _) rfl <| MC rfl ?_
               first | refine CN (Op1.convN ty5 ty57 rfl (wrap_u64 (by omega) (by omega)) ?_) | refine CN (Op1.conv ty5 ty57 rfl ?_)
               refine CN <| Op1.addN rfl rfl rfl (wrap_u64 (by omega) (by omega)) <| CN <| Op1.assign (v := .int .u64 _) rfl <| NL <| Run.forget [(1, .int .i64 _), (8, .bool _), (9, str _), (10, .int .u64 _), (11, .int .u64 _), (12, .bool _), (13, .int .u64 _), (17, .int .u64 _), (99, .slice _ _ _), (100, .int .i64 _), (101, .int .i64 _)] ⟨rfl, rfl, rfl, rfl, rfl, rfl, rfl, rfl, rfl, rfl, rfl, trivial⟩ fun f => SQ <| SR <| CN <| Op1.move (v := .int .u64 _) rfl <| CN <| Op1.move (v := .int .u64 _) rfl <| CN <| Op1.lss rfl rfl <| MB rfl <| RunL.splitD (d := 155) rfl (fun g41 => ?_) (fun g41 => ?_)
               · skip
                 exfalso
                 omega
               refine TK (t := 155) rfl (congrArg Value.bool (decide_eq_false g41)) <| Op1.move (v := .int .u64 _) rfl <| TK (t := 155) rfl (congrArg Value.bool (decide_eq_false g41)) <| Op1.move (v := .int .u64 _) rfl <| TK (t := 155) rfl (congrArg Value.bool (decide_eq_false g41)) <| Op1.gtr rfl rfl <| CN <| Op1.pickF (u := .bool _) (congrArg Value.bool (decide_eq_false g41)) rfl <| NL <| run_cond_dec rfl (fun g42 => ?_) (fun g42 => ?_)
               · skip
                 exfalso
                 omega
               refine run_skip <| RG <| CN <| Op1.move (v := .int .u64 _) rfl <| CN <| Op1.assign (v := .int .u64 _) rfl <| NL <| run_inBlock <| RG <| CN <| Op1.addN rfl rfl rfl (wrap_i64 (by omega) (by omega)) <| MI rfl <| NL <| run_inLoop ?_
               exact ih9 ((i + 1, 16 * n + worF (s.getD i 0))) _ w (by (try dsimp only); omega) hst (⟨by (try dsimp only); omega, by (try dsimp only); exact pow16_step hJ.2.1 (hex_bd hyd).2, by (try dsimp only); rw [hJ.2.2, hexs_step (by omega) hyd]⟩) ⟨rfl, rfl, rfl, rfl, rfl, rfl, rfl, trivial⟩ ⟨rfl, (congrArg (Value.int .u64) (by (try dsimp only); omega)), (congrArg (Value.int .i64) (by (try dsimp only); omega)), trivial⟩
             refine SR <| CN <| Op1.mkIface (v := .int .i64 _) ty96 rfl rfl <| CN <| Op1.assign (v := .int .u64 _) rfl <| CN <| Op1.assign (v := .iface _ _) rfl <| NL <| run_ret2 Tryd.func55 rfl (TP (v := .int .u64 _) rfl) (TP (v := .iface _ _) rfl) ?_
             have hno : ¬ hexB (s.getD i 0) = true := fun hn => by have hn2 := of_decide_eq_true hn; omega
             exact ⟨.inr ⟨.inr (hJ.2.2.trans (hexs_stop (by omega) hno)), rfl⟩, hst.pure⟩
           refine OM (t := 125) rfl (congrArg Value.bool (decide_eq_false g37)) rfl <| OM (t := 125) rfl (congrArg Value.bool (decide_eq_false g37)) rfl <| OM (t := 125) rfl (congrArg Value.bool (decide_eq_false g37)) rfl <| CN <| Op1.pickF (u := .bool _) (congrArg Value.bool (decide_eq_false g37)) rfl <| AB rfl <| NL <| Run.forget [(1, .int .i64 _), (8, .bool _), (9, str _), (10, .int .u64 _), (11, .int .u64 _), (12, .bool _), (13, .int .u64 _), (15, .int .u8 _), (99, .slice _ _ _), (100, .int .i64 _), (101, .int .i64 _), (121, .bool _)] ⟨rfl, rfl, rfl, rfl, rfl, rfl, rfl, rfl, rfl, rfl, rfl, rfl, trivial⟩ fun f => run_cond_false (congrArg Value.bool (rfl : false = _)) <| SR <| CN <| Op1.mkIface (v := .int .i64 _) ty96 rfl rfl <| CN <| Op1.assign (v := .int .u64 _) rfl <| CN <| Op1.assign (v := .iface _ _) rfl <| NL <| run_ret2 Tryd.func55 rfl (TP (v := .int .u64 _) rfl) (TP (v := .iface _ _) rfl) ?_
           have hno : ¬ hexB (s.getD i 0) = true := fun hn => by have hn2 := of_decide_eq_true hn; omega
           exact ⟨.inr ⟨.inr (hJ.2.2.trans (hexs_stop (by omega) hno)), rfl⟩, hst.pure⟩
         refine OM (t := 115) rfl (congrArg Value.bool (decide_eq_false g31)) rfl <| OM (t := 115) rfl (congrArg Value.bool (decide_eq_false g31)) rfl <| CN <| Op1.pickF (u := .bool _) (congrArg Value.bool (decide_eq_false g31)) rfl <| AB rfl <| NL <| run_cond_false (congrArg Value.bool (rfl : false = _)) <| SR <| MC rfl <| CN <| Op1.call1 (v1 := .int .u8 _) ent66 rfl rfl <| Ret.det (lx_lower _ _) hst fun w hst => CN <| Op1.leq rfl rfl <| MB rfl <| RunL.splitD (d := 125) rfl (fun g43 => ?_) (fun g43 => ?_)
         · skip
           refine TK (t := 125) rfl (congrArg Value.bool (decide_eq_true g43)) <| Op1.move (v := .int .u8 _) rfl <| TK (t := 125) rfl (congrArg Value.bool (decide_eq_true g43)) (Op1.call1 (v1 := .int .u8 _) ent66 rfl rfl ((lx_lower _ _).mono fun v w hp => ?_))
           obtain ⟨rfl, hp⟩ := hp
           replace hst := hst.keepc hp
           clear hp
           refine TK (t := 125) rfl (congrArg Value.bool (decide_eq_true g43)) <| Op1.leq rfl rfl <| CN <| Op1.pickT (u := .bool _) (congrArg Value.bool (decide_eq_true g43)) rfl <| AB rfl <| NL <| Run.forget [(1, .int .i64 _), (8, .bool _), (9, str _), (10, .int .u64 _), (11, .int .u64 _), (12, .bool _), (13, .int .u64 _), (15, .int .u8 _), (99, .slice _ _ _), (100, .int .i64 _), (101, .int .i64 _), (121, .bool _)] ⟨rfl, rfl, rfl, rfl, rfl, rfl, rfl, rfl, rfl, rfl, rfl, rfl, trivial⟩ fun f => run_cond_dec rfl (fun g44 => ?_) (fun g44 => ?_)
           · skip
             refine RG <| MC rfl <| CN <| Op1.call1 (v1 := .int .u8 _) ent66 rfl rfl <| Ret.det (lx_lower _ _) hst fun w hst => CN <| Op1.subN rfl rfl rfl (wrap_u8 (by omega) (by omega)) <| CN <| Op1.addN rfl rfl rfl (wrap_u8 (by omega) (by omega)) <| AC rfl <| NL <| run_inBlock <| SQ <| SR <| MC rfl <| MI rfl ?_
             first | refine CN (Op1.convN ty3 ty5 rfl (wrap_u8 (by omega) (by omega)) ?_) | refine CN (Op1.conv ty3 ty5 rfl ?_)
             refine CN <| Op1.geq rfl rfl <| NL <| run_cond_dec rfl (fun g45 => ?_) (fun g45 => ?_)
             · skip
               refine SR <| CN <| Op1.mkIface (v := .int .i64 _) ty96 rfl rfl <| CN <| Op1.assign (v := .int .u64 _) rfl <| CN <| Op1.assign (v := .iface _ _) rfl <| NL <| run_ret2 Tryd.func55 rfl (TP (v := .int .u64 _) rfl) (TP (v := .iface _ _) rfl) ?_
               have hno : ¬ hexB (s.getD i 0) = true := fun hn => by have hn2 := of_decide_eq_true hn; omega
               exact ⟨.inr ⟨.inr (hJ.2.2.trans (hexs_stop (by omega) hno)), rfl⟩, hst.pure⟩
             have hyd : hexB (s.getD i 0) = true := Classical.byContradiction fun hn => by have hn2 := of_decide_eq_false (Bool.not_eq_true _ ▸ hn); omega
             have hwd : (worF (s.getD i 0) : Int) = bits .or .u8 ((s.getD i 0).toNat : Int) 32 - 87 := by have hq := of_decide_eq_true hyd; unfold worF; split <;> (try split) <;> omega
             refine run_skip <| SQ <| SR <| CN <| Op1.move (v := .int .u64 _) rfl <| CN <| Op1.move (v := .int .u64 _) rfl <| CN <| Op1.geq rfl rfl <| NL <| run_cond_dec rfl (fun g46 => ?_) (fun g46 => ?_)
             · skip
               exfalso
               omega
             refine run_skip <| SR <| CN <| Op1.move (v := .int .u64 _) rfl <| MI rfl ?_
             first | refine CN (Op1.convN ty3 ty57 rfl (wrap_u64 (by omega) (by omega)) ?_) | refine CN (Op1.conv ty3 ty57 rfl ?_)
             refine CN <| Op1.mulN rfl rfl rfl (wrap_u64 (by omega) (by omega)) <| CN <| Op1.assign (v := .int .u64 _) rfl <| NSR <| CN <| Op1.move (v := .int .u64 _) rfl <| MC rfl ?_
             first | refine CN (Op1.convN ty5 ty57 rfl (wrap_u64 (by omega) (by omega)) ?_) | refine CN (Op1.conv ty5 ty57 rfl ?_)
             refine CN <| Op1.addN rfl rfl rfl (wrap_u64 (by omega) (by omega)) <| CN <| Op1.assign (v := .int .u64 _) rfl <| NL <| Run.forget [(1, .int .i64 _), (8, .bool _), (9, str _), (10, .int .u64 _), (11, .int .u64 _), (12, .bool _), (13, .int .u64 _), (17, .int .u64 _), (99, .slice _ _ _), (100, .int .i64 _), (101, .int .i64 _)] ⟨rfl, rfl, rfl, rfl, rfl, rfl, rfl, rfl, rfl, rfl, rfl, trivial⟩ fun f => SQ <| SR <| CN <| Op1.move (v := .int .u64 _) rfl <| CN <| Op1.move (v := .int .u64 _) rfl <| CN <| Op1.lss rfl rfl <| MB rfl <| RunL.splitD (d := 155) rfl (fun g47 => ?_) (fun g47 => ?_)
             · skip
               exfalso
               omega
             refine TK (t := 155) rfl (congrArg Value.bool (decide_eq_false g47)) <| Op1.move (v := .int .u64 _) rfl <| TK (t := 155) rfl (congrArg Value.bool (decide_eq_false g47)) <| Op1.move (v := .int .u64 _) rfl <| TK (t := 155) rfl (congrArg Value.bool (decide_eq_false g47)) <| Op1.gtr rfl rfl <| CN <| Op1.pickF (u := .bool _) (congrArg Value.bool (decide_eq_false g47)) rfl <| NL <| run_cond_dec rfl (fun g48 => ?_) (fun g48 => ?_)
             · skip
               exfalso
               omega
             refine run_skip <| RG <| CN <| Op1.move (v := .int .u64 _) rfl <| CN <| Op1.assign (v := .int .u64 _) rfl <| NL <| run_inBlock <| RG <| CN <| Op1.addN rfl rfl rfl (wrap_i64 (by omega) (by omega)) <| MI rfl <| NL <| run_inLoop ?_
             exact ih9 ((i + 1, 16 * n + worF (s.getD i 0))) _ w (by (try dsimp only); omega) hst (⟨by (try dsimp only); omega, by (try dsimp only); exact pow16_step hJ.2.1 (hex_bd hyd).2, by (try dsimp only); rw [hJ.2.2, hexs_step (by omega) hyd]⟩) ⟨rfl, rfl, rfl, rfl, rfl, rfl, rfl, trivial⟩ ⟨rfl, (congrArg (Value.int .u64) (by (try dsimp only); omega)), (congrArg (Value.int .i64) (by (try dsimp only); omega)), trivial⟩
           refine SR <| CN <| Op1.mkIface (v := .int .i64 _) ty96 rfl rfl <| CN <| Op1.assign (v := .int .u64 _) rfl <| CN <| Op1.assign (v := .iface _ _) rfl <| NL <| run_ret2 Tryd.func55 rfl (TP (v := .int .u64 _) rfl) (TP (v := .iface _ _) rfl) ?_
           have hno : ¬ hexB (s.getD i 0) = true := fun hn => by have hn2 := of_decide_eq_true hn; omega
           exact ⟨.inr ⟨.inr (hJ.2.2.trans (hexs_stop (by omega) hno)), rfl⟩, hst.pure⟩
         refine OM (t := 125) rfl (congrArg Value.bool (decide_eq_false g43)) rfl <| OM (t := 125) rfl (congrArg Value.bool (decide_eq_false g43)) rfl <| OM (t := 125) rfl (congrArg Value.bool (decide_eq_false g43)) rfl <| CN <| Op1.pickF (u := .bool _) (congrArg Value.bool (decide_eq_false g43)) rfl <| AB rfl <| NL <| Run.forget [(1, .int .i64 _), (8, .bool _), (9, str _), (10, .int .u64 _), (11, .int .u64 _), (12, .bool _), (13, .int .u64 _), (15, .int .u8 _), (99, .slice _ _ _), (100, .int .i64 _), (101, .int .i64 _), (121, .bool _)] ⟨rfl, rfl, rfl, rfl, rfl, rfl, rfl, rfl, rfl, rfl, rfl, rfl, trivial⟩ fun f => run_cond_false (congrArg Value.bool (rfl : false = _)) <| SR <| CN <| Op1.mkIface (v := .int .i64 _) ty96 rfl rfl <| CN <| Op1.assign (v := .int .u64 _) rfl <| CN <| Op1.assign (v := .iface _ _) rfl <| NL <| run_ret2 Tryd.func55 rfl (TP (v := .int .u64 _) rfl) (TP (v := .iface _ _) rfl) ?_
         have hno : ¬ hexB (s.getD i 0) = true := fun hn => by have hn2 := of_decide_eq_true hn; omega
         exact ⟨.inr ⟨.inr (hJ.2.2.trans (hexs_stop (by omega) hno)), rfl⟩, hst.pure⟩
       refine run_exit (id := 3) rfl <| SQ <| SR <| MB rfl <| MB rfl <| OM (t := 165) rfl (congrArg Value.bool (rfl : false = _)) rfl <| OM (t := 165) rfl (congrArg Value.bool (rfl : false = _)) rfl <| OM (t := 165) rfl (congrArg Value.bool (rfl : false = _)) rfl <| CN <| Op1.pickF (u := .bool _) (congrArg Value.bool (rfl : false = _)) rfl <| NL <| run_cond_false (congrArg Value.bool (rfl : false = _)) <| run_skip <| SQ <| RG ?_
       refine CN <| Op1.move (v := .int .u64 _) rfl <| CN <| Op1.assign (v := .int .u64 _) rfl <| CN <| Op1.assign (v := .nilIface) rfl <| NL <| run_ret2 Tryd.func55 rfl (TP (v := .int .u64 _) rfl) (TP (v := .nilIface) rfl) ?_
       exact ⟨.inl ⟨n, fun e => g1 (List.length_eq_zero_iff.1 e), hJ.2.2.trans (hexs_end (by omega)), rfl⟩, hst.pure⟩
     exfalso
     omega
   exfalso
   omega
 exfalso
 omega
end Go.SK
namespace Go.SK
open Go Go.Proofs
theorem ent55 : Enters Tryd.prog 55 := ⟨Tryd.f55, _, Tryd.func55, by kernel_rfl, rfl⟩
theorem ty66 : TyF Tryd.prog 66 (.interface (methodsOf Tryd.prog 66)) 1 16 [.nilIface] := TyF.of (by kernel_rfl) (by kernel_rfl)
theorem ent56 : Enters Tryd.prog 56 := ⟨Tryd.f56, _, Tryd.func56, by kernel_rfl, rfl⟩
theorem ent40 : Enters Tryd.prog 40 := ⟨Tryd.f40, _, Tryd.func40, by kernel_rfl, rfl⟩
theorem ent53 : Enters Tryd.prog 53 := ⟨Tryd.f53, _, Tryd.func53, by kernel_rfl, rfl⟩
theorem ent37 : Enters Tryd.prog 37 := ⟨Tryd.f37, _, Tryd.func37, by kernel_rfl, rfl⟩
theorem ent38 : Enters Tryd.prog 38 := ⟨Tryd.f38, _, Tryd.func38, by kernel_rfl, rfl⟩
theorem ent39 : Enters Tryd.prog 39 := ⟨Tryd.f39, _, Tryd.func39, by kernel_rfl, rfl⟩
theorem ent41 : Enters Tryd.prog 41 := ⟨Tryd.f41, _, Tryd.func41, by kernel_rfl, rfl⟩
end Go.SK
namespace Go.SK
open Go Go.Proofs
open Go.RowKit
theorem R4lx_PU16 (s : Tx) (hl : s.length ≤ 8) (w : World) (hG : LxG.holds w) : Ret Tryd.prog 40 #[str s, .int .i64 16, .int .i64 32] w (fun v w' => ((∃ n, s.length ≠ 0 ∧ hexsF s 0 = some n ∧ v = .tuple #[.int .u64 (n : Int), .nilIface]) ∨ ((s.length = 0 ∨ hexsF s 0 = none) ∧ ∃ N, v = .tuple #[.int .u64 0, .iface 97 (.pointer (some ⟨N, 0, none⟩))])) ∧ St w NoM [] [] w') := by
 refine Ret.enter (args := [str s, .int .i64 16, .int .i64 32]) Tryd.func40 rfl rfl rfl ?_
 have hst : St w NoM [] [LxG] w := St.init_Ds (by simp only [List.forall_mem_cons]; exact ⟨hG, fun _ h => absurd h List.not_mem_nil⟩)
 refine SR <| CN <| Op1.assign (v := .int .u64 _) rfl <| CN <| Op1.assign (v := .nilIface) rfl <| NSR <| MS rfl <| MI rfl <| MI rfl <| CN (Op1.call3 (v1 := str _) (v2 := .int .i64 _) (v3 := .int .i64 _) ent55 rfl rfl rfl rfl ((R4lx_iPU16 s hl _).mono fun v w hp => ?_))
 replace hp := or_and_right.1 hp
 rcases hp with ⟨⟨n, hne, hn, rfl⟩, hp⟩ | ⟨⟨hno, rfl⟩, hp⟩
 · skip
   replace hst := hst.keepc hp
   clear hp
   refine CN <| Op1.move (v := .tuple #[.int .u64 _, .nilIface]) rfl <| CN <| Op1.extract (v := .int .u64 _) rfl rfl <| CN <| Op1.extract (v := .nilIface) rfl rfl <| CN <| Op1.assign (v := .int .u64 _) rfl <| CN <| Op1.assign (v := .nilIface) rfl <| NL <| SQ <| SR <| CN <| Op1.move (v := .nilIface) rfl <| CN <| Op1.neqNN ty66 rfl rfl <| NL <| run_cond_false (congrArg Value.bool (rfl : false = _)) <| run_skip <| SQ ?_
   refine RG <| CN <| Op1.move (v := .int .u64 _) rfl <| CN <| Op1.assign (v := .int .u64 _) rfl <| CN <| Op1.assign (v := .nilIface) rfl <| NL <| run_ret2 Tryd.func40 rfl (TP (v := .int .u64 _) rfl) (TP (v := .nilIface) rfl) ?_
   exact ⟨.inl ⟨n, hne, hn, rfl⟩, hst.pure⟩
 · skip
   replace hst := hst.keepc hp
   clear hp
   refine CN <| Op1.move (v := .tuple #[.int .u64 _, .iface _ _]) rfl <| CN <| Op1.extract (v := .int .u64 _) rfl rfl <| CN <| Op1.extract (v := .iface _ _) rfl rfl <| CN <| Op1.assign (v := .int .u64 _) rfl <| CN <| Op1.assign (v := .iface _ _) rfl <| NL <| SQ <| SR <| CN <| Op1.move (v := .iface _ _) rfl <| CN <| Op1.neqIN ty66 rfl rfl <| NL <| run_cond_true (congrArg Value.bool (rfl : true = _)) <| SQ <| RG ?_
   refine CN <| Op1.move (v := .int .u64 _) rfl <| MS rfl <| MI rfl <| MI rfl <| CN <| Op1.move (v := .iface _ _) rfl <| CN (Op1.call5 (v1 := str _) (v2 := str _) (v3 := .int .i64 _) (v4 := .int .i64 _) (v5 := .iface _ _) ent56 rfl rfl rfl rfl rfl rfl ((lx_TE _ s _ (hst.hD _ (.head _)) (by omega)).mono fun v w hp => ?_))
   obtain ⟨⟨N, rfl⟩, hp⟩ := hp
   replace hst := hst.keepc hp
   clear hp
   refine CN <| Op1.assign (v := .int .u64 _) rfl <| CN <| Op1.assign (v := .iface _ _) rfl <| NL <| run_ret2 Tryd.func40 rfl (TP (v := .int .u64 _) rfl) (TP (v := .iface _ _) rfl) ?_
   exact ⟨.inr ⟨hno, N, rfl⟩, hst.pure⟩
theorem R4lx_plain (s : Tx) (w : World) (hG : LxG.holds w) (hl : s.length ≤ 140737488355328) : Ret Tryd.prog 37 #[str s] w (fun v w' => v = .tuple #[.int .u32 (puV s : Int), .bool (plainF s).isSome] ∧ St w NoM [] [] w') := by
 refine Ret.enter (args := [str s]) Tryd.func37 rfl rfl rfl ?_
 have hst : St w NoM [] [LxG] w := St.init_Ds (by simp only [List.forall_mem_cons]; exact ⟨hG, fun _ h => absurd h List.not_mem_nil⟩)
 have hpv := puV_le s
 refine SR <| AU rfl <| AB rfl <| NSR <| MS rfl <| CN (Op1.call3 (v1 := str _) (v2 := .int .i64 _) (v3 := .int .i64 _) ent40 rfl rfl rfl rfl ((lx_PU10 s _ (hst.hD _ (.head _)) (by omega)).mono fun v w hp => ?_))
 replace hp := or_and_right.1 hp
 rcases hp with ⟨⟨ho, rfl⟩, hp⟩ | ⟨⟨ho, N, rfl⟩, hp⟩
 · skip
   replace hst := hst.keepc hp
   clear hp
   refine CN <| Op1.move (v := .tuple #[.int .u64 _, .nilIface]) rfl <| CN <| Op1.extract (v := .int .u64 _) rfl rfl <| CN <| Op1.extract (v := .nilIface) rfl rfl <| CN <| Op1.assign (v := .int .u64 _) rfl <| CN <| Op1.assign (v := .nilIface) rfl <| NSR <| CN (Op1.move (v := .int .u64 _) rfl ?_)
   first | refine CN (Op1.convN ty57 ty33 rfl (wrap_u32 (by omega) (by omega)) ?_) | refine CN (Op1.conv ty57 ty33 rfl ?_)
   refine CN <| Op1.move (v := .nilIface) rfl <| CN <| Op1.eqlNN ty66 rfl rfl <| MB rfl <| TK (t := 15) rfl (congrArg Value.bool (rfl : true = _)) <| Op1.move (v := .int .u64 _) rfl <| TK (t := 15) rfl (congrArg Value.bool (rfl : true = _)) (Op1.call2 (v1 := .int .u64 _) (v2 := .int .i64 _) ent53 rfl rfl rfl ((R4lx_FU (puV s) (by omega) _ (hst.hD _ (.head _))).mono fun v w hp => ?_))
   obtain ⟨rfl, hp⟩ := hp
   replace hst := hst.keepc hp
   clear hp
   refine TK (t := 15) rfl (congrArg Value.bool (rfl : true = _)) <| Op1.move (v := str _) rfl <| TK (t := 15) rfl (congrArg Value.bool (rfl : true = _)) <| Op1.eqlS rfl rfl <| CN <| Op1.pickT (u := .bool _) (congrArg Value.bool (rfl : true = _)) rfl <| AU rfl <| AB rfl <| NL <| run_ret2 Tryd.func37 rfl (TP (v := .int .u32 _) rfl) (TP (v := .bool _) rfl) ?_
   rw [plain_yes ho]
   exact ⟨rfl, hst.pure⟩
 · skip
   replace hst := hst.keepc hp
   clear hp
   refine CN <| Op1.move (v := .tuple #[.int .u64 _, .iface _ _]) rfl <| CN <| Op1.extract (v := .int .u64 _) rfl rfl <| CN <| Op1.extract (v := .iface _ _) rfl rfl <| CN <| Op1.assign (v := .int .u64 _) rfl <| CN <| Op1.assign (v := .iface _ _) rfl <| NSR <| CN (Op1.move (v := .int .u64 _) rfl ?_)
   first | refine CN (Op1.convN ty57 ty33 rfl (wrap_u32 (by omega) (by omega)) ?_) | refine CN (Op1.conv ty57 ty33 rfl ?_)
   refine CN <| Op1.move (v := .iface _ _) rfl <| CN <| Op1.eqlIN ty66 rfl rfl <| MB rfl <| OM (t := 15) rfl (congrArg Value.bool (rfl : false = _)) rfl <| OM (t := 15) rfl (congrArg Value.bool (rfl : false = _)) rfl <| OM (t := 15) rfl (congrArg Value.bool (rfl : false = _)) rfl <| OM (t := 15) rfl (congrArg Value.bool (rfl : false = _)) rfl <| CN <| Op1.pickF (u := .bool _) (congrArg Value.bool (rfl : false = _)) rfl <| AU rfl <| AB rfl <| NL <| run_ret2 Tryd.func37 rfl (TP (v := .int .u32 _) rfl) (TP (v := .bool _) rfl) ?_
   rw [plain_no ho]
   exact ⟨rfl, hst.pure⟩
theorem R4lx_lNumber (s : Tx) (w : World) (hG : LxG.holds w) (hl : s.length ≤ 140737488355328) : Ret Tryd.prog 19 #[str s] w (fun v w' => v = .tuple #[.int .u32 (numLx s).1, .int .i64 (numLx s).2] ∧ St w NoM [] [] w') := by
 refine Ret.enter (args := [str s]) Tryd.func19 rfl rfl rfl ?_
 have hst : St w NoM [] [LxG] w := St.init_Ds (by simp only [List.forall_mem_cons]; exact ⟨hG, fun _ h => absurd h List.not_mem_nil⟩)
 refine SR <| AU rfl <| AI rfl <| NL <| SQ <| SR <| MS rfl <| CN <| Op1.call1 (v1 := str _) ent37 rfl rfl <| Ret.det (R4lx_plain _ _ (hst.hD _ (.head _)) (by first | omega | (simp only [List.length_drop, List.length_take, List.length_append, List.length_cons, List.length_nil]; omega))) hst fun w hst => CN <| Op1.move (v := .tuple #[.int .u32 _, .bool _]) rfl <| CN <| Op1.extract (v := .int .u32 _) rfl rfl <| CN <| Op1.extract (v := .bool _) rfl rfl <| AU rfl <| AB rfl ?_
 refine NSR <| MB rfl <| NL <| run_cond_split rfl (fun g1 => ?_) (fun g1 => ?_)
 · skip
   obtain ⟨n0, hn0⟩ := isSome_ex g1
   have hpr := plain_dec hn0
   refine SR <| MU rfl <| AU rfl <| AI rfl <| NL <| run_ret2 Tryd.func19 rfl (TP (v := .int .u32 _) rfl) (TP (v := .int .i64 _) rfl) ?_
   rw [numF_plain hn0, hpr.2.1]
   exact ⟨rfl, hst.pure⟩
 have hpn := isSome_no g1
 refine run_skip <| SQ <| SR <| MS rfl <| CN (Op1.call2 (v1 := str _) (v2 := str _) ent38 rfl rfl rfl ((lx_CPc s [45] _).mono fun v w hp => ?_))
 rcases hp with ⟨hm0, rfl, hp⟩ | ⟨hm0, rfl, hp⟩
 · skip
   replace hst := hst.keepc hp
   clear hp
   have hm := take1 hm0
   have hm45 : (45 : UInt8).toNat = 45 := rfl
   have hcl : ([45] : Tx).length = 1 := rfl
   rw [hm45] at hm
   refine CN <| Op1.move (v := .tuple #[str _, .bool _]) rfl <| CN <| Op1.extract (v := str _) rfl rfl <| CN <| Op1.extract (v := .bool _) rfl rfl <| AS rfl <| AB rfl <| NSR <| MB rfl <| NL <| run_cond_true (congrArg Value.bool (rfl : true = _)) <| SR <| MS rfl <| CN <| Op1.call1 (v1 := str _) ent37 rfl rfl <| Ret.det (R4lx_plain _ _ (hst.hD _ (.head _)) (by first | omega | (simp only [List.length_drop, List.length_take, List.length_append, List.length_cons, List.length_nil]; omega))) hst fun w hst => ?_
   refine CN <| Op1.move (v := .tuple #[.int .u32 _, .bool _]) rfl <| CN <| Op1.extract (v := .int .u32 _) rfl rfl <| CN <| Op1.extract (v := .bool _) rfl rfl <| AU rfl <| AB rfl <| NL <| Run.forget [(0, str _), (8, .int .u32 _), (9, .bool _)] ⟨rfl, rfl, rfl, trivial⟩ fun f => SR <| MB rfl <| MB rfl <| RunL.split (d := 33) rfl (fun g2 => ?_) (fun g2 => ?_)
   · skip
     obtain ⟨m, hm0m⟩ := isSome_ex g2
     have hmm : plainF (s.drop 1) = some m := hm0m
     have hpm : puV (s.drop ([45] : Tx).length) = m := (plain_dec hm0m).2.1
     refine TK (t := 33) rfl (congrArg Value.bool g2) <| Op1.move (v := .int .u32 _) rfl <| TK (t := 33) rfl (congrArg Value.bool g2) <| Op1.geq rfl rfl <| CN <| Op1.pickT (u := .bool _) (congrArg Value.bool g2) rfl <| MB rfl <| RunL.splitD (d := 37) rfl (fun g3 => ?_) (fun g3 => ?_)
     · skip
       refine TK (t := 37) rfl (congrArg Value.bool (decide_eq_true g3)) <| Op1.move (v := .int .u32 _) rfl <| TK (t := 37) rfl (congrArg Value.bool (decide_eq_true g3)) <| Op1.leq rfl rfl <| CN <| Op1.pickT (u := .bool _) (congrArg Value.bool (decide_eq_true g3)) rfl <| NL <| run_cond_dec rfl (fun g4 => ?_) (fun g4 => ?_)
       · skip
         refine SR <| MU rfl ?_
         first | refine CN (Op1.negN rfl rfl (wrap_u32 (by omega) (by omega)) ?_) | refine CN (Op1.neg rfl ?_)
         refine AU rfl <| AI rfl <| NL <| run_ret2 Tryd.func19 rfl (TP (v := .int .u32 _) rfl) (TP (v := .int .i64 _) rfl) ?_
         have hq : (1 : Int) ≤ (m : Int) ∧ (m : Int) ≤ 2147483648 := by omega
         rw [numF_minus2 hpn hm hmm (by omega)]
         have hw := neg_wrap (m := m) (by omega)
         rw [hpm, hw]
         exact ⟨rfl, hst.pure⟩
       refine run_skip <| SQ <| SR <| MS rfl <| CN (Op1.call2 (v1 := str _) (v2 := str _) ent38 rfl rfl rfl ((lx_CPc s [48, 120] _).mono fun v w hp => ?_))
       rcases hp with ⟨hx0, rfl, hp⟩ | ⟨hx0, rfl, hp⟩
       · skip
         have hx := take2 hx0
         have hx48 : (48 : UInt8).toNat = 48 := rfl
         have hx120 : (120 : UInt8).toNat = 120 := rfl
         rw [hx48, hx120] at hx
         exfalso; omega
       · skip
         replace hst := hst.keepc hp
         clear hp
         have hx := take2_no hx0
         have hx48 : (48 : UInt8).toNat = 48 := rfl
         have hx120 : (120 : UInt8).toNat = 120 := rfl
         rw [hx48, hx120] at hx
         refine CN <| Op1.move (v := .tuple #[str _, .bool _]) rfl <| CN <| Op1.extract (v := str _) rfl rfl <| CN <| Op1.extract (v := .bool _) rfl rfl <| AS rfl <| AB rfl <| NSR <| MB rfl <| MB rfl <| OM (t := 49) rfl (congrArg Value.bool (rfl : false = _)) rfl <| OM (t := 49) rfl (congrArg Value.bool (rfl : false = _)) rfl <| OM (t := 49) rfl (congrArg Value.bool (rfl : false = _)) rfl <| CN <| Op1.pickF (u := .bool _) (congrArg Value.bool (rfl : false = _)) rfl <| MB rfl ?_
         refine OM (t := 54) rfl (congrArg Value.bool (rfl : false = _)) rfl <| OM (t := 54) rfl (congrArg Value.bool (rfl : false = _)) rfl <| OM (t := 54) rfl (congrArg Value.bool (rfl : false = _)) rfl <| OM (t := 54) rfl (congrArg Value.bool (rfl : false = _)) rfl <| CN <| Op1.pickF (u := .bool _) (congrArg Value.bool (rfl : false = _)) rfl <| NL <| Run.forget [(10, str _), (59, .bool _)] ⟨rfl, rfl, trivial⟩ fun f => run_cond_false (congrArg Value.bool (rfl : false = _)) <| run_skip <| SR <| AU rfl <| AI rfl <| NL <| run_ret2 Tryd.func19 rfl (TP (v := .int .u32 _) rfl) (TP (v := .int .i64 _) rfl) ?_
         rw [numF_minusBad2 hpn hm (fun n hn => by rw [hmm] at hn; cases hn; omega)]
         exact ⟨rfl, hst.pure⟩
     refine OM (t := 37) rfl (congrArg Value.bool (decide_eq_false g3)) rfl <| OM (t := 37) rfl (congrArg Value.bool (decide_eq_false g3)) rfl <| CN <| Op1.pickF (u := .bool _) (congrArg Value.bool (decide_eq_false g3)) rfl <| NL <| run_cond_false (congrArg Value.bool (rfl : false = _)) <| run_skip <| SQ <| SR <| MS rfl <| CN (Op1.call2 (v1 := str _) (v2 := str _) ent38 rfl rfl rfl ((lx_CPc s [48, 120] _).mono fun v w hp => ?_))
     rcases hp with ⟨hx0, rfl, hp⟩ | ⟨hx0, rfl, hp⟩
     · skip
       have hx := take2 hx0
       have hx48 : (48 : UInt8).toNat = 48 := rfl
       have hx120 : (120 : UInt8).toNat = 120 := rfl
       rw [hx48, hx120] at hx
       exfalso; omega
     · skip
       replace hst := hst.keepc hp
       clear hp
       have hx := take2_no hx0
       have hx48 : (48 : UInt8).toNat = 48 := rfl
       have hx120 : (120 : UInt8).toNat = 120 := rfl
       rw [hx48, hx120] at hx
       refine CN <| Op1.move (v := .tuple #[str _, .bool _]) rfl <| CN <| Op1.extract (v := str _) rfl rfl <| CN <| Op1.extract (v := .bool _) rfl rfl <| AS rfl <| AB rfl <| NSR <| MB rfl <| MB rfl <| OM (t := 49) rfl (congrArg Value.bool (rfl : false = _)) rfl <| OM (t := 49) rfl (congrArg Value.bool (rfl : false = _)) rfl <| OM (t := 49) rfl (congrArg Value.bool (rfl : false = _)) rfl <| CN <| Op1.pickF (u := .bool _) (congrArg Value.bool (rfl : false = _)) rfl <| MB rfl ?_
       refine OM (t := 54) rfl (congrArg Value.bool (rfl : false = _)) rfl <| OM (t := 54) rfl (congrArg Value.bool (rfl : false = _)) rfl <| OM (t := 54) rfl (congrArg Value.bool (rfl : false = _)) rfl <| OM (t := 54) rfl (congrArg Value.bool (rfl : false = _)) rfl <| CN <| Op1.pickF (u := .bool _) (congrArg Value.bool (rfl : false = _)) rfl <| NL <| Run.forget [(10, str _), (59, .bool _)] ⟨rfl, rfl, trivial⟩ fun f => run_cond_false (congrArg Value.bool (rfl : false = _)) <| run_skip <| SR <| AU rfl <| AI rfl <| NL <| run_ret2 Tryd.func19 rfl (TP (v := .int .u32 _) rfl) (TP (v := .int .i64 _) rfl) ?_
       rw [numF_minusBad2 hpn hm (fun n hn => by rw [hmm] at hn; cases hn; omega)]
       exact ⟨rfl, hst.pure⟩
   have hmn : plainF (s.drop 1) = none := isSome_no g2
   refine OM (t := 33) rfl (congrArg Value.bool g2) rfl <| OM (t := 33) rfl (congrArg Value.bool g2) rfl <| CN <| Op1.pickF (u := .bool _) (congrArg Value.bool g2) rfl <| MB rfl <| OM (t := 37) rfl (congrArg Value.bool (rfl : false = _)) rfl <| OM (t := 37) rfl (congrArg Value.bool (rfl : false = _)) rfl <| CN <| Op1.pickF (u := .bool _) (congrArg Value.bool (rfl : false = _)) rfl <| NL <| run_cond_false (congrArg Value.bool (rfl : false = _)) <| run_skip <| SQ <| SR <| MS rfl <| CN (Op1.call2 (v1 := str _) (v2 := str _) ent38 rfl rfl rfl ((lx_CPc s [48, 120] _).mono fun v w hp => ?_))
   rcases hp with ⟨hx0, rfl, hp⟩ | ⟨hx0, rfl, hp⟩
   · skip
     have hx := take2 hx0
     have hx48 : (48 : UInt8).toNat = 48 := rfl
     have hx120 : (120 : UInt8).toNat = 120 := rfl
     rw [hx48, hx120] at hx
     exfalso; omega
   · skip
     replace hst := hst.keepc hp
     clear hp
     have hx := take2_no hx0
     have hx48 : (48 : UInt8).toNat = 48 := rfl
     have hx120 : (120 : UInt8).toNat = 120 := rfl
     rw [hx48, hx120] at hx
     refine CN <| Op1.move (v := .tuple #[str _, .bool _]) rfl <| CN <| Op1.extract (v := str _) rfl rfl <| CN <| Op1.extract (v := .bool _) rfl rfl <| AS rfl <| AB rfl <| NSR <| MB rfl <| MB rfl <| OM (t := 49) rfl (congrArg Value.bool (rfl : false = _)) rfl <| OM (t := 49) rfl (congrArg Value.bool (rfl : false = _)) rfl <| OM (t := 49) rfl (congrArg Value.bool (rfl : false = _)) rfl <| CN <| Op1.pickF (u := .bool _) (congrArg Value.bool (rfl : false = _)) rfl <| MB rfl ?_
     refine OM (t := 54) rfl (congrArg Value.bool (rfl : false = _)) rfl <| OM (t := 54) rfl (congrArg Value.bool (rfl : false = _)) rfl <| OM (t := 54) rfl (congrArg Value.bool (rfl : false = _)) rfl <| OM (t := 54) rfl (congrArg Value.bool (rfl : false = _)) rfl <| CN <| Op1.pickF (u := .bool _) (congrArg Value.bool (rfl : false = _)) rfl <| NL <| run_cond_false (congrArg Value.bool (rfl : false = _)) <| run_skip <| SR <| AU rfl <| AI rfl <| NL <| run_ret2 Tryd.func19 rfl (TP (v := .int .u32 _) rfl) (TP (v := .int .i64 _) rfl) ?_
     rw [numF_minusBad2 hpn hm (fun n hn => by rw [hmn] at hn; cases hn)]
     exact ⟨rfl, hst.pure⟩
 · skip
   replace hst := hst.keepc hp
   clear hp
   have hm := take1_no hm0
   have hm45 : (45 : UInt8).toNat = 45 := rfl
   rw [hm45] at hm
   refine CN <| Op1.move (v := .tuple #[str _, .bool _]) rfl <| CN <| Op1.extract (v := str _) rfl rfl <| CN <| Op1.extract (v := .bool _) rfl rfl <| AS rfl <| AB rfl <| NSR <| MB rfl <| NL <| run_cond_false (congrArg Value.bool (rfl : false = _)) <| run_skip <| SQ <| SQ <| RG ?_
   refine MS rfl <| CN (Op1.call2 (v1 := str _) (v2 := str _) ent38 rfl rfl rfl ((lx_CPc s [48, 120] _).mono fun v w hp => ?_))
   rcases hp with ⟨hx0, rfl, hp⟩ | ⟨hx0, rfl, hp⟩
   · skip
     replace hst := hst.keepc hp
     clear hp
     have hx := take2 hx0
     have hx48 : (48 : UInt8).toNat = 48 := rfl
     have hx120 : (120 : UInt8).toNat = 120 := rfl
     rw [hx48, hx120] at hx
     have hcl2 : ([48, 120] : Tx).length = 2 := rfl
     refine CN <| Op1.move (v := .tuple #[str _, .bool _]) rfl <| CN <| Op1.extract (v := str _) rfl rfl <| CN <| Op1.extract (v := .bool _) rfl rfl <| AS rfl <| AB rfl <| NL <| Run.forget [(10, str _), (11, .bool _)] ⟨rfl, rfl, trivial⟩ fun f => SR <| MB rfl <| MB rfl <| TK (t := 49) rfl (congrArg Value.bool (rfl : true = _)) <| Op1.move (v := str _) rfl <| TK (t := 49) rfl (congrArg Value.bool (rfl : true = _)) <| Op1.lenS (rest := []) ty9 rfl <| TK (t := 49) rfl (congrArg Value.bool (rfl : true = _)) <| Op1.leq rfl rfl <| CN (Op1.pickT (u := .bool _) (congrArg Value.bool (rfl : true = _)) rfl ?_)
     refine MB rfl <| RunL.splitD (d := 54) rfl (fun g5 => ?_) (fun g5 => ?_)
     · skip
       refine TK (t := 54) rfl (congrArg Value.bool (decide_eq_true g5)) <| Op1.move (v := str _) rfl <| TK (t := 54) rfl (congrArg Value.bool (decide_eq_true g5)) (Op1.call1 (v1 := str _) ent39 rfl rfl ((R4lx_run _ _ (by first | omega | (simp only [List.length_drop]; omega))).mono fun v w hp => ?_))
       obtain ⟨rfl, hp⟩ := hp
       replace hst := hst.keepc hp
       clear hp
       refine TK (t := 54) rfl (congrArg Value.bool (decide_eq_true g5)) <| Op1.move (v := str _) rfl <| TK (t := 54) rfl (congrArg Value.bool (decide_eq_true g5)) <| Op1.eqlS rfl rfl <| CN <| Op1.pickT (u := .bool _) (congrArg Value.bool (decide_eq_true g5)) rfl <| NL <| run_cond_dec rfl (fun g6 => ?_) (fun g6 => ?_)
       · skip
         have hd2 : (s.drop ([48, 120] : Tx).length).length = s.length - 2 := List.length_drop
         have hd3 : (s.drop 2).length = s.length - 2 := List.length_drop
         have hl8 : (s.drop 2).length ≤ 8 := by omega
         refine SR <| MS rfl <| CN (Op1.call3 (v1 := str _) (v2 := .int .i64 _) (v3 := .int .i64 _) ent40 rfl rfl rfl rfl ((R4lx_PU16 (s.drop 2) hl8 _ (hst.hD _ (.head _))).mono fun v w hp => ?_))
         replace hp := or_and_right.1 hp
         rcases hp with ⟨⟨n, hne, hn, rfl⟩, hp⟩ | ⟨⟨hno, N, rfl⟩, hp⟩
         · skip
           replace hst := hst.keepc hp
           clear hp
           have hru := hexs_run _ _ _ hn
           have hnb := hexs_bd hn hl8
           refine CN <| Op1.move (v := .tuple #[.int .u64 _, .nilIface]) rfl <| CN <| Op1.extract (v := .int .u64 _) rfl rfl <| CN <| Op1.extract (v := .nilIface) rfl rfl <| CN <| Op1.assign (v := .int .u64 _) rfl <| CN <| Op1.assign (v := .nilIface) rfl <| NL <| Run.forget [(10, str _), (12, .int .u64 _), (13, .nilIface)] ⟨rfl, rfl, rfl, trivial⟩ fun f => SR <| CN <| Op1.move (v := .nilIface) rfl <| CN <| Op1.eqlNN ty66 rfl rfl <| MB rfl <| TK (t := 67) rfl (congrArg Value.bool (rfl : true = _)) <| Op1.move (v := str _) rfl <| TK (t := 67) rfl (congrArg Value.bool (rfl : true = _)) (Op1.call2 (v1 := str _) (v2 := .int .u8 _) ent41 rfl rfl rfl ((lx_IB (s.drop 2) 95 _).mono fun v w hp => ?_))
           obtain ⟨he, hp⟩ := hp
           replace he := he.trans ((by rw [show (95 : Int).toNat.toUInt8 = 95 from rfl, hru.2] : _ = Value.int .i64 (-1)))
           subst he
           replace hst := hst.keepc hp
           clear hp
           refine TK (t := 67) rfl (congrArg Value.bool (rfl : true = _)) <| Op1.lss rfl rfl <| CN <| Op1.pickT (u := .bool _) (congrArg Value.bool (rfl : true = _)) rfl <| NL <| run_cond_dec rfl (fun g7 => ?_) (fun g7 => ?_)
           · skip
             refine SR <| CN (Op1.move (v := .int .u64 _) rfl ?_)
             first | refine CN (Op1.convN ty57 ty33 rfl (wrap_u32 (by omega) (by omega)) ?_) | refine CN (Op1.conv ty57 ty33 rfl ?_)
             refine AU rfl <| AI rfl <| NL <| run_ret2 Tryd.func19 rfl (TP (v := .int .u32 _) rfl) (TP (v := .int .i64 _) rfl) ?_
             have hd2 : (s.drop 2).length = s.length - 2 := List.length_drop
             rw [numF_hex hpn (by omega) (by omega) hn]
             exact ⟨rfl, hst.pure⟩
           exfalso
           omega
         · skip
           replace hst := hst.keepc hp
           clear hp
           refine CN <| Op1.move (v := .tuple #[.int .u64 _, .iface _ _]) rfl <| CN <| Op1.extract (v := .int .u64 _) rfl rfl <| CN <| Op1.extract (v := .iface _ _) rfl rfl <| CN <| Op1.assign (v := .int .u64 _) rfl <| CN <| Op1.assign (v := .iface _ _) rfl <| NL <| Run.forget [(10, str _), (12, .int .u64 _), (13, .iface _ _)] ⟨rfl, rfl, rfl, trivial⟩ fun f => SR <| CN <| Op1.move (v := .iface _ _) rfl <| CN <| Op1.eqlIN ty66 rfl rfl <| MB rfl <| OM (t := 67) rfl (congrArg Value.bool (rfl : false = _)) rfl <| OM (t := 67) rfl (congrArg Value.bool (rfl : false = _)) rfl <| OM (t := 67) rfl (congrArg Value.bool (rfl : false = _)) rfl ?_
           refine CN <| Op1.pickF (u := .bool _) (congrArg Value.bool (rfl : false = _)) rfl <| NL <| run_cond_false (congrArg Value.bool (rfl : false = _)) <| run_skip <| SR <| AU rfl <| AI rfl <| NL <| run_ret2 Tryd.func19 rfl (TP (v := .int .u32 _) rfl) (TP (v := .int .i64 _) rfl) ?_
           have hd2 : (s.drop 2).length = s.length - 2 := List.length_drop
           rw [numF_hexBad2 hpn hx (by rcases hno with h0 | h0; exact .inr (.inl (by omega)); exact .inr (.inr h0))]
           exact ⟨rfl, hst.pure⟩
       refine run_skip <| SR <| AU rfl <| AI rfl <| NL <| run_ret2 Tryd.func19 rfl (TP (v := .int .u32 _) rfl) (TP (v := .int .i64 _) rfl) ?_
       rw [numF_hexBad2 hpn hx (.inr (.inr (by cases hq : hexsF (s.drop 2) 0 with | none => rfl | some n => exact absurd (hexs_run _ _ _ hq).1 g6)))]
       exact ⟨rfl, hst.pure⟩
     refine OM (t := 54) rfl (congrArg Value.bool (decide_eq_false g5)) rfl <| OM (t := 54) rfl (congrArg Value.bool (decide_eq_false g5)) rfl <| OM (t := 54) rfl (congrArg Value.bool (decide_eq_false g5)) rfl <| OM (t := 54) rfl (congrArg Value.bool (decide_eq_false g5)) rfl <| CN <| Op1.pickF (u := .bool _) (congrArg Value.bool (decide_eq_false g5)) rfl <| NL <| run_cond_false (congrArg Value.bool (rfl : false = _)) <| run_skip <| SR <| AU rfl <| AI rfl <| NL <| run_ret2 Tryd.func19 rfl (TP (v := .int .u32 _) rfl) (TP (v := .int .i64 _) rfl) ?_
     have hd2 : (s.drop ([48, 120] : Tx).length).length = s.length - 2 := List.length_drop
     rw [numF_hexBad2 hpn hx (.inl (by omega))]
     exact ⟨rfl, hst.pure⟩
   · skip
     replace hst := hst.keepc hp
     clear hp
     have hx := take2_no hx0
     have hx48 : (48 : UInt8).toNat = 48 := rfl
     have hx120 : (120 : UInt8).toNat = 120 := rfl
     rw [hx48, hx120] at hx
     refine CN <| Op1.move (v := .tuple #[str _, .bool _]) rfl <| CN <| Op1.extract (v := str _) rfl rfl <| CN <| Op1.extract (v := .bool _) rfl rfl <| AS rfl <| AB rfl <| NL <| Run.forget [(10, str _), (11, .bool _)] ⟨rfl, rfl, trivial⟩ fun f => SR <| MB rfl <| MB rfl <| OM (t := 49) rfl (congrArg Value.bool (rfl : false = _)) rfl <| OM (t := 49) rfl (congrArg Value.bool (rfl : false = _)) rfl <| OM (t := 49) rfl (congrArg Value.bool (rfl : false = _)) rfl <| CN (Op1.pickF (u := .bool _) (congrArg Value.bool (rfl : false = _)) rfl ?_)
     refine MB rfl <| OM (t := 54) rfl (congrArg Value.bool (rfl : false = _)) rfl <| OM (t := 54) rfl (congrArg Value.bool (rfl : false = _)) rfl <| OM (t := 54) rfl (congrArg Value.bool (rfl : false = _)) rfl <| OM (t := 54) rfl (congrArg Value.bool (rfl : false = _)) rfl <| CN <| Op1.pickF (u := .bool _) (congrArg Value.bool (rfl : false = _)) rfl <| NL <| run_cond_false (congrArg Value.bool (rfl : false = _)) <| run_skip <| SR <| AU rfl <| AI rfl <| NL <| run_ret2 Tryd.func19 rfl (TP (v := .int .u32 _) rfl) (TP (v := .int .i64 _) rfl) ?_
     rw [numF_bad hpn (by omega) (by omega)]
     exact ⟨rfl, hst.pure⟩
end Go.SK
namespace Go.SK
open Go Go.Proofs
theorem ent19 : Enters Tryd.prog 19 := ⟨Tryd.f19, _, Tryd.func19, by kernel_rfl, rfl⟩
end Go.SK
namespace Go.SK
open Go Go.Proofs
open Go.RowKit
theorem R4lx_escaped (s : Tx) (w : World) (hG : LxG.holds w) (hl : s.length ≤ 140737488355327) : Ret Tryd.prog 63 #[str s] w (fun v w' => v = partV (escF s) ∧ St w NoM [] [] w') := by
 refine Ret.enter (args := [str s]) Tryd.func63 rfl rfl rfl ?_
 have hst : St w NoM [] [LxG] w := St.init_Ds (by simp only [List.forall_mem_cons]; exact ⟨hG, fun _ h => absurd h List.not_mem_nil⟩)
 have hidx0 : (s.getD ((0 : Int).toNat) 0).toNat = (s.getD 0 0).toNat := rfl
 have h48 : (numLx ([48] ++ s.take ((3 : Int).toNat))).2 = (numLx ([48] ++ s.take 3)).2 := rfl
 refine SR <| AC rfl <| AI rfl <| NL <| SQ <| run_block <| SR <| MS rfl <| CN <| Op1.eqlS rfl rfl <| AB rfl <| NL <| run_cond_dec rfl (fun g1 => ?_) (fun g1 => ?_)
 · skip
   refine run_skip <| run_inBlock <| SR <| AC rfl <| AI rfl <| NL <| run_ret2 Tryd.func63 rfl (TP (v := .int .u8 _) rfl) (TP (v := .int .i64 _) rfl) ?_
   subst g1
   exact ⟨rfl, hst.pure⟩
 have hpos : 0 < s.length := by rcases Nat.eq_zero_or_pos s.length with h0 | h0; exact absurd (List.length_eq_zero_iff.1 h0) g1; exact h0
 refine SQ <| SR <| MS rfl <| CN <| Op1.indexS ty9 rfl rfl (by omega) (by omega) <| CN <| Op1.eql rfl rfl <| AB rfl <| NL <| run_cond_dec rfl (fun g2 => ?_) (fun g2 => ?_)
 · skip
   refine run_skip <| run_cond_true (congrArg Value.bool (decide_eq_true g2)) <| SR <| MS rfl <| CN <| Op1.indexS ty9 rfl rfl (by omega) (by omega) <| AC rfl <| AI rfl <| NL <| run_ret2 Tryd.func63 rfl (TP (v := .int .u8 _) rfl) (TP (v := .int .i64 _) rfl) ?_
   rw [esc_mark (by omega) (by omega)]
   exact ⟨rfl, hst.pure⟩
 refine RG <| MS rfl <| CN <| Op1.indexS ty9 rfl rfl (by omega) (by omega) <| CN <| Op1.eql rfl rfl <| AB rfl <| NL <| run_cond_dec rfl (fun g3 => ?_) (fun g3 => ?_)
 · skip
   refine SR <| MS rfl <| CN <| Op1.indexS ty9 rfl rfl (by omega) (by omega) <| AC rfl <| AI rfl <| NL <| run_ret2 Tryd.func63 rfl (TP (v := .int .u8 _) rfl) (TP (v := .int .i64 _) rfl) ?_
   rw [esc_mark (by omega) (by omega)]
   exact ⟨rfl, hst.pure⟩
 refine SR <| MS rfl <| CN <| Op1.indexS ty9 rfl rfl (by omega) (by omega) <| CN <| Op1.eql rfl rfl <| MB rfl <| RunL.splitD (d := 22) rfl (fun g4 => ?_) (fun g4 => ?_)
 · skip
   refine TK (t := 22) rfl (congrArg Value.bool (decide_eq_true g4)) <| Op1.move (v := str _) rfl <| TK (t := 22) rfl (congrArg Value.bool (decide_eq_true g4)) <| Op1.lenS (rest := []) ty9 rfl <| TK (t := 22) rfl (congrArg Value.bool (decide_eq_true g4)) <| Op1.geq rfl rfl <| CN <| Op1.pickT (u := .bool _) (congrArg Value.bool (decide_eq_true g4)) rfl <| AB rfl <| NL <| Run.forget [(0, str _), (18, .bool _)] ⟨rfl, rfl, trivial⟩ fun f => run_cond_dec rfl (fun g5 => ?_) (fun g5 => ?_)
   · skip
     refine SR <| MS rfl <| CN <| Op1.sliceTo ty9 rfl rfl (by omega) (by omega) <| CN <| Op1.addS rfl rfl (by first | omega | (simp only [List.length_cons, List.length_nil, List.length_append]; omega) | (simp; omega)) <| CN <| Op1.call1 (v1 := str _) ent19 rfl rfl <| Ret.det (R4lx_lNumber _ _ (hst.hD _ (.head _)) (by simp only [List.length_append, List.length_take, List.length_singleton]; omega)) hst fun w hst => CN <| Op1.move (v := .tuple #[.int .u32 _, .int .i64 _]) rfl <| CN <| Op1.extract (v := .int .u32 _) rfl rfl <| CN <| Op1.extract (v := .int .i64 _) rfl rfl <| AU rfl <| AI rfl <| NSR <| MI rfl ?_
     refine CN <| Op1.eql rfl rfl <| NL <| run_cond_dec rfl (fun g6 => ?_) (fun g6 => ?_)
     · skip
       have hq0 : (numLx ([48] ++ s.take ((3 : Int).toNat))) = numLx ([48] ++ s.take 3) := rfl
       have hn0 : (numLx ([48] ++ s.take 3)).2 = 0 := by have := g6; omega
       have heb := (esc_hex (r := s) (by omega) (by omega) hn0).2
       have heb2 : (numLx ([48] ++ s.take ((3 : Int).toNat))).1 = (numLx ([48] ++ s.take 3)).1 := rfl
       refine SR <| MU rfl ?_
       first | refine CN (Op1.convN ty33 ty5 rfl (wrap_u8 (by omega) (by omega)) ?_) | refine CN (Op1.conv ty33 ty5 rfl ?_)
       refine AC rfl <| AI rfl <| NL <| run_ret2 Tryd.func63 rfl (TP (v := .int .u8 _) rfl) (TP (v := .int .i64 _) rfl) ?_
       have he := esc_hex (r := s) (by omega) (by omega) hn0
       rw [he.1]
       exact ⟨partV_byte he.2, hst.pure⟩
     have hq0 : (numLx ([48] ++ s.take ((3 : Int).toNat))) = numLx ([48] ++ s.take 3) := rfl
     refine run_skip <| run_inBlock <| SR <| AC rfl <| AI rfl <| NL <| run_ret2 Tryd.func63 rfl (TP (v := .int .u8 _) rfl) (TP (v := .int .i64 _) rfl) ?_
     rw [esc_noHex (r := s) (by omega) (by omega) (by omega)]
     exact ⟨rfl, hst.pure⟩
   refine run_skip <| run_inBlock <| SR <| AC rfl <| AI rfl <| NL <| run_ret2 Tryd.func63 rfl (TP (v := .int .u8 _) rfl) (TP (v := .int .i64 _) rfl) ?_
   rw [esc_no (r := s) (by omega) (by omega) (by omega)]
   exact ⟨rfl, hst.pure⟩
 refine OM (t := 22) rfl (congrArg Value.bool (decide_eq_false g4)) rfl <| OM (t := 22) rfl (congrArg Value.bool (decide_eq_false g4)) rfl <| OM (t := 22) rfl (congrArg Value.bool (decide_eq_false g4)) rfl <| CN <| Op1.pickF (u := .bool _) (congrArg Value.bool (decide_eq_false g4)) rfl <| AB rfl <| NL <| Run.forget [(0, str _), (18, .bool _)] ⟨rfl, rfl, trivial⟩ fun f => run_cond_false (congrArg Value.bool (rfl : false = _)) <| run_skip <| run_inBlock <| SR <| AC rfl <| AI rfl <| NL ?_
 refine run_ret2 Tryd.func63 rfl (TP (v := .int .u8 _) rfl) (TP (v := .int .i64 _) rfl) ?_
 rw [esc_no (r := s) (by omega) (by omega) (by omega)]
 exact ⟨rfl, hst.pure⟩
end Go.SK
namespace Go.SK
open Go Go.Proofs
theorem ent63 : Enters Tryd.prog 63 := ⟨Tryd.f63, _, Tryd.func63, by kernel_rfl, rfl⟩
end Go.SK
namespace Go.SK
open Go Go.Proofs
open Go.RowKit
theorem R4lx_quoted (s : Tx) (h0 : 0 < s.length) (w : World) (hG : LxG.holds w) (hl : s.length ≤ 1099511627776) : Ret Tryd.prog 52 #[str s] w (fun v w' => v = .tuple #[str (quoP (quoA s 1)).1, .int .i64 ((quoP (quoA s 1)).2 : Int)] ∧ St w NoM [] [] w') := by
 refine Ret.enter (args := [str s]) Tryd.func52 rfl rfl rfl ?_
 have hst : St w NoM [] [LxG] w := St.init_Ds (by simp only [List.forall_mem_cons]; exact ⟨hG, fun _ h => absurd h List.not_mem_nil⟩)
 refine SR <| AS rfl <| AI rfl <| NL <| run_scope <| SR <| AL rfl <| NL <| SQ ?_
 replace hst := hst.pushNil 5 1
 refine RG <| AI rfl <| NL <| SQ <| run_label <| Run.indW [(0, str _)] ⟨rfl, trivial⟩ (fun (qq : Nat × Tx × Option Addr × Nat) => [(4, .slice qq.2.2.1 qq.2.1.length qq.2.2.2), (5, .int .i64 (qq.1 : Int))]) (fun (qq : Nat × Tx × Option Addr × Nat) => [Res.sl qq.2.2.1 qq.2.1.length qq.2.2.2 5 1 (qq.2.1.flatMap byC)]) (fun (qq : Nat × Tx × Option Addr × Nat) => quoI s 1 qq.1 qq.2.1) (fun (qq : Nat × Tx × Option Addr × Nat) => s.length - qq.1) ((1, [], none, 0)) hst (quoI_start (by omega)) ⟨rfl, rfl, trivial⟩ ?_
 intro ⟨i, b, aq, cq⟩ f w hst hJ ih1
 replace hst : St _ _ ([Res.sl aq b.length cq 5 1 (b.flatMap byC)] ++ []) _ _ := hst
 replace hJ : quoI s 1 i b := hJ
 refine Run.slots (sl := [(4, .slice aq b.length cq), (5, .int .i64 (i : Int))]) ⟨rfl, rfl, trivial⟩ ?_
 have hidx : (s.getD ((i : Int).toNat) 0).toNat = (s.getD i 0).toNat := rfl
 have hj2 := hJ.2.1
 have hj3 := hJ.2.2.1
 have hj1 := hJ.1
 refine SQ <| SR <| MI rfl <| MS rfl <| CN <| Op1.lenS (rest := []) ty9 rfl <| CN <| Op1.geq rfl rfl <| NL <| run_cond_dec rfl (fun g2 => ?_) (fun g2 => ?_)
 · skip
   refine SR <| AS rfl <| AI rfl <| NL <| run_ret2 Tryd.func52 rfl (TP (v := str _) rfl) (TP (v := .int .i64 _) rfl) ?_
   rw [quoI_none hJ (quo_end (by omega))]
   exact ⟨rfl, hst.pure⟩
 refine run_skip <| SQ <| SR <| MS rfl <| MI rfl <| CN <| Op1.indexS ty9 rfl rfl (by omega) (by omega) <| AC rfl <| NL <| run_block <| SR <| MC rfl <| CN <| Op1.eql rfl rfl <| AB rfl ?_
 refine NL <| run_cond_dec rfl (fun g3 => ?_) (fun g3 => ?_)
 · skip
   refine SR <| ML rfl <| CN <| Op1.bytesStr2 (l := b) ty70 ty5 ty9 rfl rfl (Res.rs_of_sl (hst.hL _ (.head _))) rfl <| MI rfl <| CN <| Op1.addN rfl rfl rfl (wrap_i64 (by omega) (by omega)) <| AS rfl <| AI rfl <| NL <| run_ret2 Tryd.func52 rfl (TP (v := str _) rfl) (TP (v := .int .i64 _) rfl) ?_
   rw [quoI_mark hJ (by omega) (by omega)]
   unfold quoP; dsimp only
   refine ⟨?_, hst.pure⟩
   congr 3; congr 1; have hj1 := hJ.1; congr 1; omega
 refine SR <| MC rfl <| CN <| Op1.lss rfl rfl <| MB rfl <| RunL.splitD (d := 30) rfl (fun g4 => ?_) (fun g4 => ?_)
 · skip
   refine OM (t := 30) rfl (congrArg Value.bool (decide_eq_true g4)) rfl <| OM (t := 30) rfl (congrArg Value.bool (decide_eq_true g4)) rfl <| CN <| Op1.pickT (u := .bool _) (congrArg Value.bool (decide_eq_true g4)) rfl <| AB rfl <| NL <| run_cond_true (congrArg Value.bool (rfl : true = _)) <| SR <| AS rfl <| AI rfl <| NL <| run_ret2 Tryd.func52 rfl (TP (v := str _) rfl) (TP (v := .int .i64 _) rfl) ?_
   rw [quoI_none hJ (quo_none (by omega) (by omega) (part_no1 (by omega) (by omega)))]
   exact ⟨rfl, hst.pure⟩
 refine TK (t := 30) rfl (congrArg Value.bool (decide_eq_false g4)) <| Op1.move (v := .int .u8 _) rfl <| TK (t := 30) rfl (congrArg Value.bool (decide_eq_false g4)) <| Op1.gtr rfl rfl <| CN <| Op1.pickF (u := .bool _) (congrArg Value.bool (decide_eq_false g4)) rfl <| AB rfl <| NL <| run_cond_dec rfl (fun g5 => ?_) (fun g5 => ?_)
 · skip
   refine SR <| AS rfl <| AI rfl <| NL <| run_ret2 Tryd.func52 rfl (TP (v := str _) rfl) (TP (v := .int .i64 _) rfl) ?_
   rw [quoI_none hJ (quo_none (by omega) (by omega) (part_no1 (by omega) (by omega)))]
   exact ⟨rfl, hst.pure⟩
 refine SR <| MC rfl <| CN <| Op1.eql rfl rfl <| AB rfl <| NL <| Run.forget [(0, str _), (4, .slice _ _ _), (5, .int .i64 _), (6, .int .u8 _), (34, .bool _)] ⟨rfl, rfl, rfl, rfl, rfl, trivial⟩ fun f => run_cond_dec rfl (fun g6 => ?_) (fun g6 => ?_)
 · skip
   refine SR <| MS rfl <| MI rfl <| CN <| Op1.addN rfl rfl rfl (wrap_i64 (by omega) (by omega)) <| CN <| Op1.sliceFrom ty9 rfl rfl (by omega) (by omega) <| CN <| Op1.call1 (v1 := str _) ent63 rfl rfl <| Ret.det (R4lx_escaped _ _ (hst.hD _ (.head _)) (by first | omega | (simp only [List.length_drop, List.length_take, List.length_append, List.length_cons, List.length_nil]; omega))) hst fun w hst => CN <| Op1.move (v := .tuple #[.int .u8 _, .int .i64 _]) rfl <| CN <| Op1.extract (v := .int .u8 _) rfl rfl <| CN <| Op1.extract (v := .int .i64 _) rfl rfl <| AC rfl <| AI rfl <| NL <| SQ <| SQ ?_
   refine RG <| MI rfl <| CN <| Op1.eql rfl rfl <| NL <| run_cond_dec rfl (fun g7 => ?_) (fun g7 => ?_)
   · skip
     have hpn : partF (s.drop i) = none := part_escN (by omega) (by omega) (Int.ofNat_eq_zero.1 g7)
     refine SR <| AS rfl <| AI rfl <| NL <| run_ret2 Tryd.func52 rfl (TP (v := str _) rfl) (TP (v := .int .i64 _) rfl) ?_
     rw [quoI_none hJ (quo_none (by omega) (by omega) hpn)]
     exact ⟨rfl, hst.pure⟩
   have hpt : partF (s.drop i) = some (((escF (s.drop (i + 1))).getD (0, 0)).1, ((escF (s.drop (i + 1))).getD (0, 0)).2 + 1) := part_escS (by omega) (by omega) (fun e => g7 (by rw [show ((escF (s.drop (((i : Int) + 1).toNat))).getD (0, 0)).2 = 0 from e]; rfl))
   have hpl := part_len (by omega) hpt
   have hidE : ((escF (s.drop (((i : Int) + 1).toNat))).getD (0, 0)).2 = ((escF (s.drop (i + 1))).getD (0, 0)).2 := rfl
   refine run_skip <| SR <| ML rfl <| MC rfl <| CN (Op1.buildSl (z0 := [.int .u8 0]) hst ty70 ty5 rfl rfl (by kernel_rfl) (.c (v := .int .u8 _) rfl (h := .nil)) fun w b49 hst => ?_)
   refine CN (Op1.append (news := byC ((escF (s.drop (((i : Int) + 1).toNat))).getD (0, 0)).1) hst ty70 ty5 rfl rfl (.there (.here)) rfl rfl rfl (cells_of_obj (n := 1) (hst.objL (.head _)) _ rfl) rfl rfl (by omega) fun w ao8 cp9 hst => ?_)
   replace hst := hst.drop (.there (.here))
   refine AL rfl <| NR <| MI rfl <| MI rfl <| CN <| Op1.addN rfl rfl rfl (wrap_i64 (by omega) (by omega)) <| AI rfl <| NL <| run_inBlock <| Run.forget [(0, str _), (4, .slice _ _ _), (5, .int .i64 _)] ⟨rfl, rfl, rfl, trivial⟩ fun f => SR <| MI rfl <| CN <| Op1.addN rfl rfl rfl (wrap_i64 (by omega) (by omega)) <| AI rfl ?_
   refine NL ?_
   have hI := quoI_step hJ (by omega) (by omega) hpt
   refine run_goto ?_ (SQ (run_skip (ih1 ((i + (((escF (s.drop (i + 1))).getD (0, 0)).2 + 1), b ++ [((escF (s.drop (i + 1))).getD (0, 0)).1], ao8, cp9)) _ w ((by (try dsimp only); omega)) (by rw [List.length_append, List.flatMap_append]; exact hst) (hI) ⟨rfl, trivial⟩ ⟨(by simp only [List.length_append]; rfl), (congrArg (Value.int .i64) (by (try dsimp only); omega)), trivial⟩)))
   rfl
 refine RG <| ML rfl <| MC rfl <| CN (Op1.buildSl (z0 := [.int .u8 0]) hst ty70 ty5 rfl rfl (by kernel_rfl) (.c (v := .int .u8 _) rfl (h := .nil)) fun w b18 hst => ?_)
 refine CN (Op1.append (news := byC (s.getD ((i : Int).toNat) 0)) hst ty70 ty5 rfl rfl (.there (.here)) rfl rfl rfl (cells_of_obj (n := 1) (hst.objL (.head _)) _ rfl) rfl rfl (by omega) fun w ao10 cp11 hst => ?_)
 replace hst := hst.drop (.there (.here))
 refine AL rfl <| NL <| run_inBlock <| SR <| MI rfl <| CN <| Op1.addN rfl rfl rfl (wrap_i64 (by omega) (by omega)) <| AI rfl <| NL ?_
 have hpt : partF (s.drop i) = some (s.getD i 0, 1) := part_plain (by omega) (by omega) (by omega) (by omega)
 have hI := quoI_step hJ (by omega) (by omega) hpt
 refine run_goto ?_ (SQ (run_skip (ih1 ((i + (1), b ++ [s.getD i 0], ao10, cp11)) _ w ((by (try dsimp only); omega)) (by rw [List.length_append, List.flatMap_append]; exact hst) (hI) ⟨rfl, trivial⟩ ⟨(by simp only [List.length_append]; rfl), (congrArg (Value.int .i64) (by (try dsimp only); omega)), trivial⟩)))
 rfl
theorem R4lx_lQuote (s : Tx) (w : World) (hl : s.length ≤ 1099511627776) : Ret Tryd.prog 20 #[str s] w (fun v w' => v = str (quoteF s) ∧ St w NoM [] [] w') := by
 refine Ret.enter (args := [str s]) Tryd.func20 rfl rfl rfl ?_
 have hst := St.init w
 refine SR <| AS rfl <| NSR <| CN (Op1.buildSl (z0 := [.int .u8 0]) hst ty70 ty5 rfl rfl (by kernel_rfl) (.c (v := .int .u8 _) rfl (h := .nil)) fun w b6 hst => ?_)
 refine AL rfl <| NL <| SQ <| SQ ?_
 replace hst := St.rowSl (n := 1) (es := 1) hst rfl (by rw [maxLen_eq]; omega)
 refine RG <| AI rfl <| NL <| run_block <| run_loop <| Run.indW [(0, str _)] ⟨rfl, trivial⟩ (fun (qq : Nat × Option Addr × Nat) => [(3, .slice qq.2.1 (qb s qq.1).length qq.2.2), (4, .int .i64 (qq.1 : Int))]) (fun (qq : Nat × Option Addr × Nat) => [Res.sl qq.2.1 (qb s qq.1).length qq.2.2 5 1 ((qb s qq.1).flatMap byC)]) (fun (qq : Nat × Option Addr × Nat) => qq.1 ≤ s.length) (fun (qq : Nat × Option Addr × Nat) => s.length - qq.1) ((0, some ⟨b6, 0, none⟩, 1)) hst (Nat.zero_le _) ⟨rfl, rfl, trivial⟩ ?_
 intro ⟨i, aq, cq⟩ f w hst hJ ih1
 replace hst : St _ _ ([Res.sl aq (qb s i).length cq 5 1 ((qb s i).flatMap byC)] ++ []) _ _ := hst
 replace hJ : i ≤ s.length := hJ
 refine Run.slots (sl := [(3, .slice aq (qb s i).length cq), (4, .int .i64 (i : Int))]) ⟨rfl, rfl, trivial⟩ ?_
 have hidx : (s.getD ((i : Int).toNat) 0).toNat = (s.getD i 0).toNat := rfl
 have hql := qb_len s i
 have hc8 := (s.getD i 0).toNat_lt
 refine SQ <| SR <| MI rfl <| MS rfl <| CN <| Op1.lenS (rest := []) ty9 rfl <| CN <| Op1.lss rfl rfl <| NL <| run_cond_dec rfl (fun g2 => ?_) (fun g2 => ?_)
 · skip
   refine run_skip <| SQ <| run_block <| SR <| MS rfl <| MI rfl <| CN <| Op1.indexS ty9 rfl rfl (by omega) (by omega) <| AC rfl <| NL <| run_block <| SQ <| run_block <| SQ <| run_block ?_
   refine SQ <| run_block <| SQ <| SQ <| SR <| MC rfl <| CN <| Op1.lss rfl rfl <| MB rfl <| RunL.splitD (d := 19) rfl (fun g3 => ?_) (fun g3 => ?_)
   · skip
     refine OM (t := 19) rfl (congrArg Value.bool (decide_eq_true g3)) rfl <| OM (t := 19) rfl (congrArg Value.bool (decide_eq_true g3)) rfl <| CN <| Op1.pickT (u := .bool _) (congrArg Value.bool (decide_eq_true g3)) rfl <| AB rfl <| NL <| run_cond_true (congrArg Value.bool (rfl : true = _)) <| run_exit (id := 3) rfl <| SQ <| RunD.start [] hst (bs := [0, 0, 2, 6, 0, 16, 48, 126, 255, 511]) (ds := [some 28, some 29, some 30, some 31, some 32, some 33, some 34, some 35, some 36, some 3]) ⟨by kernel_rfl, by kernel_rfl, by kernel_rfl⟩ (fun tab4 => ?_)
     refine RunD.op (det _) tab4 1 (fun f' L' w' hc => Op1.move (v := .slice _ _ _) (hc.old (v := .slice _ _ _) rfl rfl rfl) ⟨[], ⟨rfl, rfl⟩, hc.st⟩) <| RunD.op (det _) tab4 2 (fun f' L' w' hc => Op1.move (v := .int .u8 _) (hc.old (v := .int .u8 _) rfl rfl rfl) ⟨[], ⟨rfl, rfl⟩, hc.st⟩) <| RunD.op (det _) tab4 3 (fun f' L' w' hc => Op1.shrI (c := (((s.getD i 0).toNat / 16 : Nat) : Int)) (hc.det (j := 1) rfl rfl rfl rfl) rfl (by decide) (by decide) (by rw [show (2 : Int) ^ (4 : Int).toNat = 16 from rfl]; omega) ⟨[], ⟨rfl, rfl⟩, hc.st⟩) <| RunD.op (det _) tab4 4 (fun f' L' w' hc => Op1.indexS (s := [48, 49, 50, 51, 52, 53, 54, 55, 56, 57, 97, 98, 99, 100, 101, 102]) ty9 rfl (hc.det (j := 2) rfl rfl rfl rfl) (by omega) (by (have hl16 : ([48, 49, 50, 51, 52, 53, 54, 55, 56, 57, 97, 98, 99, 100, 101, 102] : Tx).length = 16 := rfl); omega) ⟨[], ⟨rfl, rfl⟩, hc.st⟩) <| RunD.op (det _) tab4 5 (fun f' L' w' hc => Op1.move (v := .int .u8 _) (hc.old (v := .int .u8 _) rfl rfl rfl) ⟨[], ⟨rfl, rfl⟩, hc.st⟩) <| RunD.op (det _) tab4 6 (fun f' L' w' hc => Op1.and15 (m := (s.getD i 0).toNat) (hc.det (j := 4) rfl rfl rfl rfl) rfl (by omega) (by omega) ⟨[], ⟨rfl, rfl⟩, hc.st⟩) <| RunD.op (det _) tab4 7 (fun f' L' w' hc => Op1.indexS (s := [48, 49, 50, 51, 52, 53, 54, 55, 56, 57, 97, 98, 99, 100, 101, 102]) ty9 rfl (hc.det (j := 5) rfl rfl rfl rfl) (by omega) (by (have hl16 : ([48, 49, 50, 51, 52, 53, 54, 55, 56, 57, 97, 98, 99, 100, 101, 102] : Tx).length = 16 := rfl); omega) ⟨[], ⟨rfl, rfl⟩, hc.st⟩) <| RunD.op (fun v rs => ∃ b, v = .slice (some ⟨b, 0, none⟩) 4 4 ∧ rs = [Res.row b 5 ([.int .u8 92, .int .u8 120, .int .u8 ((([48, 49, 50, 51, 52, 53, 54, 55, 56, 57, 97, 98, 99, 100, 101, 102] : Tx).getD ((((s.getD i 0).toNat / 16 : Nat) : Int).toNat) 0).toNat : Int), .int .u8 ((([48, 49, 50, 51, 52, 53, 54, 55, 56, 57, 97, 98, 99, 100, 101, 102] : Tx).getD ((((s.getD i 0).toNat % 16 : Nat) : Int).toNat) 0).toNat : Int)])]) tab4 8 (fun f' L' w' hc => Op1.buildSl (z0 := [.int .u8 0, .int .u8 0, .int .u8 0, .int .u8 0]) hc.st ty70 ty5 rfl rfl (by kernel_rfl) (.c (v := .int .u8 _) rfl (h := (.c (v := .int .u8 _) rfl (h := (.c (v := .int .u8 _) (hc.det (j := 3) rfl rfl rfl rfl) (h := (.c (v := .int .u8 _) (hc.det (j := 6) rfl rfl rfl rfl) (h := .nil)))))))) fun w b hst => ⟨[_], ⟨b, rfl, rfl⟩, hst⟩) ?_
     refine RunD.fin followsMixed tab4 hst rfl (fun f5 w R8 hs6 hd7 hr9 hst => ?_)
     obtain ⟨h28_, r0⟩ := hd7 0 28 rfl rfl
     obtain ⟨h29_, r1⟩ := hd7 1 29 rfl rfl
     obtain ⟨h30_, r2⟩ := hd7 2 30 rfl rfl
     obtain ⟨h31_, r3⟩ := hd7 3 31 rfl rfl
     obtain ⟨h32_, r4⟩ := hd7 4 32 rfl rfl
     obtain ⟨h33_, r5⟩ := hd7 5 33 rfl rfl
     obtain ⟨h34_, r6⟩ := hd7 6 34 rfl rfl
     obtain ⟨b35, h35_, r7⟩ := hd7 7 35 rfl rfl
     simp only [show List.range 8 = [0, 1, 2, 3, 4, 5, 6, 7] from rfl, List.flatMap_cons, List.flatMap_nil, List.map_cons, List.map_nil, r0, r1, r2, r3, r4, r5, r6, r7, List.nil_append, List.append_nil, List.cons_append] at hst
     refine RunL.slots (sl := [(0, str _), (4, .int .i64 _), (28, .slice _ _ _), (35, .slice _ _ _)]) ⟨(hs6 0 rfl).trans rfl, (hs6 4 rfl).trans rfl, h28_, h35_, trivial⟩ ?_
     clear hs6 hd7 hr9 tab4
     refine CN (Op1.append (news := [.int .u8 92, .int .u8 120, .int .u8 ((([48, 49, 50, 51, 52, 53, 54, 55, 56, 57, 97, 98, 99, 100, 101, 102] : Tx).getD ((((s.getD i 0).toNat / 16 : Nat) : Int).toNat) 0).toNat : Int), .int .u8 ((([48, 49, 50, 51, 52, 53, 54, 55, 56, 57, 97, 98, 99, 100, 101, 102] : Tx).getD ((((s.getD i 0).toNat % 16 : Nat) : Int).toNat) 0).toNat : Int)]) hst ty70 ty5 rfl rfl (.there (.here)) rfl rfl rfl (cells_of_obj (n := 4) (hst.objL (.head _)) _ rfl) rfl rfl (by omega) fun w ao10 cp11 hst => ?_)
     replace hst := hst.drop (.there (.here))
     refine AL rfl <| NL <| run_exit (id := 2) rfl <| run_inBlock <| Run.forget [(0, str _), (3, .slice _ _ _), (4, .int .i64 _)] ⟨rfl, rfl, rfl, trivial⟩ fun f => RG <| MI rfl <| CN <| Op1.addN rfl rfl rfl (wrap_i64 (by omega) (by omega)) <| AI rfl <| NL <| run_inLoop ?_
     rw [show (([48, 49, 50, 51, 52, 53, 54, 55, 56, 57, 97, 98, 99, 100, 101, 102] : Tx).getD ((((s.getD i 0).toNat / 16 : Nat) : Int).toNat) 0) = hexD ((s.getD i 0).toNat / 16) from hex_tab _ (by omega), show (([48, 49, 50, 51, 52, 53, 54, 55, 56, 57, 97, 98, 99, 100, 101, 102] : Tx).getD ((((s.getD i 0).toNat % 16 : Nat) : Int).toNat) 0) = hexD ((s.getD i 0).toNat % 16) from hex_tab _ (by omega)] at hst
     have hqs := qb_step (s := s) (i := i) (by omega) (quoC_hex (by omega))
     exact ih1 ((i + 1, ao10, cp11)) _ w ((by (try dsimp only); omega)) (by (try dsimp only); rw [hqs, List.length_append, List.flatMap_append]; exact hst) (by (try dsimp only); omega) ⟨rfl, trivial⟩ ⟨(by (try dsimp only); rw [hqs, List.length_append]; rfl), (congrArg (Value.int .i64) (by (try dsimp only); omega)), trivial⟩
   refine TK (t := 19) rfl (congrArg Value.bool (decide_eq_false g3)) <| Op1.move (v := .int .u8 _) rfl <| TK (t := 19) rfl (congrArg Value.bool (decide_eq_false g3)) <| Op1.gtr rfl rfl <| CN <| Op1.pickF (u := .bool _) (congrArg Value.bool (decide_eq_false g3)) rfl <| AB rfl <| NL <| run_cond_dec rfl (fun g12 => ?_) (fun g12 => ?_)
   · skip
     refine run_exit (id := 3) rfl <| SQ <| RunD.start [] hst (bs := [0, 0, 2, 6, 0, 16, 48, 126, 255, 511]) (ds := [some 28, some 29, some 30, some 31, some 32, some 33, some 34, some 35, some 36, some 3]) ⟨by kernel_rfl, by kernel_rfl, by kernel_rfl⟩ (fun tab13 => ?_)
     refine RunD.op (det _) tab13 1 (fun f' L' w' hc => Op1.move (v := .slice _ _ _) (hc.old (v := .slice _ _ _) rfl rfl rfl) ⟨[], ⟨rfl, rfl⟩, hc.st⟩) <| RunD.op (det _) tab13 2 (fun f' L' w' hc => Op1.move (v := .int .u8 _) (hc.old (v := .int .u8 _) rfl rfl rfl) ⟨[], ⟨rfl, rfl⟩, hc.st⟩) <| RunD.op (det _) tab13 3 (fun f' L' w' hc => Op1.shrI (c := (((s.getD i 0).toNat / 16 : Nat) : Int)) (hc.det (j := 1) rfl rfl rfl rfl) rfl (by decide) (by decide) (by rw [show (2 : Int) ^ (4 : Int).toNat = 16 from rfl]; omega) ⟨[], ⟨rfl, rfl⟩, hc.st⟩) <| RunD.op (det _) tab13 4 (fun f' L' w' hc => Op1.indexS (s := [48, 49, 50, 51, 52, 53, 54, 55, 56, 57, 97, 98, 99, 100, 101, 102]) ty9 rfl (hc.det (j := 2) rfl rfl rfl rfl) (by omega) (by (have hl16 : ([48, 49, 50, 51, 52, 53, 54, 55, 56, 57, 97, 98, 99, 100, 101, 102] : Tx).length = 16 := rfl); omega) ⟨[], ⟨rfl, rfl⟩, hc.st⟩) <| RunD.op (det _) tab13 5 (fun f' L' w' hc => Op1.move (v := .int .u8 _) (hc.old (v := .int .u8 _) rfl rfl rfl) ⟨[], ⟨rfl, rfl⟩, hc.st⟩) <| RunD.op (det _) tab13 6 (fun f' L' w' hc => Op1.and15 (m := (s.getD i 0).toNat) (hc.det (j := 4) rfl rfl rfl rfl) rfl (by omega) (by omega) ⟨[], ⟨rfl, rfl⟩, hc.st⟩) <| RunD.op (det _) tab13 7 (fun f' L' w' hc => Op1.indexS (s := [48, 49, 50, 51, 52, 53, 54, 55, 56, 57, 97, 98, 99, 100, 101, 102]) ty9 rfl (hc.det (j := 5) rfl rfl rfl rfl) (by omega) (by (have hl16 : ([48, 49, 50, 51, 52, 53, 54, 55, 56, 57, 97, 98, 99, 100, 101, 102] : Tx).length = 16 := rfl); omega) ⟨[], ⟨rfl, rfl⟩, hc.st⟩) <| RunD.op (fun v rs => ∃ b, v = .slice (some ⟨b, 0, none⟩) 4 4 ∧ rs = [Res.row b 5 ([.int .u8 92, .int .u8 120, .int .u8 ((([48, 49, 50, 51, 52, 53, 54, 55, 56, 57, 97, 98, 99, 100, 101, 102] : Tx).getD ((((s.getD i 0).toNat / 16 : Nat) : Int).toNat) 0).toNat : Int), .int .u8 ((([48, 49, 50, 51, 52, 53, 54, 55, 56, 57, 97, 98, 99, 100, 101, 102] : Tx).getD ((((s.getD i 0).toNat % 16 : Nat) : Int).toNat) 0).toNat : Int)])]) tab13 8 (fun f' L' w' hc => Op1.buildSl (z0 := [.int .u8 0, .int .u8 0, .int .u8 0, .int .u8 0]) hc.st ty70 ty5 rfl rfl (by kernel_rfl) (.c (v := .int .u8 _) rfl (h := (.c (v := .int .u8 _) rfl (h := (.c (v := .int .u8 _) (hc.det (j := 3) rfl rfl rfl rfl) (h := (.c (v := .int .u8 _) (hc.det (j := 6) rfl rfl rfl rfl) (h := .nil)))))))) fun w b hst => ⟨[_], ⟨b, rfl, rfl⟩, hst⟩) ?_
     refine RunD.fin followsMixed tab13 hst rfl (fun f14 w R17 hs15 hd16 hr18 hst => ?_)
     obtain ⟨h28_, r0⟩ := hd16 0 28 rfl rfl
     obtain ⟨h29_, r1⟩ := hd16 1 29 rfl rfl
     obtain ⟨h30_, r2⟩ := hd16 2 30 rfl rfl
     obtain ⟨h31_, r3⟩ := hd16 3 31 rfl rfl
     obtain ⟨h32_, r4⟩ := hd16 4 32 rfl rfl
     obtain ⟨h33_, r5⟩ := hd16 5 33 rfl rfl
     obtain ⟨h34_, r6⟩ := hd16 6 34 rfl rfl
     obtain ⟨b35, h35_, r7⟩ := hd16 7 35 rfl rfl
     simp only [show List.range 8 = [0, 1, 2, 3, 4, 5, 6, 7] from rfl, List.flatMap_cons, List.flatMap_nil, List.map_cons, List.map_nil, r0, r1, r2, r3, r4, r5, r6, r7, List.nil_append, List.append_nil, List.cons_append] at hst
     refine RunL.slots (sl := [(0, str _), (4, .int .i64 _), (28, .slice _ _ _), (35, .slice _ _ _)]) ⟨(hs15 0 rfl).trans rfl, (hs15 4 rfl).trans rfl, h28_, h35_, trivial⟩ ?_
     clear hs15 hd16 hr18 tab13
     refine CN (Op1.append (news := [.int .u8 92, .int .u8 120, .int .u8 ((([48, 49, 50, 51, 52, 53, 54, 55, 56, 57, 97, 98, 99, 100, 101, 102] : Tx).getD ((((s.getD i 0).toNat / 16 : Nat) : Int).toNat) 0).toNat : Int), .int .u8 ((([48, 49, 50, 51, 52, 53, 54, 55, 56, 57, 97, 98, 99, 100, 101, 102] : Tx).getD ((((s.getD i 0).toNat % 16 : Nat) : Int).toNat) 0).toNat : Int)]) hst ty70 ty5 rfl rfl (.there (.here)) rfl rfl rfl (cells_of_obj (n := 4) (hst.objL (.head _)) _ rfl) rfl rfl (by omega) fun w ao19 cp20 hst => ?_)
     replace hst := hst.drop (.there (.here))
     refine AL rfl <| NL <| run_exit (id := 2) rfl <| run_inBlock <| Run.forget [(0, str _), (3, .slice _ _ _), (4, .int .i64 _)] ⟨rfl, rfl, rfl, trivial⟩ fun f => RG <| MI rfl <| CN <| Op1.addN rfl rfl rfl (wrap_i64 (by omega) (by omega)) <| AI rfl <| NL <| run_inLoop ?_
     rw [show (([48, 49, 50, 51, 52, 53, 54, 55, 56, 57, 97, 98, 99, 100, 101, 102] : Tx).getD ((((s.getD i 0).toNat / 16 : Nat) : Int).toNat) 0) = hexD ((s.getD i 0).toNat / 16) from hex_tab _ (by omega), show (([48, 49, 50, 51, 52, 53, 54, 55, 56, 57, 97, 98, 99, 100, 101, 102] : Tx).getD ((((s.getD i 0).toNat % 16 : Nat) : Int).toNat) 0) = hexD ((s.getD i 0).toNat % 16) from hex_tab _ (by omega)] at hst
     have hqs := qb_step (s := s) (i := i) (by omega) (quoC_hex (by omega))
     exact ih1 ((i + 1, ao19, cp20)) _ w ((by (try dsimp only); omega)) (by (try dsimp only); rw [hqs, List.length_append, List.flatMap_append]; exact hst) (by (try dsimp only); omega) ⟨rfl, trivial⟩ ⟨(by (try dsimp only); rw [hqs, List.length_append]; rfl), (congrArg (Value.int .i64) (by (try dsimp only); omega)), trivial⟩
   refine run_skip <| SQ <| SR <| MC rfl <| CN <| Op1.eql rfl rfl <| AB rfl <| NL <| run_cond_dec rfl (fun g21 => ?_) (fun g21 => ?_)
   · skip
     refine run_skip <| run_cond_true (congrArg Value.bool (decide_eq_true g21)) <| run_exit (id := 4) rfl <| RG <| ML rfl <| CN (Op1.buildSl (z0 := [.int .u8 0]) hst ty70 ty5 rfl rfl (by kernel_rfl) (.c (v := .int .u8 _) rfl (h := .nil)) fun w b38 hst => ?_)
     refine CN (Op1.append (news := byC 92) hst ty70 ty5 rfl rfl (.there (.here)) rfl rfl rfl (cells_of_obj (n := 1) (hst.objL (.head _)) _ rfl) rfl rfl (by omega) fun w ao22 cp23 hst => ?_)
     replace hst := hst.drop (.there (.here))
     refine AL rfl <| NL <| run_inBlock <| Run.forget [(0, str _), (3, .slice _ _ _), (4, .int .i64 _), (5, .int .u8 _)] ⟨rfl, rfl, rfl, rfl, trivial⟩ fun f => SR <| ML rfl <| MC rfl <| CN (Op1.buildSl (z0 := [.int .u8 0]) hst ty70 ty5 rfl rfl (by kernel_rfl) (.c (v := .int .u8 _) rfl (h := .nil)) fun w b42 hst => ?_)
     refine CN (Op1.append (news := byC (s.getD ((i : Int).toNat) 0)) hst ty70 ty5 rfl rfl (.there (.here)) rfl rfl rfl (cells_of_obj (n := 1) (hst.objL (.head _)) _ rfl) rfl rfl (by omega) fun w ao24 cp25 hst => ?_)
     replace hst := hst.drop (.there (.here))
     refine AL rfl <| NL <| run_exit (id := 2) rfl <| run_inBlock <| RG <| MI rfl <| CN <| Op1.addN rfl rfl rfl (wrap_i64 (by omega) (by omega)) <| AI rfl <| NL <| run_inLoop ?_
     have hqs := qb_step (s := s) (i := i) (by omega) (quoC_esc (by omega) (by omega))
     exact ih1 ((i + 1, ao24, cp25)) _ w ((by (try dsimp only); omega)) (by (try dsimp only); rw [hqs, List.length_append, List.flatMap_append]; rw [List.append_assoc] at hst; exact hst) (by (try dsimp only); omega) ⟨rfl, trivial⟩ ⟨(by (try dsimp only); rw [hqs, List.length_append]; rfl), (congrArg (Value.int .i64) (by (try dsimp only); omega)), trivial⟩
   refine RG <| MC rfl <| CN <| Op1.eql rfl rfl <| AB rfl <| NL <| Run.forget [(0, str _), (3, .slice _ _ _), (4, .int .i64 _), (5, .int .u8 _), (23, .bool _)] ⟨rfl, rfl, rfl, rfl, rfl, trivial⟩ fun f => run_cond_dec rfl (fun g26 => ?_) (fun g26 => ?_)
   · skip
     refine run_exit (id := 4) rfl <| RG <| ML rfl <| CN (Op1.buildSl (z0 := [.int .u8 0]) hst ty70 ty5 rfl rfl (by kernel_rfl) (.c (v := .int .u8 _) rfl (h := .nil)) fun w b38 hst => ?_)
     refine CN (Op1.append (news := byC 92) hst ty70 ty5 rfl rfl (.there (.here)) rfl rfl rfl (cells_of_obj (n := 1) (hst.objL (.head _)) _ rfl) rfl rfl (by omega) fun w ao27 cp28 hst => ?_)
     replace hst := hst.drop (.there (.here))
     refine AL rfl <| NL <| run_inBlock <| SR <| ML rfl <| MC rfl <| CN (Op1.buildSl (z0 := [.int .u8 0]) hst ty70 ty5 rfl rfl (by kernel_rfl) (.c (v := .int .u8 _) rfl (h := .nil)) fun w b42 hst => ?_)
     refine CN (Op1.append (news := byC (s.getD ((i : Int).toNat) 0)) hst ty70 ty5 rfl rfl (.there (.here)) rfl rfl rfl (cells_of_obj (n := 1) (hst.objL (.head _)) _ rfl) rfl rfl (by omega) fun w ao29 cp30 hst => ?_)
     replace hst := hst.drop (.there (.here))
     refine AL rfl <| NL <| run_exit (id := 2) rfl <| run_inBlock <| RG <| MI rfl <| CN <| Op1.addN rfl rfl rfl (wrap_i64 (by omega) (by omega)) <| AI rfl <| NL <| run_inLoop ?_
     have hqs := qb_step (s := s) (i := i) (by omega) (quoC_esc (by omega) (by omega))
     exact ih1 ((i + 1, ao29, cp30)) _ w ((by (try dsimp only); omega)) (by (try dsimp only); rw [hqs, List.length_append, List.flatMap_append]; rw [List.append_assoc] at hst; exact hst) (by (try dsimp only); omega) ⟨rfl, trivial⟩ ⟨(by (try dsimp only); rw [hqs, List.length_append]; rfl), (congrArg (Value.int .i64) (by (try dsimp only); omega)), trivial⟩
   refine run_skip <| run_exit (id := 5) rfl <| SR <| ML rfl <| MC rfl <| CN (Op1.buildSl (z0 := [.int .u8 0]) hst ty70 ty5 rfl rfl (by kernel_rfl) (.c (v := .int .u8 _) rfl (h := .nil)) fun w b42 hst => ?_)
   refine CN (Op1.append (news := byC (s.getD ((i : Int).toNat) 0)) hst ty70 ty5 rfl rfl (.there (.here)) rfl rfl rfl (cells_of_obj (n := 1) (hst.objL (.head _)) _ rfl) rfl rfl (by omega) fun w ao31 cp32 hst => ?_)
   replace hst := hst.drop (.there (.here))
   refine AL rfl <| NL <| run_exit (id := 2) rfl <| run_inBlock <| RG <| MI rfl <| CN <| Op1.addN rfl rfl rfl (wrap_i64 (by omega) (by omega)) <| AI rfl <| NL <| run_inLoop ?_
   have hqs := qb_step (s := s) (i := i) (by omega) (quoC_one (by omega) (by omega))
   exact ih1 ((i + 1, ao31, cp32)) _ w ((by (try dsimp only); omega)) (by (try dsimp only); rw [hqs, List.length_append, List.flatMap_append]; exact hst) (by (try dsimp only); omega) ⟨rfl, trivial⟩ ⟨(by (try dsimp only); rw [hqs, List.length_append]; rfl), (congrArg (Value.int .i64) (by (try dsimp only); omega)), trivial⟩
 refine run_exit (id := 0) rfl <| SR <| ML rfl <| CN (Op1.buildSl (z0 := [.int .u8 0]) hst ty70 ty5 rfl rfl (by kernel_rfl) (.c (v := .int .u8 _) rfl (h := .nil)) fun w b45 hst => ?_)
 refine CN (Op1.append (news := byC 34) hst ty70 ty5 rfl rfl (.there (.here)) rfl rfl rfl (cells_of_obj (n := 1) (hst.objL (.head _)) _ rfl) rfl rfl (by omega) fun w ao33 cp34 hst => ?_)
 replace hst := hst.drop (.there (.here))
 refine CN <| Op1.bytesStr2 (l := quoteF s) ty70 ty5 ty9 rfl (by rw [← qb_end (i := i) (by omega), List.length_append]; rfl) (Res.rs_of_sl (hst.hL _ (.head _))) (by rw [← qb_end (i := i) (by omega), List.flatMap_append]; rfl) <| AS rfl <| NL <| run_ret1 Tryd.func20 rfl (TP (v := str _) rfl) ?_
 exact ⟨rfl, hst.pure⟩
end Go.SK
namespace Go.SK
open Go Go.Proofs
theorem ty30 : TyF Tryd.prog 30 (.struct (fieldsOf Tryd.prog 30)) 3 32 [.int .u8 0, str [], .int .i64 0] := TyF.of (by kernel_rfl) (by kernel_rfl)
theorem stf30 : StructF Tryd.prog 30 [(0, 1), (1, 1), (2, 1)] := ⟨fieldsOf Tryd.prog 30, by kernel_rfl, fun w => by kernel_rfl⟩
theorem ent52 : Enters Tryd.prog 52 := ⟨Tryd.f52, _, Tryd.func52, by kernel_rfl, rfl⟩
theorem ty25 : TyF Tryd.prog 25 (.struct (fieldsOf Tryd.prog 25)) 2 16 [.int .i64 0, .int .i64 0] := TyF.of (by kernel_rfl) (by kernel_rfl)
theorem ty22 : TyF Tryd.prog 22 (.slice 30) 1 24 [.slice none 0 0] := TyF.of (by kernel_rfl) (by kernel_rfl)
theorem stf25 : StructF Tryd.prog 25 [(0, 1), (1, 1)] := ⟨fieldsOf Tryd.prog 25, by kernel_rfl, fun w => by kernel_rfl⟩
theorem ent33 : Enters Tryd.prog 33 := ⟨Tryd.f33, _, Tryd.func33, by kernel_rfl, rfl⟩
theorem fld30_2 : FldF Tryd.prog 30 2 2 := FldF.of (n := 0) (by kernel_rfl)
end Go.SK
namespace Go.SK
open Go Go.Proofs
open Go.RowKit
theorem R4lx_token (s : Tx) (h0 : 0 < s.length) (w : World) (hG : LxG.holds w) (hl : s.length ≤ 1099511627776) : Ret Tryd.prog 33 #[str s] w (fun v w' => (∃ kd t m, tokF s = .ok (kd, t, m) ∧ v = .tuple #[.agg #[.int .u8 kd, str t, .int .i64 0], .int .i64 ((m : Nat) : Int), .int .i64 0] ∧ St w NoM [] [] w') ∨ (∃ e kd t m, tokF s = .error e ∧ e ≠ 0 ∧ v = .tuple #[.agg #[.int .u8 kd, str t, .int .i64 0], .int .i64 m, .int .i64 e] ∧ St w NoM [] [] w')) := by
 refine Ret.enter (args := [str s]) Tryd.func33 rfl rfl rfl ?_
 have hst : St w NoM [] [LxG] w := St.init_Ds (by simp only [List.forall_mem_cons]; exact ⟨hG, fun _ h => absurd h List.not_mem_nil⟩)
 have hidx : (s.getD ((0 : Int).toNat) 0).toNat = (s.getD 0 0).toNat := rfl
 have hru := runF_le (s.drop (0 + 1))
 rw [List.length_drop] at hru
 have hru1 := runF_le (s.drop ((1 : Int).toNat))
 rw [List.length_drop] at hru1
 have h1t : (1 : Int).toNat = 1 := rfl
 have hqq : (quoP (quoA s 1)).2 = (quoP (quoA s (0 + 1))).2 := rfl
 have hrr : (runF (s.drop ((1 : Int).toNat))).length = (runF (s.drop (0 + 1))).length := rfl
 refine SR <| CN <| Op1.alloc hst ty30 fun w b2 hst => AI rfl <| AI rfl <| NSR <| MS rfl <| CN <| Op1.indexS ty9 rfl rfl (by omega) (by omega) <| AC rfl <| NL <| SQ <| run_block <| SQ ?_
 refine run_block <| run_block <| SQ <| run_block <| SQ <| run_block <| SQ <| run_block <| SQ <| run_block <| SQ <| SQ <| SR <| MC rfl ?_
 refine CN <| Op1.eql rfl rfl <| AB rfl <| NL <| run_cond_dec rfl (fun g1 => ?_) (fun g1 => ?_)
 · skip
   refine run_exit (id := 1) rfl <| SQ <| SR <| MS rfl <| CN <| Op1.call1 (v1 := str _) ent52 rfl rfl <| Ret.det (R4lx_quoted _ (by omega) _ (hst.hD _ (.head _)) (by first | omega | (simp only [List.length_drop, List.length_take, List.length_append, List.length_cons, List.length_nil]; omega))) hst fun w hst => CN <| Op1.move (v := .tuple #[str _, .int .i64 _]) rfl <| CN <| Op1.extract (v := str _) rfl rfl <| CN <| Op1.extract (v := .int .i64 _) rfl rfl <| AS rfl <| AI rfl <| NL <| SQ <| SQ <| RG ?_
   refine MI rfl <| CN <| Op1.eql rfl rfl <| NL <| run_cond_dec rfl (fun g2 => ?_) (fun g2 => ?_)
   · skip
     refine SR <| CN (Op1.buildStruct ty30 stf30 .nil ?_)
     refine CN (SO (v := .agg #[.int .u8 _, str _, .int .i64 _]) hst ty30 rfl rfl (.here) fun w hst => ?_)
     refine AI rfl <| AI rfl <| NL <| run_ret3 Tryd.func33 rfl (RV.cellA (vs := [.int .u8 _, str _, .int .i64 _]) rfl ty30 rfl rfl (cells_of_obj (n := 3) (hst.objL (.head _)) _ rfl)) (TP (v := .int .i64 _) rfl) (TP (v := .int .i64 _) rfl) ?_
     exact .inr ⟨_, _, _, _, tok_strNo (a := 0) (by omega) (by omega), by decide, rfl, hst.pure⟩
   refine run_skip <| SR <| MS rfl <| CN (Op1.buildStruct ty30 stf30 (.c (v := .int .u8 _) rfl (h := (.c (v := str _) rfl (h := .nil)))) ?_)
   refine MI rfl <| CN (SO (v := .agg #[.int .u8 _, str _, .int .i64 _]) hst ty30 rfl rfl (.here) fun w hst => ?_)
   refine AI rfl <| AI rfl <| NL <| run_ret3 Tryd.func33 rfl (RV.cellA (vs := [.int .u8 _, str _, .int .i64 _]) rfl ty30 rfl rfl (cells_of_obj (n := 3) (hst.objL (.head _)) _ rfl)) (TP (v := .int .i64 _) rfl) (TP (v := .int .i64 _) rfl) ?_
   exact .inl ⟨_, _, _, tok_strOk (a := 0) (by omega) (by omega), rfl, hst.pure⟩
 refine run_skip <| SQ <| SR <| MC rfl <| CN <| Op1.eql rfl rfl <| AB rfl <| NL <| run_cond_dec rfl (fun g3 => ?_) (fun g3 => ?_)
 · skip
   refine run_exit (id := 2) rfl <| SQ <| SR <| CN (Op1.buildStruct ty30 stf30 (.c (v := .int .u8 _) rfl (h := (.c (v := str _) rfl (h := .nil)))) ?_)
   refine CN (SO (v := .agg #[.int .u8 _, str _, .int .i64 _]) hst ty30 rfl rfl (.here) fun w hst => ?_)
   refine AI rfl <| AI rfl <| NL <| run_ret3 Tryd.func33 rfl (RV.cellA (vs := [.int .u8 _, str _, .int .i64 _]) rfl ty30 rfl rfl (cells_of_obj (n := 3) (hst.objL (.head _)) _ rfl)) (TP (v := .int .i64 _) rfl) (TP (v := .int .i64 _) rfl) ?_
   exact .inl ⟨_, _, _, tok_eq (a := 0) (by omega), rfl, hst.pure⟩
 refine run_skip <| SQ <| SR <| MC rfl <| CN <| Op1.eql rfl rfl <| AB rfl <| NL <| run_cond_dec rfl (fun g4 => ?_) (fun g4 => ?_)
 · skip
   refine run_exit (id := 3) rfl <| SQ <| SR <| MS rfl <| CN <| Op1.sliceFrom ty9 rfl rfl (by omega) (by omega) <| CN <| Op1.call1 (v1 := str _) ent39 rfl rfl <| Ret.det (R4lx_run _ _ (by first | omega | (simp only [List.length_drop]; omega))) hst fun w hst => AS rfl <| NL <| Run.forget [(2, .pointer (some ⟨_, _, none⟩)), (8, str _)] ⟨rfl, rfl, trivial⟩ fun f => SQ <| SR <| MS rfl <| CN <| Op1.call1 (v1 := str _) ent37 rfl rfl <| Ret.det (R4lx_plain _ _ (hst.hD _ (.head _)) (by first | omega | (simp only [List.length_drop, List.length_take, List.length_append, List.length_cons, List.length_nil]; omega))) hst fun w hst => ?_
   refine CN <| Op1.move (v := .tuple #[.int .u32 _, .bool _]) rfl <| CN <| Op1.extract (v := .int .u32 _) rfl rfl <| CN <| Op1.extract (v := .bool _) rfl rfl <| AU rfl <| AB rfl <| NSR <| MB rfl <| CN <| Op1.not rfl <| NL <| run_cond_split rfl (fun g5 => ?_) (fun g5 => ?_)
   · skip
     refine SR <| CN (Op1.buildStruct ty30 stf30 .nil ?_)
     refine CN (SO (v := .agg #[.int .u8 _, str _, .int .i64 _]) hst ty30 rfl rfl (.here) fun w hst => ?_)
     refine AI rfl <| AI rfl <| NL <| run_ret3 Tryd.func33 rfl (RV.cellA (vs := [.int .u8 _, str _, .int .i64 _]) rfl ty30 rfl rfl (cells_of_obj (n := 3) (hst.objL (.head _)) _ rfl)) (TP (v := .int .i64 _) rfl) (TP (v := .int .i64 _) rfl) ?_
     exact .inr ⟨_, _, _, _, tok_idNo (a := 0) (by omega) (not_t g5), by decide, rfl, hst.pure⟩
   refine run_skip <| SR <| MS rfl <| CN (Op1.buildStruct ty30 stf30 (.c (v := .int .u8 _) rfl (h := (.c (v := str _) rfl (h := .nil)))) ?_)
   refine MS rfl <| CN <| Op1.lenS (rest := []) ty9 rfl <| CN <| Op1.addN rfl rfl rfl (wrap_i64 (by omega) (by omega)) <| CN (SO (v := .agg #[.int .u8 _, str _, .int .i64 _]) hst ty30 rfl rfl (.here) fun w hst => ?_)
   refine AI rfl <| AI rfl <| NL <| run_ret3 Tryd.func33 rfl (RV.cellA (vs := [.int .u8 _, str _, .int .i64 _]) rfl ty30 rfl rfl (cells_of_obj (n := 3) (hst.objL (.head _)) _ rfl)) (TP (v := .int .i64 _) rfl) (TP (v := .int .i64 _) rfl) ?_
   exact .inl ⟨_, _, _, tok_idOk (a := 0) (by omega) (not_f g5), by rw [show (1 : Int) + ((runF (s.drop ((1 : Int).toNat))).length : Int) = (((runF (s.drop (0 + 1))).length + 1 : Nat) : Int) by omega]; rfl, hst.pure⟩
 refine run_skip <| SQ <| SR <| MC rfl <| CN <| Op1.call1 (v1 := .int .u8 _) ent32 rfl rfl <| Ret.det (R4lx_kindOf _ _) hst fun w hst => CN <| Op1.eql rfl rfl <| AB rfl <| NL <| Run.forget [(0, str _), (2, .pointer (some ⟨_, _, none⟩)), (5, .int .u8 _), (26, .bool _)] ⟨rfl, rfl, rfl, rfl, trivial⟩ fun f => run_cond_dec rfl (fun g6 => ?_) (fun g6 => ?_)
 · skip
   refine run_exit (id := 4) rfl <| SQ <| SR <| MS rfl <| CN <| Op1.call1 (v1 := str _) ent39 rfl rfl <| Ret.det (R4lx_run _ _ (by first | omega | (simp only [List.length_drop]; omega))) hst fun w hst => AS rfl <| NSR <| MS rfl <| CN (Op1.buildStruct ty30 stf30 (.c (v := .int .u8 _) rfl (h := (.c (v := str _) rfl (h := .nil)))) ?_)
   refine MS rfl <| CN <| Op1.lenS (rest := []) ty9 rfl <| CN (SO (v := .agg #[.int .u8 _, str _, .int .i64 _]) hst ty30 rfl rfl (.here) fun w hst => ?_)
   refine AI rfl <| AI rfl <| NL <| run_ret3 Tryd.func33 rfl (RV.cellA (vs := [.int .u8 _, str _, .int .i64 _]) rfl ty30 rfl rfl (cells_of_obj (n := 3) (hst.objL (.head _)) _ rfl)) (TP (v := .int .i64 _) rfl) (TP (v := .int .i64 _) rfl) ?_
   exact .inl ⟨_, _, _, tok_word (a := 0) ((kind_let _).1 g6), rfl, hst.pure⟩
 refine run_skip <| SQ <| SR <| MC rfl <| CN <| Op1.eql rfl rfl <| AB rfl <| NL <| run_cond_dec rfl (fun g7 => ?_) (fun g7 => ?_)
 · skip
   refine run_exit (id := 5) rfl <| run_inBlock <| SQ <| SR <| MS rfl <| MS rfl <| CN <| Op1.sliceFrom ty9 rfl rfl (by omega) (by omega) <| CN <| Op1.call1 (v1 := str _) ent39 rfl rfl <| Ret.det (R4lx_run _ _ (by first | omega | (simp only [List.length_drop]; omega))) hst fun w hst => CN <| Op1.lenS (rest := []) ty9 rfl <| CN <| Op1.addN rfl rfl rfl (wrap_i64 (by omega) (by omega)) <| CN <| Op1.sliceTo ty9 rfl rfl (by omega) (by omega) <| AS rfl <| NL <| SQ ?_
   refine RG <| MS rfl <| CN <| Op1.call1 (v1 := str _) ent19 rfl rfl <| Ret.det (R4lx_lNumber _ _ (hst.hD _ (.head _)) (by first | omega | (simp only [List.length_drop, List.length_take, List.length_append, List.length_cons, List.length_nil]; omega))) hst fun w hst => CN <| Op1.move (v := .tuple #[.int .u32 _, .int .i64 _]) rfl <| CN <| Op1.extract (v := .int .u32 _) rfl rfl <| CN <| Op1.extract (v := .int .i64 _) rfl rfl <| AU rfl <| AI rfl <| NSR <| MS rfl <| CN (Op1.buildStruct ty30 stf30 (.c (v := .int .u8 _) rfl (h := (.c (v := str _) rfl (h := .nil)))) ?_)
   refine MS rfl <| CN <| Op1.lenS (rest := []) ty9 rfl <| MI rfl <| CN (SO (v := .agg #[.int .u8 _, str _, .int .i64 _]) hst ty30 rfl rfl (.here) fun w hst => ?_)
   refine AI rfl <| AI rfl <| NL <| run_ret3 Tryd.func33 rfl (RV.cellA (vs := [.int .u8 _, str _, .int .i64 _]) rfl ty30 rfl rfl (cells_of_obj (n := 3) (hst.objL (.head _)) _ rfl)) (TP (v := .int .i64 _) rfl) (TP (v := .int .i64 _) rfl) ?_
   have hta : (s.drop 0).take (1 + (runF (s.drop (0 + 1))).length) = s.take ((1 + ((runF (s.drop (0 + 1))).length : Int)).toNat) := by rw [List.drop_zero, show (1 + ((runF (s.drop (0 + 1))).length : Int)).toNat = 1 + (runF (s.drop (0 + 1))).length by omega]
   by_cases hz : (numLx (s.take ((1 + ((runF (s.drop (0 + 1))).length : Int)).toNat))).2 = 0
   · rw [show (numLx (s.take ((1 + ((runF (s.drop ((1 : Int).toNat))).length : Int)).toNat))).2 = 0 from hz]
     exact .inl ⟨_, _, _, tok_numOk (a := 0) (.inr (by omega)) hta hz, rfl, hst.pure⟩
   · have h62 := (numF_err (s.take ((1 + ((runF (s.drop (0 + 1))).length : Int)).toNat))).resolve_left hz
     rw [show (numLx (s.take ((1 + ((runF (s.drop ((1 : Int).toNat))).length : Int)).toNat))).2 = 62 from h62]
     exact .inr ⟨_, _, _, _, tok_numNo (a := 0) (.inr (by omega)) hta hz, by decide, rfl, hst.pure⟩
 refine run_skip <| SR <| MC rfl <| CN <| Op1.call1 (v1 := .int .u8 _) ent32 rfl rfl <| Ret.det (R4lx_kindOf _ _) hst fun w hst => CN <| Op1.eql rfl rfl <| AB rfl <| NL <| run_cond_dec rfl (fun g8 => ?_) (fun g8 => ?_)
 · skip
   refine run_exit (id := 6) rfl <| SQ <| SR <| MS rfl <| MS rfl <| CN <| Op1.sliceFrom ty9 rfl rfl (by omega) (by omega) <| CN <| Op1.call1 (v1 := str _) ent39 rfl rfl <| Ret.det (R4lx_run _ _ (by first | omega | (simp only [List.length_drop]; omega))) hst fun w hst => CN <| Op1.lenS (rest := []) ty9 rfl <| CN <| Op1.addN rfl rfl rfl (wrap_i64 (by omega) (by omega)) <| CN <| Op1.sliceTo ty9 rfl rfl (by omega) (by omega) <| AS rfl <| NL <| SQ <| RG ?_
   refine MS rfl <| CN <| Op1.call1 (v1 := str _) ent19 rfl rfl <| Ret.det (R4lx_lNumber _ _ (hst.hD _ (.head _)) (by first | omega | (simp only [List.length_drop, List.length_take, List.length_append, List.length_cons, List.length_nil]; omega))) hst fun w hst => CN <| Op1.move (v := .tuple #[.int .u32 _, .int .i64 _]) rfl <| CN <| Op1.extract (v := .int .u32 _) rfl rfl <| CN <| Op1.extract (v := .int .i64 _) rfl rfl <| AU rfl <| AI rfl <| NL <| Run.forget [(2, .pointer (some ⟨_, _, none⟩)), (12, str _), (14, .int .i64 _)] ⟨rfl, rfl, rfl, trivial⟩ fun f => SR <| MS rfl <| CN (Op1.buildStruct ty30 stf30 (.c (v := .int .u8 _) rfl (h := (.c (v := str _) rfl (h := .nil)))) ?_)
   refine MS rfl <| CN <| Op1.lenS (rest := []) ty9 rfl <| MI rfl <| CN (SO (v := .agg #[.int .u8 _, str _, .int .i64 _]) hst ty30 rfl rfl (.here) fun w hst => ?_)
   refine AI rfl <| AI rfl <| NL <| run_ret3 Tryd.func33 rfl (RV.cellA (vs := [.int .u8 _, str _, .int .i64 _]) rfl ty30 rfl rfl (cells_of_obj (n := 3) (hst.objL (.head _)) _ rfl)) (TP (v := .int .i64 _) rfl) (TP (v := .int .i64 _) rfl) ?_
   have hta : (s.drop 0).take (1 + (runF (s.drop (0 + 1))).length) = s.take ((1 + ((runF (s.drop (0 + 1))).length : Int)).toNat) := by rw [List.drop_zero, show (1 + ((runF (s.drop (0 + 1))).length : Int)).toNat = 1 + (runF (s.drop (0 + 1))).length by omega]
   by_cases hz : (numLx (s.take ((1 + ((runF (s.drop (0 + 1))).length : Int)).toNat))).2 = 0
   · rw [show (numLx (s.take ((1 + ((runF (s.drop ((1 : Int).toNat))).length : Int)).toNat))).2 = 0 from hz]
     exact .inl ⟨_, _, _, tok_numOk (a := 0) (.inl ((kind_dig _).1 g8)) hta hz, rfl, hst.pure⟩
   · have h62 := (numF_err (s.take ((1 + ((runF (s.drop (0 + 1))).length : Int)).toNat))).resolve_left hz
     rw [show (numLx (s.take ((1 + ((runF (s.drop ((1 : Int).toNat))).length : Int)).toNat))).2 = 62 from h62]
     exact .inr ⟨_, _, _, _, tok_numNo (a := 0) (.inl ((kind_dig _).1 g8)) hta hz, by decide, rfl, hst.pure⟩
 refine run_skip <| run_exit (id := 0) rfl <| SR <| CN (Op1.buildStruct ty30 stf30 .nil ?_)
 refine CN (SO (v := .agg #[.int .u8 _, str _, .int .i64 _]) hst ty30 rfl rfl (.here) fun w hst => ?_)
 refine AI rfl <| AI rfl <| NL <| run_ret3 Tryd.func33 rfl (RV.cellA (vs := [.int .u8 _, str _, .int .i64 _]) rfl ty30 rfl rfl (cells_of_obj (n := 3) (hst.objL (.head _)) _ rfl)) (TP (v := .int .i64 _) rfl) (TP (v := .int .i64 _) rfl) ?_
 exact .inr ⟨_, _, _, _, tok_bad (a := 0) (fun q => g6 ((kind_let _).2 q)) (by omega) (fun q => g8 ((kind_dig _).2 q)) (by omega) (by omega) (by omega), by decide, rfl, hst.pure⟩
theorem R4lx_lTokens (s : Tx) (w : World) (hG : LxG.holds w) (hl : s.length ≤ 1099511627776) : Ret Tryd.prog 15 #[str s] w (fun v w' => ∃ ao cp, v = .tuple #[.slice ao (toksF s).1.length cp, .agg #[.int .i64 (toksF s).2.1, .int .i64 (toksF s).2.2]] ∧ St w NoM [Res.sl ao (toksF s).1.length cp 30 3 ((toksF s).1.flatMap tokC)] [] w') := by
 refine Ret.enter (args := [str s]) Tryd.func15 rfl rfl rfl ?_
 have hst : St w NoM [] [LxG] w := St.init_Ds (by simp only [List.forall_mem_cons]; exact ⟨hG, fun _ h => absurd h List.not_mem_nil⟩)
 refine SR <| AL rfl <| CN <| Op1.alloc hst ty25 fun w b3 hst => NL <| run_scope <| SR <| AL rfl <| NL <| SQ <| run_label <| SQ <| SQ <| RG ?_
 refine AI rfl <| NL <| run_block <| run_loop ?_
 replace hst := hst.pushNil 30 3
 refine Run.indW [(0, str _), (3, .pointer (some ⟨_, _, none⟩))] ⟨rfl, rfl, trivial⟩ (fun (qq : Nat × List TokL × Option Addr × Nat) => [(4, .slice qq.2.2.1 qq.2.1.length qq.2.2.2), (5, .int .i64 (qq.1 : Int))]) (fun (qq : Nat × List TokL × Option Addr × Nat) => [Res.sl qq.2.2.1 qq.2.1.length qq.2.2.2 30 3 (qq.2.1.flatMap tokC)]) (fun (qq : Nat × List TokL × Option Addr × Nat) => toksI s qq.1 qq.2.1) (fun (qq : Nat × List TokL × Option Addr × Nat) => s.length - qq.1) ((0, [], none, 0)) hst (toksI_start s) ⟨rfl, rfl, trivial⟩ ?_
 intro ⟨i, l, aq, cq⟩ f w hst hJ ih1
 replace hst : St _ _ ([Res.sl aq l.length cq 30 3 (l.flatMap tokC)] ++ [_]) _ _ := hst
 replace hJ : toksI s i l := hJ
 refine Run.slots (sl := [(4, .slice aq l.length cq), (5, .int .i64 (i : Int))]) ⟨rfl, rfl, trivial⟩ ?_
 have hidx : (s.getD ((i : Int).toNat) 0).toNat = (s.getD i 0).toNat := rfl
 have hj2 := hJ.2.1
 have hj1 := hJ.1
 refine SQ <| SR <| MI rfl <| MS rfl <| CN <| Op1.lenS (rest := []) ty9 rfl <| CN <| Op1.lss rfl rfl <| NL <| run_cond_dec rfl (fun g2 => ?_) (fun g2 => ?_)
 · skip
   refine run_skip <| run_block <| SQ <| run_block <| SR <| MS rfl <| MI rfl <| CN <| Op1.indexS ty9 rfl rfl (by omega) (by omega) <| CN <| Op1.eql rfl rfl <| AB rfl <| NL <| run_cond_dec rfl (fun g3 => ?_) (fun g3 => ?_)
   · skip
     refine run_exit (id := 0) rfl <| SR <| ML rfl <| CN (Op1.buildStruct ty25 stf25 .nil ?_)
     refine AL rfl <| CN (SO (v := .agg #[.int .i64 _, .int .i64 _]) hst ty25 rfl rfl (.there (.here)) fun w hst => ?_)
     refine NL <| run_ret2 Tryd.func15 rfl (TP (v := .slice _ _ _) rfl) (RV.cellA (vs := [.int .i64 _, .int .i64 _]) rfl ty25 rfl rfl (cells_of_obj (n := 2) (hst.objL (.tail _ (.head _))) _ rfl)) ?_
     rw [toksI_end hJ (by omega)]
     replace hst := hst.pick (.cons (.here) .nil)
     exact ⟨aq, cq, rfl, hst.noD⟩
   refine SR <| MS rfl <| MI rfl <| CN <| Op1.indexS ty9 rfl rfl (by omega) (by omega) <| CN <| Op1.call1 (v1 := .int .u8 _) ent32 rfl rfl <| Ret.det (R4lx_kindOf _ _) hst fun w hst => CN <| Op1.eql rfl rfl <| AB rfl <| NL <| run_cond_dec rfl (fun g4 => ?_) (fun g4 => ?_)
   · skip
     refine SR <| MI rfl <| CN <| Op1.addN rfl rfl rfl (wrap_i64 (by omega) (by omega)) <| AI rfl <| NL <| run_exit (id := 1) rfl <| run_inLoop ?_
     have hI := toksI_blank hJ (by omega) (by omega) ((kind_blank _).1 g4)
     exact ih1 ((i + 1, l, aq, cq)) _ w ((by (try dsimp only); omega)) hst (hI) ⟨rfl, rfl, trivial⟩ ⟨rfl, (congrArg (Value.int .i64) (by (try dsimp only); omega)), trivial⟩
   refine run_skip <| run_inBlock <| SR <| MS rfl <| MI rfl <| CN <| Op1.sliceFrom ty9 rfl rfl (by omega) (by omega) <| CN (Op1.call1 (v1 := str _) ent33 rfl rfl ((R4lx_token (s.drop i) (by rw [List.length_drop]; omega) _ (hst.hD _ (.head _)) (by rw [List.length_drop]; omega)).mono fun v w hp => ?_))
   rcases hp with ⟨kd, t, m, htk, rfl, hp⟩ | ⟨e, kd, t, m, htk, hne, rfl, hp⟩
   · skip
     replace hst := hst.keepc hp
     clear hp
     have hm := tokF_len (by rw [List.length_drop]; omega) htk
     rw [List.length_drop] at hm
     refine CN <| Op1.move (v := .tuple #[.agg #[.int .u8 _, str _, .int .i64 _], .int .i64 _, .int .i64 _]) rfl <| CN <| Op1.extract (v := .agg #[.int .u8 _, str _, .int .i64 _]) rfl rfl <| CN <| Op1.extract (v := .int .i64 _) rfl rfl <| CN <| Op1.extract (v := .int .i64 _) rfl rfl <| CN <| Op1.alloc hst ty30 fun w b6 hst => CN (SO (v := .agg #[.int .u8 _, str _, .int .i64 _]) hst ty30 rfl rfl (.here) fun w hst => ?_)
     refine AI rfl <| AI rfl <| NL <| Run.forget [(0, str _), (3, .pointer (some ⟨_, _, none⟩)), (4, .slice _ _ _), (5, .int .i64 _), (6, .pointer (some ⟨_, _, none⟩)), (7, .int .i64 _), (8, .int .i64 _)] ⟨rfl, rfl, rfl, rfl, rfl, rfl, rfl, trivial⟩ fun f => SQ <| SR <| MI rfl <| CN <| Op1.neq rfl rfl <| NL <| run_cond_dec rfl (fun g5 => ?_) (fun g5 => ?_)
     · skip
       exfalso
       exact g5 rfl
     refine run_skip <| SR <| MI rfl <| CN <| Op1.fieldAddr fld30_2 rfl <| CN (SO (v := .int .i64 _) hst ty3 rfl rfl (.here) fun w hst => ?_)
     refine NSR <| ML rfl <| CN <| Op1.loadA (vs := [.int .u8 _, str _, .int .i64 _]) ty30 rfl rfl rfl (cells_of_obj (n := 3) (hst.objL (.head _)) _ rfl) <| CN (Op1.buildSl (z0 := [.int .u8 0, str [], .int .i64 0]) hst ty22 ty30 rfl rfl (by kernel_rfl) (.c (v := .agg #[.int .u8 _, str _, .int .i64 _]) rfl (h := .nil)) fun w b43 hst => ?_)
     refine CN (Op1.append (news := tokC ⟨kd, t, (i : Int)⟩) hst ty22 ty30 rfl rfl (.there (.there (.here))) rfl rfl rfl (cells_of_obj (n := 3) (hst.objL (.head _)) _ rfl) rfl rfl (by omega) fun w ao6 cp7 hst => ?_)
     replace hst := hst.drop (.there (.here))
     refine AL rfl <| NR <| MI rfl <| MI rfl <| CN <| Op1.addN rfl rfl rfl (wrap_i64 (by omega) (by omega)) <| AI rfl <| NL <| run_inBlock <| run_inLoop ?_
     have hI := toksI_ok hJ (by omega) (by omega) (fun q => g4 ((kind_blank _).2 q)) htk
     replace hst := hst.pick (.cons (.here) (.cons (.there (.here)) .nil))
     exact ih1 ((i + m, l ++ [⟨kd, t, (i : Int)⟩], ao6, cp7)) _ w ((by (try dsimp only); omega)) (by rw [List.length_append, List.flatMap_append]; exact hst) (hI) ⟨rfl, rfl, trivial⟩ ⟨(by simp only [List.length_append]; rfl), (congrArg (Value.int .i64) (by (try dsimp only); omega)), trivial⟩
   · skip
     replace hst := hst.keepc hp
     clear hp
     refine CN <| Op1.move (v := .tuple #[.agg #[.int .u8 _, str _, .int .i64 _], .int .i64 _, .int .i64 _]) rfl <| CN <| Op1.extract (v := .agg #[.int .u8 _, str _, .int .i64 _]) rfl rfl <| CN <| Op1.extract (v := .int .i64 _) rfl rfl <| CN <| Op1.extract (v := .int .i64 _) rfl rfl <| CN <| Op1.alloc hst ty30 fun w b6 hst => CN (SO (v := .agg #[.int .u8 _, str _, .int .i64 _]) hst ty30 rfl rfl (.here) fun w hst => ?_)
     refine AI rfl <| AI rfl <| NL <| Run.forget [(0, str _), (3, .pointer (some ⟨_, _, none⟩)), (4, .slice _ _ _), (5, .int .i64 _), (6, .pointer (some ⟨_, _, none⟩)), (7, .int .i64 _), (8, .int .i64 _)] ⟨rfl, rfl, rfl, rfl, rfl, rfl, rfl, trivial⟩ fun f => SQ <| SR <| MI rfl <| CN <| Op1.neq rfl rfl <| NL <| run_cond_dec rfl (fun g8 => ?_) (fun g8 => ?_)
     · skip
       refine SR <| MI rfl <| MI rfl <| CN (Op1.buildStruct ty25 stf25 (.c (v := .int .i64 _) rfl (h := (.c (v := .int .i64 _) rfl (h := .nil)))) ?_)
       refine AL rfl <| CN (SO (v := .agg #[.int .i64 _, .int .i64 _]) hst ty25 rfl rfl (.there (.there (.here))) fun w hst => ?_)
       refine NL <| run_ret2 Tryd.func15 rfl (TP (v := .slice _ _ _) rfl) (RV.cellA (vs := [.int .i64 _, .int .i64 _]) rfl ty25 rfl rfl (cells_of_obj (n := 2) (hst.objL (.tail _ (.tail _ (.head _)))) _ rfl)) ?_
       rw [toksI_err hJ (by omega) (by omega) (fun q => g4 ((kind_blank _).2 q)) htk]
       replace hst := hst.pushNil 30 3
       replace hst := hst.pick (.cons (.here) .nil)
       exact ⟨none, 0, rfl, hst.noD⟩
     exfalso
     exact g8 hne
 refine run_exit (id := 0) rfl <| SR <| ML rfl <| CN (Op1.buildStruct ty25 stf25 .nil ?_)
 refine AL rfl <| CN (SO (v := .agg #[.int .i64 _, .int .i64 _]) hst ty25 rfl rfl (.there (.here)) fun w hst => ?_)
 refine NL <| run_ret2 Tryd.func15 rfl (TP (v := .slice _ _ _) rfl) (RV.cellA (vs := [.int .i64 _, .int .i64 _]) rfl ty25 rfl rfl (cells_of_obj (n := 2) (hst.objL (.tail _ (.head _))) _ rfl)) ?_
 rw [toksI_end hJ (by omega)]
 replace hst := hst.pick (.cons (.here) .nil)
 exact ⟨aq, cq, rfl, hst.noD⟩
end Go.SK
namespace Go.SK
open Go Go.Proofs
theorem fld30_0 : FldF Tryd.prog 30 0 0 := FldF.of (n := 0) (by kernel_rfl)
theorem fld30_1 : FldF Tryd.prog 30 1 1 := FldF.of (n := 0) (by kernel_rfl)
theorem ent20 : Enters Tryd.prog 20 := ⟨Tryd.f20, _, Tryd.func20, by kernel_rfl, rfl⟩
theorem ent44 : Enters Tryd.prog 44 := ⟨Tryd.f44, _, Tryd.func44, by kernel_rfl, rfl⟩
theorem ty41 : TyF Tryd.prog 41 (.slice 9) 1 24 [.slice none 0 0] := TyF.of (by kernel_rfl) (by kernel_rfl)
theorem ent45 : Enters Tryd.prog 45 := ⟨Tryd.f45, _, Tryd.func45, by kernel_rfl, rfl⟩
end Go.SK
namespace Go.SK
open Go Go.Proofs
open Go.RowKit
theorem R4lx_write (t : TokL) (w : World) (hG : LxG.holds w) (hl : t.text.length ≤ 1099511627776) : Ret Tryd.prog 44 #[.agg #[.int .u8 t.kind, str t.text, .int .i64 t.at_]] w (fun v w' => (∃ x, wrT t = some x ∧ v = .tuple #[str x, .bool true] ∧ St w NoM [] [] w') ∨ (wrT t = none ∧ ∃ y, v = .tuple #[str y, .bool false] ∧ St w NoM [] [] w')) := by
 refine Ret.enter (args := [.agg #[.int .u8 t.kind, str t.text, .int .i64 t.at_]]) Tryd.func44 rfl rfl rfl ?_
 have hst : St w NoM [] [LxG] w := St.init_Ds (by simp only [List.forall_mem_cons]; exact ⟨hG, fun _ h => absurd h List.not_mem_nil⟩)
 refine SR <| CN <| Op1.box (v := .agg #[.int .u8 _, str _, .int .i64 _]) hst rfl rfl fun w b1 hst => AS rfl <| AB rfl <| NL <| SQ <| SR <| CN <| Op1.fieldAddr fld30_0 rfl <| CN <| Op1.load1 (v := .int .u8 _) ty5 rfl rfl (hst.cellL (.head _) rfl) <| NL <| run_block <| SQ <| RG ?_
 refine CN <| Op1.eql rfl rfl <| AB rfl <| NL <| run_cond_dec rfl (fun g1 => ?_) (fun g1 => ?_)
 · skip
   refine SQ <| RunD.start [] hst (bs := [0, 1, 0, 4, 12, 28, 60, 124, 252, 508, 1020, 2044, 4092, 8188, 16380, 32764, 8188, 73724, 262140, 524284, 65535, 2097151]) (ds := [some 12, some 13, some 14, some 15, some 16, some 17, some 18, some 19, some 20, some 21, some 22, some 23, some 24, some 25, some 26, some 27, some 28, some 29, some 30, some 31, some 2, some 3]) ⟨by kernel_rfl, by kernel_rfl, by kernel_rfl⟩ (fun tab2 => ?_)
   refine RunD.op (det _) tab2 1 (fun f' L' w' hc => Op1.fieldAddr fld30_1 (hc.old (v := .pointer (some ⟨_, _, none⟩)) rfl rfl rfl) ⟨[], ⟨rfl, rfl⟩, hc.st⟩) <| RunD.op (det _) tab2 2 (fun f' L' w' hc => Op1.load1 (v := str _) ty9 rfl (hc.det (j := 0) rfl rfl rfl rfl) (hc.st.cellL (List.mem_append_right _ (.head _)) rfl) ⟨[], ⟨rfl, rfl⟩, hc.st⟩) <| RunD.op (det _) tab2 3 (fun f' L' w' hc => Op1.fieldAddr fld30_1 (hc.old (v := .pointer (some ⟨_, _, none⟩)) rfl rfl rfl) ⟨[], ⟨rfl, rfl⟩, hc.st⟩) <| RunD.op (det _) tab2 4 (fun f' L' w' hc => Op1.load1 (v := str _) ty9 rfl (hc.det (j := 2) rfl rfl rfl rfl) (hc.st.cellL (List.mem_append_right _ (.head _)) rfl) ⟨[], ⟨rfl, rfl⟩, hc.st⟩) <| RunD.op (det _) tab2 5 (fun f' L' w' hc => Op1.neqS (hc.det (j := 3) rfl rfl rfl rfl) rfl ⟨[], ⟨rfl, rfl⟩, hc.st⟩) <| RunD.op (det _) tab2 6 (fun f' L' w' hc => Op1.move (v := .bool _) (hc.det (j := 4) rfl rfl rfl rfl) ⟨[], ⟨rfl, rfl⟩, hc.st⟩) <| RunD.splitD (j := 5) rfl (fun g3 => ?_) (fun g3 => ?_)
   · skip
     have hpos : 0 < t.text.length := List.length_pos_iff.2 g3
     refine RunD.take (det _) tab2 7 rfl (fun f' L' w' hc => (hc.det (j := 5) rfl rfl rfl rfl).trans (congrArg Value.bool (decide_eq_true g3))) (fun f' L' w' hc => Op1.fieldAddr fld30_1 (hc.old (v := .pointer (some ⟨_, _, none⟩)) rfl rfl rfl) ⟨[], ⟨rfl, rfl⟩, hc.st⟩) <| RunD.take (det _) tab2 8 rfl (fun f' L' w' hc => (hc.det (j := 5) rfl rfl rfl rfl).trans (congrArg Value.bool (decide_eq_true g3))) (fun f' L' w' hc => Op1.load1 (v := str _) ty9 rfl (hc.det (j := 6) rfl rfl rfl rfl) (hc.st.cellL (List.mem_append_right _ (.head _)) rfl) ⟨[], ⟨rfl, rfl⟩, hc.st⟩) <| RunD.take (det _) tab2 9 rfl (fun f' L' w' hc => (hc.det (j := 5) rfl rfl rfl rfl).trans (congrArg Value.bool (decide_eq_true g3))) (fun f' L' w' hc => Op1.indexS ty9 (hc.det (j := 7) rfl rfl rfl rfl) rfl (by omega) (by omega) ⟨[], ⟨rfl, rfl⟩, hc.st⟩) <| RunD.take (det _) tab2 10 rfl (fun f' L' w' hc => (hc.det (j := 5) rfl rfl rfl rfl).trans (congrArg Value.bool (decide_eq_true g3))) (fun f' L' w' hc => Op1.call1 (v1 := .int .u8 _) ent32 rfl (hc.det (j := 8) rfl rfl rfl rfl) ((R4lx_kindOf _ _).mono fun v w hp => ⟨[], ⟨hp.1, rfl⟩, hc.st.keepc hp.2⟩)) <| RunD.take (det _) tab2 11 rfl (fun f' L' w' hc => (hc.det (j := 5) rfl rfl rfl rfl).trans (congrArg Value.bool (decide_eq_true g3))) (fun f' L' w' hc => Op1.eql (hc.det (j := 9) rfl rfl rfl rfl) rfl ⟨[], ⟨rfl, rfl⟩, hc.st⟩) <| RunD.op (det _) tab2 12 (fun f' L' w' hc => Op1.pickT (u := .bool _) (((hc.det (j := 5) rfl rfl rfl rfl)).trans (congrArg Value.bool (decide_eq_true g3))) (hc.det (j := 10) rfl rfl rfl rfl) ⟨[], ⟨rfl, rfl⟩, hc.st⟩) <| RunD.op (det _) tab2 13 (fun f' L' w' hc => Op1.move (v := .bool _) (hc.det (j := 11) rfl rfl rfl rfl) ⟨[], ⟨rfl, rfl⟩, hc.st⟩) <| RunD.splitD (j := 12) rfl (fun g4 => ?_) (fun g4 => ?_)
     · skip
       refine RunD.take (det _) tab2 14 rfl (fun f' L' w' hc => (hc.det (j := 12) rfl rfl rfl rfl).trans (congrArg Value.bool (decide_eq_true g4))) (fun f' L' w' hc => Op1.fieldAddr fld30_1 (hc.old (v := .pointer (some ⟨_, _, none⟩)) rfl rfl rfl) ⟨[], ⟨rfl, rfl⟩, hc.st⟩) <| RunD.take (det _) tab2 15 rfl (fun f' L' w' hc => (hc.det (j := 12) rfl rfl rfl rfl).trans (congrArg Value.bool (decide_eq_true g4))) (fun f' L' w' hc => Op1.load1 (v := str _) ty9 rfl (hc.det (j := 13) rfl rfl rfl rfl) (hc.st.cellL (List.mem_append_right _ (.head _)) rfl) ⟨[], ⟨rfl, rfl⟩, hc.st⟩) <| RunD.take (det _) tab2 16 rfl (fun f' L' w' hc => (hc.det (j := 12) rfl rfl rfl rfl).trans (congrArg Value.bool (decide_eq_true g4))) (fun f' L' w' hc => Op1.call1 (v1 := str _) ent39 rfl (hc.det (j := 14) rfl rfl rfl rfl) ((R4lx_run t.text _ (by omega)).mono fun v w hp => ⟨[], ⟨hp.1, rfl⟩, hc.st.keepc hp.2⟩)) <| RunD.take (det _) tab2 17 rfl (fun f' L' w' hc => (hc.det (j := 12) rfl rfl rfl rfl).trans (congrArg Value.bool (decide_eq_true g4))) (fun f' L' w' hc => Op1.fieldAddr fld30_1 (hc.old (v := .pointer (some ⟨_, _, none⟩)) rfl rfl rfl) ⟨[], ⟨rfl, rfl⟩, hc.st⟩) <| RunD.take (det _) tab2 18 rfl (fun f' L' w' hc => (hc.det (j := 12) rfl rfl rfl rfl).trans (congrArg Value.bool (decide_eq_true g4))) (fun f' L' w' hc => Op1.load1 (v := str _) ty9 rfl (hc.det (j := 16) rfl rfl rfl rfl) (hc.st.cellL (List.mem_append_right _ (.head _)) rfl) ⟨[], ⟨rfl, rfl⟩, hc.st⟩) <| RunD.take (det _) tab2 19 rfl (fun f' L' w' hc => (hc.det (j := 12) rfl rfl rfl rfl).trans (congrArg Value.bool (decide_eq_true g4))) (fun f' L' w' hc => Op1.eqlS (hc.det (j := 15) rfl rfl rfl rfl) (hc.det (j := 17) rfl rfl rfl rfl) ⟨[], ⟨rfl, rfl⟩, hc.st⟩) <| RunD.op (det _) tab2 20 (fun f' L' w' hc => Op1.pickT (u := .bool _) (((hc.det (j := 12) rfl rfl rfl rfl)).trans (congrArg Value.bool (decide_eq_true g4))) (hc.det (j := 18) rfl rfl rfl rfl) ⟨[], ⟨rfl, rfl⟩, hc.st⟩) <| RunD.op (det _) tab2 21 (fun f' L' w' hc => Op1.assign (v := str _) (hc.det (j := 1) rfl rfl rfl rfl) ⟨[], ⟨rfl, rfl⟩, hc.st⟩) <| RunD.fin followsMixed tab2 hst rfl (fun f5 w R8 hs6 hd7 hr9 hst => ?_)
       obtain ⟨h12_, r0⟩ := hd7 0 12 rfl rfl
       obtain ⟨h13_, r1⟩ := hd7 1 13 rfl rfl
       obtain ⟨h14_, r2⟩ := hd7 2 14 rfl rfl
       obtain ⟨h15_, r3⟩ := hd7 3 15 rfl rfl
       obtain ⟨h16_, r4⟩ := hd7 4 16 rfl rfl
       obtain ⟨h17_, r5⟩ := hd7 5 17 rfl rfl
       obtain ⟨h18_, r6⟩ := hd7 6 18 rfl rfl
       obtain ⟨h19_, r7⟩ := hd7 7 19 rfl rfl
       obtain ⟨h20_, r8⟩ := hd7 8 20 rfl rfl
       obtain ⟨h21_, r9⟩ := hd7 9 21 rfl rfl
       obtain ⟨h22_, r10⟩ := hd7 10 22 rfl rfl
       obtain ⟨h23_, r11⟩ := hd7 11 23 rfl rfl
       obtain ⟨h24_, r12⟩ := hd7 12 24 rfl rfl
       obtain ⟨h25_, r13⟩ := hd7 13 25 rfl rfl
       obtain ⟨h26_, r14⟩ := hd7 14 26 rfl rfl
       obtain ⟨h27_, r15⟩ := hd7 15 27 rfl rfl
       obtain ⟨h28_, r16⟩ := hd7 16 28 rfl rfl
       obtain ⟨h29_, r17⟩ := hd7 17 29 rfl rfl
       obtain ⟨h30_, r18⟩ := hd7 18 30 rfl rfl
       obtain ⟨h31_, r19⟩ := hd7 19 31 rfl rfl
       obtain ⟨h2_, r20⟩ := hd7 20 2 rfl rfl
       simp only [show List.range 21 = [0, 1, 2, 3, 4, 5, 6, 7, 8, 9, 10, 11, 12, 13, 14, 15, 16, 17, 18, 19, 20] from rfl, List.flatMap_cons, List.flatMap_nil, List.map_cons, List.map_nil, r0, r1, r2, r3, r4, r5, r6, r7, r8, r9, r10, r11, r12, r13, r14, r15, r16, r17, r18, r19, r20, List.nil_append, List.append_nil, List.cons_append] at hst
       refine RunL.slots (sl := [(2, str _), (31, .bool _)]) ⟨h2_, h31_, trivial⟩ ?_
       clear hs6 hd7 hr9 tab2
       refine AB rfl <| NL <| run_ret2 Tryd.func44 rfl (TP (v := str _) rfl) (TP (v := .bool _) rfl) ?_
       by_cases hz : runF t.text = t.text
       · rw [decide_eq_true hz]; exact .inl ⟨_, wr1_ok (by omega) g3 ((kind_let _).1 g4) hz, rfl, hst.pure⟩
       · rw [decide_eq_false hz]; exact .inr ⟨wr1_no (by omega) (fun q => hz q.2.2), _, rfl, hst.pure⟩
     refine RunD.omit tab2 14 rfl rfl (fun f' L' w' hc => (hc.det (j := 12) rfl rfl rfl rfl).trans (congrArg Value.bool (decide_eq_false g4))) <| RunD.omit tab2 15 rfl rfl (fun f' L' w' hc => (hc.det (j := 12) rfl rfl rfl rfl).trans (congrArg Value.bool (decide_eq_false g4))) <| RunD.omit tab2 16 rfl rfl (fun f' L' w' hc => (hc.det (j := 12) rfl rfl rfl rfl).trans (congrArg Value.bool (decide_eq_false g4))) <| RunD.omit tab2 17 rfl rfl (fun f' L' w' hc => (hc.det (j := 12) rfl rfl rfl rfl).trans (congrArg Value.bool (decide_eq_false g4))) <| RunD.omit tab2 18 rfl rfl (fun f' L' w' hc => (hc.det (j := 12) rfl rfl rfl rfl).trans (congrArg Value.bool (decide_eq_false g4))) <| RunD.omit tab2 19 rfl rfl (fun f' L' w' hc => (hc.det (j := 12) rfl rfl rfl rfl).trans (congrArg Value.bool (decide_eq_false g4))) <| RunD.op (det _) tab2 20 (fun f' L' w' hc => Op1.pickF (u := .bool _) (((hc.det (j := 12) rfl rfl rfl rfl)).trans (congrArg Value.bool (decide_eq_false g4))) rfl ⟨[], ⟨rfl, rfl⟩, hc.st⟩) <| RunD.op (det _) tab2 21 (fun f' L' w' hc => Op1.assign (v := str _) (hc.det (j := 1) rfl rfl rfl rfl) ⟨[], ⟨rfl, rfl⟩, hc.st⟩) <| RunD.fin followsMixed tab2 hst rfl (fun f10 w R13 hs11 hd12 hr14 hst => ?_)
     obtain ⟨h12_, r0⟩ := hd12 0 12 rfl rfl
     obtain ⟨h13_, r1⟩ := hd12 1 13 rfl rfl
     obtain ⟨h14_, r2⟩ := hd12 2 14 rfl rfl
     obtain ⟨h15_, r3⟩ := hd12 3 15 rfl rfl
     obtain ⟨h16_, r4⟩ := hd12 4 16 rfl rfl
     obtain ⟨h17_, r5⟩ := hd12 5 17 rfl rfl
     obtain ⟨h18_, r6⟩ := hd12 6 18 rfl rfl
     obtain ⟨h19_, r7⟩ := hd12 7 19 rfl rfl
     obtain ⟨h20_, r8⟩ := hd12 8 20 rfl rfl
     obtain ⟨h21_, r9⟩ := hd12 9 21 rfl rfl
     obtain ⟨h22_, r10⟩ := hd12 10 22 rfl rfl
     obtain ⟨h23_, r11⟩ := hd12 11 23 rfl rfl
     obtain ⟨h24_, r12⟩ := hd12 12 24 rfl rfl
     obtain ⟨h25_, r13⟩ := hd12 13 25 rfl rfl
     obtain ⟨h26_, r14⟩ := hd12 14 26 rfl rfl
     obtain ⟨h27_, r15⟩ := hd12 15 27 rfl rfl
     obtain ⟨h28_, r16⟩ := hd12 16 28 rfl rfl
     obtain ⟨h29_, r17⟩ := hd12 17 29 rfl rfl
     obtain ⟨h30_, r18⟩ := hd12 18 30 rfl rfl
     obtain ⟨h31_, r19⟩ := hd12 19 31 rfl rfl
     obtain ⟨h2_, r20⟩ := hd12 20 2 rfl rfl
     simp only [show List.range 21 = [0, 1, 2, 3, 4, 5, 6, 7, 8, 9, 10, 11, 12, 13, 14, 15, 16, 17, 18, 19, 20] from rfl, List.flatMap_cons, List.flatMap_nil, List.map_cons, List.map_nil, r0, r1, r2, r3, r4, r5, r6, r7, r8, r9, r10, r11, r12, r13, r14, r15, r16, r17, r18, r19, r20, List.nil_append, List.append_nil, List.cons_append] at hst
     refine RunL.slots (sl := [(2, str _), (31, .bool _)]) ⟨h2_, h31_, trivial⟩ ?_
     clear hs11 hd12 hr14 tab2
     refine AB rfl <| NL <| run_ret2 Tryd.func44 rfl (TP (v := str _) rfl) (TP (v := .bool _) rfl) ?_
     exact .inr ⟨wr1_no (by omega) (fun q => g4 ((kind_let _).2 q.2.1)), _, rfl, hst.pure⟩
   refine RunD.omit tab2 7 rfl rfl (fun f' L' w' hc => (hc.det (j := 5) rfl rfl rfl rfl).trans (congrArg Value.bool (decide_eq_false g3))) <| RunD.omit tab2 8 rfl rfl (fun f' L' w' hc => (hc.det (j := 5) rfl rfl rfl rfl).trans (congrArg Value.bool (decide_eq_false g3))) <| RunD.omit tab2 9 rfl rfl (fun f' L' w' hc => (hc.det (j := 5) rfl rfl rfl rfl).trans (congrArg Value.bool (decide_eq_false g3))) <| RunD.omit tab2 10 rfl rfl (fun f' L' w' hc => (hc.det (j := 5) rfl rfl rfl rfl).trans (congrArg Value.bool (decide_eq_false g3))) <| RunD.omit tab2 11 rfl rfl (fun f' L' w' hc => (hc.det (j := 5) rfl rfl rfl rfl).trans (congrArg Value.bool (decide_eq_false g3))) <| RunD.op (det _) tab2 12 (fun f' L' w' hc => Op1.pickF (u := .bool _) (((hc.det (j := 5) rfl rfl rfl rfl)).trans (congrArg Value.bool (decide_eq_false g3))) rfl ⟨[], ⟨rfl, rfl⟩, hc.st⟩) <| RunD.op (det _) tab2 13 (fun f' L' w' hc => Op1.move (v := .bool _) (hc.det (j := 11) rfl rfl rfl rfl) ⟨[], ⟨rfl, rfl⟩, hc.st⟩) <| RunD.omit tab2 14 rfl rfl (fun f' L' w' hc => (hc.det (j := 12) rfl rfl rfl rfl).trans (congrArg Value.bool (rfl : false = _))) <| RunD.omit tab2 15 rfl rfl (fun f' L' w' hc => (hc.det (j := 12) rfl rfl rfl rfl).trans (congrArg Value.bool (rfl : false = _))) <| RunD.omit tab2 16 rfl rfl (fun f' L' w' hc => (hc.det (j := 12) rfl rfl rfl rfl).trans (congrArg Value.bool (rfl : false = _))) <| RunD.omit tab2 17 rfl rfl (fun f' L' w' hc => (hc.det (j := 12) rfl rfl rfl rfl).trans (congrArg Value.bool (rfl : false = _))) <| RunD.omit tab2 18 rfl rfl (fun f' L' w' hc => (hc.det (j := 12) rfl rfl rfl rfl).trans (congrArg Value.bool (rfl : false = _))) <| RunD.omit tab2 19 rfl rfl (fun f' L' w' hc => (hc.det (j := 12) rfl rfl rfl rfl).trans (congrArg Value.bool (rfl : false = _))) <| RunD.op (det _) tab2 20 (fun f' L' w' hc => Op1.pickF (u := .bool _) (((hc.det (j := 12) rfl rfl rfl rfl)).trans (congrArg Value.bool (rfl : false = _))) rfl ⟨[], ⟨rfl, rfl⟩, hc.st⟩) <| RunD.op (det _) tab2 21 (fun f' L' w' hc => Op1.assign (v := str _) (hc.det (j := 1) rfl rfl rfl rfl) ⟨[], ⟨rfl, rfl⟩, hc.st⟩) ?_
   refine RunD.fin followsMixed tab2 hst rfl (fun f15 w R18 hs16 hd17 hr19 hst => ?_)
   obtain ⟨h12_, r0⟩ := hd17 0 12 rfl rfl
   obtain ⟨h13_, r1⟩ := hd17 1 13 rfl rfl
   obtain ⟨h14_, r2⟩ := hd17 2 14 rfl rfl
   obtain ⟨h15_, r3⟩ := hd17 3 15 rfl rfl
   obtain ⟨h16_, r4⟩ := hd17 4 16 rfl rfl
   obtain ⟨h17_, r5⟩ := hd17 5 17 rfl rfl
   obtain ⟨h18_, r6⟩ := hd17 6 18 rfl rfl
   obtain ⟨h19_, r7⟩ := hd17 7 19 rfl rfl
   obtain ⟨h20_, r8⟩ := hd17 8 20 rfl rfl
   obtain ⟨h21_, r9⟩ := hd17 9 21 rfl rfl
   obtain ⟨h22_, r10⟩ := hd17 10 22 rfl rfl
   obtain ⟨h23_, r11⟩ := hd17 11 23 rfl rfl
   obtain ⟨h24_, r12⟩ := hd17 12 24 rfl rfl
   obtain ⟨h25_, r13⟩ := hd17 13 25 rfl rfl
   obtain ⟨h26_, r14⟩ := hd17 14 26 rfl rfl
   obtain ⟨h27_, r15⟩ := hd17 15 27 rfl rfl
   obtain ⟨h28_, r16⟩ := hd17 16 28 rfl rfl
   obtain ⟨h29_, r17⟩ := hd17 17 29 rfl rfl
   obtain ⟨h30_, r18⟩ := hd17 18 30 rfl rfl
   obtain ⟨h31_, r19⟩ := hd17 19 31 rfl rfl
   obtain ⟨h2_, r20⟩ := hd17 20 2 rfl rfl
   simp only [show List.range 21 = [0, 1, 2, 3, 4, 5, 6, 7, 8, 9, 10, 11, 12, 13, 14, 15, 16, 17, 18, 19, 20] from rfl, List.flatMap_cons, List.flatMap_nil, List.map_cons, List.map_nil, r0, r1, r2, r3, r4, r5, r6, r7, r8, r9, r10, r11, r12, r13, r14, r15, r16, r17, r18, r19, r20, List.nil_append, List.append_nil, List.cons_append] at hst
   refine RunL.slots (sl := [(2, str _), (31, .bool _)]) ⟨h2_, h31_, trivial⟩ ?_
   clear hs16 hd17 hr19 tab2
   refine AB rfl <| NL <| run_ret2 Tryd.func44 rfl (TP (v := str _) rfl) (TP (v := .bool _) rfl) ?_
   exact .inr ⟨wr1_no (by omega) (fun q => g3 q.1), _, rfl, hst.pure⟩
 refine SR <| CN <| Op1.eql rfl rfl <| AB rfl <| NL <| run_cond_dec rfl (fun g20 => ?_) (fun g20 => ?_)
 · skip
   refine SR <| CN <| Op1.fieldAddr fld30_1 rfl <| CN <| Op1.load1 (v := str _) ty9 rfl rfl (hst.cellL (.head _) rfl) <| CN <| Op1.call1 (v1 := str _) ent37 rfl rfl <| Ret.det (R4lx_plain t.text _ (hst.hD _ (.head _)) (by omega)) hst fun w hst => CN <| Op1.move (v := .tuple #[.int .u32 _, .bool _]) rfl <| CN <| Op1.extract (v := .int .u32 _) rfl rfl <| CN <| Op1.extract (v := .bool _) rfl rfl <| AU rfl <| AB rfl <| NSR <| CN <| Op1.fieldAddr fld30_1 rfl <| CN (Op1.load1 (v := str _) ty9 rfl rfl (hst.cellL (.head _) rfl) ?_)
   refine CN <| Op1.addS rfl rfl (by first | omega | (simp only [List.length_cons, List.length_nil, List.length_append]; omega) | (simp; omega)) <| MB rfl <| AS rfl <| AB rfl <| NL <| run_ret2 Tryd.func44 rfl (TP (v := str _) rfl) (TP (v := .bool _) rfl) ?_
   cases hz : (plainF t.text).isSome
   · exact .inr ⟨wr2_no (by omega) (f_no hz), _, rfl, hst.pure⟩
   · exact .inl ⟨_, wr2_ok (by omega) hz, rfl, hst.pure⟩
 refine SR <| CN <| Op1.eql rfl rfl <| AB rfl <| NL <| run_cond_dec rfl (fun g21 => ?_) (fun g21 => ?_)
 · skip
   refine SR <| CN <| Op1.fieldAddr fld30_1 rfl <| CN <| Op1.load1 (v := str _) ty9 rfl rfl (hst.cellL (.head _) rfl) <| CN <| Op1.call1 (v1 := str _) ent19 rfl rfl <| Ret.det (R4lx_lNumber t.text _ (hst.hD _ (.head _)) (by omega)) hst fun w hst => CN <| Op1.move (v := .tuple #[.int .u32 _, .int .i64 _]) rfl <| CN <| Op1.extract (v := .int .u32 _) rfl rfl <| CN <| Op1.extract (v := .int .i64 _) rfl rfl <| AU rfl <| AI rfl <| NL <| Run.forget [(1, .pointer (some ⟨_, _, none⟩)), (7, .int .i64 _)] ⟨rfl, rfl, trivial⟩ fun f => SR <| CN (Op1.fieldAddr fld30_1 rfl ?_)
   refine CN <| Op1.load1 (v := str _) ty9 rfl rfl (hst.cellL (.head _) rfl) <| MI rfl <| CN <| Op1.eql rfl rfl <| AS rfl <| AB rfl <| NL <| run_ret2 Tryd.func44 rfl (TP (v := str _) rfl) (TP (v := .bool _) rfl) ?_
   by_cases hz : (numLx t.text).2 = 0
   · rw [decide_eq_true hz]; exact .inl ⟨_, wr3_ok (by omega) hz, rfl, hst.pure⟩
   · rw [decide_eq_false hz]; exact .inr ⟨wr3_no (by omega) hz, _, rfl, hst.pure⟩
 refine SR <| CN <| Op1.eql rfl rfl <| AB rfl <| NL <| run_cond_dec rfl (fun g22 => ?_) (fun g22 => ?_)
 · skip
   refine SR <| CN <| Op1.fieldAddr fld30_1 rfl <| CN <| Op1.load1 (v := str _) ty9 rfl rfl (hst.cellL (.head _) rfl) <| CN <| Op1.call1 (v1 := str _) ent20 rfl rfl <| Ret.det (R4lx_lQuote t.text _ hl) hst fun w hst => AS rfl <| AB rfl <| NL <| run_ret2 Tryd.func44 rfl (TP (v := str _) rfl) (TP (v := .bool _) rfl) ?_
   exact .inl ⟨_, wr4_ok (by omega), rfl, hst.pure⟩
 refine SR <| CN <| Op1.eql rfl rfl <| AB rfl <| NL <| run_cond_dec rfl (fun g23 => ?_) (fun g23 => ?_)
 · skip
   refine SQ <| RunD.start [] hst (bs := [0, 1, 0, 4, 12, 3, 63]) (ds := [some 63, some 64, some 65, some 66, some 67, some 2, some 3]) ⟨by kernel_rfl, by kernel_rfl, by kernel_rfl⟩ (fun tab24 => ?_)
   refine RunD.op (det _) tab24 1 (fun f' L' w' hc => Op1.fieldAddr fld30_1 (hc.old (v := .pointer (some ⟨_, _, none⟩)) rfl rfl rfl) ⟨[], ⟨rfl, rfl⟩, hc.st⟩) <| RunD.op (det _) tab24 2 (fun f' L' w' hc => Op1.load1 (v := str _) ty9 rfl (hc.det (j := 0) rfl rfl rfl rfl) (hc.st.cellL (List.mem_append_right _ (.head _)) rfl) ⟨[], ⟨rfl, rfl⟩, hc.st⟩) <| RunD.op (det _) tab24 3 (fun f' L' w' hc => Op1.fieldAddr fld30_1 (hc.old (v := .pointer (some ⟨_, _, none⟩)) rfl rfl rfl) ⟨[], ⟨rfl, rfl⟩, hc.st⟩) <| RunD.op (det _) tab24 4 (fun f' L' w' hc => Op1.load1 (v := str _) ty9 rfl (hc.det (j := 2) rfl rfl rfl rfl) (hc.st.cellL (List.mem_append_right _ (.head _)) rfl) ⟨[], ⟨rfl, rfl⟩, hc.st⟩) <| RunD.op (det _) tab24 5 (fun f' L' w' hc => Op1.eqlS (hc.det (j := 3) rfl rfl rfl rfl) rfl ⟨[], ⟨rfl, rfl⟩, hc.st⟩) <| RunD.op (det _) tab24 6 (fun f' L' w' hc => Op1.assign (v := str _) (hc.det (j := 1) rfl rfl rfl rfl) ⟨[], ⟨rfl, rfl⟩, hc.st⟩) <| RunD.fin followsMixed tab24 hst rfl (fun f25 w R28 hs26 hd27 hr29 hst => ?_)
   obtain ⟨h63_, r0⟩ := hd27 0 63 rfl rfl
   obtain ⟨h64_, r1⟩ := hd27 1 64 rfl rfl
   obtain ⟨h65_, r2⟩ := hd27 2 65 rfl rfl
   obtain ⟨h66_, r3⟩ := hd27 3 66 rfl rfl
   obtain ⟨h67_, r4⟩ := hd27 4 67 rfl rfl
   obtain ⟨h2_, r5⟩ := hd27 5 2 rfl rfl
   simp only [show List.range 6 = [0, 1, 2, 3, 4, 5] from rfl, List.flatMap_cons, List.flatMap_nil, List.map_cons, List.map_nil, r0, r1, r2, r3, r4, r5, List.nil_append, List.append_nil, List.cons_append] at hst
   refine RunL.slots (sl := [(2, str _), (67, .bool _)]) ⟨h2_, h67_, trivial⟩ ?_
   clear hs26 hd27 hr29 tab24
   refine AB rfl <| NL <| run_ret2 Tryd.func44 rfl (TP (v := str _) rfl) (TP (v := .bool _) rfl) ?_
   by_cases hz : t.text = [61]
   · rw [decide_eq_true hz]; exact .inl ⟨_, wr5_ok (by omega) hz, by rw [hz], hst.pure⟩
   · rw [decide_eq_false hz]; exact .inr ⟨wr5_no (by omega) hz, _, rfl, hst.pure⟩
 refine run_skip <| run_inBlock <| SR <| AS rfl <| AB rfl <| NL <| run_ret2 Tryd.func44 rfl (TP (v := str _) rfl) (TP (v := .bool _) rfl) ?_
 exact .inr ⟨wr_no (by omega) (by omega) (by omega) (by omega) (by omega), _, rfl, hst.pure⟩
theorem R4lx_lWrite (l : List TokL) (ao : Option Addr) (cp : Nat) (w : World) (hG : LxG.holds w) (hA0 : (Res.rs ao l.length 3 (l.flatMap tokC)).holds w) (hl : l.length ≤ 1099511627776) (hw : wsz l ≤ 1099511627776) : Ret Tryd.prog 23 #[.slice ao l.length cp] w (fun v w' => v = .tuple #[str (wrS l), .int .i64 (wrE l)] ∧ St w NoM [] [] w') := by
 refine Ret.enter (args := [.slice ao l.length cp]) Tryd.func23 rfl rfl rfl ?_
 have hst : St w NoM [] [LxG, Res.rs ao l.length 3 (l.flatMap tokC)] w := St.init_Ds (by simp only [List.forall_mem_cons]; exact ⟨hG, hA0, fun _ h => absurd h List.not_mem_nil⟩)
 refine SR <| AS rfl <| AI rfl <| NSR <| AL rfl <| NL <| SQ <| SR <| ML rfl <| CN <| Op1.lenSl (rest := []) ty22 rfl <| MI rfl ?_
 refine NL <| run_block <| run_loop ?_
 replace hst := hst.pushNil 9 1
 refine Run.indW [(9, .slice _ _ _), (10, .int .i64 _)] ⟨rfl, rfl, trivial⟩ (fun (qq : Nat × List Tx × Option Addr × Nat) => [(4, .slice qq.2.2.1 qq.2.1.length qq.2.2.2), (11, .int .i64 (qq.1 : Int))]) (fun (qq : Nat × List Tx × Option Addr × Nat) => [Res.sl qq.2.2.1 qq.2.1.length qq.2.2.2 9 1 (qq.2.1.flatMap strC)]) (fun (qq : Nat × List Tx × Option Addr × Nat) => wrI l qq.1 qq.2.1) (fun (qq : Nat × List Tx × Option Addr × Nat) => l.length - qq.1) ((0, [], none, 0)) hst (wrI_start l) ⟨rfl, rfl, trivial⟩ ?_
 intro ⟨i, o, aq, cq⟩ f w hst hJ ih1
 replace hst : St _ _ ([Res.sl aq o.length cq 9 1 (o.flatMap strC)] ++ []) _ _ := hst
 replace hJ : wrI l i o := hJ
 refine Run.slots (sl := [(4, .slice aq o.length cq), (11, .int .i64 (i : Int))]) ⟨rfl, rfl, trivial⟩ ?_
 have hjl := join_len o
 have hj1 := hJ.1
 have hj3 := hJ.2.2.1
 have hj2 := hJ.2.1
 refine SR <| CN <| Op1.lss rfl rfl <| NL <| SQ <| run_cond_dec rfl (fun g2 => ?_) (fun g2 => ?_)
 · skip
   refine run_skip <| SQ <| run_block <| SR <| CN <| Op1.indexRs ty22 ty30 (hst.hD _ (.tail _ (.head _))) rfl rfl (by omega) (by omega) <| CN <| Op1.loadA (vs := [.int .u8 _, str _, .int .i64 _]) ty30 rfl rfl rfl (Res.rs2_cells (m := 3) (hst.hD _ (.tail _ (.head _))) _ (flat_seg (g := tokC) (d := tok0) tokC_len _ _ (by omega))) <| CN <| Op1.alloc hst ty30 fun w b6 hst => CN (SO (v := .agg #[.int .u8 _, str _, .int .i64 _]) hst ty30 rfl rfl (.here) fun w hst => ?_)
   refine NSR <| CN (Op1.loadA (vs := [.int .u8 _, str _, .int .i64 _]) ty30 rfl rfl rfl (cells_of_obj (n := 3) (hst.objL (.head _)) _ rfl) ?_)
   have hzt := wsz_text hJ (by omega)
   have htx : ((l.getD ((i : Int).toNat) tok0).text).length = ((l.getD i tok0).text).length := rfl
   refine CN (Op1.call1 (v1 := .agg #[.int .u8 _, str _, .int .i64 _]) ent44 rfl rfl ((R4lx_write (l.getD ((i : Int).toNat) tok0) _ (hst.hD _ (.head _)) (by omega)).mono fun v w hp => ?_))
   rcases hp with ⟨x, hx, rfl, hp⟩ | ⟨hx, y, rfl, hp⟩
   · skip
     replace hst := hst.keepc hp
     clear hp
     have hxl := wr_len hx
     refine CN <| Op1.move (v := .tuple #[str _, .bool _]) rfl <| CN <| Op1.extract (v := str _) rfl rfl <| CN <| Op1.extract (v := .bool _) rfl rfl <| AS rfl <| AB rfl <| NL <| SQ <| SR <| MB rfl <| CN <| Op1.not rfl <| NL <| run_cond_false (congrArg Value.bool (congrArg not (rfl : true = _))) <| run_skip <| RG ?_
     refine ML rfl <| MS rfl <| CN (Op1.buildSl (z0 := [str []]) hst ty41 ty9 rfl rfl (by kernel_rfl) (.c (v := str _) rfl (h := .nil)) fun w b24 hst => ?_)
     refine CN (Op1.append (news := strC x) hst ty41 ty9 rfl rfl (.there (.there (.here))) rfl rfl rfl (cells_of_obj (n := 1) (hst.objL (.head _)) _ rfl) rfl rfl (by omega) fun w ao3 cp4 hst => ?_)
     replace hst := hst.drop (.there (.here))
     refine AL rfl <| NL <| run_inBlock <| RG <| CN <| Op1.addN rfl rfl rfl (wrap_i64 (by omega) (by omega)) <| MI rfl <| NL <| run_inLoop ?_
     replace hst := hst.pick (.cons (.here) .nil)
     exact ih1 ((i + 1, o ++ [x], ao3, cp4)) _ w ((by (try dsimp only); omega)) (by rw [List.length_append, List.flatMap_append]; exact hst) (wrI_step hJ (by omega) hx) ⟨rfl, rfl, trivial⟩ ⟨(by simp only [List.length_append]; rfl), (congrArg (Value.int .i64) (by (try dsimp only); omega)), trivial⟩
   · skip
     replace hst := hst.keepc hp
     clear hp
     refine CN <| Op1.move (v := .tuple #[str _, .bool _]) rfl <| CN <| Op1.extract (v := str _) rfl rfl <| CN <| Op1.extract (v := .bool _) rfl rfl <| AS rfl <| AB rfl <| NL <| SQ <| SR <| MB rfl <| CN <| Op1.not rfl <| NL <| run_cond_true (congrArg Value.bool (congrArg not (rfl : false = _))) <| SQ <| RG ?_
     refine AS rfl <| AI rfl <| NL <| run_ret2 Tryd.func23 rfl (TP (v := str _) rfl) (TP (v := .int .i64 _) rfl) ?_
     have hwf := wrSE_none (wrI_no hJ (by omega) hx)
     rw [hwf.1, hwf.2]
     exact ⟨rfl, hst.pure⟩
 refine run_exit (id := 0) rfl <| SR <| ML rfl <| CN <| Op1.call2 (v1 := .slice _ _ _) (v2 := str _) ent45 rfl rfl rfl <| Ret.det (lx_Join o _ _ [32] _ (Res.rs_of_sl (hst.hL _ (.head _))) (Res.sl_cap (hst.hL _ (.head _))) (by omega) (by omega)) hst fun w hst => AS rfl <| AI rfl <| NL <| run_ret2 Tryd.func23 rfl (TP (v := str _) rfl) (TP (v := .int .i64 _) rfl) ?_
 have hwf := wrSE_some (wrI_end hJ (by omega))
 rw [hwf.1, hwf.2]
 exact ⟨rfl, hst.pure⟩
end Go.SK
namespace Go.SK
open Go Go.Proofs
theorem ent15 : Enters Tryd.prog 15 := ⟨Tryd.f15, _, Tryd.func15, by kernel_rfl, rfl⟩
theorem fld25_0 : FldF Tryd.prog 25 0 0 := FldF.of (n := 0) (by kernel_rfl)
theorem ty23 : TyF Tryd.prog 23 (.int .i64) 1 8 [.int .i64 0] := TyF.of (by kernel_rfl) (by kernel_rfl)
theorem ent23 : Enters Tryd.prog 23 := ⟨Tryd.f23, _, Tryd.func23, by kernel_rfl, rfl⟩
theorem ent17 : Enters Tryd.prog 17 := ⟨Tryd.f17, _, Tryd.func17, by kernel_rfl, rfl⟩
end Go.SK
namespace Go.SK
open Go Go.Proofs
open Go.RowKit
theorem R4lx_awT (w : World) (hG : LxG.holds w) : Ret Tryd.prog 15 #[str [37, 53, 32, 61, 32, 79, 112, 73, 65, 100, 100, 32, 45, 49, 32, 34, 97, 34, 32, 59, 32, 98]] w (fun v w' => ∃ ao cp, v = .tuple #[.slice ao 5 cp, .agg #[.int .i64 0, .int .i64 0]] ∧ St w NoM [Res.sl ao 5 cp 30 3 (awT.flatMap tokC)] [] w') := by
 refine (R4lx_lTokens awL w hG (by decide)).mono fun v w' ⟨ao, cp, hv, hst⟩ => ?_
 rw [awT_eq] at hv hst
 exact ⟨ao, cp, hv, hst⟩
theorem R4lx_awW (ao : Option Addr) (cp : Nat) (w : World) (hG : LxG.holds w) (hA : (Res.rs ao 5 3 (awT.flatMap tokC)).holds w) : Ret Tryd.prog 23 #[.slice ao 5 cp] w (fun v w' => v = .tuple #[str awW, .int .i64 0] ∧ St w NoM [] [] w') := by
 refine (R4lx_lWrite awT ao cp w hG hA (by decide) (by decide)).mono fun v w' ⟨hv, hst⟩ => ⟨?_, hst⟩
 rw [hv, (wrSE_some awT_wr).1, (wrSE_some awT_wr).2]
theorem R4lx_awake  (w : World) (hG : LxG.holds w) : Ret Tryd.prog 17 #[] w (fun v w' => v = .bool true ∧ St w NoM [] [] w') := by
 refine Ret.enter (args := []) Tryd.func17 rfl rfl rfl ?_
 have hst : St w NoM [] [LxG] w := St.init_Ds (by simp only [List.forall_mem_cons]; exact ⟨hG, fun _ h => absurd h List.not_mem_nil⟩)
 have hawl : awT.length = 5 := rfl
 refine SR <| AB rfl <| NSR <| CN (Op1.call1 (v1 := str _) ent15 rfl rfl ((R4lx_awT _ (hst.hD _ (.head _))).mono fun v w hp => ?_))
 obtain ⟨ao_x1, cp_x1, rfl, hp⟩ := hp
 replace hst := hst.call0 hp
 clear hp
 refine CN <| Op1.move (v := .tuple #[.slice _ _ _, .agg #[.int .i64 _, .int .i64 _]]) rfl <| CN <| Op1.extract (v := .slice _ _ _) rfl rfl <| CN <| Op1.extract (v := .agg #[.int .i64 _, .int .i64 _]) rfl rfl <| CN <| Op1.alloc hst ty25 fun w b2 hst => AL rfl <| CN (SO (v := .agg #[.int .i64 _, .int .i64 _]) hst ty25 rfl rfl (.here) fun w hst => ?_)
 refine NL <| SQ <| SR <| CN <| Op1.fieldAddr fld25_0 rfl <| CN <| Op1.load1 (v := .int .i64 _) ty23 rfl rfl (hst.cellL (.head _) rfl) <| CN <| Op1.neq rfl rfl <| MB rfl <| RunL.splitD (d := 12) rfl (fun g1 => ?_) (fun g1 => ?_)
 · skip
   exfalso
   exact g1 rfl
 refine TK (t := 12) rfl (congrArg Value.bool (decide_eq_false g1)) <| Op1.move (v := .slice _ _ _) rfl <| TK (t := 12) rfl (congrArg Value.bool (decide_eq_false g1)) <| Op1.lenSl (rest := []) ty22 rfl <| TK (t := 12) rfl (congrArg Value.bool (decide_eq_false g1)) <| Op1.neq rfl rfl <| CN <| Op1.pickF (u := .bool _) (congrArg Value.bool (decide_eq_false g1)) rfl <| MB rfl <| RunL.splitD (d := 17) rfl (fun g2 => ?_) (fun g2 => ?_)
 · skip
   exfalso
   exact g2 rfl
 refine TK (t := 17) rfl (congrArg Value.bool (decide_eq_false g2)) (Op1.move (v := .slice _ _ _) rfl ?_)
 obtain ⟨bs3, rfl⟩ := Res.sl_some (hst.hL _ (.tail _ (.head _))) (by omega)
 refine TK (t := 17) rfl (congrArg Value.bool (decide_eq_false g2)) <| Op1.indexSl ty22 ty30 rfl rfl (by omega) (by omega) <| TK (t := 17) rfl (congrArg Value.bool (decide_eq_false g2)) <| Op1.fieldAddr fld30_0 rfl <| TK (t := 17) rfl (congrArg Value.bool (decide_eq_false g2)) <| Op1.load1 (v := .int .u8 _) ty5 rfl rfl (Res.sl_cell (hst.hL _ (.tail _ (.head _))) (flat_cell (g := tokC) (d := tok0) tokC_len rfl (by omega))) <| TK (t := 17) rfl (congrArg Value.bool (decide_eq_false g2)) <| Op1.neq rfl rfl <| CN <| Op1.pickF (u := .bool _) (congrArg Value.bool (decide_eq_false g2)) rfl <| MB rfl <| RunL.splitD (d := 24) rfl (fun g4 => ?_) (fun g4 => ?_)
 · skip
   exfalso
   exact g4 rfl
 refine TK (t := 24) rfl (congrArg Value.bool (decide_eq_false g4)) <| Op1.move (v := .slice _ _ _) rfl <| TK (t := 24) rfl (congrArg Value.bool (decide_eq_false g4)) <| Op1.indexSl ty22 ty30 rfl rfl (by omega) (by omega) <| TK (t := 24) rfl (congrArg Value.bool (decide_eq_false g4)) <| Op1.fieldAddr fld30_1 rfl <| TK (t := 24) rfl (congrArg Value.bool (decide_eq_false g4)) <| Op1.load1 (v := str _) ty9 rfl rfl (Res.sl_cell (hst.hL _ (.tail _ (.head _))) (flat_cell (g := tokC) (d := tok0) tokC_len rfl (by omega))) <| TK (t := 24) rfl (congrArg Value.bool (decide_eq_false g4)) <| Op1.neqS rfl rfl <| CN <| Op1.pickF (u := .bool _) (congrArg Value.bool (decide_eq_false g4)) rfl <| MB rfl <| RunL.splitD (d := 31) rfl (fun g5 => ?_) (fun g5 => ?_)
 · skip
   exfalso
   exact g5 rfl
 refine TK (t := 31) rfl (congrArg Value.bool (decide_eq_false g5)) <| Op1.move (v := .slice _ _ _) rfl <| TK (t := 31) rfl (congrArg Value.bool (decide_eq_false g5)) <| Op1.indexSl ty22 ty30 rfl rfl (by omega) (by omega) <| TK (t := 31) rfl (congrArg Value.bool (decide_eq_false g5)) <| Op1.fieldAddr fld30_2 rfl <| TK (t := 31) rfl (congrArg Value.bool (decide_eq_false g5)) <| Op1.load1 (v := .int .i64 _) ty3 rfl rfl (Res.sl_cell (hst.hL _ (.tail _ (.head _))) (flat_cell (g := tokC) (d := tok0) tokC_len rfl (by omega))) <| TK (t := 31) rfl (congrArg Value.bool (decide_eq_false g5)) <| Op1.neq rfl rfl <| CN <| Op1.pickF (u := .bool _) (congrArg Value.bool (decide_eq_false g5)) rfl <| NL <| Run.forget [(1, .slice _ _ _), (37, .bool _)] ⟨rfl, rfl, trivial⟩ fun f => run_cond_dec rfl (fun g6 => ?_) (fun g6 => ?_)
 · skip
   exfalso
   exact g6 rfl
 refine run_skip <| SR <| ML rfl <| CN <| Op1.call1 (v1 := .slice _ _ _) ent23 rfl rfl <| Ret.det (R4lx_awW _ _ _ (hst.hD _ (.head _)) (Res.rs_of_sl (hst.hL _ (.tail _ (.head _))))) hst fun w hst => CN <| Op1.move (v := .tuple #[str _, .int .i64 _]) rfl <| CN <| Op1.extract (v := str _) rfl rfl <| CN <| Op1.extract (v := .int .i64 _) rfl rfl <| AS rfl <| AI rfl <| NSR <| MI rfl <| CN (Op1.eql rfl rfl ?_)
 refine MB rfl <| RunL.splitD (d := 45) rfl (fun g7 => ?_) (fun g7 => ?_)
 · skip
   refine TK (t := 45) rfl (congrArg Value.bool (decide_eq_true g7)) <| Op1.move (v := str _) rfl <| TK (t := 45) rfl (congrArg Value.bool (decide_eq_true g7)) <| Op1.eqlS rfl rfl <| CN <| Op1.pickT (u := .bool _) (congrArg Value.bool (decide_eq_true g7)) rfl <| AB rfl <| NL <| run_ret1 Tryd.func17 rfl (TP (v := .bool _) rfl) ?_
   exact ⟨rfl, hst.pure⟩
 exfalso
 exact g7 rfl
end Go.SK
namespace Go.SK
open Go Go.Proofs
theorem ent75 : Enters Tryd.prog 75 := ⟨Tryd.f75, _, Tryd.func75, by kernel_rfl, rfl⟩
theorem ent61 : Enters Tryd.prog 61 := ⟨Tryd.f61, _, Tryd.func61, by kernel_rfl, rfl⟩
theorem ent47 : Enters Tryd.prog 47 := ⟨Tryd.f47, _, Tryd.func47, by kernel_rfl, rfl⟩
theorem ty4 : TyF Tryd.prog 4 .bool 1 1 [.bool false] := TyF.of (by kernel_rfl) (by kernel_rfl)
theorem ent29 : Enters Tryd.prog 29 := ⟨Tryd.f29, _, Tryd.func29, by kernel_rfl, rfl⟩
theorem ty48 : TyF Tryd.prog 48 (.func #[76] #[] false) 1 8 [.nilFunc] := TyF.of (by kernel_rfl) (by kernel_rfl)
theorem ent46 : Enters Tryd.prog 46 := ⟨Tryd.f46, _, Tryd.func46, by kernel_rfl, rfl⟩
end Go.SK
namespace Go.SK
open Go Go.Proofs
open Go.RowKit
theorem R4lx_cut0 (s : Tx) (w : World) (hl : s.length ≤ 140737488355328) : Ret Tryd.prog 61 #[str s, str [10]] w (fun v w' => v = .tuple #[str (cutA s), str (cutB s), .bool (decide (0 ≤ Lib.indexByte s 10))] ∧ St w NoM [] [] w') := by
 refine Ret.enter (args := [str s, str [10]]) Tryd.func61 rfl rfl rfl ?_
 have hst := St.init w
 have hix := idx_cases s
 have hige := idx_ge s
 have h10 : ([10] : Tx).length = 1 := rfl
 refine SR <| AS rfl <| AS rfl <| AB rfl <| NL <| SQ <| SR <| MS rfl <| MS rfl <| CN <| Op1.call2 (v1 := str _) (v2 := str _) ent75 rfl rfl rfl <| Ret.det (lx_IX s 10 _) hst fun w hst => AI rfl <| NL <| SQ ?_
 refine RG <| MI rfl <| CN <| Op1.geq rfl rfl <| NL <| run_cond_dec rfl (fun g1 => ?_) (fun g1 => ?_)
 · skip
   refine SQ <| RunD.start [] hst (bs := [0, 0, 3, 0, 0, 0, 32, 112, 248, 7, 1023, 2047]) (ds := [some 13, some 14, some 15, some 16, some 17, some 18, some 19, some 20, some 21, some 4, some 5, some 6]) ⟨by kernel_rfl, by kernel_rfl, by kernel_rfl⟩ (fun tab2 => ?_)
   refine RunD.op (det _) tab2 1 (fun f' L' w' hc => Op1.move (v := str _) (hc.old (v := str _) rfl rfl rfl) ⟨[], ⟨rfl, rfl⟩, hc.st⟩) <| RunD.op (det _) tab2 2 (fun f' L' w' hc => Op1.move (v := .int .i64 _) (hc.old (v := .int .i64 _) rfl rfl rfl) ⟨[], ⟨rfl, rfl⟩, hc.st⟩) <| RunD.op (det _) tab2 3 (fun f' L' w' hc => Op1.sliceTo ty9 (hc.det (j := 0) rfl rfl rfl rfl) (hc.det (j := 1) rfl rfl rfl rfl) (by omega) (by omega) ⟨[], ⟨rfl, rfl⟩, hc.st⟩) <| RunD.op (det _) tab2 4 (fun f' L' w' hc => Op1.move (v := str _) (hc.old (v := str _) rfl rfl rfl) ⟨[], ⟨rfl, rfl⟩, hc.st⟩) <| RunD.op (det _) tab2 5 (fun f' L' w' hc => Op1.move (v := .int .i64 _) (hc.old (v := .int .i64 _) rfl rfl rfl) ⟨[], ⟨rfl, rfl⟩, hc.st⟩) <| RunD.op (det _) tab2 6 (fun f' L' w' hc => Op1.move (v := str _) (hc.old (v := str _) rfl rfl rfl) ⟨[], ⟨rfl, rfl⟩, hc.st⟩) <| RunD.op (det _) tab2 7 (fun f' L' w' hc => Op1.lenS (rest := []) ty9 (hc.det (j := 5) rfl rfl rfl rfl) ⟨[], ⟨rfl, rfl⟩, hc.st⟩) <| RunD.op (det _) tab2 8 (fun f' L' w' hc => Op1.addN (hc.det (j := 4) rfl rfl rfl rfl) (hc.det (j := 6) rfl rfl rfl rfl) rfl (wrap_i64 (by omega) (by omega)) ⟨[], ⟨rfl, rfl⟩, hc.st⟩) <| RunD.op (det _) tab2 9 (fun f' L' w' hc => Op1.sliceFrom ty9 (hc.det (j := 3) rfl rfl rfl rfl) (hc.det (j := 7) rfl rfl rfl rfl) (by omega) (by omega) ⟨[], ⟨rfl, rfl⟩, hc.st⟩) <| RunD.op (det _) tab2 10 (fun f' L' w' hc => Op1.assign (v := str _) (hc.det (j := 2) rfl rfl rfl rfl) ⟨[], ⟨rfl, rfl⟩, hc.st⟩) <| RunD.fin followsMixed tab2 hst rfl (fun f3 w R6 hs4 hd5 hr7 hst => ?_)
   obtain ⟨h13_, r0⟩ := hd5 0 13 rfl rfl
   obtain ⟨h14_, r1⟩ := hd5 1 14 rfl rfl
   obtain ⟨h15_, r2⟩ := hd5 2 15 rfl rfl
   obtain ⟨h16_, r3⟩ := hd5 3 16 rfl rfl
   obtain ⟨h17_, r4⟩ := hd5 4 17 rfl rfl
   obtain ⟨h18_, r5⟩ := hd5 5 18 rfl rfl
   obtain ⟨h19_, r6⟩ := hd5 6 19 rfl rfl
   obtain ⟨h20_, r7⟩ := hd5 7 20 rfl rfl
   obtain ⟨h21_, r8⟩ := hd5 8 21 rfl rfl
   obtain ⟨h4_, r9⟩ := hd5 9 4 rfl rfl
   simp only [show List.range 10 = [0, 1, 2, 3, 4, 5, 6, 7, 8, 9] from rfl, List.flatMap_cons, List.flatMap_nil, List.map_cons, List.map_nil, r0, r1, r2, r3, r4, r5, r6, r7, r8, r9, List.nil_append, List.append_nil, List.cons_append] at hst
   refine RunL.slots (sl := [(4, str _), (21, str _)]) ⟨h4_, h21_, trivial⟩ ?_
   clear hs4 hd5 hr7 tab2
   refine AS rfl <| AB rfl <| NL <| run_ret3 Tryd.func61 rfl (TP (v := str _) rfl) (TP (v := str _) rfl) (TP (v := .bool _) rfl) ?_
   obtain ⟨h1, h2, h3⟩ := idx_pos (r := s) (by omega)
   rw [h2, h3, decide_eq_true g1]
   exact ⟨rfl, hst.pure⟩
 refine run_skip <| SR <| MS rfl <| AS rfl <| AS rfl <| AB rfl <| NL <| run_ret3 Tryd.func61 rfl (TP (v := str _) rfl) (TP (v := str _) rfl) (TP (v := .bool _) rfl) ?_
 obtain ⟨h2, h3⟩ := idx_neg (r := s) (by omega)
 rw [h2, h3, decide_eq_false g1]
 exact ⟨rfl, hst.pure⟩
theorem R4lx_cut (s : Tx) (w : World) (hl : s.length ≤ 140737488355328) : Ret Tryd.prog 47 #[str s, str [10]] w (fun v w' => v = .tuple #[str (cutA s), str (cutB s), .bool (decide (0 ≤ Lib.indexByte s 10))] ∧ St w NoM [] [] w') := by
 refine Ret.enter (args := [str s, str [10]]) Tryd.func47 rfl rfl rfl ?_
 have hst := St.init w
 refine SR <| AS rfl <| AS rfl <| AB rfl <| NSR <| MS rfl <| MS rfl <| CN <| Op1.call2 (v1 := str _) (v2 := str _) ent61 rfl rfl rfl <| Ret.det (R4lx_cut0 s _ hl) hst fun w hst => CN <| Op1.extract (v := str _) rfl rfl <| CN <| Op1.extract (v := str _) rfl rfl <| CN <| Op1.extract (v := .bool _) rfl rfl <| AS rfl ?_
 refine AS rfl <| AB rfl <| NL <| run_ret3 Tryd.func47 rfl (TP (v := str _) rfl) (TP (v := str _) rfl) (TP (v := .bool _) rfl) ?_
 exact ⟨rfl, hst.pure⟩
theorem R4lx_lLines (t : Tx) (w : World) : Ret Tryd.prog 29 #[str t] w (fun v w' => ∃ b, v = .func (.func 46) #[] #[.pointer (some ⟨b, 0, none⟩)] ∧ St w NoM [Res.row b 9 [str t]] [] w') := by
 refine Ret.enter (args := [str t]) Tryd.func29 rfl rfl rfl ?_
 have hst := St.init w
 refine SR <| CN <| Op1.box (v := str _) hst rfl rfl fun w b1 hst => CN <| Op1.assign (v := _) rfl <| NSR <| CN <| Op1.makeFunc <| CN <| Op1.assign (v := .func _ _ _) rfl <| NL <| run_ret1 Tryd.func29 rfl (TP (v := .func _ _ _) rfl) ?_
 exact ⟨_, rfl, hst⟩
theorem R4lx_lines_iter (t : Tx) (hl : t.length ≤ 140737488355328) (bc : Nat) (w : World) (hb : (Res.row bc 9 [str t]).holds w) : IterOk Tryd.prog 46 [.pointer (some ⟨bc, 0, none⟩)] (lnF t).length (fun j => [.int .i64 ((j : Int) + 1), str ((lnF t).getD j [])]) (· = bc) w := by
 intro yv R S hR hFD hy
 have hlnl := lines_len t
 have hyx : ∀ (i : Nat) (r : Tx), lnR t i r → r ≠ [] → ∀ w1, St w (R 0).foot [R i] [] w1 → CallV Tryd.prog yv [.int .i64 ((i : Int) + 1), str (cutA r)] w1 fun v w2 => (v = .bool true ∧ St w1 (R i).foot [R (i + 1)] [] w2) ∨ (v = .bool false ∧ St w1 (R i).foot [S i] [] w2) := fun i r hI hr w1 hw1 => by
   obtain ⟨h1, h2, _⟩ := lnR_in hI hr
   have t := hy i h1 w1 hw1
   dsimp only at t
   rwa [h2] at t
 refine Ret.enter (args := [yv, .pointer (some ⟨bc, 0, none⟩)]) Tryd.func46 rfl rfl rfl ?_
 have hst : St w (R 0).foot [R 0] [Res.row bc 9 [str t]] w := St.enter1 hR (fun d hd => by cases hd with | head => exact hb | tail _ h => cases h) (fun d hd => by cases hd with | head => exact fun b hb hb2 => hFD b hb hb2 | tail _ h => cases h)
 refine SQ <| RunD.start [] hst (bs := [0, 0, 3]) (ds := [some 8, some 3, some 4]) ⟨by kernel_rfl, by kernel_rfl, by kernel_rfl⟩ (fun tab1 => ?_)
 refine RunD.op (det _) tab1 1 (fun f' L' w' hc => Op1.load1 (v := str _) ty9 rfl (hc.old (v := .pointer (some ⟨_, _, none⟩)) rfl rfl rfl) (hc.st.cellD (.head _) rfl) ⟨[], ⟨rfl, rfl⟩, hc.st⟩) <| RunD.op (det _) tab1 2 (fun f' L' w' hc => Op1.assign (v := .int .i64 _) rfl ⟨[], ⟨rfl, rfl⟩, hc.st⟩) <| RunD.fin followsMixed tab1 hst rfl (fun f2 w R5 hs3 hd4 hr6 hst => ?_)
 obtain ⟨h8_, r0⟩ := hd4 0 8 rfl rfl
 obtain ⟨h3_, r1⟩ := hd4 1 3 rfl rfl
 simp only [show List.range 2 = [0, 1] from rfl, List.flatMap_cons, List.flatMap_nil, List.map_cons, List.map_nil, r0, r1, List.nil_append, List.append_nil, List.cons_append] at hst
 refine RunL.slots (sl := [(0, _), (3, .int .i64 _), (8, str _)]) ⟨(hs3 0 rfl).trans rfl, h3_, h8_, trivial⟩ ?_
 clear hs3 hd4 hr6 tab1
 refine AS rfl <| NL <| run_block <| run_loop <| Run.indW [(0, _)] ⟨rfl, trivial⟩ (fun (qq : Nat × Tx) => [(3, .int .i64 ((qq.1 : Int) + 1)), (4, str qq.2)]) (fun (qq : Nat × Tx) => [R qq.1]) (fun (qq : Nat × Tx) => lnR t qq.1 qq.2) (fun (qq : Nat × Tx) => qq.2.length) ((0, t)) hst (lnR_start t) ⟨rfl, rfl, trivial⟩ ?_
 intro ⟨i, r⟩ f w hst hJ ih7
 replace hst : St _ _ ([R i] ++ []) _ _ := hst
 replace hJ : lnR t i r := hJ
 refine Run.slots (sl := [(3, .int .i64 ((i : Int) + 1)), (4, str r)]) ⟨rfl, rfl, trivial⟩ ?_
 have hj1 := hJ.1
 have hj3 := hJ.2.2
 refine SQ <| SR <| MS rfl <| CN <| Op1.neqS rfl rfl <| NL <| run_cond_dec rfl (fun g8 => ?_) (fun g8 => ?_)
 · skip
   have hri := (lnR_in hJ g8).1
   refine run_skip <| SQ <| run_block <| SR <| MS rfl <| CN <| Op1.call2 (v1 := str _) (v2 := str _) ent47 rfl rfl rfl <| Ret.det (R4lx_cut r _ (by omega)) hst fun w hst => CN <| Op1.move (v := .tuple #[str _, str _, .bool _]) rfl <| CN <| Op1.extract (v := str _) rfl rfl <| CN <| Op1.extract (v := str _) rfl rfl <| CN <| Op1.extract (v := .bool _) rfl rfl <| AS rfl <| AS rfl <| AB rfl <| NL ?_
   refine SQ <| SR <| CN <| Op1.move (v := _) rfl <| MI rfl <| MS rfl <| CN (Op1.callV2 (v1 := .int .i64 _) (v2 := str _) rfl rfl rfl ((hyx i r hJ g8 _ hst.one).mono fun v w hp => ?_))
   rcases hp with ⟨rfl, hp⟩ | ⟨rfl, hp⟩
   · skip
     replace hst := hst.call1 hp
     clear hp
     refine CN <| Op1.not rfl <| NL <| run_cond_false (congrArg Value.bool (congrArg not (rfl : true = _))) <| run_skip <| RG <| MS rfl <| AS rfl <| NL <| run_inBlock <| RG <| MI rfl <| CN <| Op1.addN rfl rfl rfl (wrap_i64 (by omega) (by omega)) <| AI rfl <| NL <| run_inLoop ?_
     exact ih7 ((i + 1, cutB r)) _ w ((by (try dsimp only); have h := (lnR_in hJ g8).2.2.2; omega)) hst ((lnR_in hJ g8).2.2.1) ⟨rfl, trivial⟩ ⟨(congrArg (Value.int .i64) (by (try dsimp only); omega)), rfl, trivial⟩
   · skip
     replace hst := hst.call1 hp
     clear hp
     refine CN <| Op1.not rfl <| NL <| run_cond_true (congrArg Value.bool (congrArg not (rfl : false = _))) <| run_ret0 Tryd.func46 rfl  ?_
     replace hst := hst.pick (.cons (.here) .nil)
     exact .inr ⟨i, (lnR_in hJ g8).1, hst.one⟩
 refine run_exit (id := 0) rfl <| run_end0 Tryd.func46 rfl  ?_
 replace hst := hst.pick (.cons (.here) .nil)
 obtain rfl : r = [] := Classical.not_not.1 g8
 obtain rfl := lnR_out hJ
 exact .inl hst.one
end Go.SK
