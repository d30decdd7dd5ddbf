import Derived.Test.YtdbpimeaipgpfabGreatKFnExactStepMachine3
namespace Go.Ev
set_option linter.unusedVariables false
set_option linter.unusedSimpArgs false
open Go.Proofs
def prPrim : FuncId → Option (List V → List Ob → Option (V × List Ob)) := fun f => if f = 137 then some sortPrim else if f = 106 then some (clonePrimN 4) else if f = 107 then some (clonePrimN 4) else if f = 108 then some (clonePrimN 2) else none
def prPol : FuncId → Pol
  | 3 => { modes := [.borrow], own := false, nest := false, frz := [] }
  | 4 => { modes := [.borrow, .borrow], own := false, nest := false, frz := [] }
  | 5 => { modes := [.borrow, .borrow], own := false, nest := false, frz := [] }
  | 7 => { modes := [.move], own := false, nest := false, frz := [], soft := [[2], [0]] }
  | 8 => { modes := [.borrow, .borrow], own := false, nest := false, frz := [] }
  | 9 => { modes := [.move, .move], own := false, nest := false, frz := [] }
  | 10 => { modes := [.borrow, .borrow], own := true, nest := false, frz := [] }
  | 11 => { modes := [.move, .move], own := false, nest := false, frz := [], soft := [[0, 0, 0, 0, 4, 4, 2], [0], [0]] }
  | 12 => { modes := [.borrow, .borrow], own := false, nest := false, frz := [] }
  | 13 => { modes := [.borrow, .borrow], own := false, nest := false, frz := [] }
  | 14 => { modes := [.borrow], own := false, nest := false, frz := [], soft := [[2], [0]] }
  | 15 => { modes := [.borrow], own := false, nest := false, frz := [] }
  | 16 => { modes := [.borrow], own := false, nest := false, frz := [] }
  | 17 => { modes := [.borrow, .borrow], own := false, nest := false, frz := [], soft := [[2], [0]] }
  | 18 => { modes := [.borrow, .borrow], own := false, nest := false, frz := [] }
  | 19 => { modes := [.move], own := false, nest := false, frz := [], soft := [[2], [0, 0, 0, 0, 4, 4, 2]] }
  | 20 => { modes := [.borrow, .borrow], own := true, nest := false, frz := [] }
  | 21 => { modes := [.move, .move], own := false, nest := false, frz := [], soft := [[0, 0, 0, 0, 4, 4, 2], [0]] }
  | 22 => { modes := [.move, .move], own := false, nest := false, frz := [] }
  | 23 => { modes := [.move], own := false, nest := false, frz := [], soft := [[2], [0, 0, 0, 0, 4, 4, 2]] }
  | 24 => { modes := [.move, .move], own := false, nest := false, frz := [], soft := [[2], [0]] }
  | 25 => { modes := [.borrow], own := false, nest := false, frz := [], soft := [[1], [0]] }
  | 26 => { modes := [.move], own := false, nest := false, frz := [], soft := [[2]] }
  | 27 => { modes := [.borrow], own := false, nest := false, frz := [], soft := [[0, 0, 0, 0, 4, 4, 2], [0]] }
  | 28 => { modes := [.move], own := false, nest := false, frz := [], soft := [[0, 0, 0, 0, 4, 4, 2], [0]] }
  | 29 => { modes := [.borrow, .borrow], own := false, nest := false, frz := [] }
  | 30 => { modes := [.borrow, .borrow], own := false, nest := false, frz := [] }
  | 31 => { modes := [.borrow], own := true, nest := false, frz := [] }
  | 32 => { modes := [.borrow], own := true, nest := false, frz := [] }
  | 33 => { modes := [.borrow, .borrow], own := false, nest := false, frz := [] }
  | 34 => { modes := [.borrow, .borrow], own := false, nest := false, frz := [] }
  | 35 => { modes := [.pass, .pass], own := false, nest := false, frz := [] }
  | 36 => { modes := [.pass, .pass], own := false, nest := false, frz := [] }
  | 37 => { modes := [.borrow, .borrow], own := false, nest := false, frz := [] }
  | 45 => { modes := [.move], own := false, nest := false, frz := [], soft := [[2], [0]] }
  | 46 => { modes := [.borrow], own := true, nest := false, frz := [] }
  | 47 => { modes := [.borrow, .borrow, .borrow], own := false, nest := false, frz := [] }
  | 48 => { modes := [.pass, .borrow], own := false, nest := false, frz := [] }
  | 49 => { modes := [.pass], own := false, nest := false, frz := [] }
  | 50 => { modes := [.pass], own := false, nest := false, frz := [] }
  | 51 => { modes := [.borrow], own := false, nest := false, frz := [] }
  | 52 => { modes := [.borrow, .borrow, .borrow], own := false, nest := false, frz := [] }
  | 53 => { modes := [.borrow, .borrow], own := false, nest := false, frz := [], soft := [[0, 0, 0, 0, 4, 4, 2], [0], [0], [0]] }
  | 54 => { modes := [.borrow], own := true, nest := false, frz := [] }
  | 55 => { modes := [.borrow], own := true, nest := false, frz := [] }
  | 56 => { modes := [.borrow], own := false, nest := false, frz := [] }
  | 57 => { modes := [.borrow], own := false, nest := false, frz := [] }
  | 58 => { modes := [.borrow], own := false, nest := false, frz := [] }
  | 59 => { modes := [.borrow], own := false, nest := false, frz := [], soft := [[2], [0]] }
  | 60 => { modes := [.borrow], own := false, nest := false, frz := [] }
  | 61 => { modes := [.borrow, .borrow, .borrow], own := false, nest := false, frz := [] }
  | 62 => { modes := [.move], own := false, nest := false, frz := [], soft := [[2], [0, 0, 0, 0, 4, 4, 2]] }
  | 63 => { modes := [.borrow, .borrow], own := false, nest := false, frz := [] }
  | 64 => { modes := [.borrow, .pass], own := false, nest := false, frz := [], soft := [[0, 0, 0, 0, 4, 4, 2], [0], [0]] }
  | 65 => { modes := [.borrow, .borrow], own := false, nest := false, frz := [], soft := [[2]] }
  | 66 => { modes := [.pass, .borrow], own := false, nest := false, frz := [] }
  | 67 => { modes := [.borrow], own := false, nest := false, frz := [], soft := [[2], [0, 0, 0, 0, 4, 4, 2]] }
  | 68 => { modes := [.borrow, .borrow, .borrow], own := false, nest := false, frz := [], soft := [[0, 0, 3], [0]] }
  | 69 => { modes := [.borrow], own := false, nest := false, frz := [], soft := [[2], [0]] }
  | 70 => { modes := [.borrow], own := false, nest := false, frz := [], soft := [[1]] }
  | 71 => { modes := [.pass, .borrow], own := false, nest := false, frz := [] }
  | 72 => { modes := [], own := false, nest := false, frz := [], soft := [[0, 0, 0, 0, 4, 4, 2]] }
  | 73 => { modes := [.borrow, .borrow], own := false, nest := false, frz := [] }
  | 74 => { modes := [.borrow, .borrow], own := false, nest := false, frz := [] }
  | 75 => { modes := [.borrow, .borrow], own := false, nest := false, frz := [] }
  | 76 => { modes := [.borrow], own := false, nest := false, frz := [] }
  | 77 => { modes := [.borrow], own := true, nest := false, frz := [] }
  | 78 => { modes := [.borrow], own := true, nest := false, frz := [] }
  | 79 => { modes := [.borrow], own := true, nest := false, frz := [] }
  | 80 => { modes := [.borrow, .borrow], own := false, nest := false, frz := [] }
  | 81 => { modes := [.borrow, .borrow], own := false, nest := false, frz := [] }
  | 82 => { modes := [.borrow, .borrow], own := false, nest := false, frz := [] }
  | 83 => { modes := [.borrow, .borrow], own := false, nest := false, frz := [] }
  | 84 => { modes := [.pass, .pass], own := false, nest := false, frz := [] }
  | 85 => { modes := [.pass, .pass], own := false, nest := false, frz := [] }
  | 86 => { modes := [.pass, .pass], own := false, nest := false, frz := [] }
  | 87 => { modes := [.borrow, .borrow], own := false, nest := false, frz := [] }
  | 88 => { modes := [.borrow, .borrow], own := false, nest := false, frz := [] }
  | 89 => { modes := [.borrow, .borrow], own := false, nest := false, frz := [] }
  | 93 => { modes := [.borrow], own := false, nest := false, frz := [], soft := [[0, 0, 3], [0]] }
  | 94 => { modes := [.borrow, .borrow, .borrow], own := false, nest := false, frz := [], soft := [[1]] }
  | 101 => { modes := [.pass, .move], own := false, nest := false, frz := [] }
  | 102 => { modes := [.pass, .borrow, .borrow], own := false, nest := false, frz := [] }
  | 103 => { modes := [.pass], own := false, nest := false, frz := [] }
  | 104 => { modes := [.pass], own := false, nest := false, frz := [] }
  | 105 => { modes := [.pass, .borrow, .borrow], own := false, nest := true, frz := [] }
  | 106 => { modes := [.borrow], own := true, nest := false, frz := [] }
  | 107 => { modes := [.borrow], own := true, nest := false, frz := [] }
  | 108 => { modes := [.borrow], own := true, nest := false, frz := [] }
  | 109 => { modes := [.borrow, .borrow], own := false, nest := false, frz := [] }
  | 110 => { modes := [.borrow, .borrow], own := false, nest := false, frz := [] }
  | 111 => { modes := [.borrow], own := false, nest := false, frz := [] }
  | 112 => { modes := [.borrow, .borrow], own := false, nest := false, frz := [] }
  | 113 => { modes := [.borrow, .borrow, .borrow], own := false, nest := false, frz := [] }
  | 114 => { modes := [.borrow], own := false, nest := false, frz := [], soft := [[0], [2]] }
  | 115 => { modes := [.borrow, .borrow, .borrow], own := false, nest := false, frz := [] }
  | 116 => { modes := [.borrow], own := false, nest := false, frz := [] }
  | 117 => { modes := [.borrow], own := false, nest := false, frz := [] }
  | 118 => { modes := [.borrow, .pass], own := true, nest := false, frz := [] }
  | 119 => { modes := [.borrow, .borrow], own := false, nest := false, frz := [] }
  | 120 => { modes := [.borrow], own := false, nest := false, frz := [] }
  | 121 => { modes := [.borrow], own := false, nest := false, frz := [] }
  | 122 => { modes := [.borrow, .borrow, .move], own := false, nest := false, frz := [], argS := [0, 0, 1] }
  | 123 => { modes := [.borrow, .borrow, .pass], own := false, nest := false, frz := [] }
  | 124 => { modes := [.borrow, .borrow], own := false, nest := false, frz := [] }
  | 125 => { modes := [.borrow, .borrow], own := false, nest := false, frz := [] }
  | 126 => { modes := [.borrow, .borrow, .borrow, .borrow], own := false, nest := false, frz := [] }
  | 127 => { modes := [.borrow, .borrow, .borrow], own := false, nest := false, frz := [] }
  | 128 => { modes := [.borrow, .borrow, .borrow], own := false, nest := false, frz := [] }
  | 129 => { modes := [.borrow, .pass], own := true, nest := false, frz := [] }
  | 130 => { modes := [.borrow, .pass], own := true, nest := false, frz := [] }
  | 131 => { modes := [.borrow, .pass], own := true, nest := false, frz := [] }
  | 132 => { modes := [.borrow, .borrow, .borrow], own := false, nest := false, frz := [], soft := [[0, 0, 3]] }
  | 133 => { modes := [.borrow, .borrow], own := false, nest := false, frz := [], soft := [[0, 0, 3], [0]] }
  | 134 => { modes := [.borrow, .borrow, .borrow, .borrow, .borrow], own := false, nest := false, frz := [], soft := [[0, 0, 3], [0]] }
  | 135 => { modes := [.borrow], own := false, nest := false, frz := [] }
  | 136 => { modes := [.borrow, .borrow, .pass], own := false, nest := false, frz := [] }
  | 137 => { modes := [.pass], own := false, nest := false, frz := [] }
  | 138 => { modes := [.pass], own := true, nest := false, frz := [] }
  | 139 => { modes := [.pass], own := false, nest := false, frz := [] }
  | 140 => { modes := [.borrow], own := false, nest := false, frz := [] }
  | 141 => { modes := [.borrow], own := false, nest := false, frz := [] }
  | 142 => { modes := [.borrow], own := false, nest := false, frz := [] }
  | 143 => { modes := [.borrow, .borrow], own := false, nest := false, frz := [] }
  | 144 => { modes := [.borrow, .borrow], own := false, nest := false, frz := [] }
  | 145 => { modes := [.borrow, .borrow], own := false, nest := false, frz := [] }
  | 152 => { modes := [.borrow, .borrow], own := false, nest := false, frz := [], soft := [[1]] }
  | 153 => { modes := [.borrow, .borrow], own := false, nest := false, frz := [] }
  | 158 => { modes := [.borrow], own := false, nest := false, frz := [] }
  | 159 => { modes := [.borrow, .borrow], own := false, nest := false, frz := [] }
  | 160 => { modes := [.pass, .borrow, .borrow], own := false, nest := false, frz := [] }
  | 161 => { modes := [.pass], own := false, nest := false, frz := [] }
  | 162 => { modes := [.pass, .borrow, .borrow], own := false, nest := false, frz := [] }
  | 163 => { modes := [.pass, .borrow], own := false, nest := false, frz := [] }
  | 164 => { modes := [.pass, .borrow], own := false, nest := false, frz := [] }
  | 165 => { modes := [.pass, .borrow], own := false, nest := false, frz := [] }
  | 166 => { modes := [.borrow], own := false, nest := false, frz := [] }
  | 167 => { modes := [.borrow, .borrow], own := false, nest := false, frz := [] }
  | 168 => { modes := [.borrow, .borrow], own := false, nest := false, frz := [] }
  | 169 => { modes := [.borrow], own := false, nest := false, frz := [], soft := [[1]] }
  | 170 => { modes := [.borrow, .borrow, .borrow], own := false, nest := false, frz := [] }
  | 171 => { modes := [.borrow, .borrow], own := false, nest := false, frz := [] }
  | 172 => { modes := [.borrow, .borrow], own := false, nest := false, frz := [] }
  | 173 => { modes := [.borrow, .borrow], own := false, nest := false, frz := [] }
  | 174 => { modes := [.pass, .borrow], own := true, nest := false, frz := [] }
  | 175 => { modes := [.pass, .borrow], own := true, nest := false, frz := [] }
  | 176 => { modes := [.pass, .borrow, .borrow], own := true, nest := false, frz := [] }
  | 177 => { modes := [.pass, .borrow, .borrow, .borrow], own := true, nest := false, frz := [] }
  | 178 => { modes := [.borrow], own := false, nest := false, frz := [] }
  | 179 => { modes := [.borrow], own := false, nest := false, frz := [] }
  | 180 => { modes := [.borrow, .borrow, .borrow, .borrow], own := false, nest := false, frz := [] }
  | 181 => { modes := [.borrow], own := false, nest := false, frz := [] }
  | 192 => { modes := [.borrow, .borrow], own := false, nest := false, frz := [] }
  | 193 => { modes := [.borrow, .borrow, .borrow], own := false, nest := false, frz := [] }
  | 194 => { modes := [.borrow, .borrow, .borrow], own := false, nest := false, frz := [] }
  | 195 => { modes := [.borrow, .borrow, .borrow], own := false, nest := false, frz := [] }
  | 196 => { modes := [.borrow, .borrow, .borrow], own := false, nest := false, frz := [] }
  | 197 => { modes := [.borrow, .borrow, .borrow], own := false, nest := false, frz := [] }
  | 198 => { modes := [.borrow, .borrow, .borrow], own := false, nest := false, frz := [] }
  | 199 => { modes := [.borrow, .borrow, .borrow], own := false, nest := false, frz := [] }
  | 200 => { modes := [.borrow, .borrow], own := false, nest := false, frz := [] }
  | 201 => { modes := [.borrow, .borrow, .borrow, .borrow], own := false, nest := false, frz := [] }
  | 202 => { modes := [.borrow, .borrow, .borrow, .borrow], own := false, nest := false, frz := [] }
  | 203 => { modes := [.borrow], own := false, nest := false, frz := [] }
  | 204 => { modes := [.borrow], own := false, nest := false, frz := [] }
  | 207 => { modes := [.borrow, .borrow, .pass, .pass], own := false, nest := false, frz := [] }
  | 208 => { modes := [.borrow, .borrow, .borrow, .borrow], own := false, nest := false, frz := [] }
  | 209 => { modes := [.borrow], own := false, nest := false, frz := [] }
  | 210 => { modes := [.borrow], own := false, nest := false, frz := [] }
  | 211 => { modes := [.borrow, .borrow, .borrow], own := false, nest := false, frz := [] }
  | 212 => { modes := [.borrow, .borrow, .borrow, .borrow, .borrow], own := false, nest := false, frz := [] }
  | 213 => { modes := [.borrow], own := false, nest := false, frz := [] }
  | 214 => { modes := [.borrow, .borrow, .borrow, .borrow], own := false, nest := false, frz := [] }
  | _ => {}
def prAnn : FuncId → Ann
  | 3 => (.seq .n (.seq (.seq .n (.cond (.seq .n .n) .n)) (.seq .n (.seq .n (.seq .n (.seq (.seq .n (.cond (.seq .n .n) .n)) (.seq (.seq .n (.cond (.seq .n .n) .n)) (.seq .n (.seq .n (.seq (.seq .n (.cond (.seq .n .n) .n)) (.seq (.seq .n (.cond (.seq .n .n) .n)) (.seq .n (.seq (.seq .n (.block (.loop [3, 5, 6, 7, 13, 19, 20] [3, 5, 6, 13, 19] [2] [] (.seq (.seq .n (.cond .n .n)) (.seq (.block (.seq .n (.seq (.seq .n (.cond .n .n)) .n))) .n))))) (.cut [3, 5, 6, 13, 19] (.seq .n (.seq (.seq .n (.cond (.seq .n .n) .n)) (.seq .n (.seq (.seq .n (.cond (.seq .n .n) .n)) (.seq .n .n)))))))))))))))))))
  | 4 => (.seq .n (.seq (.seq .n (.cond (.seq .n .n) .n)) (.seq .n (.seq .n (.seq .n (.seq (.seq .n (.cond (.seq .n .n) .n)) (.seq (.seq .n (.cond (.seq (.seq .n (.cond (.seq .n .n) .n)) (.seq (.seq .n (.block (.loop [1, 6, 7, 94, 95] [1, 6, 7] [4] [] (.seq .n (.seq (.cond .n .n) (.seq (.block (.seq .n (.seq .n (.cond (.seq .n .n) .n)))) .n)))))) (.cut [1, 6, 7] (.seq .n (.block (.loop [1, 6, 7, 112, 113] [1] [4] [] (.seq .n (.seq (.cond .n .n) (.seq (.block (.seq .n (.seq .n (.cond (.seq .n .n) .n)))) .n))))))))) .n)) (.cut [1] (.seq .n (.seq .n (.seq .n (.seq (.seq .n (.cond (.seq .n .n) .n)) (.seq (.seq .n (.cond (.seq .n (.seq .n (.seq .n (.cond (.seq .n .n) .n)))) .n)) (.cut [1] (.seq .n (.seq .n (.seq .n (.seq .n .n))))))))))))))))))
  | 5 => (.seq .n (.seq .n (.seq .n (.seq (.seq .n (.cond (.seq .n .n) .n)) (.seq .n (.seq (.seq .n (.cond (.seq .n .n) .n)) (.seq .n (.seq .n (.seq .n (.seq .n (.seq (.seq .n (.cond (.seq .n .n) .n)) (.seq (.seq .n (.cond (.seq .n .n) .n)) (.seq (.seq .n (.cond (.seq .n .n) .n)) (.seq .n (.seq .n (.seq .n (.seq (.seq .n (.cond (.seq .n .n) .n)) (.seq .n (.seq .n (.seq .n (.seq .n (.seq (.seq .n (.cond (.seq .n .n) .n)) (.seq (.seq .n (.cond (.seq .n .n) .n)) (.seq .n (.seq (.seq .n (.cond (.seq .n .n) .n)) (.seq .n (.seq .n (.seq (.seq .n (.cond (.seq .n .n) .n)) (.seq (.seq .n (.cond (.seq .n .n) .n)) (.seq .n .n))))))))))))))))))))))))))))))
  | 7 => (.seq .n (.seq .n .n))
  | 8 => (.seq .n (.seq .n (.seq (.seq .n (.cond (.seq .n .n) .n)) (.seq .n (.seq (.block (.seq .n (.cond (.seq .n .n) (.seq .n (.cond (.seq .n .n) (.seq .n (.cond (.seq .n .n) (.seq .n (.cond (.seq .n .n) .n))))))))) (.seq .n .n))))))
  | 9 => (.seq .n (.seq .n (.seq (.seq .n (.cond (.seq .n .n) .n)) (.seq .n (.seq (.block (.seq .n (.cond (.seq (.seq .n (.cond (.seq .n .n) .n)) (.seq .n .n)) (.seq .n (.cond (.seq .n .n) (.seq .n (.cond (.seq .n .n) .n))))))) (.seq .n .n))))))
  | 10 => (.seq .n (.seq .n (.seq (.seq .n (.cond (.seq .n .n) .n)) (.seq .n (.seq (.block (.loop [1, 4, 7, 8] [4, 7, 8] [4, 5, 6] [(7, some 7, 4), (7, some 8, 4), (7, some 9, 2)] (.seq (.seq .n (.cond .n .n)) (.block (.seq .n (.seq (.seq .n (.cond (.seq .n .n) .n)) .n)))))) (.cut [4, 7, 8] (.seq .n .n)))))))
  | 11 => (.seq .n (.seq .n (.seq (.seq .n (.cond (.seq .n .n) .n)) (.seq .n (.seq .n .n)))))
  | 12 => (.seq .n (.seq (.seq .n (.cond (.seq .n .n) .n)) (.seq (.seq .n (.block (.loop [2, 3, 63, 64] [2, 3] [4] [] (.seq .n (.seq (.cond .n .n) (.seq (.block (.seq .n (.seq .n (.cond (.seq .n .n) .n)))) .n)))))) (.cut [2, 3] (.seq (.seq .n (.block (.loop [2, 3, 81, 82] [2, 3] [4] [] (.seq .n (.seq (.cond .n .n) (.seq (.block (.seq .n (.seq .n (.cond (.seq .n .n) .n)))) .n)))))) (.cut [2, 3] (.seq (.seq .n (.block (.loop [2, 3, 99, 100] [] [4] [] (.seq .n (.seq (.cond .n .n) (.seq (.block (.seq .n (.seq .n (.cond (.seq .n .n) .n)))) .n)))))) (.cut [] (.seq .n .n)))))))))
  | 13 => (.seq .n (.seq .n (.seq (.seq .n (.cond (.seq .n .n) .n)) (.seq .n (.seq .n .n)))))
  | 14 => (.seq .n (.seq .n (.seq (.seq .n (.cond (.seq .n .n) .n)) (.seq .n (.seq (.seq .n (.cond (.seq .n .n) .n)) (.seq .n .n))))))
  | 15 => (.seq .n (.seq .n (.seq (.seq .n (.cond (.seq .n .n) .n)) (.seq .n .n))))
  | 16 => (.seq .n (.seq .n .n))
  | 17 => (.seq .n (.seq (.seq .n (.cond (.seq .n .n) .n)) (.seq .n (.seq .n (.seq (.seq .n (.cond (.seq .n .n) .n)) (.seq .n .n))))))
  | 18 => (.seq .n (.seq (.seq .n (.cond (.seq .n .n) .n)) (.seq (.seq .n (.block (.loop [0, 1, 12, 13] [] [4] [] (.seq .n (.seq (.cond .n .n) (.seq (.block (.seq .n (.seq .n (.cond (.seq .n .n) .n)))) .n)))))) (.cut [] (.seq .n .n)))))
  | 19 => (.seq .n (.seq .n .n))
  | 20 => (.seq .n (.seq (.seq .n (.cond (.seq .n .n) .n)) (.seq .n (.seq .n (.seq (.seq .n (.cond (.seq .n .n) .n)) (.seq .n .n))))))
  | 21 => (.seq .n (.seq .n (.seq (.seq .n (.cond (.seq .n .n) .n)) (.seq .n (.seq (.seq .n (.cond (.seq .n .n) .n)) (.seq .n .n))))))
  | 22 => (.seq .n (.seq .n (.seq .n .n)))
  | 23 => (.seq .n (.seq .n (.seq .n (.seq .n (.seq (.seq .n (.cond (.seq .n .n) .n)) (.seq .n .n))))))
  | 24 => (.seq .n (.seq .n (.seq (.seq .n (.cond (.seq .n .n) .n)) (.seq .n (.seq (.seq .n (.cond (.seq .n .n) .n)) (.seq .n .n))))))
  | 25 => (.seq .n (.seq .n (.seq (.seq .n (.cond (.seq .n .n) .n)) (.seq .n .n))))
  | 26 => (.seq .n (.seq .n (.seq .n .n)))
  | 27 => (.seq .n (.seq .n (.seq (.seq .n (.cond (.seq .n .n) .n)) (.seq .n .n))))
  | 28 => (.seq .n (.seq (.seq .n (.seq .n (.cond (.seq .n .n) .n))) (.seq .n .n)))
  | 29 => (.seq .n (.seq .n (.seq (.seq .n (.cond (.seq .n .n) .n)) (.seq .n .n))))
  | 30 => (.seq .n (.seq .n (.seq (.seq .n (.cond (.seq .n .n) .n)) (.seq .n (.seq (.seq .n (.cond (.seq .n .n) .n)) (.seq .n (.seq (.seq .n (.cond (.seq .n .n) .n)) (.seq .n .n))))))))
  | 31 => (.seq .n (.seq .n (.seq (.seq .n (.block (.loop [0, 3, 4] [3] [2] [] (.seq (.seq .n (.cond .n .n)) (.seq (.block .n) .n))))) (.cut [3] (.seq .n .n)))))
  | 32 => (.seq .n (.seq .n (.seq .n (.seq .n (.seq .n (.seq .n (.seq .n (.seq .n (.seq .n (.seq .n .n))))))))))
  | 33 => (.seq .n (.seq (.seq .n (.cond (.seq .n .n) .n)) (.seq (.seq .n (.cond (.seq .n .n) .n)) (.seq (.seq .n (.cond (.seq .n .n) .n)) (.seq (.seq .n (.cond (.seq .n .n) .n)) (.seq (.seq .n (.cond (.seq .n .n) .n)) (.seq (.seq .n (.cond (.seq .n .n) .n)) (.seq (.seq .n (.cond (.seq .n .n) .n)) (.seq .n .n)))))))))
  | 34 => (.seq .n (.seq (.seq .n (.cond (.seq .n .n) .n)) (.seq (.seq .n (.block (.loop [0, 1, 5] [] [4] [] (.seq (.seq .n (.cond .n .n)) (.seq (.block (.seq .n (.cond (.seq .n .n) .n))) .n))))) (.cut [] (.seq .n .n)))))
  | 35 => (.seq .n (.seq (.seq .n (.block (.loop [0, 1, 5] [1] [4] [] (.seq (.seq .n (.cond .n .n)) (.seq (.block (.seq .n (.seq .n (.seq .n .n)))) .n))))) (.cut [1] (.seq .n .n))))
  | 36 => (.seq .n (.seq .n (.seq .n (.seq .n (.seq .n .n)))))
  | 37 => (.seq .n (.seq .n (.seq (.seq .n (.cond (.seq .n .n) .n)) (.seq .n (.seq (.seq .n (.cond (.seq .n .n) .n)) (.seq .n (.seq (.seq .n (.cond (.seq .n .n) .n)) (.seq .n .n))))))))
  | 45 => (.seq .n (.seq .n (.seq .n .n)))
  | 46 => (.seq .n (.seq .n (.seq (.seq .n (.cond (.seq .n .n) .n)) (.seq .n (.seq .n (.seq .n .n))))))
  | 47 => (.seq .n (.seq .n .n))
  | 48 => (.seq .n (.seq (.seq .n (.block (.loop [0, 1, 6, 7] [1] [4] [(0, some 7, 4), (0, some 8, 4), (0, some 9, 2)] (.seq .n (.seq (.cond .n .n) (.seq (.block (.seq .n (.seq .n (.cond (.seq .n .n) .n)))) .n)))))) (.cut [1] (.seq .n .n))))
  | 49 => (.seq .n (.seq .n .n))
  | 50 => (.seq .n (.seq (.block (.seq .n (.cond (.seq .n .n) (.seq .n (.cond (.seq .n .n) .n))))) (.seq .n .n)))
  | 51 => (.seq .n (.seq .n (.seq (.seq .n (.cond (.seq .n .n) .n)) (.seq .n (.seq .n (.seq .n .n))))))
  | 52 => (.seq .n (.seq .n .n))
  | 53 => (.seq .n (.seq .n (.seq .n (.block (.loop [0, 1, 4, 8, 9] [] [4, 5, 6, 7] [] (.seq (.block (.seq .n (.seq (.seq .n (.cond (.seq .n .n) .n)) .n))) .n))))))
  | 54 => (.seq .n (.seq .n (.seq .n .n)))
  | 55 => (.seq .n (.seq .n (.seq .n (.seq .n (.seq .n .n)))))
  | 56 => (.seq .n (.seq .n (.seq (.seq .n (.cond (.seq .n .n) .n)) (.seq (.seq .n (.block (.loop [1, 3, 35, 36, 37] [1, 3] [2] [] (.seq .n (.seq (.cond .n .n) (.seq (.block (.seq .n (.seq .n (.cond (.seq .n .n) .n)))) .n)))))) (.cut [1, 3] (.seq (.seq .n (.block (.loop [1, 3, 65, 66] [1, 3] [2] [] (.seq .n (.seq (.cond .n .n) (.seq (.block (.seq .n (.seq .n (.cond (.seq .n .n) .n)))) .n)))))) (.cut [1, 3] (.seq (.seq .n (.cond (.seq .n .n) .n)) (.seq (.seq .n (.cond (.seq .n .n) .n)) (.seq .n .n))))))))))
  | 57 => (.seq .n (.seq (.seq .n (.cond (.seq .n .n) .n)) (.seq .n (.seq (.seq .n (.cond (.seq .n .n) .n)) (.seq .n .n)))))
  | 58 => (.seq .n (.seq .n (.seq (.seq .n (.block (.seq (.seq .n (.cond .n .n)) (.cut [0, 3, 9, 10] (.cond .n (.seq (.seq .n (.cond .n .n)) (.cut [0, 3, 13] (.cond .n .n)))))))) (.cut [0, 3] (.seq (.seq .n (.block (.loop [0, 16, 17] [0] [2] [] (.seq .n (.seq (.cond .n .n) (.seq (.block (.seq .n (.seq (.seq .n (.cond .n .n)) (.seq .n (.seq (.seq .n (.cond (.seq .n .n) .n)) (.seq .n .n)))))) .n)))))) (.cut [0] (.seq (.seq .n (.cond (.seq .n .n) .n)) (.seq .n .n))))))))
  | 59 => (.seq .n (.seq (.seq .n (.cond (.seq .n .n) .n)) (.seq .n (.seq (.seq .n (.cond (.seq .n .n) .n)) (.seq .n .n)))))
  | 60 => (.seq .n (.seq .n .n))
  | 61 => (.seq .n (.seq (.seq .n (.seq .n (.cond (.seq .n .n) .n))) (.seq .n (.seq .n (.seq (.seq .n (.cond (.seq .n .n) .n)) (.cut [1, 5, 10] (.seq .n (.seq .n .n))))))))
  | 62 => (.seq .n (.seq .n (.seq .n .n)))
  | 63 => (.seq .n (.seq (.seq .n (.cond (.seq .n .n) .n)) (.seq (.seq .n (.block (.loop [0, 3, 28, 29, 30] [0, 3] [4] [] (.seq .n (.seq (.cond .n .n) (.seq (.block (.seq .n (.seq .n (.cond (.seq .n .n) .n)))) .n)))))) (.cut [0, 3] (.seq (.seq .n (.block (.loop [0, 3, 53, 54, 55] [0, 3] [4] [] (.seq .n (.seq (.cond .n .n) (.seq (.block (.seq .n (.seq (.seq .n (.cond (.seq .n .n) .n)) (.seq .n (.cond (.seq .n .n) .n))))) .n)))))) (.cut [0, 3] (.seq (.seq .n (.block (.loop [0, 3, 118, 119, 120] [0, 3] [4] [] (.seq .n (.seq (.cond .n .n) (.seq (.block (.seq .n (.seq .n (.cond (.seq .n .n) .n)))) .n)))))) (.cut [0, 3] (.seq (.seq .n (.cond (.seq .n .n) .n)) (.seq .n .n))))))))))
  | 64 => (.seq .n (.seq (.seq .n (.cond (.seq .n (.seq .n .n)) .n)) (.seq (.seq .n (.cond (.seq .n .n) .n)) (.seq .n .n))))
  | 65 => (.seq .n (.seq .n (.seq (.seq .n (.cond (.seq .n (.seq .n (.cond .n .n))) .n)) (.cut [5] (.seq .n .n)))))
  | 66 => (.seq .n (.seq .n .n))
  | 67 => (.seq .n (.seq .n (.seq .n (.seq (.seq .n (.cond (.seq .n .n) .n)) (.seq (.seq .n (.block (.seq .n (.cond .n (.seq .n (.cond .n (.seq .n (.cond .n (.seq .n (.cond .n .n)))))))))) (.cut [3, 4, 5] (.seq .n .n)))))))
  | 68 => (.seq .n (.seq (.seq .n (.cond (.seq .n .n) .n)) (.seq .n (.seq .n .n))))
  | 69 => (.seq .n (.seq .n (.seq (.seq .n (.cond (.seq .n .n) .n)) (.seq .n .n))))
  | 70 => (.seq .n (.seq .n (.seq .n (.seq .n (.seq .n .n)))))
  | 71 => (.seq .n (.seq (.seq .n (.cond (.seq .n .n) .n)) (.seq .n (.seq (.seq .n (.cond .n .n)) (.cut [1, 5] (.seq .n .n))))))
  | 72 => (.seq .n (.seq .n .n))
  | 73 => (.seq .n (.seq .n (.seq (.seq .n (.cond (.seq .n .n) .n)) (.seq .n .n))))
  | 74 => (.seq .n (.seq .n (.seq (.seq .n (.cond (.seq .n .n) .n)) (.seq .n .n))))
  | 75 => (.seq .n (.seq .n (.seq (.seq .n (.cond (.seq .n .n) .n)) (.seq .n .n))))
  | 76 => (.seq .n (.seq .n (.seq .n (.seq .n (.seq .n .n)))))
  | 77 => (.seq .n (.seq .n (.seq (.seq .n (.block (.loop [0, 3, 4] [3] [2] [] (.seq (.seq .n (.cond .n .n)) (.seq (.block .n) .n))))) (.cut [3] (.seq .n .n)))))
  | 78 => (.seq .n (.seq .n (.seq (.seq .n (.block (.loop [0, 3, 4] [3] [2] [] (.seq (.seq .n (.cond .n .n)) (.seq (.block .n) .n))))) (.cut [3] (.seq .n .n)))))
  | 79 => (.seq .n (.seq .n (.seq (.seq .n (.block (.loop [0, 3, 4] [3] [2] [] (.seq (.seq .n (.cond .n .n)) (.seq (.block .n) .n))))) (.cut [3] (.seq .n .n)))))
  | 80 => (.seq .n (.seq (.seq .n (.cond (.seq .n .n) .n)) (.seq (.seq .n (.block (.loop [0, 1, 5] [] [4] [] (.seq (.seq .n (.cond .n .n)) (.seq (.block (.seq .n (.cond (.seq .n .n) .n))) .n))))) (.cut [] (.seq .n .n)))))
  | 81 => (.seq .n (.seq (.seq .n (.cond (.seq .n .n) .n)) (.seq (.seq .n (.block (.loop [0, 1, 5] [] [4] [] (.seq (.seq .n (.cond .n .n)) (.seq (.block (.seq .n (.cond (.seq .n .n) .n))) .n))))) (.cut [] (.seq .n .n)))))
  | 82 => (.seq .n (.seq (.seq .n (.cond (.seq .n .n) .n)) (.seq (.seq .n (.block (.loop [0, 1, 5] [] [4] [] (.seq (.seq .n (.cond .n .n)) (.seq (.block (.seq .n (.cond (.seq .n .n) .n))) .n))))) (.cut [] (.seq .n .n)))))
  | 83 => (.seq .n (.seq (.seq .n (.cond (.seq .n .n) .n)) (.seq (.seq .n (.cond (.seq .n .n) .n)) (.seq .n .n))))
  | 84 => (.seq .n (.seq (.seq .n (.block (.loop [0, 1, 5] [1] [4] [] (.seq (.seq .n (.cond .n .n)) (.seq (.block (.seq .n (.seq .n (.seq .n (.seq .n (.seq .n (.seq .n (.seq .n .n)))))))) .n))))) (.cut [1] (.seq .n .n))))
  | 85 => (.seq .n (.seq (.seq .n (.block (.loop [0, 1, 5] [1] [4] [] (.seq (.seq .n (.cond .n .n)) (.seq (.block (.seq .n (.seq .n (.seq .n (.seq .n (.seq .n (.seq .n (.seq .n .n)))))))) .n))))) (.cut [1] (.seq .n .n))))
  | 86 => (.seq .n (.seq (.seq .n (.block (.loop [0, 1, 5] [1] [4] [] (.seq (.seq .n (.cond .n .n)) (.seq (.block (.seq .n (.seq .n (.seq .n .n)))) .n))))) (.cut [1] (.seq .n .n))))
  | 87 => (.seq .n (.seq (.seq .n (.block (.loop [0, 1, 5] [1] [4] [] (.seq (.seq .n (.cond .n .n)) (.seq (.block (.seq (.seq .n (.cond (.seq .n .n) .n)) (.seq .n (.seq (.seq .n (.cond (.seq .n .n) .n)) (.seq .n (.seq (.seq .n (.cond (.seq .n .n) .n)) (.seq .n (.seq (.seq .n (.cond (.seq .n .n) .n)) .n)))))))) .n))))) (.cut [1] (.seq .n .n))))
  | 88 => (.seq .n (.seq (.seq .n (.block (.loop [0, 1, 5] [1] [4] [] (.seq (.seq .n (.cond .n .n)) (.seq (.block (.seq (.seq .n (.cond (.seq .n .n) .n)) (.seq .n (.seq (.seq .n (.cond (.seq .n .n) .n)) (.seq .n (.seq (.seq .n (.cond (.seq .n .n) .n)) (.seq .n (.seq (.seq .n (.cond (.seq .n .n) .n)) .n)))))))) .n))))) (.cut [1] (.seq .n .n))))
  | 89 => (.seq .n (.seq (.seq .n (.block (.loop [0, 1, 5] [1] [4] [] (.seq (.seq .n (.cond .n .n)) (.seq (.block (.seq (.seq .n (.cond (.seq .n .n) .n)) (.seq .n (.seq (.seq .n (.cond (.seq .n .n) .n)) .n)))) .n))))) (.cut [1] (.seq .n .n))))
  | 93 => (.seq .n (.seq (.seq .n (.cond (.seq .n .n) .n)) (.seq .n (.seq .n .n))))
  | 94 => (.seq .n (.seq (.seq .n (.cond (.seq .n .n) .n)) (.seq (.seq .n (.block (.loop [1, 2, 3, 25, 26, 27] [2] [6] [] (.seq .n (.seq (.cond .n .n) (.seq (.block (.seq .n .n)) .n)))))) (.cut [2] (.seq .n .n)))))
  | 101 => (.seq .n (.seq .n .n))
  | 102 => (.seq .n (.seq .n (.seq (.seq .n (.block (.loop [0, 1, 2, 6, 25, 26] [0, 1, 6] [] [] (.seq .n (.seq (.cond .n .n) (.seq (.block (.seq .n (.seq .n .n))) .n)))))) (.cut [0, 1, 6] .n))))
  | 103 => (.seq .n (.seq .n (.seq .n (.seq .n (.seq (.block (.seq .n (.cond (.seq .n .n) (.seq .n (.cond (.seq .n .n) (.seq .n (.cond (.seq (.seq .n (.cond .n .n)) (.cut [0, 3, 4] (.seq .n (.seq .n (.seq .n .n))))) (.seq .n (.cond (.seq .n (.seq .n .n)) .n))))))))) (.seq .n (.seq (.seq .n (.cond (.seq .n .n) .n)) (.seq (.seq .n (.cond (.seq .n .n) .n)) (.seq .n (.seq .n .n))))))))))
  | 104 => (.seq .n (.seq .n (.seq .n (.seq .n (.block (.seq .n (.cond (.seq .n .n) (.seq .n (.cond (.seq .n .n) (.seq .n (.cond (.seq (.seq .n (.block (.loop [0, 4, 72, 73] [0, 4] [2] [] (.seq .n (.seq (.cond .n .n) (.seq (.block .n) .n)))))) (.cut [0, 4] (.seq .n .n))) (.seq (.seq .n (.cond (.seq .n .n) .n)) (.seq .n (.seq .n .n))))))))))))))
  | 105 => (.seq .n (.seq .n (.seq .n (.seq (.seq .n (.block (.loop [0, 1, 2, 7, 8] [7] [6] [] (.seq (.seq .n (.cond .n .n)) (.seq (.block (.seq .n .n)) .n))))) (.cut [7] (.seq .n .n))))))
  | 106 => (.seq .n (.seq (.seq .n (.cond (.seq .n .n) .n)) (.seq .n .n)))
  | 107 => (.seq .n (.seq (.seq .n (.cond (.seq .n .n) .n)) (.seq .n .n)))
  | 108 => (.seq .n (.seq (.seq .n (.cond (.seq .n .n) .n)) (.seq .n .n)))
  | 109 => (.seq .n (.seq .n (.seq (.seq .n (.cond (.seq .n .n) .n)) (.seq (.seq .n (.cond (.seq .n .n) .n)) (.seq (.seq .n (.block (.loop [0, 1, 6] [] [4] [] (.seq (.seq .n (.cond .n .n)) (.seq (.block (.seq .n (.cond (.seq .n .n) .n))) .n))))) (.cut [] (.seq .n .n)))))))
  | 110 => (.seq .n (.seq .n .n))
  | 111 => (.seq .n (.seq .n .n))
  | 112 => (.seq .n (.seq (.seq .n (.cond (.seq .n .n) .n)) (.seq (.seq .n (.cond (.seq .n .n) .n)) (.seq .n .n))))
  | 113 => (.seq .n (.seq .n .n))
  | 114 => (.seq .n (.seq (.seq .n (.cond (.seq .n .n) .n)) (.seq .n (.seq (.seq .n (.block (.loop [0, 4, 5, 26, 27] [0, 4, 5] [2, 3] [] (.seq .n (.seq (.cond .n .n) (.seq (.block (.seq .n (.seq .n (.seq .n (.cond (.seq .n .n) .n))))) .n)))))) (.cut [0, 4, 5] (.seq .n .n))))))
  | 115 => (.seq .n (.seq .n (.seq .n (.seq .n .n))))
  | 116 => (.seq .n (.seq (.seq .n (.block (.seq .n (.cond (.seq .n .n) (.seq .n (.cond (.seq .n .n) (.seq .n (.cond (.seq .n .n) (.seq .n (.cond (.seq .n (.seq .n .n)) .n)))))))))) (.seq .n .n)))
  | 117 => (.seq .n (.seq (.seq .n (.block (.seq .n (.cond (.seq .n .n) (.seq .n (.cond (.seq .n .n) (.seq .n (.cond (.seq .n .n) .n)))))))) (.seq (.seq .n (.cond (.seq .n .n) .n)) (.seq .n .n))))
  | 118 => (.seq .n (.seq .n (.seq (.seq .n (.block (.loop [1, 22, 23, 24] [1] [4] [(1, none, 2)] (.seq .n (.seq (.cond .n .n) (.seq (.block (.seq .n .n)) .n)))))) (.cut [1] (.seq .n .n)))))
  | 119 => (.seq .n (.seq .n .n))
  | 120 => (.seq .n (.seq .n .n))
  | 121 => (.seq .n (.seq (.seq .n (.block (.seq .n (.cond (.seq .n .n) (.seq .n (.cond (.seq .n .n) .n)))))) (.seq .n .n)))
  | 122 => (.seq .n (.seq .n (.seq (.seq .n (.block (.loop [0, 1, 2, 7, 10, 11, 12] [0, 1, 2, 7] [6] [] (.seq .n (.seq (.cond .n .n) (.seq (.block (.seq .n .n)) .n)))))) (.cut [0, 1, 2, 7] (.seq .n .n)))))
  | 123 => (.seq .n (.seq (.seq .n (.cond (.seq .n .n) .n)) (.seq (.seq .n (.cond (.seq .n .n) .n)) (.seq .n (.seq (.seq .n (.block (.loop [0, 1, 2, 7, 35, 36, 37] [0, 7] [6] [] (.seq .n (.seq (.cond .n .n) (.seq (.block (.seq .n .n)) .n)))))) (.cut [0, 7] (.seq .n .n)))))))
  | 124 => (.seq .n (.seq (.seq .n (.cond (.seq .n .n) .n)) (.seq .n (.seq (.seq .n (.block (.loop [3, 4, 8, 23, 24] [3, 4, 8] [7] [] (.seq .n (.seq (.cond .n .n) (.seq (.block .n) .n)))))) (.cut [3, 4, 8] (.seq .n .n))))))
  | 125 => (.seq .n (.seq .n .n))
  | 126 => (.seq .n (.seq .n .n))
  | 127 => (.seq .n (.seq (.block (.loop [1, 2, 3] [] [6] [] (.seq (.seq .n (.cond .n .n)) (.seq (.block (.seq .n (.cond (.seq .n .n) .n))) .n)))) (.cut [] (.seq .n .n))))
  | 128 => (.seq .n (.seq (.seq .n (.cond (.seq .n .n) .n)) (.seq (.seq .n (.block (.seq (.seq .n (.cond .n .n)) (.cut [4, 5, 30, 31] (.cond (.seq .n .n) (.seq (.seq .n (.cond .n .n)) (.cut [5, 43] (.cond (.seq .n .n) .n)))))))) (.cut [] (.seq .n .n)))))
  | 129 => (.seq .n (.seq .n (.seq (.seq .n (.block (.seq .n (.cond (.seq .n .n) (.seq .n (.cond (.seq .n .n) (.seq .n (.cond (.seq .n (.seq (.seq .n (.block (.loop [3, 4, 7, 8] [3, 4, 7] [4, 5] [] (.seq (.seq .n (.cond .n .n)) (.seq (.block .n) .n))))) (.cut [3, 4, 7] (.seq .n .n)))) .n)))))))) (.cut [0, 3, 4, 6] (.seq (.seq .n (.cond (.seq .n .n) .n)) (.seq .n (.seq .n .n)))))))
  | 130 => (.seq .n (.seq .n (.seq .n (.seq .n (.seq .n (.seq (.seq .n (.cond (.seq .n (.seq .n .n)) .n)) (.seq .n (.seq (.seq .n (.block (.seq .n (.cond (.seq (.seq .n (.cond (.seq .n .n) .n)) (.seq (.seq .n (.cond (.seq .n .n) .n)) (.seq .n .n))) (.seq .n (.cond (.seq .n (.seq .n .n)) (.seq .n (.cond (.seq .n (.seq (.seq .n (.cond (.seq .n .n) .n)) (.seq .n (.seq .n .n)))) .n)))))))) (.seq .n (.seq .n (.seq (.seq .n (.cond (.seq .n .n) .n)) (.seq .n (.seq .n .n)))))))))))))
  | 131 => (.seq .n (.seq .n (.seq (.seq .n (.block (.loop [1, 16, 17, 18] [1] [4] [(1, none, 2)] (.seq .n (.seq (.cond .n .n) (.seq (.block (.seq .n .n)) .n)))))) (.cut [1] (.seq .n .n)))))
  | 132 => (.seq .n (.seq (.seq .n (.cond (.seq (.seq .n (.cond (.seq .n .n) .n)) (.seq .n .n)) .n)) (.seq (.seq .n (.block (.seq (.seq .n (.cond .n .n)) (.cut [0, 1, 2, 6, 30, 31] (.cond (.seq .n .n) (.seq (.seq .n (.cond .n .n)) (.cut [0, 1, 2, 6, 30, 42] (.cond (.seq .n (.seq (.seq .n (.cond .n .n)) (.cut [0, 1, 2, 6, 7] (.seq .n .n)))) (.seq .n (.cond (.seq .n .n) (.seq .n (.cond (.seq .n .n) .n)))))))))))) (.cut [0, 1, 2, 6] (.seq .n .n)))))
  | 133 => (.seq .n (.seq (.seq .n (.cond (.seq .n .n) .n)) (.seq .n (.seq .n (.seq .n (.seq (.block (.loop [0, 1, 4, 6, 7] [1, 4, 6] [4, 5] [(6, some 2, 3)] (.seq (.seq .n (.cond .n .n)) (.seq (.block (.seq .n (.seq (.seq .n (.cond (.seq .n .n) .n)) (.seq .n .n)))) .n)))) (.cut [1, 4, 6] (.seq .n .n))))))))
  | 134 => (.seq .n (.seq (.seq .n (.cond (.seq (.seq .n (.block (.loop [0, 3, 6, 10, 12] [0, 3, 6, 10] [10, 11] [] (.seq (.seq .n (.cond .n .n)) (.seq (.block .n) .n))))) (.cut [0, 3, 6, 10] (.seq .n .n))) .n)) (.cut [0, 3, 4, 6, 7, 10] (.seq .n (.seq .n (.seq (.seq .n (.block (.loop [0, 3, 4, 6, 7, 10, 13, 14, 63, 64, 65] [10, 13] [10, 11] [(13, some 2, 3)] (.seq .n (.seq (.cond .n .n) (.seq (.block (.seq .n (.seq .n (.seq .n (.seq (.seq .n (.cond (.seq .n .n) .n)) .n))))) .n)))))) (.cut [10, 13] (.seq .n .n))))))))
  | 135 => (.seq .n (.seq .n (.seq .n .n)))
  | 136 => (.seq .n (.seq (.seq .n (.cond .n .n)) (.cut [0] (.seq .n .n))))
  | 137 => (.seq .n .n)
  | 138 => (.seq .n (.seq (.seq .n (.cond (.seq .n .n) .n)) (.seq (.seq .n (.block (.loop [0, 3] [0] [2] [] (.seq (.seq .n (.cond .n .n)) (.seq (.block (.seq .n (.cond (.seq .n (.seq (.seq .n (.block (.loop [0, 3, 4, 5] [0, 3] [2] [] (.seq (.seq .n (.cond .n .n)) (.seq (.block (.seq .n (.cond (.seq .n .n) .n))) (.cut [0, 3, 4, 5] .n)))))) (.cut [0, 3] (.seq .n (.seq .n .n))))) .n))) (.cut [0, 3] .n)))))) (.cut [0] (.seq .n .n)))))
  | 139 => (.seq .n (.seq .n (.seq (.seq .n (.cond .n .n)) (.cut [0, 3] (.seq .n (.seq .n (.seq (.seq .n (.cond (.seq .n .n) .n)) (.seq .n .n))))))))
  | 140 => (.seq .n (.seq .n (.seq .n (.seq .n (.seq .n (.seq .n (.seq .n .n)))))))
  | 141 => (.seq .n (.seq .n (.seq .n (.seq .n (.seq .n (.seq .n (.seq .n .n)))))))
  | 142 => (.seq .n (.seq .n (.seq .n (.seq .n (.seq .n .n)))))
  | 143 => (.seq .n (.seq (.seq .n (.cond (.seq .n .n) .n)) (.seq (.seq .n (.cond (.seq .n .n) .n)) (.seq (.seq .n (.cond (.seq .n .n) .n)) (.seq (.seq .n (.cond (.seq .n .n) .n)) (.seq .n .n))))))
  | 144 => (.seq .n (.seq (.seq .n (.cond (.seq .n .n) .n)) (.seq (.seq .n (.cond (.seq .n .n) .n)) (.seq (.seq .n (.cond (.seq .n .n) .n)) (.seq (.seq .n (.cond (.seq .n .n) .n)) (.seq .n .n))))))
  | 145 => (.seq .n (.seq (.seq .n (.cond (.seq .n .n) .n)) (.seq (.seq .n (.cond (.seq .n .n) .n)) (.seq .n .n))))
  | 152 => (.seq .n (.seq .n (.seq (.block (.loop [0, 1, 5] [0, 1, 5] [4] [] (.seq (.seq .n (.cond .n .n)) (.block .n)))) (.cut [0, 1, 5] (.seq (.seq .n (.cond (.seq .n .n) .n)) (.seq .n (.seq .n (.seq .n (.seq .n .n)))))))))
  | 153 => (.seq .n (.seq (.seq .n (.cond (.seq .n .n) .n)) (.seq .n .n)))
  | 158 => (.seq .n (.seq (.seq .n (.block (.seq (.seq .n (.cond .n .n)) (.cut [3, 4] (.cond (.seq .n .n) (.seq .n (.cond (.seq .n .n) (.seq (.seq .n (.cond .n (.seq .n (.cond .n .n)))) (.cut [3, 9] (.cond (.seq .n .n) (.seq .n (.cond (.seq .n .n) .n)))))))))))) (.cut [] (.seq .n .n))))
  | 159 => (.seq .n (.seq (.seq .n (.cond (.seq .n .n) .n)) (.seq .n .n)))
  | 160 => (.seq .n (.seq (.seq .n (.cond (.seq .n .n) .n)) (.seq .n (.seq .n (.seq .n .n)))))
  | 161 => .n
  | 162 => (.seq .n (.seq .n (.seq .n .n)))
  | 163 => (.seq .n (.seq (.seq .n (.cond .n .n)) (.cut [1] (.seq .n .n))))
  | 164 => (.seq .n (.seq (.seq .n (.cond (.seq .n .n) .n)) (.seq .n (.seq .n .n))))
  | 165 => (.seq .n (.seq .n (.seq .n .n)))
  | 166 => (.seq .n (.seq (.seq .n (.block (.seq (.seq .n (.cond .n .n)) (.cut [3, 4] (.cond (.seq .n .n) (.seq .n (.cond (.seq .n .n) (.seq (.seq .n (.cond .n (.seq .n (.cond .n .n)))) (.cut [3, 9] (.cond (.seq .n .n) (.seq .n (.cond (.seq .n .n) .n)))))))))))) (.cut [] (.seq .n .n))))
  | 167 => (.seq .n (.seq (.seq .n (.block (.loop [0, 1, 7, 8] [] [4] [] (.seq .n (.seq (.cond .n .n) (.seq (.block (.seq .n (.seq .n (.cond (.seq .n .n) .n)))) .n)))))) (.cut [] (.seq .n .n))))
  | 168 => (.seq .n (.seq (.seq .n (.cond (.seq .n .n) .n)) (.seq .n (.seq (.block (.loop [0, 1, 5] [5] [4] [] (.seq (.seq .n (.cond .n .n)) (.seq (.block .n) .n)))) (.cut [5] (.seq .n .n))))))
  | 169 => (.seq .n (.seq (.seq .n (.cond (.seq .n .n) .n)) (.seq .n .n)))
  | 170 => (.seq .n (.seq .n .n))
  | 171 => (.seq .n (.seq (.seq .n (.block (.loop [0, 1, 7, 8] [] [4] [] (.seq .n (.seq (.cond .n .n) (.seq (.block (.seq .n (.seq .n (.cond (.seq .n .n) .n)))) .n)))))) (.cut [] (.seq .n .n))))
  | 172 => (.seq .n (.seq .n .n))
  | 173 => (.seq .n (.seq .n (.seq (.block (.loop [1, 2, 5] [5] [4] [] (.seq (.seq .n (.cond .n .n)) (.seq (.block .n) .n)))) (.cut [5] (.seq .n .n)))))
  | 174 => (.seq .n (.seq (.seq .n (.cond (.seq .n .n) .n)) (.seq .n (.seq .n .n))))
  | 175 => (.seq .n (.seq .n (.seq .n (.seq .n (.seq .n (.seq .n .n))))))
  | 176 => (.seq .n (.seq .n (.seq .n (.seq .n (.seq .n (.seq .n .n))))))
  | 177 => (.seq .n (.seq (.seq .n (.cond (.seq .n .n) .n)) (.seq .n (.seq .n .n))))
  | 178 => (.seq .n (.seq (.seq .n (.block (.seq .n (.cond (.seq .n .n) (.seq .n (.cond (.seq .n .n) .n)))))) (.seq .n .n)))
  | 179 => (.seq .n (.seq .n (.seq (.seq .n (.block (.loop [3, 7, 8, 9] [3] [2] [] (.seq .n (.seq (.cond .n .n) (.seq (.block (.seq .n .n)) .n)))))) (.cut [3] (.seq .n .n)))))
  | 180 => (.seq .n (.seq .n (.block (.loop [0, 1, 2, 3, 8, 9] [] [] [] (.block (.seq .n (.seq (.seq .n (.cond (.seq .n .n) .n)) (.seq (.seq .n (.cond (.seq .n .n) .n)) (.seq (.seq .n (.cond (.seq .n .n) .n)) (.cut [0, 1, 2, 3, 8, 9, 10] (.seq .n (.seq (.seq .n (.cond (.seq .n (.seq .n .n)) .n)) (.cut [0, 1, 2, 3, 8, 9, 10, 11, 12] (.seq (.seq .n (.cond (.seq .n (.cond .n .n)) .n)) (.cut [0, 1, 2, 3, 8, 9, 10, 11] (.seq (.seq .n (.cond (.seq .n (.seq .n .n)) .n)) (.seq .n (.seq .n (.seq .n (.seq .n (.seq .n (.cond (.seq .n (.seq .n .n)) (.seq .n (.seq .n .n))))))))))))))))))))))))
  | 181 => (.seq .n (.seq (.cond (.seq .n .n) .n) (.seq .n .n)))
  | 192 => (.seq .n (.seq (.block (.seq .n (.cond (.seq .n .n) (.seq .n (.cond (.seq .n .n) .n))))) (.seq .n .n)))
  | 193 => (.seq .n (.seq (.seq .n (.cond (.seq .n .n) .n)) (.seq .n .n)))
  | 194 => (.seq .n (.block (.loop [0, 1, 2, 6] [] [] [] (.seq (.seq .n (.cond .n .n)) (.seq (.block (.seq .n (.block (.loop [0, 1, 2, 6, 7] [0, 1, 2, 6] [] [] (.seq (.seq .n (.cond .n .n)) (.seq (.block .n) .n)))))) (.cut [0, 1, 2, 6] .n))))))
  | 195 => (.seq .n (.seq .n (.seq .n (.seq (.seq .n (.block (.loop [0, 6, 7, 8, 9] [0, 6, 7, 8] [] [] (.seq (.seq .n (.cond .n .n)) (.seq (.block .n) .n))))) (.cut [0, 6, 7, 8] (.seq .n (.block (.loop [0, 6, 7, 10] [] [] [] (.seq (.seq .n (.cond .n .n)) (.seq (.block (.seq .n .n)) .n))))))))))
  | 196 => (.seq .n (.seq .n (.cond (.seq .n (.seq .n (.seq .n (.block (.loop [0, 1, 6, 7, 8, 9] [] [] [] (.seq (.seq .n (.cond .n .n)) (.seq (.block (.seq .n (.seq (.seq .n (.cond .n .n)) (.cut [0, 1, 6, 7, 8, 9, 10] .n)))) (.cut [0, 1, 6, 7, 8, 9] .n)))))))) .n)))
  | 197 => (.seq .n (.seq .n (.seq .n (.seq .n (.seq .n (.seq .n (.seq (.seq .n (.cond (.seq (.seq .n (.cond (.seq .n (.seq .n .n)) .n)) (.cut [0, 9, 10, 11, 12] .n)) .n)) (.cut [9, 11] (.seq .n (.block (.seq .n (.cond (.seq .n .n) (.seq .n (.cond (.seq .n .n) (.seq .n .n)))))))))))))))
  | 198 => (.seq .n (.seq .n (.block (.loop [0, 6, 7] [] [] [] (.seq (.seq .n (.cond .n .n)) (.block (.seq .n (.seq .n .n))))))))
  | 199 => (.seq .n (.seq .n (.seq (.seq .n (.block (.loop [0, 1, 2, 7, 8] [] [6] [] (.seq (.seq .n (.cond .n .n)) (.seq (.block (.seq (.block (.loop [0, 1, 2, 7, 8] [0, 1, 2, 7, 8] [6] [] (.seq (.seq .n (.cond .n .n)) (.block .n)))) (.cut [0, 1, 2, 7, 8] (.seq (.seq .n (.cond (.seq .n .n) .n)) (.seq (.seq .n (.cond (.seq .n .n) .n)) (.seq .n (.seq (.seq .n (.cond (.seq .n (.block (.loop [0, 1, 2, 7, 8, 9] [0, 1, 2, 7, 8] [6] [] (.seq (.seq .n (.cond .n .n)) (.seq (.block (.seq (.seq .n (.cond .n .n)) .n)) .n))))) .n)) (.cut [0, 1, 2, 7, 8] (.seq .n (.cond (.seq .n (.block (.loop [0, 1, 2, 7, 8, 10] [0, 1, 2, 7, 8] [6] [] (.seq (.seq .n (.cond .n .n)) (.seq (.block (.seq (.seq .n (.cond .n .n)) .n)) .n))))) .n)))))))))) (.cut [0, 1, 2, 7, 8] .n)))))) (.cut [] (.seq .n .n)))))
  | 200 => (.seq .n (.seq .n .n))
  | 201 => (.seq .n (.seq .n (.seq .n (.seq (.block (.loop [0, 1, 9, 10] [9] [8] [] (.block (.seq (.block (.loop [0, 1, 9, 10] [0, 1, 9, 10] [8] [] (.seq (.seq .n (.cond .n .n)) (.block .n)))) (.cut [0, 1, 9, 10] (.seq (.block (.loop [0, 1, 9, 10] [0, 1, 9, 10] [8] [] (.seq (.seq .n (.cond .n .n)) (.block .n)))) (.cut [0, 1, 9, 10] (.seq (.seq .n (.cond .n .n)) (.seq .n (.seq .n .n)))))))))) (.cut [9] (.seq .n .n))))))
  | 202 => (.seq .n (.seq .n (.seq .n (.seq (.block (.loop [0, 1, 10, 11] [0, 1, 10, 11] [8, 9] [] (.seq (.seq .n (.cond .n .n)) (.block .n)))) (.cut [0, 1, 10, 11] (.seq (.block (.loop [0, 1, 10, 11] [0, 1, 10, 11] [8, 9] [] (.seq (.seq .n (.cond .n .n)) (.block .n)))) (.cut [0, 1, 10, 11] (.seq (.seq .n (.cond (.seq .n (.seq .n .n)) .n)) (.seq .n (.seq .n (.seq .n (.seq (.block (.loop [0, 1, 10, 11] [0, 1, 11] [8, 9] [] (.block (.seq (.block (.loop [0, 1, 10, 11] [0, 1, 10, 11] [8, 9] [] (.seq (.seq .n (.cond .n .n)) (.block .n)))) (.cut [0, 1, 10, 11] (.seq (.block (.loop [0, 1, 10, 11] [0, 1, 10, 11] [8, 9] [] (.seq (.seq .n (.cond .n .n)) (.block .n)))) (.cut [0, 1, 10, 11] (.seq (.seq .n (.cond .n .n)) (.seq .n (.seq .n .n)))))))))) (.cut [0, 1, 11] (.seq .n (.seq .n .n)))))))))))))))
  | 203 => (.seq .n (.seq (.seq .n (.cond (.seq .n .n) .n)) (.cut [0, 2] (.seq (.seq .n (.cond (.seq .n .n) .n)) (.cut [0, 2] (.seq .n .n))))))
  | 204 => (.seq .n (.seq (.seq .n (.cond (.seq .n .n) .n)) (.cut [0, 2] (.seq (.seq .n (.cond (.seq .n .n) .n)) (.cut [0, 2] (.seq (.seq .n (.cond (.seq .n .n) .n)) (.cut [0, 2] (.seq .n .n))))))))
  | 207 => (.seq .n (.seq (.seq .n (.cond (.seq .n .n) .n)) (.seq .n .n)))
  | 208 => (.seq .n (.block (.loop [0, 2, 3, 8] [] [] [] (.block (.seq .n (.seq (.seq .n (.cond .n .n)) (.seq (.seq .n (.cond .n .n)) (.cut [0, 2, 3, 8, 9] (.seq (.seq .n (.cond .n .n)) (.seq .n .n))))))))))
  | 209 => (.seq .n (.seq .n .n))
  | 210 => (.seq .n (.seq .n (.seq .n (.seq .n (.seq .n .n)))))
  | 211 => (.seq .n (.seq .n .n))
  | 212 => (.seq .n (.seq .n (.seq .n (.seq .n (.seq .n .n)))))
  | 213 => (.seq .n (.seq .n .n))
  | 214 => (.seq .n (.seq (.seq .n (.cond (.seq .n (.seq .n .n)) .n)) (.seq .n .n)))
  | _ => .n
noncomputable def pr : Pr := ⟨Tryz.prog, prPol, prAnn, prPrim⟩
noncomputable def pr0 : Pr := ⟨Tryz.prog, prPol, prAnn, fun _ => none⟩
end Go.Ev

namespace Go.Proofs
open Go.Shelf
def Tryz.lays189_ren : Go.Shelf.Ren := ⟨fun | 189 => 137 | 125 => 181 | 257 => 180 | 128 => 203 | 129 => 204 | 294 => 194 | 295 => 195 | 296 => 196 | 297 => 197 | 298 => 198 | 299 => 199 | 216 => 200 | 300 => 201 | 301 => 202 | 328 => 208 | 329 => 209 | 330 => 210 | 331 => 211 | 332 => 212 | 215 => 213 | 343 => 214 | n => n, fun | 28 => 55 | 3 => 3 | 46 => 236 | 0 => 0 | 51 => 261 | 53 => 106 | 4 => 4 | 183 => 255 | 182 => 254 | 131 => 151 | 5 => 5 | 9 => 9 | 218 => 265 | 222 => 269 | 228 => 271 | 229 => 272 | n => n, fun | n => n⟩
theorem Tryz.lays189 : Go.Proofs.Lays.n189 Tryz.prog Tryz.lays189_ren := {
  mixed := by kernel_rfl
  f125 := Tryz.func181.trans (congrArg some (by kernel_rfl))
  f128 := Tryz.func203.trans (congrArg some (by kernel_rfl))
  f129 := Tryz.func204.trans (congrArg some (by kernel_rfl))
  f189 := Tryz.func137.trans (congrArg some (by kernel_rfl))
  f215 := Tryz.func213.trans (congrArg some (by kernel_rfl))
  f216 := Tryz.func200.trans (congrArg some (by kernel_rfl))
  f257 := Tryz.func180.trans (congrArg some (by kernel_rfl))
  f294 := Tryz.func194.trans (congrArg some (by kernel_rfl))
  f295 := Tryz.func195.trans (congrArg some (by kernel_rfl))
  f296 := Tryz.func196.trans (congrArg some (by kernel_rfl))
  f297 := Tryz.func197.trans (congrArg some (by kernel_rfl))
  f298 := Tryz.func198.trans (congrArg some (by kernel_rfl))
  f299 := Tryz.func199.trans (congrArg some (by kernel_rfl))
  f300 := Tryz.func201.trans (congrArg some (by kernel_rfl))
  f301 := Tryz.func202.trans (congrArg some (by kernel_rfl))
  f328 := Tryz.func208.trans (congrArg some (by kernel_rfl))
  f329 := Tryz.func209.trans (congrArg some (by kernel_rfl))
  f330 := Tryz.func210.trans (congrArg some (by kernel_rfl))
  f331 := Tryz.func211.trans (congrArg some (by kernel_rfl))
  f332 := Tryz.func212.trans (congrArg some (by kernel_rfl))
  f343 := Tryz.func214.trans (congrArg some (by kernel_rfl))
  t0 := Tryz.underlying0
  a0 := Tryz.isAgg0
  z0 := Tryz.sizeOf0
  v0 := Tryz.zeroValue0
  t3 := Tryz.underlying3
  a3 := Tryz.isAgg3
  z3 := Tryz.sizeOf3
  v3 := Tryz.zeroValue3
  t4 := Tryz.underlying4
  a4 := Tryz.isAgg4
  z4 := Tryz.sizeOf4
  v4 := Tryz.zeroValue4
  t5 := Tryz.underlying5
  a5 := Tryz.isAgg5
  z5 := Tryz.sizeOf5
  v5 := Tryz.zeroValue5
  t9 := Tryz.underlying9
  a9 := Tryz.isAgg9
  z9 := Tryz.sizeOf9
  v9 := Tryz.zeroValue9
  t28 := Tryz.underlying55
  a28 := Tryz.isAgg55
  z28 := Tryz.sizeOf55
  v28 := Tryz.zeroValue55
  t46 := Tryz.underlying236
  a46 := Tryz.isAgg236
  z46 := Tryz.sizeOf236
  v46 := Tryz.zeroValue236
  t51 := Tryz.underlying261
  a51 := Tryz.isAgg261
  z51 := Tryz.sizeOf261
  v51 := Tryz.zeroValue261
  t53 := Tryz.underlying106
  a53 := Tryz.isAgg106
  z53 := Tryz.sizeOf106
  v53 := Tryz.zeroValue106
  t131 := Tryz.underlying151
  a131 := Tryz.isAgg151
  z131 := Tryz.sizeOf151
  v131 := Tryz.zeroValue151
  t182 := Tryz.underlying254
  a182 := Tryz.isAgg254
  z182 := Tryz.sizeOf254
  v182 := Tryz.zeroValue254
  t183 := Tryz.underlying255
  a183 := Tryz.isAgg255
  z183 := Tryz.sizeOf255
  v183 := Tryz.zeroValue255
  t218 := Tryz.underlying265
  a218 := Tryz.isAgg265
  z218 := Tryz.sizeOf265
  v218 := Tryz.zeroValue265
  t222 := Tryz.underlying269
  a222 := Tryz.isAgg269
  z222 := Tryz.sizeOf269
  v222 := Tryz.zeroValue269
  t228 := Tryz.underlying271
  a228 := Tryz.isAgg271
  z228 := Tryz.sizeOf271
  v228 := Tryz.zeroValue271
  t229 := Tryz.underlying272
  a229 := Tryz.isAgg272
  z229 := Tryz.sizeOf272
  v229 := Tryz.zeroValue272 }
open Go.Sort Go.RowKit in
theorem Tryz.slices_Sort_int (blk off cap : Nat) (zs : List Int) (w : World) (hH : Holds (Value.int .i64) w blk off zs.toArray) (hblk : blk < w.heap.size) (hsz : zs.length < 4611686018427387904) :
    Calls Tryz.prog 137 #[.slice (some ⟨blk, off, none⟩) zs.length cap] w fun e w' =>
      e = .returned (.tuple #[]) ∧ ∃ n os, w' = grow (putRow (Value.int .i64) (Sort.ahead w n) blk off (zs.mergeSort fun x y => decide (x ≤ y)).toArray) os := Any.slices_Sort_int Tryz.lays189 blk off cap zs w hH hblk hsz
end Go.Proofs

namespace Go.Ev
set_option linter.unusedVariables false
set_option linter.unusedSimpArgs false
open Go.Proofs
set_option maxRecDepth 100000
set_option maxHeartbeats 4000000
theorem within_ev (x lo hi : Int) : Ev pr (.call 47 [i64 x, i64 lo, i64 hi] []) (.val (bl (decide (x ≥ lo) && decide (x ≤ hi))) []) := by
  by_cases hc0 : lo ≤ x
  · let t0 : Tp pr := .b (show (decide (x ≥ lo)) = true by simpa using hc0)
    exact .tpe [t0] (Out.val (V.t (T.bool (decide (x ≤ hi)))) []) (by kernel_rfl) (congrArg (fun x => Out.val (V.t (T.bool x)) []) (show (decide (x ≤ hi)) = (decide (x ≥ lo) && decide (x ≤ hi)) by simp [*]))
  · let t0 : Tp pr := .b (show (decide (x ≥ lo)) = false by simpa using hc0)
    exact .tpe [t0] (Out.val (V.t (T.bool false)) []) (by kernel_rfl) (congrArg (fun x => Out.val (V.t (T.bool x)) []) (show (false) = (decide (x ≥ lo) && decide (x ≤ hi)) by simp [*]))
theorem l1In_ev (x lo hi : Int) : Ev pr (.call 52 [i64 x, i64 lo, i64 hi] []) (.val (bl (decide (x ≥ lo) && decide (x ≤ hi))) []) := by
  by_cases hc0 : lo ≤ x
  · let t0 : Tp pr := .b (show (decide (x ≥ lo)) = true by simpa using hc0)
    exact .tpe [t0] (Out.val (V.t (T.bool (decide (x ≤ hi)))) []) (by kernel_rfl) (congrArg (fun x => Out.val (V.t (T.bool x)) []) (show (decide (x ≤ hi)) = (decide (x ≥ lo) && decide (x ≤ hi)) by simp [*]))
  · let t0 : Tp pr := .b (show (decide (x ≥ lo)) = false by simpa using hc0)
    exact .tpe [t0] (Out.val (V.t (T.bool false)) []) (by kernel_rfl) (congrArg (fun x => Out.val (V.t (T.bool x)) []) (show (false) = (decide (x ≥ lo) && decide (x ≤ hi)) by simp [*]))
theorem kidsOf_ev (k : Int) : Ev pr (.call 158 [i64 k] []) (.val (i64 (arity k)) []) := by
  by_cases hc0 : k = (1 : Int)
  · let t0 : Tp pr := .b (show (decide (k = (1 : Int))) = true by simpa using hc0)
    let t1 : Tp pr := .b (show (decide (k = (1 : Int))) = true by (simp; omega))
    exact .tpe [t0, t1] (Out.val (V.t (T.int IntKind.i64 (0 : Int))) []) (by kernel_rfl) (congrArg (fun x => Out.val (V.t (T.int IntKind.i64 x)) []) (show ((0 : Int)) = (arity k) by simp [arity, *]))
  · let t0 : Tp pr := .b (show (decide (k = (1 : Int))) = false by simpa using hc0)
    by_cases hc1 : k = (2 : Int)
    · let t1 : Tp pr := .b (show (decide (k = (2 : Int))) = true by simpa using hc1)
      exact .tpe [t0, t1] (Out.val (V.t (T.int IntKind.i64 (0 : Int))) []) (by kernel_rfl) (congrArg (fun x => Out.val (V.t (T.int IntKind.i64 x)) []) (show ((0 : Int)) = (arity k) by simp [arity, *]))
    · let t1 : Tp pr := .b (show (decide (k = (2 : Int))) = false by simpa using hc1)
      by_cases hc2 : k = (3 : Int)
      · let t2 : Tp pr := .b (show (decide (k = (3 : Int))) = true by simpa using hc2)
        exact .tpe [t0, t1, t2] (Out.val (V.t (T.int IntKind.i64 (1 : Int))) []) (by kernel_rfl) (congrArg (fun x => Out.val (V.t (T.int IntKind.i64 x)) []) (show ((1 : Int)) = (arity k) by simp [arity, *]))
      · let t2 : Tp pr := .b (show (decide (k = (3 : Int))) = false by simpa using hc2)
        by_cases hc3 : k = (4 : Int)
        · let t3 : Tp pr := .b (show (decide (k = (4 : Int))) = true by simpa using hc3)
          let t4 : Tp pr := .b (show (decide (k = (4 : Int))) = true by (simp; omega))
          exact .tpe [t0, t1, t2, t3, t4] (Out.val (V.t (T.int IntKind.i64 (2 : Int))) []) (by kernel_rfl) (congrArg (fun x => Out.val (V.t (T.int IntKind.i64 x)) []) (show ((2 : Int)) = (arity k) by simp [arity, *]))
        · let t3 : Tp pr := .b (show (decide (k = (4 : Int))) = false by simpa using hc3)
          by_cases hc4 : k = (5 : Int)
          · let t4 : Tp pr := .b (show (decide (k = (5 : Int))) = true by simpa using hc4)
            let t5 : Tp pr := .b (show (decide (k = (5 : Int))) = true by (simp; omega))
            exact .tpe [t0, t1, t2, t3, t4, t5] (Out.val (V.t (T.int IntKind.i64 (2 : Int))) []) (by kernel_rfl) (congrArg (fun x => Out.val (V.t (T.int IntKind.i64 x)) []) (show ((2 : Int)) = (arity k) by simp [arity, *]))
          · let t4 : Tp pr := .b (show (decide (k = (5 : Int))) = false by simpa using hc4)
            by_cases hc5 : k = (7 : Int)
            · let t5 : Tp pr := .b (show (decide (k = (7 : Int))) = true by simpa using hc5)
              exact .tpe [t0, t1, t2, t3, t4, t5] (Out.val (V.t (T.int IntKind.i64 (2 : Int))) []) (by kernel_rfl) (congrArg (fun x => Out.val (V.t (T.int IntKind.i64 x)) []) (show ((2 : Int)) = (arity k) by simp [arity, *]))
            · let t5 : Tp pr := .b (show (decide (k = (7 : Int))) = false by simpa using hc5)
              by_cases hc6 : k = (6 : Int)
              · let t6 : Tp pr := .b (show (decide (k = (6 : Int))) = true by simpa using hc6)
                exact .tpe [t0, t1, t2, t3, t4, t5, t6] (Out.val (V.t (T.int IntKind.i64 (3 : Int))) []) (by kernel_rfl) (congrArg (fun x => Out.val (V.t (T.int IntKind.i64 x)) []) (show ((3 : Int)) = (arity k) by simp [arity, *]))
              · let t6 : Tp pr := .b (show (decide (k = (6 : Int))) = false by simpa using hc6)
                exact .tpe [t0, t1, t2, t3, t4, t5, t6] (Out.val (V.t (T.int IntKind.i64 (-1 : Int))) []) (by kernel_rfl) (congrArg (fun x => Out.val (V.t (T.int IntKind.i64 x)) []) (show ((-1 : Int)) = (arity k) by simp [arity, *]))
theorem l3Arity_ev (k : Int) : Ev pr (.call 166 [i64 k] []) (.val (i64 (arity k)) []) := by
  by_cases hc0 : k = (1 : Int)
  · let t0 : Tp pr := .b (show (decide (k = (1 : Int))) = true by simpa using hc0)
    let t1 : Tp pr := .b (show (decide (k = (1 : Int))) = true by (simp; omega))
    exact .tpe [t0, t1] (Out.val (V.t (T.int IntKind.i64 (0 : Int))) []) (by kernel_rfl) (congrArg (fun x => Out.val (V.t (T.int IntKind.i64 x)) []) (show ((0 : Int)) = (arity k) by simp [arity, *]))
  · let t0 : Tp pr := .b (show (decide (k = (1 : Int))) = false by simpa using hc0)
    by_cases hc1 : k = (2 : Int)
    · let t1 : Tp pr := .b (show (decide (k = (2 : Int))) = true by simpa using hc1)
      exact .tpe [t0, t1] (Out.val (V.t (T.int IntKind.i64 (0 : Int))) []) (by kernel_rfl) (congrArg (fun x => Out.val (V.t (T.int IntKind.i64 x)) []) (show ((0 : Int)) = (arity k) by simp [arity, *]))
    · let t1 : Tp pr := .b (show (decide (k = (2 : Int))) = false by simpa using hc1)
      by_cases hc2 : k = (3 : Int)
      · let t2 : Tp pr := .b (show (decide (k = (3 : Int))) = true by simpa using hc2)
        exact .tpe [t0, t1, t2] (Out.val (V.t (T.int IntKind.i64 (1 : Int))) []) (by kernel_rfl) (congrArg (fun x => Out.val (V.t (T.int IntKind.i64 x)) []) (show ((1 : Int)) = (arity k) by simp [arity, *]))
      · let t2 : Tp pr := .b (show (decide (k = (3 : Int))) = false by simpa using hc2)
        by_cases hc3 : k = (4 : Int)
        · let t3 : Tp pr := .b (show (decide (k = (4 : Int))) = true by simpa using hc3)
          let t4 : Tp pr := .b (show (decide (k = (4 : Int))) = true by (simp; omega))
          exact .tpe [t0, t1, t2, t3, t4] (Out.val (V.t (T.int IntKind.i64 (2 : Int))) []) (by kernel_rfl) (congrArg (fun x => Out.val (V.t (T.int IntKind.i64 x)) []) (show ((2 : Int)) = (arity k) by simp [arity, *]))
        · let t3 : Tp pr := .b (show (decide (k = (4 : Int))) = false by simpa using hc3)
          by_cases hc4 : k = (5 : Int)
          · let t4 : Tp pr := .b (show (decide (k = (5 : Int))) = true by simpa using hc4)
            let t5 : Tp pr := .b (show (decide (k = (5 : Int))) = true by (simp; omega))
            exact .tpe [t0, t1, t2, t3, t4, t5] (Out.val (V.t (T.int IntKind.i64 (2 : Int))) []) (by kernel_rfl) (congrArg (fun x => Out.val (V.t (T.int IntKind.i64 x)) []) (show ((2 : Int)) = (arity k) by simp [arity, *]))
          · let t4 : Tp pr := .b (show (decide (k = (5 : Int))) = false by simpa using hc4)
            by_cases hc5 : k = (7 : Int)
            · let t5 : Tp pr := .b (show (decide (k = (7 : Int))) = true by simpa using hc5)
              exact .tpe [t0, t1, t2, t3, t4, t5] (Out.val (V.t (T.int IntKind.i64 (2 : Int))) []) (by kernel_rfl) (congrArg (fun x => Out.val (V.t (T.int IntKind.i64 x)) []) (show ((2 : Int)) = (arity k) by simp [arity, *]))
            · let t5 : Tp pr := .b (show (decide (k = (7 : Int))) = false by simpa using hc5)
              by_cases hc6 : k = (6 : Int)
              · let t6 : Tp pr := .b (show (decide (k = (6 : Int))) = true by simpa using hc6)
                exact .tpe [t0, t1, t2, t3, t4, t5, t6] (Out.val (V.t (T.int IntKind.i64 (3 : Int))) []) (by kernel_rfl) (congrArg (fun x => Out.val (V.t (T.int IntKind.i64 x)) []) (show ((3 : Int)) = (arity k) by simp [arity, *]))
              · let t6 : Tp pr := .b (show (decide (k = (6 : Int))) = false by simpa using hc6)
                exact .tpe [t0, t1, t2, t3, t4, t5, t6] (Out.val (V.t (T.int IntKind.i64 (-1 : Int))) []) (by kernel_rfl) (congrArg (fun x => Out.val (V.t (T.int IntKind.i64 x)) []) (show ((-1 : Int)) = (arity k) by simp [arity, *]))
theorem binds_ev (k : Int) (i : Nat) (hi : i ≤ 600) : Ev pr (.call 159 [i64 k, i64 i] []) (.val (i64 (bindsAt k i)) []) := by
  by_cases h1 : i = 1
  · subst h1
    by_cases hc0 : k = (3 : Int)
    · let t0 : Tp pr := .b (show (decide (k = (3 : Int))) = true by simpa using hc0)
      exact .tpe [t0, .bT] (Out.val (V.t (T.int IntKind.i64 (1 : Int))) []) (by kernel_rfl) (congrArg (fun x => Out.val (V.t (T.int IntKind.i64 x)) []) (show ((1 : Int)) = ((↑(bindsAt k (1 : Nat)) : Int)) by simp [bindsAt, *]))
    · let t0 : Tp pr := .b (show (decide (k = (3 : Int))) = false by simpa using hc0)
      by_cases hc1 : k = (7 : Int)
      · let t1 : Tp pr := .b (show (decide (k = (7 : Int))) = true by simpa using hc1)
        exact .tpe [t0, t1, .bT] (Out.val (V.t (T.int IntKind.i64 (1 : Int))) []) (by kernel_rfl) (congrArg (fun x => Out.val (V.t (T.int IntKind.i64 x)) []) (show ((1 : Int)) = ((↑(bindsAt k (1 : Nat)) : Int)) by simp [bindsAt, *]))
      · let t1 : Tp pr := .b (show (decide (k = (7 : Int))) = false by simpa using hc1)
        exact .tpe [t0, t1, .bF] (Out.val (V.t (T.int IntKind.i64 (0 : Int))) []) (by kernel_rfl) (congrArg (fun x => Out.val (V.t (T.int IntKind.i64 x)) []) (show ((0 : Int)) = ((↑(bindsAt k (1 : Nat)) : Int)) by simp [bindsAt, *]))
  · have h2 : ¬ (i : Int) = 1 := by omega
    by_cases hc0 : k = (3 : Int)
    · let t0 : Tp pr := .b (show (decide (k = (3 : Int))) = true by simpa using hc0)
      exact .tpe [t0, .bT] (Out.val (V.t (T.int IntKind.i64 (1 : Int))) []) (by kernel_rfl) (congrArg (fun x => Out.val (V.t (T.int IntKind.i64 x)) []) (show ((1 : Int)) = ((↑(bindsAt k i) : Int)) by simp [bindsAt, *]))
    · let t0 : Tp pr := .b (show (decide (k = (3 : Int))) = false by simpa using hc0)
      by_cases hc1 : k = (7 : Int)
      · let t1 : Tp pr := .b (show (decide (k = (7 : Int))) = true by simpa using hc1)
        let t2 : Tp pr := .b (show (decide ((↑i : Int) = (1 : Int))) = false by (simp; omega))
        exact .tpe [t0, t1, t2] (Out.val (V.t (T.int IntKind.i64 (0 : Int))) []) (by kernel_rfl) (congrArg (fun x => Out.val (V.t (T.int IntKind.i64 x)) []) (show ((0 : Int)) = ((↑(bindsAt k i) : Int)) by simp [bindsAt, *]))
      · let t1 : Tp pr := .b (show (decide (k = (7 : Int))) = false by simpa using hc1)
        exact .tpe [t0, t1, .bF] (Out.val (V.t (T.int IntKind.i64 (0 : Int))) []) (by kernel_rfl) (congrArg (fun x => Out.val (V.t (T.int IntKind.i64 x)) []) (show ((0 : Int)) = ((↑(bindsAt k i) : Int)) by simp [bindsAt, *]))
theorem l3Binds_ev (k : Int) (i : Nat) (hi : i ≤ 600) : Ev pr (.call 153 [i64 k, i64 i] []) (.val (i64 (bindsAt k i)) []) := by
  by_cases h1 : i = 1
  · subst h1
    by_cases hc0 : k = (3 : Int)
    · let t0 : Tp pr := .b (show (decide (k = (3 : Int))) = true by simpa using hc0)
      exact .tpe [t0, .bT] (Out.val (V.t (T.int IntKind.i64 (1 : Int))) []) (by kernel_rfl) (congrArg (fun x => Out.val (V.t (T.int IntKind.i64 x)) []) (show ((1 : Int)) = ((↑(bindsAt k (1 : Nat)) : Int)) by simp [bindsAt, *]))
    · let t0 : Tp pr := .b (show (decide (k = (3 : Int))) = false by simpa using hc0)
      by_cases hc1 : k = (7 : Int)
      · let t1 : Tp pr := .b (show (decide (k = (7 : Int))) = true by simpa using hc1)
        exact .tpe [t0, t1, .bT] (Out.val (V.t (T.int IntKind.i64 (1 : Int))) []) (by kernel_rfl) (congrArg (fun x => Out.val (V.t (T.int IntKind.i64 x)) []) (show ((1 : Int)) = ((↑(bindsAt k (1 : Nat)) : Int)) by simp [bindsAt, *]))
      · let t1 : Tp pr := .b (show (decide (k = (7 : Int))) = false by simpa using hc1)
        exact .tpe [t0, t1, .bF] (Out.val (V.t (T.int IntKind.i64 (0 : Int))) []) (by kernel_rfl) (congrArg (fun x => Out.val (V.t (T.int IntKind.i64 x)) []) (show ((0 : Int)) = ((↑(bindsAt k (1 : Nat)) : Int)) by simp [bindsAt, *]))
  · have h2 : ¬ (i : Int) = 1 := by omega
    by_cases hc0 : k = (3 : Int)
    · let t0 : Tp pr := .b (show (decide (k = (3 : Int))) = true by simpa using hc0)
      exact .tpe [t0, .bT] (Out.val (V.t (T.int IntKind.i64 (1 : Int))) []) (by kernel_rfl) (congrArg (fun x => Out.val (V.t (T.int IntKind.i64 x)) []) (show ((1 : Int)) = ((↑(bindsAt k i) : Int)) by simp [bindsAt, *]))
    · let t0 : Tp pr := .b (show (decide (k = (3 : Int))) = false by simpa using hc0)
      by_cases hc1 : k = (7 : Int)
      · let t1 : Tp pr := .b (show (decide (k = (7 : Int))) = true by simpa using hc1)
        let t2 : Tp pr := .b (show (decide ((↑i : Int) = (1 : Int))) = false by (simp; omega))
        exact .tpe [t0, t1, t2] (Out.val (V.t (T.int IntKind.i64 (0 : Int))) []) (by kernel_rfl) (congrArg (fun x => Out.val (V.t (T.int IntKind.i64 x)) []) (show ((0 : Int)) = ((↑(bindsAt k i) : Int)) by simp [bindsAt, *]))
      · let t1 : Tp pr := .b (show (decide (k = (7 : Int))) = false by simpa using hc1)
        exact .tpe [t0, t1, .bF] (Out.val (V.t (T.int IntKind.i64 (0 : Int))) []) (by kernel_rfl) (congrArg (fun x => Out.val (V.t (T.int IntKind.i64 x)) []) (show ((0 : Int)) = ((↑(bindsAt k i) : Int)) by simp [bindsAt, *]))
theorem cellOk_ev (c : Cell) : Ev pr (.call 121 [.agg [i64 c.kind, i64 c.n]] []) (.val (bl (cellGood c)) []) := by
  obtain ⟨k, n⟩ := c
  by_cases hc0 : k = (1 : Int)
  · let t0 : Tp pr := .b (show (decide (k = (1 : Int))) = true by simpa using hc0)
    let t1 : Tp pr := .a (within_ev (n) ((0 : Int)) ((99 : Int)))
    exact .tpe [t0, t1] (Out.val (V.t (T.bool (decide (n ≥ (0 : Int)) && decide (n ≤ (99 : Int))))) []) (by kernel_rfl) (congrArg (fun x => Out.val (V.t (T.bool x)) []) (show (decide (n ≥ (0 : Int)) && decide (n ≤ (99 : Int))) = (cellGood (Cell.mk k n)) by simp [cellGood, *]))
  · let t0 : Tp pr := .b (show (decide (k = (1 : Int))) = false by simpa using hc0)
    by_cases hc1 : k = (2 : Int)
    · let t1 : Tp pr := .b (show (decide (k = (2 : Int))) = true by simpa using hc1)
      let t2 : Tp pr := .a (within_ev (n) ((-1000000 : Int)) ((1000000 : Int)))
      exact .tpe [t0, t1, t2] (Out.val (V.t (T.bool (decide (n ≥ (-1000000 : Int)) && decide (n ≤ (1000000 : Int))))) []) (by kernel_rfl) (congrArg (fun x => Out.val (V.t (T.bool x)) []) (show (decide (n ≥ (-1000000 : Int)) && decide (n ≤ (1000000 : Int))) = (cellGood (Cell.mk k n)) by simp [cellGood, *]))
    · let t1 : Tp pr := .b (show (decide (k = (2 : Int))) = false by simpa using hc1)
      by_cases hc3 : (0 : Int) < arity k
      · let t3 : Tp pr := .b (show (decide (arity k > (0 : Int))) = true by simpa using hc3)
        exact .tpe [t0, t1, .a (kidsOf_ev (k)), t3] (Out.val (V.t (T.bool (decide (n = (0 : Int))))) []) (by kernel_rfl) (congrArg (fun x => Out.val (V.t (T.bool x)) []) (show (decide (n = (0 : Int))) = (cellGood (Cell.mk k n)) by simp [cellGood, *]))
      · let t3 : Tp pr := .b (show (decide (arity k > (0 : Int))) = false by simpa using hc3)
        exact .tpe [t0, t1, .a (kidsOf_ev (k)), t3] (Out.val (V.t (T.bool false)) []) (by kernel_rfl) (congrArg (fun x => Out.val (V.t (T.bool x)) []) (show (false) = (cellGood (Cell.mk k n)) by simp [cellGood, *]))
theorem l3Cell_ev (c : Cell) : Ev pr (.call 178 [.agg [i64 c.kind, i64 c.n]] []) (.val (bl (cellGood c)) []) := by
  obtain ⟨k, n⟩ := c
  by_cases hc0 : k = (1 : Int)
  · let t0 : Tp pr := .b (show (decide (k = (1 : Int))) = true by simpa using hc0)
    let t1 : Tp pr := .a (l1In_ev (n) ((0 : Int)) ((99 : Int)))
    exact .tpe [t0, t1] (Out.val (V.t (T.bool (decide (n ≥ (0 : Int)) && decide (n ≤ (99 : Int))))) []) (by kernel_rfl) (congrArg (fun x => Out.val (V.t (T.bool x)) []) (show (decide (n ≥ (0 : Int)) && decide (n ≤ (99 : Int))) = (cellGood (Cell.mk k n)) by simp [cellGood, *]))
  · let t0 : Tp pr := .b (show (decide (k = (1 : Int))) = false by simpa using hc0)
    by_cases hc1 : k = (2 : Int)
    · let t1 : Tp pr := .b (show (decide (k = (2 : Int))) = true by simpa using hc1)
      let t2 : Tp pr := .a (l1In_ev (n) ((-1000000 : Int)) ((1000000 : Int)))
      exact .tpe [t0, t1, t2] (Out.val (V.t (T.bool (decide (n ≥ (-1000000 : Int)) && decide (n ≤ (1000000 : Int))))) []) (by kernel_rfl) (congrArg (fun x => Out.val (V.t (T.bool x)) []) (show (decide (n ≥ (-1000000 : Int)) && decide (n ≤ (1000000 : Int))) = (cellGood (Cell.mk k n)) by simp [cellGood, *]))
    · let t1 : Tp pr := .b (show (decide (k = (2 : Int))) = false by simpa using hc1)
      by_cases hc2 : n = (0 : Int)
      · let t2 : Tp pr := .b (show (decide (n = (0 : Int))) = true by simpa using hc2)
        exact .tpe [t0, t1, t2, .a (l3Arity_ev (k))] (Out.val (V.t (T.bool (decide (arity k > (0 : Int))))) []) (by kernel_rfl) (congrArg (fun x => Out.val (V.t (T.bool x)) []) (show (decide (arity k > (0 : Int))) = (cellGood (Cell.mk k n)) by simp [cellGood, *]))
      · let t2 : Tp pr := .b (show (decide (n = (0 : Int))) = false by simpa using hc2)
        exact .tpe [t0, t1, t2] (Out.val (V.t (T.bool false)) []) (by kernel_rfl) (congrArg (fun x => Out.val (V.t (T.bool x)) []) (show (false) = (cellGood (Cell.mk k n)) by simp [cellGood, *]))
end Go.Ev

namespace Go.Ev
set_option linter.unusedVariables false
set_option linter.unusedSimpArgs false
open Go.Proofs
set_option maxRecDepth 100000
set_option maxHeartbeats 4000000
theorem tpL_mid (dn r : List Tm) (t : Tm) : lkp (Tm.tpL (dn ++ t :: r)) (dn.length : Int) = some [t.tp] := by
  simp [lkp, tpL_app, Tm.tpL]
theorem ntL_ev (k n : Int) : ∀ (rest dn : List Tm) (s : Int), dn.length + rest.length ≤ 100 → 0 ≤ s → s + 1000000 * rest.length ≤ 200000000 →
    Ev pr (.loop (lq pr 122 0) (at_ [(0, i64 k), (1, i64 n), (2, .t (.seq 1 (Tm.tpL (dn ++ rest)))), (7, i64 s), (10, .t (.seq 1 (Tm.tpL (dn ++ rest)))), (11, i64 (dn ++ rest).length), (12, i64 dn.length)] [] 0))
      (.exit 0 (at_ [(0, i64 k), (1, i64 n), (2, .t (.seq 1 (Tm.tpL (dn ++ rest)))), (7, i64 (s + sumC rest))] [] 0))
  | [], dn, s, h1, h2, h3 => by
    simp only [List.append_nil, sumC, Int.add_zero]
    let t0 : Tp pr := .b (show (decide ((↑dn.length : Int) < (↑dn.length : Int))) = false by simp)
    exact .tp [t0] (by kernel_rfl)
  | t :: rest, dn, s, h1, h2, h3 => by
    have hg := tpL_mid dn rest t
    obtain ⟨k', n', s', e⟩ := t.tp_cells
    rw [e] at hg
    have hb := t.size_bd
    have ih := ntL_ev k n rest (dn ++ [t]) (s + t.size) (by simp at h1 ⊢; omega) (by omega) (by simp at h3; omega)
    simp only [List.append_assoc, List.singleton_append, List.length_append, List.length_singleton, List.length_cons] at ih h1 h3
    rw [show s + sumC (t :: rest) = s + t.size + sumC rest by simp [sumC]; omega]
    simp only [List.length_append, List.length_cons]
    let t0 : Tp pr := .b (show (decide ((↑dn.length : Int) < (↑(dn.length + (rest.length + (1 : Nat))) : Int))) = true by (simp; omega))
    let t1 : Tp pr := .g .row (show (lkp (Tm.tpL (dn ++ t :: rest)) (↑dn.length : Int)) = some ([T.ptr [T.int IntKind.i64 k', T.int IntKind.i64 n', s', T.int IntKind.i64 t.size] (0 : Nat)]) from hg)
    let t2 : Tp pr := .i (wrap_i64 (a := s + t.size) (by omega) (by omega))
    let t3 : Tp pr := .i (wrap_i64 (a := (↑dn.length : Int) + (1 : Int)) (by omega) (by omega))
    exact .tp [t0, t1, t2, t3, .a (ih)] (by kernel_rfl)
theorem newTerm_ev (k n : Int) (ks : List Tm) (h : ks.length ≤ 100) : Ev pr (.call 122 [i64 k, i64 n, .t (.seq 1 (Tm.tpL ks))] []) (.val (.t (Tm.tp (.node k n ks))) []) := by
  have g := ntL_ev k n ks [] 1 (by simp; omega) (by omega) (by omega)
  simp only [List.nil_append] at g
  rw [Tm.tp_node]
  let t0 : Tp pr := .i (show ((↑(Tm.tpL ks).length : Int) : Int) = (↑ks.length : Int) by simp)
  let t2 : Tp pr := .i (rfl : (if (1000000 : Int) < (1 : Int) + sumC ks then (1000000 : Int) else (1 : Int) + sumC ks) = _)
  exact .tp [t0, .a (g), t2] (by kernel_rfl)
end Go.Ev

namespace Go.Ev
set_option linter.unusedVariables false
set_option linter.unusedSimpArgs false
open Go.Proofs
set_option maxRecDepth 100000
set_option maxHeartbeats 4000000
def tfO : Option (Tm × List Cell) → Out
  | none => .val (.tup [.t .nilp, .t (.seq 2 [])]) []
  | some (t, r) => .val (.tup [.t t.tp, .t (.seq 2 (r.map Cell.ce))]) []
theorem tf_nil : Ev pr (.call 114 [.t (.seq 2 [])] []) (tfO none) := by
  unfold tfO
  let t0 : Tp pr := .i (rfl : ((0 : Int) : Int) = (0 : Int))
  exact .tp [t0, .bT, .bT] (by kernel_rfl)
theorem tf_bad (c : Cell) (l : List Cell) (h : cellGood c = false) (hl : l.length ≤ 1048576) : Ev pr (.call 114 [.t (.seq 2 ((c :: l).map Cell.ce))] []) (tfO none) := by
  unfold tfO
  have g := cellOk_ev c
  rw [h] at g
  let t0 : Tp pr := .i (show ((↑(List.map Cell.ce (c :: l)).length : Int) : Int) = (↑l.length : Int) + (1 : Int) by simp)
  let t2 : Tp pr := .g .row (show (lkp (List.map Cell.ce (c :: l)) (0 : Int)) = some (c.ce) by simp)
  exact .tp [t0, .bF, t2, .a (g), .bT] (by kernel_rfl)
def kcs (dn : List Tm) (k : Nat) : List (List C) := (Tm.tpL dn).map (List.map C.t) ++ List.replicate k [C.t .nilp]
@[simp] theorem kcs_len (dn : List Tm) (k : Nat) : (kcs dn k).length = dn.length + k := by simp [kcs]
theorem kcs_set (dn : List Tm) (k : Nat) (x : T) : (kcs dn (k + 1)).set dn.length [C.t x] = (Tm.tpL dn).map (List.map C.t) ++ [C.t x] :: List.replicate k [C.t .nilp] := by
  unfold kcs
  rw [List.set_append_right _ _ (by simp)]
  simp [List.replicate_succ]
theorem kcs_at (dn : List Tm) (k : Nat) : (kcs dn (k + 1))[dn.length]? = some [C.t .nilp] := by
  unfold kcs
  rw [List.getElem?_append_right (by simp)]
  simp [List.replicate_succ]
theorem kcs_mid (dn : List Tm) (k : Nat) (x : T) : ((Tm.tpL dn).map (List.map C.t) ++ [C.t x] :: List.replicate k [C.t .nilp])[dn.length]? = some [C.t x] := by
  rw [List.getElem?_append_right (by simp)]
  simp
theorem kcs_snoc (dn : List Tm) (k : Nat) (t : Tm) : (Tm.tpL dn).map (List.map C.t) ++ [C.t t.tp] :: List.replicate k [C.t .nilp] = kcs (dn ++ [t]) k := by
  simp [kcs, tpL_app, Tm.tpL]
def tfLO (L0 : V) (dn : List Tm) (m : Nat) : Option (List Tm × List Cell) → Out
  | none => .ret (at_ [(2, .t .nilp), (3, .t .nils)] [] 0)
  | some (ts, q) => .exit 0 (at_ [(0, L0), (4, .vec 0 m 1 0 m), (5, .t (.seq 2 (q.map Cell.ce)))] [.vec true 1 (kcs (dn ++ ts) 0)] 0)
def tfLS (L0 : V) (dn : List Tm) (k m : Nat) (l : List Cell) (o : Out) : Prop :=
  Ev pr (.loop (lq pr 114 0) (at_ [(0, L0), (4, .vec 0 m 1 0 m), (5, .t (.seq 2 (l.map Cell.ce))), (26, i64 m), (27, i64 dn.length)] [.vec true 1 (kcs dn k)] 0)) o
theorem tfL_end (L0 : List (List T)) (dn : List Tm) (m : Nat) (hm : m ≤ 3) (h : m = dn.length) (l : List Cell) : tfLS (.t (.seq 2 L0)) dn 0 m l (.exit 0 (at_ [(0, .t (.seq 2 L0)), (4, .vec 0 m 1 0 m), (5, .t (.seq 2 (l.map Cell.ce)))] [.vec true 1 (kcs dn 0)] 0)) := by
  unfold tfLS
  subst h
  let t0 : Tp pr := .b (show (decide ((↑dn.length : Int) < (↑dn.length : Int))) = false by simp)
  exact .tp [t0] (by kernel_rfl)
theorem tfL_none (L0 : List (List T)) (dn : List Tm) (k m : Nat) (hm : m ≤ 3) (h : m = dn.length + (k + 1)) (l : List Cell)
    (g : Ev pr (.call 114 [.t (.seq 2 (l.map Cell.ce))] []) (.val (.tup [.t .nilp, .t (.seq 2 [])]) [])) : tfLS (.t (.seq 2 L0)) dn (k + 1) m l (.ret (at_ [(2, .t .nilp), (3, .t .nils)] [] 0)) := by
  unfold tfLS
  have e1 := kcs_at dn k
  have e2 := kcs_set dn k .nilp
  have e3 := kcs_mid dn k .nilp
  let t0 : Tp pr := .b (show (decide ((↑dn.length : Int) < (↑m : Int))) = true by (simp; omega))
  let t2 : Tp pr := .m (show (decide ((0 : Int) ≤ (↑dn.length : Int) ∧ (↑dn.length : Int).toNat < m)) = true by simp [*])
  let t3 : Tp pr := .c (show ((0 : Nat) + (↑dn.length : Int).toNat : Nat) = dn.length by omega)
  let t4 : Tp pr := .m (show (decide ((kcs dn (k + (1 : Nat))).length = m)) = true by simp [*])
  let t5 : Tp pr := .g .crow (show ((kcs dn (k + (1 : Nat)))[dn.length]?) = some ([C.t T.nilp]) from e1)
  let t6 : Tp pr := .n .crows (rfl : ((kcs dn (k + (1 : Nat))).set dn.length [C.t T.nilp]) = _)
  let t9 : Tp pr := .m (show (decide (((kcs dn (k + (1 : Nat))).set dn.length [C.t T.nilp]).length = m)) = true by simp [*])
  let t10 : Tp pr := .g .crow (show (((kcs dn (k + (1 : Nat))).set dn.length [C.t T.nilp])[dn.length]?) = some ([C.t T.nilp]) by simp)
  exact .tp [t0, .a (g), t2, t3, t4, t5, t6, t2, t3, t9, t10, .bT] (by kernel_rfl)
theorem tfL_some (L0 : List (List T)) (dn : List Tm) (k m : Nat) (hm : m ≤ 3) (h : m = dn.length + (k + 1)) (l r : List Cell) (t : Tm) (o : Out)
    (g : Ev pr (.call 114 [.t (.seq 2 (l.map Cell.ce))] []) (.val (.tup [.t t.tp, .t (.seq 2 (r.map Cell.ce))]) []))
    (gl : tfLS (.t (.seq 2 L0)) (dn ++ [t]) k m r o) : tfLS (.t (.seq 2 L0)) dn (k + 1) m l o := by
  unfold tfLS at *
  rw [← kcs_snoc] at gl
  simp only [List.length_append, List.length_singleton] at gl
  obtain ⟨k', n', s', e⟩ := t.tp_cells
  rw [e] at g gl
  have e1 := kcs_at dn k
  have e2 := kcs_set dn k (.ptr [.int .i64 k', .int .i64 n', s', .int .i64 t.size] 0)
  have e3 := kcs_mid dn k (.ptr [.int .i64 k', .int .i64 n', s', .int .i64 t.size] 0)
  let t0 : Tp pr := .b (show (decide ((↑dn.length : Int) < (↑m : Int))) = true by (simp; omega))
  let t2 : Tp pr := .m (show (decide ((0 : Int) ≤ (↑dn.length : Int) ∧ (↑dn.length : Int).toNat < m)) = true by simp [*])
  let t3 : Tp pr := .c (show ((0 : Nat) + (↑dn.length : Int).toNat : Nat) = dn.length by omega)
  let t4 : Tp pr := .m (show (decide ((kcs dn (k + (1 : Nat))).length = m)) = true by simp [*])
  let t5 : Tp pr := .g .crow (show ((kcs dn (k + (1 : Nat)))[dn.length]?) = some ([C.t T.nilp]) from e1)
  let t6 : Tp pr := .n .crows (rfl : ((kcs dn (k + (1 : Nat))).set dn.length [C.t (T.ptr [T.int IntKind.i64 k', T.int IntKind.i64 n', s', T.int IntKind.i64 t.size] (0 : Nat))]) = _)
  let t9 : Tp pr := .m (show (decide (((kcs dn (k + (1 : Nat))).set dn.length [C.t (T.ptr [T.int IntKind.i64 k', T.int IntKind.i64 n', s', T.int IntKind.i64 t.size] (0 : Nat))]).length = m)) = true by simp [*])
  let t10 : Tp pr := .g .crow (show (((kcs dn (k + (1 : Nat))).set dn.length [C.t (T.ptr [T.int IntKind.i64 k', T.int IntKind.i64 n', s', T.int IntKind.i64 t.size] (0 : Nat))])[dn.length]?) = some ([C.t (T.ptr [T.int IntKind.i64 k', T.int IntKind.i64 n', s', T.int IntKind.i64 t.size] (0 : Nat))]) by simp)
  let t12 : Tp pr := .i (wrap_i64 (a := (↑dn.length : Int) + (1 : Int)) (by omega) (by omega))
  let t13 : Tp pr := .a (Ev.castq (congrArg (fun x => Q.loop (lq pr (114 : FuncId) (0 : Nat)) (at_ [((0 : Nat), V.t (T.seq (2 : Nat) L0)), ((4 : Nat), V.vec (0 : Nat) m (1 : Nat) (0 : Nat) m), ((5 : Nat), V.t (T.seq (2 : Nat) (List.map Cell.ce r))), ((26 : Nat), i64 (↑m : Int)), ((27 : Nat), i64 (↑(dn.length + (1 : Nat)) : Int))] [Ob.vec true (1 : Nat) x] (0 : Nat))) (show (List.map (List.map C.t) (Tm.tpL dn) ++ [C.t (T.ptr [T.int IntKind.i64 k', T.int IntKind.i64 n', s', T.int IntKind.i64 t.size] (0 : Nat))] :: List.replicate k [C.t T.nilp]) = ((kcs dn (k + (1 : Nat))).set dn.length [C.t (T.ptr [T.int IntKind.i64 k', T.int IntKind.i64 n', s', T.int IntKind.i64 t.size] (0 : Nat))]) by simp [*])) (gl))
  exact .tp [t0, .a (g), t2, t3, t4, t5, t6, t2, t3, t9, t10, .bF, t12, t13] (by kernel_rfl)
end Go.Ev

namespace Go.Ev
set_option linter.unusedVariables false
set_option linter.unusedSimpArgs false
open Go.Proofs
set_option maxRecDepth 100000
set_option maxHeartbeats 4000000
theorem kcs_nil (k : Nat) : kcs [] k = List.replicate k [C.t .nilp] := by simp [kcs, Tm.tpL]
@[simp] theorem kcs_fz (ts : List Tm) : (kcs ts 0).map (List.map C.fz) = Tm.tpL ts := by
  simp only [kcs, List.replicate_zero, List.append_nil, List.map_map]
  have : (List.map C.fz ∘ List.map C.t) = id := by funext x; simp [Function.comp_def, C.fz]
  rw [this, List.map_id]
@[simp] theorem kcs_take (ts : List Tm) : List.take ts.length (Tm.tpL ts) = Tm.tpL ts := List.take_of_length_le (by simp)
theorem tf_okN (c : Cell) (l : List Cell) (h : cellGood c = true) (hl : l.length ≤ 1048576) (m : Nat) (hm : m ≤ 3) (hk : arity c.kind = m)
    (gl : tfLS (.t (.seq 2 ((c :: l).map Cell.ce))) [] m m l (.ret (at_ [(2, .t .nilp), (3, .t .nils)] [] 0))) : Ev pr (.call 114 [.t (.seq 2 ((c :: l).map Cell.ce))] []) (tfO none) := by
  unfold tfO tfLS at *
  have g := cellOk_ev c
  rw [h] at g
  have g2 := kidsOf_ev c.kind
  rw [hk] at g2
  rw [kcs_nil] at gl
  simp only [List.length_nil] at gl
  let t0 : Tp pr := .i (show ((↑(List.map Cell.ce (c :: l)).length : Int) : Int) = (↑l.length : Int) + (1 : Int) by simp)
  let t2 : Tp pr := .g .row (show (lkp (List.map Cell.ce (c :: l)) (0 : Int)) = some (c.ce) by simp)
  let t12 : Tp pr := .m (show (decide ((0 : Int) ≤ (↑m : Int) ∧ (↑m : Int) ≤ (↑m : Int) ∧ (↑m : Int) ≤ (4294967296 : Int))) = true by (simp; omega))
  let t13 : Tp pr := .c (show ((↑m : Int).toNat : Nat) = m by omega)
  let t14 : Tp pr := .n .crows (rfl : (List.replicate m [C.t T.nilp]) = _)
  let t17 : Tp pr := .m (show (decide ((0 : Int) ≤ (1 : Int) ∧ (1 : Int) ≤ (↑(List.map Cell.ce (c :: l)).length : Int) ∧ (↑(List.map Cell.ce (c :: l)).length : Int) ≤ (↑(List.map Cell.ce (c :: l)).length : Int))) = true by (simp; omega))
  let t18 : Tp pr := .n .rows (show (List.take ((↑(List.map Cell.ce (c :: l)).length : Int).toNat - (1 : Nat)) (List.drop (1 : Nat) (List.map Cell.ce (c :: l)))) = List.map Cell.ce l by simp)
  exact .tp [t0, .bF, t2, .a (g), .bF, .mT, t2, .mT, .mT, .mT, .a (g2), .mT, t12, t13, t14, .mT, .mT, t17, t18, .mT, .mT, .mT, .i (rfl : ((↑m : Int)) = _), .a (gl)] (by kernel_rfl)
theorem tf_okS (c : Cell) (l : List Cell) (h : cellGood c = true) (hl : l.length ≤ 1048576) (m : Nat) (hm : m ≤ 3) (hk : arity c.kind = m) (ts : List Tm) (hts : ts.length = m) (q : List Cell)
    (gl : tfLS (.t (.seq 2 ((c :: l).map Cell.ce))) [] m m l (.exit 0 (at_ [(0, .t (.seq 2 ((c :: l).map Cell.ce))), (4, .vec 0 m 1 0 m), (5, .t (.seq 2 (q.map Cell.ce)))] [.vec true 1 (kcs ts 0)] 0))) :
    Ev pr (.call 114 [.t (.seq 2 ((c :: l).map Cell.ce))] []) (tfO (some (.node c.kind c.n ts, q))) := by
  unfold tfO tfLS at *
  have g := cellOk_ev c
  rw [h] at g
  have g2 := kidsOf_ev c.kind
  rw [hk] at g2
  rw [kcs_nil] at gl
  simp only [List.length_nil] at gl
  have g3 := newTerm_ev c.kind c.n ts (by omega)
  subst hts
  let t0 : Tp pr := .i (show ((↑(List.map Cell.ce (c :: l)).length : Int) : Int) = (↑l.length : Int) + (1 : Int) by simp)
  let t2 : Tp pr := .g .row (show (lkp (List.map Cell.ce (c :: l)) (0 : Int)) = some (c.ce) by simp)
  let t12 : Tp pr := .m (show (decide ((0 : Int) ≤ (↑ts.length : Int) ∧ (↑ts.length : Int) ≤ (↑ts.length : Int) ∧ (↑ts.length : Int) ≤ (4294967296 : Int))) = true by (simp; omega))
  let t13 : Tp pr := .c (show ((↑ts.length : Int).toNat : Nat) = ts.length by omega)
  let t14 : Tp pr := .n .crows (rfl : (List.replicate ts.length [C.t T.nilp]) = _)
  let t17 : Tp pr := .m (show (decide ((0 : Int) ≤ (1 : Int) ∧ (1 : Int) ≤ (↑(List.map Cell.ce (c :: l)).length : Int) ∧ (↑(List.map Cell.ce (c :: l)).length : Int) ≤ (↑(List.map Cell.ce (c :: l)).length : Int))) = true by (simp; omega))
  let t18 : Tp pr := .n .rows (show (List.take ((↑(List.map Cell.ce (c :: l)).length : Int).toNat - (1 : Nat)) (List.drop (1 : Nat) (List.map Cell.ce (c :: l)))) = List.map Cell.ce l by simp)
  let t35 : Tp pr := .m (show (decide ((kcs ts (0 : Nat)).length = ts.length ∧ (0 : Nat) + ts.length ≤ ts.length)) = true by simp)
  let t36 : Tp pr := .n .rows (show (List.map (fun x => List.map C.fz x) (List.take ts.length (List.drop (0 : Nat) (kcs ts (0 : Nat))))) = Tm.tpL ts by simp)
  exact .tp [t0, .bF, t2, .a (g), .bF, .mT, t2, .mT, .mT, .mT, .a (g2), .mT, t12, t13, t14, .mT, .mT, t17, t18, .mT, .mT, .mT, .i (rfl : ((↑ts.length : Int)) = _), .a (gl), .mT, t2, .mT, .mT, .mT, .mT, t2, .mT, .mT, .mT, .mT, t35, t36, .a (g3), .mT, .mT, .mT, .mT] (by kernel_rfl)
theorem tfL_ev (f : Nat) (ih : ∀ l : List Cell, l.length ≤ f → l.length ≤ 1048576 → Ev pr (.call 114 [.t (.seq 2 (l.map Cell.ce))] []) (tfO (readT f l))) (L0 : List (List T)) (m : Nat) (hm : m ≤ 3) :
    ∀ (k : Nat) (dn : List Tm) (l : List Cell), m = dn.length + k → l.length ≤ f → l.length ≤ 1048576 → tfLS (.t (.seq 2 L0)) dn k m l (tfLO (.t (.seq 2 L0)) dn m (readK (readT f) k l))
  | 0, dn, l, h, h1, h2 => by
    have := tfL_end L0 dn m hm (by omega) l
    simpa [readK, tfLO] using this
  | k + 1, dn, l, h, h1, h2 => by
    have g := ih l h1 h2
    unfold readK
    cases hr : readT f l with
    | none =>
      rw [hr] at g
      exact tfL_none L0 dn k m hm h l g
    | some p =>
      obtain ⟨t, r⟩ := p
      rw [hr] at g
      have e := (readT_spec f l t r hr).1
      have hlen : l.length = t.cells.length + r.length := by rw [e]; simp
      have gl := tfL_ev f ih L0 m hm k (dn ++ [t]) r (by simp; omega) (by omega) (by omega)
      dsimp only
      refine tfL_some L0 dn k m hm h l r t _ g ?_
      cases hq : readK (readT f) k r with
      | none => rw [hq] at gl; exact gl
      | some p =>
        obtain ⟨ts, q⟩ := p
        rw [hq] at gl
        simp only [tfLO, List.append_assoc, List.singleton_append] at gl ⊢
        exact gl
theorem termFrom_ev : ∀ (f : Nat) (l : List Cell), l.length ≤ f → l.length ≤ 1048576 → Ev pr (.call 114 [.t (.seq 2 (l.map Cell.ce))] []) (tfO (readT f l))
  | 0, [], h, h2 => tf_nil
  | f + 1, [], h, h2 => tf_nil
  | f + 1, c :: l, h, h2 => by
    unfold readT
    by_cases hc : cellGood c = true
    · rw [if_pos hc]
      have ha := cellGood_ar hc
      have hb := arity_bd c.kind
      simp only [List.length_cons] at h h2
      have gl := tfL_ev f (termFrom_ev f) ((c :: l).map Cell.ce) (arity c.kind).toNat (by omega) (arity c.kind).toNat [] l (by simp) (by omega) (by omega)
      cases hr : readK (readT f) (arity c.kind).toNat l with
      | none =>
        rw [hr] at gl
        exact tf_okN c l hc (by omega) _ (by omega) (by omega) gl
      | some p =>
        obtain ⟨ts, q⟩ := p
        rw [hr] at gl
        have hs := readK_spec (readT_spec f) _ _ _ _ hr
        exact tf_okS c l hc (by omega) _ (by omega) (by omega) ts hs.2.1 q gl
    · rw [if_neg hc]
      exact tf_bad c l (by simpa using hc) (by simp at h2; omega)
end Go.Ev

namespace Go.Ev
set_option linter.unusedVariables false
set_option linter.unusedSimpArgs false
open Go.Proofs
set_option maxRecDepth 100000
set_option maxHeartbeats 4000000
theorem to_long (L : List (List T)) (h : L.length > 600) (h2 : L.length ≤ 1048576) : Ev pr (.call 57 [.t (.seq 2 L)] []) (.val (.t .nilp) []) := by
  let t1 : Tp pr := .b (show (decide ((↑L.length : Int) > (600 : Int))) = true by (simp; omega))
  exact .tp [.i (rfl : ((↑L.length : Int)) = _), t1] (by kernel_rfl)
theorem to_some (L : List (List T)) (h : ¬ L.length > 600) (x : T) (r : List (List T)) (hr : r.length ≤ 1048576) (g : Ev pr (.call 114 [.t (.seq 2 L)] []) (.val (.tup [.t x, .t (.seq 2 r)]) [])) :
    Ev pr (.call 57 [.t (.seq 2 L)] []) (.val (.t (if r.length > 0 then .nilp else x)) []) := by
  by_cases c : r.length > 0
  · rw [if_pos c]
    let t1 : Tp pr := .b (show (decide ((↑L.length : Int) > (600 : Int))) = false by (simp; omega))
    let t4 : Tp pr := .b (show (decide ((↑r.length : Int) > (0 : Int))) = true by (simp; omega))
    exact .tp [.i (rfl : ((↑L.length : Int)) = _), t1, .a (g), .i (rfl : ((↑r.length : Int)) = _), t4] (by kernel_rfl)
  · rw [if_neg c]
    let t1 : Tp pr := .b (show (decide ((↑L.length : Int) > (600 : Int))) = false by (simp; omega))
    let t4 : Tp pr := .b (show (decide ((↑r.length : Int) > (0 : Int))) = false by simp [*])
    exact .tp [.i (rfl : ((↑L.length : Int)) = _), t1, .a (g), .i (rfl : ((↑r.length : Int)) = _), t4] (by kernel_rfl)
def toP : Option Tm → T
  | none => .nilp
  | some t => t.tp
theorem termOf_ev (l : List Cell) (h2 : l.length ≤ 1048576) : Ev pr (.call 57 [.t (.seq 2 (l.map Cell.ce))] []) (.val (.t (toP (termOf l))) []) := by
  unfold termOf
  by_cases c : l.length > 600
  · rw [if_pos c]
    exact to_long _ (by simpa using c) (by simpa using h2)
  · rw [if_neg c]
    have g := termFrom_ev 601 l (by omega) h2
    cases hr : readT 601 l with
    | none =>
      rw [hr] at g
      have := to_some (l.map Cell.ce) (by simpa using c) .nilp [] (by simp) g
      simpa [toP] using this
    | some p =>
      obtain ⟨t, r⟩ := p
      rw [hr] at g
      have e := (readT_spec 601 l t r hr).1
      have hlen : l.length = t.cells.length + r.length := by rw [e]; simp
      have := to_some (l.map Cell.ce) (by simpa using c) t.tp (r.map Cell.ce) (by simp; omega) g
      cases r with
      | nil => simpa [toP] using this
      | cons x r => simpa [toP] using this
@[local simp] theorem ints_takeC (l : List Int) : List.take l.length (ints l) = ints l := List.take_of_length_le (by simp)
def frB (out : List Int) : List Ob := [.box [.vec 1 out.length 1 0 out.length], .vec true 1 (ints out)]
theorem freeF_ev (n : Int) (s z : T) (d : Nat) (out : List Int) (hn : 0 ≤ n ∧ n ≤ 1000000) (hd : d ≤ 1000000) (ho : out.length ≤ 1000000) :
    Ev pr (.call 136 [.t (.ptr [.int .i64 1, .int .i64 n, s, z] 0), i64 d, .ptr 0 1 0 0] (frB out)) (.val (.t (.ptr [.int .i64 1, .int .i64 n, s, z] 0)) (frB (out ++ if n ≥ d then [n - d] else []))) := by
  unfold frB
  by_cases c : n ≥ d
  · rw [if_pos c]
    let t0 : Tp pr := .b (show (decide (n ≥ (↑d : Int))) = true by (simp; omega))
    let t7 : Tp pr := .i (wrap_i64 (a := n - (↑d : Int)) (by omega) (by omega))
    let t11 : Tp pr := .m (show (decide ((ints out).length = out.length ∧ (0 : Nat) + out.length ≤ out.length ∧ out.length + (1 : Nat) ≤ (4294967296 : Nat))) = true by (simp; omega))
    let t12 : Tp pr := .b (show (decide (out.length + (1 : Nat) ≤ out.length)) = false by simp)
    let t14 : Tp pr := .n .crows (show ((List.take out.length (ints out)).append (List.take (1 : Nat) (List.drop (0 : Nat) [[C.t (T.int IntKind.i64 (n - (↑d : Int)))]]))) = ints out ++ [[C.t (T.int IntKind.i64 (n - (↑d : Int)))]] by simp)
    exact .tpe [t0, .mT, .mT, .mT, .mT, .mT, .mT, t7, .mT, .mT, .mT, t11, t12, .c (rfl : (out.length + (1 : Nat)) = _), t14, .mT, .mT] (Out.val (V.t (T.ptr [T.int IntKind.i64 (1 : Int), T.int IntKind.i64 n, s, z] (0 : Nat))) [Ob.box [V.vec (1 : Nat) (out.length + (1 : Nat)) (1 : Nat) (0 : Nat) (out.length + (1 : Nat))], Ob.vec true (1 : Nat) ((ints out).append [[C.t (T.int IntKind.i64 (n - (↑d : Int)))]])]) (by kernel_rfl) (((congrArg (fun x => Out.val (V.t (T.ptr [T.int IntKind.i64 (1 : Int), T.int IntKind.i64 n, s, z] (0 : Nat))) [Ob.box [V.vec (1 : Nat) x (1 : Nat) (0 : Nat) (out.length + (1 : Nat))], Ob.vec true (1 : Nat) ((ints out).append [[C.t (T.int IntKind.i64 (n - (↑d : Int)))]])]) (show (out.length + (1 : Nat)) = ((out ++ [n - (↑d : Int)]).length) by simp [intc, ints_app, ints_cons])).trans (congrArg (fun x => Out.val (V.t (T.ptr [T.int IntKind.i64 (1 : Int), T.int IntKind.i64 n, s, z] (0 : Nat))) [Ob.box [V.vec (1 : Nat) (out ++ [n - (↑d : Int)]).length (1 : Nat) (0 : Nat) x], Ob.vec true (1 : Nat) ((ints out).append [[C.t (T.int IntKind.i64 (n - (↑d : Int)))]])]) (show (out.length + (1 : Nat)) = ((out ++ [n - (↑d : Int)]).length) by simp [intc, ints_app, ints_cons]))).trans (congrArg (fun x => Out.val (V.t (T.ptr [T.int IntKind.i64 (1 : Int), T.int IntKind.i64 n, s, z] (0 : Nat))) [Ob.box [V.vec (1 : Nat) (out ++ [n - (↑d : Int)]).length (1 : Nat) (0 : Nat) (out ++ [n - (↑d : Int)]).length], Ob.vec true (1 : Nat) x]) (show ((ints out).append [[C.t (T.int IntKind.i64 (n - (↑d : Int)))]]) = (ints (out ++ [n - (↑d : Int)])) by simp [intc, ints_app, ints_cons])))
  · rw [if_neg c, List.append_nil]
    let t0 : Tp pr := .b (show (decide (n ≥ (↑d : Int))) = false by (simp; omega))
    exact .tp [t0] (by kernel_rfl)
theorem ch_var (n : Int) (s z : T) (d : Nat) (out out' : List Int) (hd : d ≤ 1000000)
    (g : Ev pr (.call 136 [.t (.ptr [.int .i64 1, .int .i64 n, s, z] 0), i64 d, .ptr 0 1 0 0] (frB out)) (.val (.t (.ptr [.int .i64 1, .int .i64 n, s, z] 0)) (frB out'))) :
    Ev pr (.call 123 [.t (.ptr [.int .i64 1, .int .i64 n, s, z] 0), i64 d, .clo 136 [.ptr 0 1 0 0]] (frB out)) (.val (.t (.ptr [.int .i64 1, .int .i64 n, s, z] 0)) (frB out')) := by
  unfold frB at *
  exact .tp [.bT, .a (g)] (by kernel_rfl)
theorem ch_leaf (k n : Int) (hk : k ≠ 1) (z : T) (d : Nat) (out : List Int) (hd : d ≤ 1000000) :
    Ev pr (.call 123 [.t (.ptr [.int .i64 k, .int .i64 n, .seq 1 [], z] 0), i64 d, .clo 136 [.ptr 0 1 0 0]] (frB out)) (.val (.t (.ptr [.int .i64 k, .int .i64 n, .seq 1 [], z] 0)) (frB out)) := by
  unfold frB at *
  let t0 : Tp pr := .b (show (decide (k = (1 : Int))) = false by (simp; omega))
  let t1 : Tp pr := .i (rfl : ((0 : Int) : Int) = (0 : Int))
  exact .tp [t0, t1, .bT] (by kernel_rfl)
def chS (k n : Int) (z : T) (K : List Tm) (d : Nat) (dn : List Tm) (r : Nat) (out : List Int) (o : Out) : Prop :=
  Ev pr (.loop (lq pr 123 0) (at_ [(0, .t (.ptr [.int .i64 k, .int .i64 n, .seq 1 (Tm.tpL K), z] 0)), (1, i64 d), (2, .clo 136 [.ptr 0 1 0 0]), (7, .vec 2 K.length 1 0 K.length), (35, .t (.seq 1 (Tm.tpL K))), (36, i64 K.length), (37, i64 dn.length)]
    [.box [.vec 1 out.length 1 0 out.length], .vec true 1 (ints out), .vec true 1 (kcs dn r)] 2)) o
def chX (k n : Int) (z : T) (K : List Tm) (out : List Int) : Out :=
  .exit 0 (at_ [(0, .t (.ptr [.int .i64 k, .int .i64 n, .seq 1 (Tm.tpL K), z] 0)), (7, .vec 2 K.length 1 0 K.length)] [.box [.vec 1 out.length 1 0 out.length], .vec true 1 (ints out), .vec true 1 (kcs K 0)] 2)
theorem chS_end (k n : Int) (z : T) (K : List Tm) (hK : K.length ≤ 3) (d : Nat) (out : List Int) : chS k n z K d K 0 out (chX k n z K out) := by
  unfold chS chX
  let t0 : Tp pr := .b (show (decide ((↑K.length : Int) < (↑K.length : Int))) = false by simp)
  exact .tp [t0] (by kernel_rfl)
theorem chS_step (k n : Int) (z : T) (K : List Tm) (hK : K.length ≤ 3) (d : Nat) (hd : d ≤ 1000000) (dn : List Tm) (x : Tm) (r : List Tm) (e : K = dn ++ x :: r) (out out' : List Int) (o : Out)
    (g : Ev pr (.call 123 [.t x.tp, i64 ((d + bindsAt k dn.length : Nat) : Int), .clo 136 [.ptr 0 1 0 0]] (frB out)) (.val (.t x.tp) (frB out')))
    (gl : chS k n z K d (dn ++ [x]) r.length out' o) : chS k n z K d dn (r.length + 1) out o := by
  unfold chS frB at *
  rw [← kcs_snoc] at gl
  simp only [List.length_append, List.length_singleton] at gl
  have hl : K.length = dn.length + (r.length + 1) := by rw [e]; simp
  have hg : lkp (Tm.tpL K) (dn.length : Int) = some [x.tp] := by rw [e]; exact tpL_mid dn r x
  have g2 := binds_ev k dn.length (by omega)
  have hb := bindsAt_le k dn.length
  have hcast : ((d + bindsAt k dn.length : Nat) : Int) = (d : Int) + bindsAt k dn.length := by simp
  rw [hcast] at g
  generalize bindsAt k dn.length = b at *
  obtain ⟨k', n', s', e'⟩ := x.tp_cells
  rw [e'] at g gl hg
  have e1 := kcs_at dn r.length
  have e2 := kcs_set dn r.length (.ptr [.int .i64 k', .int .i64 n', s', .int .i64 x.size] 0)
  let t0 : Tp pr := .b (show (decide ((↑dn.length : Int) < (↑K.length : Int))) = true by (simp; omega))
  let t1 : Tp pr := .g .row (show (lkp (Tm.tpL K) (↑dn.length : Int)) = some ([T.ptr [T.int IntKind.i64 k', T.int IntKind.i64 n', s', T.int IntKind.i64 x.size] (0 : Nat)]) from hg)
  let t3 : Tp pr := .i (wrap_i64 (a := (↑d : Int) + (↑b : Int)) (by omega) (by omega))
  let t5 : Tp pr := .m (show (decide ((0 : Int) ≤ (↑dn.length : Int) ∧ (↑dn.length : Int).toNat < K.length)) = true by simp [*])
  let t6 : Tp pr := .c (show ((0 : Nat) + (↑dn.length : Int).toNat : Nat) = dn.length by omega)
  let t7 : Tp pr := .m (show (decide ((kcs dn (r.length + (1 : Nat))).length = K.length)) = true by simp [*])
  let t8 : Tp pr := .g .crow (show ((kcs dn (r.length + (1 : Nat)))[dn.length]?) = some ([C.t T.nilp]) from e1)
  let t9 : Tp pr := .n .crows (rfl : ((kcs dn (r.length + (1 : Nat))).set dn.length [C.t (T.ptr [T.int IntKind.i64 k', T.int IntKind.i64 n', s', T.int IntKind.i64 x.size] (0 : Nat))]) = _)
  let t10 : Tp pr := .i (wrap_i64 (a := (↑dn.length : Int) + (1 : Int)) (by omega) (by omega))
  let t11 : Tp pr := .a (Ev.castq (congrArg (fun x => Q.loop (lq pr (123 : FuncId) (0 : Nat)) (at_ [((0 : Nat), V.t (T.ptr [T.int IntKind.i64 k, T.int IntKind.i64 n, T.seq (1 : Nat) (Tm.tpL K), z] (0 : Nat))), ((1 : Nat), i64 (↑d : Int)), ((2 : Nat), V.clo (136 : Nat) [V.ptr (0 : Nat) (1 : Nat) (0 : Nat) (0 : Nat)]), ((7 : Nat), V.vec (2 : Nat) K.length (1 : Nat) (0 : Nat) K.length), ((35 : Nat), V.t (T.seq (1 : Nat) (Tm.tpL K))), ((36 : Nat), i64 (↑K.length : Int)), ((37 : Nat), i64 (↑(dn.length + (1 : Nat)) : Int))] [Ob.box [V.vec (1 : Nat) out'.length (1 : Nat) (0 : Nat) out'.length], Ob.vec true (1 : Nat) (ints out'), Ob.vec true (1 : Nat) x] (2 : Nat))) (show (List.map (List.map C.t) (Tm.tpL dn) ++ [C.t (T.ptr [T.int IntKind.i64 k', T.int IntKind.i64 n', s', T.int IntKind.i64 x.size] (0 : Nat))] :: List.replicate r.length [C.t T.nilp]) = ((kcs dn (r.length + (1 : Nat))).set dn.length [C.t (T.ptr [T.int IntKind.i64 k', T.int IntKind.i64 n', s', T.int IntKind.i64 x.size] (0 : Nat))]) by simp [*])) (gl))
  exact .tp [t0, t1, .a (g2), t3, .a (g), t5, t6, t7, t8, t9, t10, t11] (by kernel_rfl)
theorem ch_nodeM (k n : Int) (hk : k ≠ 1) (K : List Tm) (m : Nat) (hm : K.length = m) (h0 : 0 < m) (h3 : m ≤ 3) (z y : T) (d : Nat) (out out' : List Int) (hd : d ≤ 1000000)
    (g3 : Ev pr (.call 122 [i64 k, i64 n, .t (.seq 1 (Tm.tpL K))] []) (.val (.t y) []))
    (gl : Ev pr (.loop (lq pr 123 0) (at_ [(0, .t (.ptr [.int .i64 k, .int .i64 n, .seq 1 (Tm.tpL K), z] 0)), (1, i64 d), (2, .clo 136 [.ptr 0 1 0 0]), (7, .vec 2 m 1 0 m), (35, .t (.seq 1 (Tm.tpL K))), (36, i64 m), (37, i64 0)]
    [.box [.vec 1 out.length 1 0 out.length], .vec true 1 (ints out), .vec true 1 (List.replicate m [C.t .nilp])] 2)) (.exit 0 (at_ [(0, .t (.ptr [.int .i64 k, .int .i64 n, .seq 1 (Tm.tpL K), z] 0)), (7, .vec 2 m 1 0 m)] [.box [.vec 1 out'.length 1 0 out'.length], .vec true 1 (ints out'), .vec true 1 (kcs K 0)] 2))) :
    Ev pr (.call 123 [.t (.ptr [.int .i64 k, .int .i64 n, .seq 1 (Tm.tpL K), z] 0), i64 d, .clo 136 [.ptr 0 1 0 0]] (frB out)) (.val (.t y) (frB out')) := by
  unfold frB
  have hkc : (kcs K 0).length = m := by simp [hm]
  have htk : List.take m ((kcs K 0).map (List.map C.fz)) = Tm.tpL K := by rw [kcs_fz, ← hm, kcs_take]
  have hfz := kcs_fz K
  have htl := (tpL_len K).trans hm
  have hne : Tm.tpL K ≠ [] := fun e => by
    rw [e] at htl
    simp at htl
    omega
  have htt : List.take m (Tm.tpL K) = Tm.tpL K := by rw [← hm, kcs_take]
  have hm1 : ¬ (m : Int) = 0 := by omega
  generalize Tm.tpL K = TK at *
  generalize kcs K 0 = KC at *
  let t0 : Tp pr := .b (show (decide (k = (1 : Int))) = false by (simp; omega))
  let t2 : Tp pr := .b (show (decide ((↑TK.length : Int) = (0 : Int))) = false by (simp; omega))
  let t4 : Tp pr := .m (show (decide ((0 : Int) ≤ (↑TK.length : Int) ∧ (↑TK.length : Int) ≤ (↑TK.length : Int) ∧ (↑TK.length : Int) ≤ (4294967296 : Int))) = true by (simp; omega))
  let t5 : Tp pr := .c (show ((↑TK.length : Int).toNat : Nat) = TK.length by omega)
  let t6 : Tp pr := .n .crows (rfl : (List.replicate TK.length [C.t T.nilp]) = _)
  let t8 : Tp pr := .a (Ev.castq (((congrArg (fun x => Q.loop (lq pr (123 : Nat) (0 : Nat)) (at_ [((0 : Nat), V.t (T.ptr [T.int IntKind.i64 k, T.int IntKind.i64 n, T.seq (1 : Nat) TK, z] (0 : Nat))), ((1 : Nat), V.t (T.int IntKind.i64 (↑d : Int))), ((2 : Nat), V.clo (136 : Nat) [V.ptr (0 : Nat) (1 : Nat) (0 : Nat) (0 : Nat)]), ((7 : Nat), V.vec (2 : Nat) m (1 : Nat) (0 : Nat) m), ((35 : Nat), V.t (T.seq (1 : Nat) TK)), ((36 : Nat), V.t (T.int IntKind.i64 (↑m : Int))), ((37 : Nat), V.t (T.int IntKind.i64 (0 : Int)))] [Ob.box [V.vec (1 : Nat) out.length (1 : Nat) (0 : Nat) out.length], Ob.vec true (1 : Nat) (ints out), Ob.vec true (1 : Nat) (List.replicate m [C.t T.nilp])] (2 : Nat))) (show (List.replicate m [C.t T.nilp]) = (List.replicate TK.length [C.t T.nilp]) by simp [*])).trans (congrArg (fun x => Q.loop (lq pr (123 : Nat) (0 : Nat)) (at_ [((0 : Nat), V.t (T.ptr [T.int IntKind.i64 k, T.int IntKind.i64 n, T.seq (1 : Nat) TK, z] (0 : Nat))), ((1 : Nat), V.t (T.int IntKind.i64 (↑d : Int))), ((2 : Nat), V.clo (136 : Nat) [V.ptr (0 : Nat) (1 : Nat) (0 : Nat) (0 : Nat)]), ((7 : Nat), V.vec (2 : Nat) m (1 : Nat) (0 : Nat) m), ((35 : Nat), V.t (T.seq (1 : Nat) TK)), ((36 : Nat), V.t (T.int IntKind.i64 (↑m : Int))), ((37 : Nat), V.t (T.int IntKind.i64 (0 : Int)))] [Ob.box [V.vec (1 : Nat) out.length (1 : Nat) (0 : Nat) out.length], Ob.vec true (1 : Nat) (ints out), Ob.vec true (1 : Nat) (List.replicate m [C.t T.nilp])] (2 : Nat))) (show ((↑m : Int)) = ((↑TK.length : Int)) by omega))).trans (congrArg (fun x => Q.loop (lq pr (123 : Nat) (0 : Nat)) (at_ [((0 : Nat), V.t (T.ptr [T.int IntKind.i64 k, T.int IntKind.i64 n, T.seq (1 : Nat) TK, z] (0 : Nat))), ((1 : Nat), V.t (T.int IntKind.i64 (↑d : Int))), ((2 : Nat), V.clo (136 : Nat) [V.ptr (0 : Nat) (1 : Nat) (0 : Nat) (0 : Nat)]), ((7 : Nat), V.vec (2 : Nat) x (1 : Nat) (0 : Nat) x), ((35 : Nat), V.t (T.seq (1 : Nat) TK)), ((36 : Nat), V.t (T.int IntKind.i64 (↑x : Int))), ((37 : Nat), V.t (T.int IntKind.i64 (0 : Int)))] [Ob.box [V.vec (1 : Nat) out.length (1 : Nat) (0 : Nat) out.length], Ob.vec true (1 : Nat) (ints out), Ob.vec true (1 : Nat) (List.replicate x [C.t T.nilp])] (2 : Nat))) (show (m) = (TK.length) by omega))) (gl))
  let t18 : Tp pr := .m (show (decide (KC.length = m ∧ (0 : Nat) + m ≤ m)) = true by simp [*])
  let t19 : Tp pr := .n .rows (show (List.map (fun x => List.map C.fz x) (List.take m (List.drop (0 : Nat) KC))) = List.take m (List.map (fun x => List.map C.fz x) KC) by simp)
  let t20 : Tp pr := .a (Ev.castq (congrArg (fun x => Q.call (122 : FuncId) [i64 k, i64 n, V.t (T.seq (1 : Nat) x)] []) (show (TK) = (List.take m (List.map (fun x => List.map C.fz x) KC)) by simp [*])) (g3))
  exact .tp [t0, .i (rfl : ((↑TK.length : Int)) = _), t2, .i (rfl : ((↑TK.length : Int)) = _), t4, t5, t6, .i (rfl : ((↑TK.length : Int)) = _), t8, .mT, .mT, .mT, .mT, .mT, .mT, .mT, .mT, .mT, t18, t19, t20, .mT, .mT] (by kernel_rfl)
theorem ch_node (k n : Int) (hk : k ≠ 1) (x : Tm) (ks K : List Tm) (eK : K = x :: ks) (h3 : ks.length ≤ 2) (z : T) (d : Nat) (out out' : List Int) (hd : d ≤ 1000000)
    (gl : chS k n z K d [] K.length out (chX k n z K out')) :
    Ev pr (.call 123 [.t (.ptr [.int .i64 k, .int .i64 n, .seq 1 (Tm.tpL K), z] 0), i64 d, .clo 136 [.ptr 0 1 0 0]] (frB out)) (.val (.t (Tm.tp (.node k n K))) (frB out')) := by
  have hl : K.length = ks.length + 1 := by rw [eK]; simp
  have g3 := newTerm_ev k n K (by omega)
  unfold chS chX at gl
  rw [kcs_nil] at gl
  exact ch_nodeM k n hk K K.length rfl (by omega) (by omega) z _ d out out' hd g3 gl
mutual
theorem change_ev : ∀ (t : Tm) (d : Nat) (out : List Int), t.ok → d + t.cells.length ≤ 1000000 → out.length + t.cells.length ≤ 1000000 →
    Ev pr (.call 123 [.t t.tp, i64 d, .clo 136 [.ptr 0 1 0 0]] (frB out)) (.val (.t t.tp) (frB (out ++ t.frees d)))
  | .node k n [], d, out, ho, hd, hl => by
    obtain ⟨h1, h2, _⟩ := ho
    simp only [Tm.cells, Tm.cellsL, List.length_cons, List.length_nil] at hd hl
    by_cases hk : k = 1
    · subst hk
      have hn : 0 ≤ n ∧ n ≤ 99 := by simpa [cellGood] using h1
      rw [Tm.frees, if_pos rfl, Tm.tp]
      exact ch_var n _ _ d out _ (by omega) (freeF_ev n _ _ d out (by omega) (by omega) (by omega))
    · rw [Tm.frees, if_neg hk, Tm.freesL, List.append_nil]
      exact ch_leaf k n hk _ d out (by omega)
  | .node k n (x :: ks), d, out, ho, hd, hl => by
    obtain ⟨h1, h2, h3⟩ := ho
    have ha := arity_bd k
    simp only [Tm.cells, List.length_cons] at hd hl h2
    have hk : k ≠ 1 := fun e => by subst e; simp [arity] at h2; omega
    rw [Tm.frees, if_neg hk]
    exact ch_node k n hk x ks (x :: ks) rfl (by omega) _ d out _ (by omega) (changeL_ev k n _ (x :: ks) d (x :: ks) [] out rfl h3 (by simp only [List.length_cons]; omega) (by omega) (by omega))
theorem changeL_ev : ∀ (k n : Int) (z : T) (K : List Tm) (d : Nat) (rest dn : List Tm) (out : List Int), K = dn ++ rest → Tm.okL rest → K.length ≤ 3 → d + ((Tm.cellsL rest).length + 1) ≤ 1000000 → out.length + ((Tm.cellsL rest).length + 1) ≤ 1000000 →
    chS k n z K d dn rest.length out (chX k n z K (out ++ Tm.freesL k d dn.length rest))
  | k, n, z, K, d, [], dn, out, e, ho, h3, hd, hl => by
    rw [List.append_nil] at e
    subst e
    rw [Tm.freesL, List.append_nil]
    exact chS_end k n z K h3 d out
  | k, n, z, K, d, x :: rest, dn, out, e, ho, h3, hd, hl => by
    simp only [Tm.cellsL, List.length_append] at hd hl
    have hb := bindsAt_le k dn.length
    have hf := frees_len x (d + bindsAt k dn.length)
    have g := change_ev x (d + bindsAt k dn.length) out ho.1 (by omega) (by omega)
    have gl := changeL_ev k n z K d rest (dn ++ [x]) (out ++ x.frees (d + bindsAt k dn.length)) (by rw [e]; simp) ho.2 h3 (by omega) (by simp; omega)
    refine chS_step k n z K h3 d (by omega) dn x rest e out _ _ g ?_
    rw [Tm.freesL]
    simpa using gl
end
end Go.Ev

namespace Go.Ev
set_option linter.unusedVariables false
set_option linter.unusedSimpArgs false
open Go.Proofs
set_option maxRecDepth 100000
set_option maxHeartbeats 4000000
def dd : Int → List Int → List Int
  | _, [] => []
  | a, x :: r => if x = a then dd a r else x :: dd x r
def cpt : List Int → List Int
  | [] => []
  | a :: r => a :: dd a r
theorem dd_len : ∀ (a : Int) (l : List Int), (dd a l).length ≤ l.length
  | a, [] => by simp [dd]
  | a, x :: r => by
    have h1 := dd_len a r
    have h2 := dd_len x r
    unfold dd
    split <;> simp <;> omega
def c2S (s : List Int) (n k off k2 : Nat) (o : Out) : Prop :=
  Ev pr (.loop (lq pr 138 1) (at_ [(0, .vec 0 n 1 0 n), (3, i64 k), (4, .vec 0 n 1 off (n - off)), (5, i64 (k2 + 1 : Nat))] [.vec true 1 (ints s)] 1)) o
theorem c2_end (s : List Int) (n k off k2 : Nat) (hn : s.length = n) (hb : n ≤ 1000000) (h : off + (k2 + 1) = n) : c2S s n k off k2 (.exit 2 (at_ [(0, .vec 0 n 1 0 n), (3, i64 k)] [.vec true 1 (ints s)] 1)) := by
  unfold c2S
  subst hn
  let t0 : Tp pr := .i (rfl : ((↑(s.length - off) : Int)) = _)
  let t1 : Tp pr := .b (show (decide ((↑(k2 + (1 : Nat)) : Int) < (↑(s.length - off) : Int))) = false by (simp; omega))
  exact .tp [t0, t1] (by kernel_rfl)
theorem c2_step (s : List Int) (n k off k2 : Nat) (hn : s.length = n) (hb : n ≤ 1000000) (h : off + (k2 + 1) < n) (hk : k < n) (a x : Int) (e1 : (ints s)[off + k2]? = some [C.t (.int .i64 a)]) (e2 : (ints s)[off + (k2 + 1)]? = some [C.t (.int .i64 x)]) (o : Out)
    (g1 : x = a → c2S s n k off (k2 + 1) o) (g2 : x ≠ a → c2S (s.set k x) n (k + 1) off (k2 + 1) o) : c2S s n k off k2 o := by
  unfold c2S at *
  subst hn
  have e3 : ∃ y, (ints s)[k]? = some [C.t (.int .i64 y)] := ⟨s[k], by simp [ints, intc, hk]⟩
  obtain ⟨y, e3⟩ := e3
  have e4 : (ints s).set k [C.t (.int .i64 x)] = ints (s.set k x) := by simp [ints, intc, List.map_set]
  by_cases c : x = a
  · have g := g1 c
    clear g1 g2
    let t0 : Tp pr := .i (rfl : ((↑(s.length - off) : Int)) = _)
    let t1 : Tp pr := .b (show (decide ((↑(k2 + (1 : Nat)) : Int) < (↑(s.length - off) : Int))) = true by (simp; omega))
    let t4 : Tp pr := .m (show (decide ((0 : Int) ≤ (↑(k2 + (1 : Nat)) : Int) ∧ (↑(k2 + (1 : Nat)) : Int).toNat < s.length - off)) = true by (simp; omega))
    let t5 : Tp pr := .c (show (off + (↑(k2 + (1 : Nat)) : Int).toNat : Nat) = off + (k2 + (1 : Nat)) by omega)
    let t7 : Tp pr := .m (show (decide ((ints s).length = s.length)) = true by simp)
    let t8 : Tp pr := .g .crow (show ((ints s)[off + (k2 + (1 : Nat))]?) = some ([C.t (T.int IntKind.i64 x)]) from e2)
    let t12 : Tp pr := .i (wrap_i64 (a := (↑(k2 + (1 : Nat)) : Int) - (1 : Int)) (by omega) (by omega))
    let t14 : Tp pr := .m (show (decide ((0 : Int) ≤ (↑(k2 + (1 : Nat)) : Int) - (1 : Int) ∧ ((↑(k2 + (1 : Nat)) : Int) - (1 : Int)).toNat < s.length - off)) = true by (simp; omega))
    let t15 : Tp pr := .c (show (off + ((↑(k2 + (1 : Nat)) : Int) - (1 : Int)).toNat : Nat) = off + k2 by omega)
    let t18 : Tp pr := .g .crow (show ((ints s)[off + k2]?) = some ([C.t (T.int IntKind.i64 a)]) from e1)
    let t21 : Tp pr := .b (show (x != a) = false by (simp; omega))
    let t22 : Tp pr := .i (wrap_i64 (a := (↑(k2 + (1 : Nat)) : Int) + (1 : Int)) (by omega) (by omega))
    exact .tp [t0, t1, .mT, .mT, t4, t5, .mT, t7, t8, .mT, .mT, .mT, t12, .mT, t14, t15, .mT, t7, t18, .mT, .mT, t21, t22, .a (g)] (by kernel_rfl)
  · have g := g2 c
    clear g1 g2
    let t0 : Tp pr := .i (rfl : ((↑(s.length - off) : Int)) = _)
    let t1 : Tp pr := .b (show (decide ((↑(k2 + (1 : Nat)) : Int) < (↑(s.length - off) : Int))) = true by (simp; omega))
    let t4 : Tp pr := .m (show (decide ((0 : Int) ≤ (↑(k2 + (1 : Nat)) : Int) ∧ (↑(k2 + (1 : Nat)) : Int).toNat < s.length - off)) = true by (simp; omega))
    let t5 : Tp pr := .c (show (off + (↑(k2 + (1 : Nat)) : Int).toNat : Nat) = off + (k2 + (1 : Nat)) by omega)
    let t7 : Tp pr := .m (show (decide ((ints s).length = s.length)) = true by simp)
    let t8 : Tp pr := .g .crow (show ((ints s)[off + (k2 + (1 : Nat))]?) = some ([C.t (T.int IntKind.i64 x)]) from e2)
    let t12 : Tp pr := .i (wrap_i64 (a := (↑(k2 + (1 : Nat)) : Int) - (1 : Int)) (by omega) (by omega))
    let t14 : Tp pr := .m (show (decide ((0 : Int) ≤ (↑(k2 + (1 : Nat)) : Int) - (1 : Int) ∧ ((↑(k2 + (1 : Nat)) : Int) - (1 : Int)).toNat < s.length - off)) = true by (simp; omega))
    let t15 : Tp pr := .c (show (off + ((↑(k2 + (1 : Nat)) : Int) - (1 : Int)).toNat : Nat) = off + k2 by omega)
    let t18 : Tp pr := .g .crow (show ((ints s)[off + k2]?) = some ([C.t (T.int IntKind.i64 a)]) from e1)
    let t21 : Tp pr := .b (show (x != a) = true by (simp; omega))
    let t26 : Tp pr := .m (show (decide ((0 : Int) ≤ (↑k : Int) ∧ (↑k : Int).toNat < s.length)) = true by simp [*])
    let t27 : Tp pr := .c (show ((0 : Nat) + (↑k : Int).toNat : Nat) = k by omega)
    let t29 : Tp pr := .g .crow (show ((ints s)[k]?) = some ([C.t (T.int IntKind.i64 y)]) from e3)
    let t30 : Tp pr := .n .crows (show ((ints s).set k [C.t (T.int IntKind.i64 x)]) = ints (s.set k x) by simp)
    let t31 : Tp pr := .i (wrap_i64 (a := (↑k : Int) + (1 : Int)) (by omega) (by omega))
    let t32 : Tp pr := .i (wrap_i64 (a := (↑(k2 + (1 : Nat)) : Int) + (1 : Int)) (by omega) (by omega))
    exact .tp [t0, t1, .mT, .mT, t4, t5, .mT, t7, t8, .mT, .mT, .mT, t12, .mT, t14, t15, .mT, t7, t18, .mT, .mT, t21, t4, t5, t7, t8, t26, t27, t7, t29, t30, t31, t32, .a (g)] (by kernel_rfl)
def c1S (s : List Int) (n k : Nat) (o : Out) : Prop :=
  Ev pr (.loop (lq pr 138 0) (at_ [(0, .vec 0 n 1 0 n), (3, i64 (k + 1 : Nat))] [.vec true 1 (ints s)] 1)) o
theorem c1_end (s : List Int) (n k : Nat) (hn : s.length = n) (hb : n ≤ 1000000) (h : k + 1 = n) : c1S s n k (.exit 0 (at_ [(0, .vec 0 n 1 0 n)] [.vec true 1 (ints s)] 1)) := by
  unfold c1S
  subst hn
  let t1 : Tp pr := .b (show (decide ((↑(k + (1 : Nat)) : Int) < (↑s.length : Int))) = false by (simp; omega))
  exact .tp [.i (rfl : ((↑s.length : Int)) = _), t1] (by kernel_rfl)
theorem c1_next (s : List Int) (n k : Nat) (hn : s.length = n) (hb : n ≤ 1000000) (h : k + 1 < n) (a x : Int) (hx : x ≠ a) (e1 : (ints s)[k]? = some [C.t (.int .i64 a)]) (e2 : (ints s)[k + 1]? = some [C.t (.int .i64 x)]) (o : Out)
    (g1 : c1S s n (k + 1) o) : c1S s n k o := by
  unfold c1S at *
  subst hn
  let t1 : Tp pr := .b (show (decide ((↑(k + (1 : Nat)) : Int) < (↑s.length : Int))) = true by (simp; omega))
  let t4 : Tp pr := .m (show (decide ((0 : Int) ≤ (↑(k + (1 : Nat)) : Int) ∧ (↑(k + (1 : Nat)) : Int).toNat < s.length)) = true by (simp; omega))
  let t5 : Tp pr := .c (show ((0 : Nat) + (↑(k + (1 : Nat)) : Int).toNat : Nat) = k + (1 : Nat) by omega)
  let t7 : Tp pr := .m (show (decide ((ints s).length = s.length)) = true by simp)
  let t8 : Tp pr := .g .crow (show ((ints s)[k + (1 : Nat)]?) = some ([C.t (T.int IntKind.i64 x)]) from e2)
  let t12 : Tp pr := .i (wrap_i64 (a := (↑(k + (1 : Nat)) : Int) - (1 : Int)) (by omega) (by omega))
  let t14 : Tp pr := .m (show (decide ((0 : Int) ≤ (↑(k + (1 : Nat)) : Int) - (1 : Int) ∧ ((↑(k + (1 : Nat)) : Int) - (1 : Int)).toNat < s.length)) = true by (simp; omega))
  let t15 : Tp pr := .c (show ((0 : Nat) + ((↑(k + (1 : Nat)) : Int) - (1 : Int)).toNat : Nat) = k by omega)
  let t18 : Tp pr := .g .crow (show ((ints s)[k]?) = some ([C.t (T.int IntKind.i64 a)]) from e1)
  let t21 : Tp pr := .b (show (decide (x = a)) = false by (simp; omega))
  let t22 : Tp pr := .i (wrap_i64 (a := (↑(k + (1 : Nat)) : Int) + (1 : Int)) (by omega) (by omega))
  exact .tp [.i (rfl : ((↑s.length : Int)) = _), t1, .mT, .mT, t4, t5, .mT, t7, t8, .mT, .mT, .mT, t12, .mT, t14, t15, .mT, t7, t18, .mT, .mT, t21, t22, .a (g1)] (by kernel_rfl)
theorem c1_dup (s : List Int) (n k : Nat) (hn : s.length = n) (hb : n ≤ 1000000) (h : k + 1 < n) (a : Int) (e1 : (ints s)[k]? = some [C.t (.int .i64 a)]) (e2 : (ints s)[k + 1]? = some [C.t (.int .i64 a)]) (s' : List Int) (k' : Nat) (hn' : s'.length = n) (hk : k' ≤ n)
    (g1 : c2S s n (k + 1) (k + 1) 0 (.exit 2 (at_ [(0, .vec 0 n 1 0 n), (3, i64 k')] [.vec true 1 (ints s')] 1))) :
    c1S s n k (.ret (at_ [(2, .vec 0 n 1 0 k')] [.vec true 1 (ints (s'.take k') ++ List.replicate (n - k') [C.t (.int .i64 0)])] 1)) := by
  unfold c1S c2S at *
  subst hn
  have e3 : (ints s').take k' = ints (s'.take k') := by simp [ints, List.map_take]
  have e5 : (ints s').drop (k' + (s.length - k')) = [] := List.drop_of_length_le (by simp; omega)
  let t1 : Tp pr := .b (show (decide ((↑(k + (1 : Nat)) : Int) < (↑s.length : Int))) = true by (simp; omega))
  let t4 : Tp pr := .m (show (decide ((0 : Int) ≤ (↑(k + (1 : Nat)) : Int) ∧ (↑(k + (1 : Nat)) : Int).toNat < s.length)) = true by (simp; omega))
  let t5 : Tp pr := .c (show ((0 : Nat) + (↑(k + (1 : Nat)) : Int).toNat : Nat) = k + (1 : Nat) by omega)
  let t7 : Tp pr := .m (show (decide ((ints s).length = s.length)) = true by simp)
  let t8 : Tp pr := .g .crow (show ((ints s)[k + (1 : Nat)]?) = some ([C.t (T.int IntKind.i64 a)]) from e2)
  let t12 : Tp pr := .i (wrap_i64 (a := (↑(k + (1 : Nat)) : Int) - (1 : Int)) (by omega) (by omega))
  let t14 : Tp pr := .m (show (decide ((0 : Int) ≤ (↑(k + (1 : Nat)) : Int) - (1 : Int) ∧ ((↑(k + (1 : Nat)) : Int) - (1 : Int)).toNat < s.length)) = true by (simp; omega))
  let t15 : Tp pr := .c (show ((0 : Nat) + ((↑(k + (1 : Nat)) : Int) - (1 : Int)).toNat : Nat) = k by omega)
  let t18 : Tp pr := .g .crow (show ((ints s)[k]?) = some ([C.t (T.int IntKind.i64 a)]) from e1)
  let t21 : Tp pr := .b (show (decide (a = a)) = true by simp)
  let t22 : Tp pr := .m (show (decide ((0 : Int) ≤ (↑(k + (1 : Nat)) : Int) ∧ (↑(k + (1 : Nat)) : Int) ≤ (↑s.length : Int) ∧ (0 : Nat) + (↑s.length : Int).toNat ≤ s.length)) = true by (simp; omega))
  let t24 : Tp pr := .c (show ((↑s.length : Int).toNat - (↑(k + (1 : Nat)) : Int).toNat : Nat) = s.length - (k + (1 : Nat)) by omega)
  let t26 : Tp pr := .m (show (decide ((0 : Int) ≤ (↑k' : Int) ∧ (↑k' : Int) ≤ (↑s.length : Int) ∧ (0 : Nat) + (↑s.length : Int).toNat ≤ s.length)) = true by simp [*])
  let t27 : Tp pr := .c (show ((0 : Nat) + (↑k' : Int).toNat : Nat) = k' by omega)
  let t28 : Tp pr := .c (show ((↑s.length : Int).toNat - (↑k' : Int).toNat : Nat) = s.length - k' by omega)
  let t29 : Tp pr := .m (show (decide ((ints s').length = s.length ∧ k' + (s.length - k') ≤ s.length)) = true by simp [*])
  let t30 : Tp pr := .n .crows (show (((List.take k' (ints s')).append (List.replicate (s.length - k') [C.t (T.int IntKind.i64 (0 : Int))])).append (List.drop (k' + (s.length - k')) (ints s'))) = List.take k' (ints s') ++ (List.replicate (s.length - k') [C.t (T.int IntKind.i64 (0 : Int))] ++ List.drop (k' + (s.length - k')) (ints s')) by simp)
  let t31 : Tp pr := .m (show (decide ((0 : Int) ≤ (0 : Int) ∧ (0 : Int) ≤ (↑k' : Int) ∧ (0 : Nat) + (↑k' : Int).toNat ≤ s.length)) = true by simp [*])
  let t33 : Tp pr := .c (show ((↑k' : Int).toNat - (0 : Nat) : Nat) = k' by omega)
  exact .tpe [.i (rfl : ((↑s.length : Int)) = _), t1, .mT, .mT, t4, t5, .mT, t7, t8, .mT, .mT, .mT, t12, .mT, t14, t15, .mT, t7, t18, .mT, .mT, t21, t22, t5, t24, .a (g1), t26, t27, t28, t29, t30, t31, .c (rfl : ((0 : Nat)) = _), t33] (Out.ret (at_ [((2 : Nat), V.vec (0 : Nat) s.length (1 : Nat) (0 : Nat) k')] [Ob.vec true (1 : Nat) ((List.take k' (ints s')).append ((List.replicate (s.length - k') [C.t (T.int IntKind.i64 (0 : Int))]).append (List.drop (k' + (s.length - k')) (ints s'))))] (1 : Nat))) (by kernel_rfl) (congrArg (fun x => Out.ret (at_ [((2 : Nat), V.vec (0 : Nat) s.length (1 : Nat) (0 : Nat) k')] [Ob.vec true (1 : Nat) x] (1 : Nat))) (show ((List.take k' (ints s')).append ((List.replicate (s.length - k') [C.t (T.int IntKind.i64 (0 : Int))]).append (List.drop (k' + (s.length - k')) (ints s')))) = ((ints (List.take k' s')).append (List.replicate (s.length - k') [C.t (T.int IntKind.i64 (0 : Int))])) by simp [*]))
theorem ints_getM (P : List Int) (x : Int) (r : List Int) : (ints (P ++ x :: r))[P.length]? = some [C.t (.int .i64 x)] := by simp [ints, intc]
theorem c2_all : ∀ (R P G : List Int) (a : Int) (n off k2 : Nat) (s : List Int), s = P ++ (G ++ a :: R) → s.length = n → n ≤ 1000000 → off + k2 = P.length + G.length →
    ∃ s', c2S s n P.length off k2 (.exit 2 (at_ [(0, .vec 0 n 1 0 n), (3, i64 ((P ++ dd a R).length : Nat))] [.vec true 1 (ints s')] 1)) ∧ s'.length = n ∧ s'.take (P ++ dd a R).length = P ++ dd a R
  | [], P, G, a, n, off, k2, s, hs, hn, hb, hk => by
    refine ⟨s, ?_, hn, ?_⟩
    · simp only [dd, List.append_nil]
      refine c2_end s n P.length off k2 hn hb ?_
      rw [← hn, hs]
      simp
      omega
    · simp [dd, hs]
  | x :: R, P, G, a, n, off, k2, s, hs, hn, hb, hk => by
    have hl : s.length = P.length + (G.length + (R.length + 2)) := by rw [hs]; simp
    have e1 : (ints s)[off + k2]? = some [C.t (.int .i64 a)] := by
      have := ints_getM (P ++ G) a (x :: R)
      rw [List.length_append, List.append_assoc] at this
      rw [hk, hs]; exact this
    have e2 : (ints s)[off + (k2 + 1)]? = some [C.t (.int .i64 x)] := by
      have := ints_getM (P ++ G ++ [a]) x R
      simp only [List.length_append, List.length_singleton, List.append_assoc, List.singleton_append] at this
      rw [show off + (k2 + 1) = P.length + (G.length + 1) by omega, hs]; exact this
    by_cases c : x = a
    · subst c
      obtain ⟨s', g, h1, h2⟩ := c2_all R P (G ++ [x]) x n off (k2 + 1) s (by rw [hs]; simp) hn hb (by simp; omega)
      have ed : dd x (x :: R) = dd x R := by simp [dd]
      rw [ed]
      exact ⟨s', c2_step s n P.length off k2 hn hb (by omega) (by omega) x x e1 e2 _ (fun _ => g) (fun h => absurd rfl h), h1, h2⟩
    · obtain ⟨h, H, e⟩ : ∃ h H, G ++ [a] = h :: H := by
        cases G with
        | nil => exact ⟨a, [], rfl⟩
        | cons g G => exact ⟨g, G ++ [a], rfl⟩
      have hHl : H.length = G.length := by have := congrArg List.length e; simp at this; omega
      have es : s = P ++ (h :: (H ++ x :: R)) := by
        rw [hs, show G ++ a :: x :: R = (G ++ [a]) ++ x :: R by simp, e]; rfl
      have eset : s.set P.length x = (P ++ [x]) ++ (H ++ x :: R) := by rw [es]; simp
      obtain ⟨s', g, h1, h2⟩ := c2_all R (P ++ [x]) H x n off (k2 + 1) (s.set P.length x) eset (by simpa using hn) hb (by simp; omega)
      have ed : dd a (x :: R) = x :: dd x R := by simp [dd, c]
      rw [ed]
      simp only [List.append_assoc, List.singleton_append, List.length_append, List.length_singleton] at g h2
      refine ⟨s', c2_step s n P.length off k2 hn hb (by omega) (by omega) a x e1 e2 _ (fun h => absurd h c) (fun _ => ?_), h1, ?_⟩
      · simp only [List.length_append, List.length_cons] at g ⊢
        exact g
      · simp only [List.length_append, List.length_cons] at h2 ⊢
        exact h2
theorem c1_all : ∀ (R P : List Int) (a : Int) (n : Nat) (s : List Int), s = P ++ a :: R → s.length = n → n ≤ 1000000 →
    (dd a R = R ∧ c1S s n P.length (.exit 0 (at_ [(0, .vec 0 n 1 0 n)] [.vec true 1 (ints s)] 1))) ∨
    c1S s n P.length (.ret (at_ [(2, .vec 0 n 1 0 (P ++ a :: dd a R).length)] [.vec true 1 (ints (P ++ a :: dd a R) ++ List.replicate (n - (P ++ a :: dd a R).length) [C.t (.int .i64 0)])] 1))
  | [], P, a, n, s, hs, hn, hb => .inl ⟨rfl, c1_end s n P.length hn hb (by rw [← hn, hs]; simp)⟩
  | x :: R, P, a, n, s, hs, hn, hb => by
    have hl : s.length = P.length + (R.length + 2) := by rw [hs]; simp
    have e1 : (ints s)[P.length]? = some [C.t (.int .i64 a)] := by rw [hs]; exact ints_getM P a _
    have e2 : (ints s)[P.length + 1]? = some [C.t (.int .i64 x)] := by
      have := ints_getM (P ++ [a]) x R
      simp only [List.length_append, List.length_singleton, List.append_assoc, List.singleton_append] at this
      rw [hs]; exact this
    by_cases c : x = a
    · subst c
      right
      obtain ⟨s', g, h1, h2⟩ := c2_all R (P ++ [x]) [] x n (P.length + 1) 0 s (by rw [hs]; simp) hn hb (by simp)
      have ed : dd x (x :: R) = dd x R := by simp [dd]
      have hd := dd_len x R
      simp only [List.length_append, List.length_singleton, List.append_assoc, List.singleton_append] at g h2
      have := c1_dup s n P.length hn hb (by omega) x e1 e2 s' (P ++ x :: dd x R).length h1 (by simp; omega) (by simpa using g)
      rw [ed]
      simp only [List.length_append, List.length_cons] at this h2 ⊢
      rw [show P.length + ((dd x R).length + 1) = P.length + 1 + (dd x R).length by omega] at this h2 ⊢
      rw [h2] at this
      exact this
    · have ed : dd a (x :: R) = x :: dd x R := by simp [dd, c]
      rcases c1_all R (P ++ [a]) x n s (by rw [hs]; simp) hn hb with ⟨h1, g⟩ | g
      · left
        refine ⟨by rw [ed, h1], ?_⟩
        rw [List.length_append, List.length_singleton] at g
        exact c1_next s n P.length hn hb (by omega) a x c e1 e2 _ g
      · right
        rw [ed]
        simp only [List.append_assoc, List.singleton_append] at g
        refine c1_next s n P.length hn hb (by omega) a x c e1 e2 _ ?_
        simpa using g
theorem cp_short (l : List Int) (h : l.length < 2) : Ev pr (.call 138 [.vec 0 l.length 1 0 l.length] [.vec true 1 (ints l)]) (.val (.vec 0 l.length 1 0 l.length) [.vec true 1 (ints l)]) := by
  let t1 : Tp pr := .b (show (decide ((↑l.length : Int) < (2 : Int))) = true by (simp; omega))
  exact .tp [.i (rfl : ((↑l.length : Int)) = _), t1] (by kernel_rfl)
theorem cp_exit (l : List Int) (h : ¬ l.length < 2) (hb : l.length ≤ 1000000) (g : c1S l l.length 0 (.exit 0 (at_ [(0, .vec 0 l.length 1 0 l.length)] [.vec true 1 (ints l)] 1))) :
    Ev pr (.call 138 [.vec 0 l.length 1 0 l.length] [.vec true 1 (ints l)]) (.val (.vec 0 l.length 1 0 l.length) [.vec true 1 (ints l)]) := by
  unfold c1S at g
  let t1 : Tp pr := .b (show (decide ((↑l.length : Int) < (2 : Int))) = false by (simp; omega))
  exact .tp [.i (rfl : ((↑l.length : Int)) = _), t1, .a (g)] (by kernel_rfl)
theorem cp_ret (l : List Int) (h : ¬ l.length < 2) (hb : l.length ≤ 1000000) (k : Nat) (es : List (List C)) (g : c1S l l.length 0 (.ret (at_ [(2, .vec 0 l.length 1 0 k)] [.vec true 1 es] 1))) :
    Ev pr (.call 138 [.vec 0 l.length 1 0 l.length] [.vec true 1 (ints l)]) (.val (.vec 0 l.length 1 0 k) [.vec true 1 es]) := by
  unfold c1S at g
  let t1 : Tp pr := .b (show (decide ((↑l.length : Int) < (2 : Int))) = false by (simp; omega))
  exact .tp [.i (rfl : ((↑l.length : Int)) = _), t1, .a (g)] (by kernel_rfl)
theorem compact_spec (l : List Int) (hb : l.length ≤ 1000000) : ∃ jk : List (List C), (ints (cpt l) ++ jk).length = l.length ∧
    Ev pr (.call 138 [.vec 0 l.length 1 0 l.length] [.vec true 1 (ints l)]) (.val (.vec 0 l.length 1 0 (cpt l).length) [.vec true 1 (ints (cpt l) ++ jk)]) := by
  by_cases h : l.length < 2
  · have e : cpt l = l := by
      cases l with
      | nil => rfl
      | cons a r =>
        cases r with
        | nil => rfl
        | cons b r => simp only [List.length_cons] at h; omega
    refine ⟨[], by rw [e]; simp, ?_⟩
    rw [e, List.append_nil]
    exact cp_short l h
  · cases l with
    | nil => simp at h
    | cons a r =>
      have hd := dd_len a r
      rcases c1_all r [] a (a :: r).length (a :: r) rfl rfl hb with ⟨h1, g⟩ | g
      · refine ⟨[], by simp [cpt, h1], ?_⟩
        have e : cpt (a :: r) = a :: r := by simp [cpt, h1]
        rw [e, List.append_nil]
        exact cp_exit _ h hb g
      · refine ⟨List.replicate ((a :: r).length - (a :: dd a r).length) [C.t (.int .i64 0)], by simp [cpt]; omega, ?_⟩
        exact cp_ret _ h hb _ _ g
theorem srt_ints (l : List Int) (h : l.length ≤ 1000000) (hl : l ≠ []) : sortPrim [.vec 0 l.length 1 0 l.length] [.vec true 1 (ints l)] = some (.tup [], [.vec true 1 (ints (srt l))]) := by
  have h0 : l.length ≠ 0 := fun e => hl (List.length_eq_zero_iff.1 e)
  show (if l.length = l.length ∧ (ints l).length = l.length ∧ l.length ≤ 1048576 then (if l.length = 0 then some (V.tup [], [Ob.vec true 1 []]) else (intsOf (ints l)).map fun zs => (V.tup [], [Ob.vec true 1 ((srt zs).map fun n => [C.t (.int .i64 n)])])) else none) = _
  rw [if_pos ⟨rfl, by simp, by omega⟩, if_neg h0]
  have : ints l = l.map fun n => [C.t (.int .i64 n)] := by simp [ints, intc]
  rw [this, intsOf_map]
  simp [ints, intc]
theorem sort_ev (l : List Int) (h : l.length ≤ 1000000) : Ev pr (.call 137 [.vec 0 l.length 1 0 l.length] [.vec true 1 (ints l)]) (.val (.tup []) [.vec true 1 (ints (srt l))]) := by
  refine Ev.prim (p := sortPrim) (by kernel_rfl) rfl ?_
  by_cases hl : l = []
  · subst hl; simp [sortPrim, srt, ints]
  · exact srt_ints l h hl
@[local simp] theorem ints_takeJ (l : List Int) (c : List (List C)) : List.take l.length (ints l ++ c) = ints l := List.take_left' (by simp)
def frs (t : Tm) : List Int := cpt (srt (t.frees 0))
theorem frs_nil (t : Tm) : (frs t).length = 0 ↔ t.frees 0 = [] := by
  unfold frs
  constructor
  · intro h
    cases h2 : srt (t.frees 0) with
    | nil =>
      have := srt_len (t.frees 0)
      rw [h2] at this
      exact List.length_eq_zero_iff.1 this.symm
    | cons a r => rw [h2] at h; simp [cpt] at h
  · intro h
    rw [h]
    simp [srt, cpt]
theorem freeM (t : Tm) (out : List Int) (hb : out.length ≤ 1000000) (g : Ev pr (.call 123 [.t t.tp, i64 0, .clo 136 [.ptr 0 1 0 0]] (frB [])) (.val (.t t.tp) (frB out)))
    (gs : Ev pr (.call 137 [.vec 0 out.length 1 0 out.length] [.vec true 1 (ints out)]) (.val (.tup []) [.vec true 1 (ints (srt out))]))
    (jk : List (List C)) (hj : (ints (cpt (srt out)) ++ jk).length = out.length)
    (gc : Ev pr (.call 138 [.vec 0 out.length 1 0 out.length] [.vec true 1 (ints (srt out))]) (.val (.vec 0 out.length 1 0 (cpt (srt out)).length) [.vec true 1 (ints (cpt (srt out)) ++ jk)])) :
    Ev pr (.call 70 [.t t.tp] []) (.val (isq (cpt (srt out))) []) := by
  obtain ⟨k', n', s', e'⟩ := t.tp_cells
  rw [e'] at g ⊢
  unfold frB at g
  have hl : (cpt (srt out)).length ≤ out.length := by rw [← hj]; simp
  have e1 : (ints [] : List (List C)) = [] := rfl
  have hsl : (srt out).length = out.length := srt_len out
  generalize cpt (srt out) = L at *
  generalize srt out = S at *
  rw [e1] at g
  simp only [List.length_nil] at g
  let t3 : Tp pr := .m (show (decide (((ints L).append jk).length = out.length ∧ (0 : Nat) + L.length ≤ out.length)) = true by simp [*])
  let t4 : Tp pr := .n .rows (show (List.map (fun x => List.map C.fz x) (List.take L.length (List.drop (0 : Nat) ((ints L).append jk)))) = List.map intt L by simp)
  exact .tp [.a (g), .a (gs), .a (gc), t3, t4] (by kernel_rfl)
theorem free_ev (t : Tm) (ho : t.ok) (hl : t.cells.length ≤ 1000) : Ev pr (.call 70 [.t t.tp] []) (.val (isq (frs t)) []) := by
  have g := change_ev t 0 [] ho (by omega) (by simp; omega)
  rw [List.nil_append] at g
  have hf := frees_len t 0
  have gs := sort_ev (t.frees 0) (by omega)
  obtain ⟨jk, hj, gc⟩ := compact_spec (srt (t.frees 0)) (by rw [srt_len]; omega)
  rw [srt_len] at hj gc
  exact freeM t (t.frees 0) (by omega) g gs jk hj gc
end Go.Ev

namespace Go.Ev
set_option linter.unusedVariables false
set_option linter.unusedSimpArgs false
open Go.Proofs
set_option maxRecDepth 100000
set_option maxHeartbeats 4000000
def mB (cells : List Cell) (S B : List Int) : List Ob :=
  [.box [.t (.seq 2 (cells.map Cell.ce)), .vec 1 S.length 1 0 S.length, .vec 2 B.length 1 0 B.length, bl false, i64 0, i64 (-1), i64 (-1), .t .nils, .t .nils, .t .nils, bl false], .vec true 1 (ints S), .vec true 1 (ints B)]
def mS (cells : List Cell) (S B : List Int) (p d q m i : Nat) (o : Out) : Prop :=
  Ev pr (.loop (lq pr 102 0) (at_ [(0, .ptr 0 1 0 0), (1, i64 p), (2, i64 d), (6, i64 q), (25, i64 m), (26, i64 i)] (mB cells S B) 3)) o
theorem mS_end (cells : List Cell) (S B : List Int) (p d q m : Nat) : mS cells S B p d q m m (.exit 0 (at_ [(0, .ptr 0 1 0 0), (1, i64 p), (6, i64 q)] (mB cells S B) 3)) := by
  unfold mS mB
  let t0 : Tp pr := .b (show (decide ((↑m : Int) < (↑m : Int))) = false by simp)
  exact .tp [t0] (by kernel_rfl)
theorem mS_step (cells : List Cell) (S B S' B' : List Int) (p d q m i : Nat) (c : Cell) (hc : lkp (cells.map Cell.ce) (p : Int) = some c.ce) (hS : S.length = cells.length) (hB : B.length = cells.length) (hS' : S'.length = cells.length) (hB' : B'.length = cells.length)
    (hb : cells.length ≤ 600) (hd : d ≤ 1000) (hi : i < m) (hm : m ≤ 3) (hq : q < cells.length) (s : Nat) (hs : s ≤ 600) (hg : S'[q]? = some (s : Int))
    (g : Ev pr (.call 102 [.ptr 0 1 0 0, i64 q, i64 ((d + bindsAt c.kind i : Nat) : Int)] (mB cells S B)) (.val (.tup []) (mB cells S' B'))) (o : Out)
    (gl : mS cells S' B' p d (q + s) m (i + 1) o) : mS cells S B p d q m i o := by
  unfold mS mB at *
  have hbd := bindsAt_le c.kind i
  have g2 := binds_ev c.kind i (by omega)
  have hcast : ((d + bindsAt c.kind i : Nat) : Int) = (d : Int) + bindsAt c.kind i := by simp
  rw [hcast] at g
  generalize bindsAt c.kind i = b at *
  have e3 : (ints S')[q]? = some [C.t (.int .i64 s)] := by simp [ints, intc, hg]
  obtain ⟨ck, cn⟩ := c
  rw [hS, hB] at g ⊢
  rw [hS', hB'] at g gl
  let t0 : Tp pr := .b (show (decide ((↑i : Int) < (↑m : Int))) = true by (simp; omega))
  let t1 : Tp pr := .g .row (show (lkp (List.map Cell.ce cells) (↑p : Int)) = some ((Cell.mk ck cn).ce) from hc)
  let t3 : Tp pr := .i (wrap_i64 (a := (↑d : Int) + (↑b : Int)) (by omega) (by omega))
  let t5 : Tp pr := .m (show (decide ((0 : Int) ≤ (↑q : Int) ∧ (↑q : Int).toNat < cells.length)) = true by simp [*])
  let t6 : Tp pr := .c (show ((0 : Nat) + (↑q : Int).toNat : Nat) = q by omega)
  let t7 : Tp pr := .m (show (decide ((ints S').length = cells.length)) = true by simp [*])
  let t8 : Tp pr := .g .crow (show ((ints S')[q]?) = some ([C.t (T.int IntKind.i64 (↑s : Int))]) from e3)
  let t9 : Tp pr := .i (wrap_i64 (a := (↑q : Int) + (↑s : Int)) (by omega) (by omega))
  let t10 : Tp pr := .i (wrap_i64 (a := (↑i : Int) + (1 : Int)) (by omega) (by omega))
  exact .tp [t0, t1, .a (g2), t3, .a (g), t5, t6, t7, t8, t9, t10, .a (gl)] (by kernel_rfl)
def msN (cells : List Cell) (S B : List Int) (p d : Nat) (S' B' : List Int) : Prop :=
  Ev pr (.call 102 [.ptr 0 1 0 0, i64 p, i64 d] (mB cells S B)) (.val (.tup []) (mB cells S' B'))
theorem ms_node (cells : List Cell) (S B S2 B2 : List Int) (p d q m : Nat) (c : Cell) (hc : lkp (cells.map Cell.ce) (p : Int) = some c.ce) (hS : S.length = cells.length) (hB : B.length = cells.length) (hS' : S2.length = cells.length) (hB' : B2.length = cells.length)
    (hb : cells.length ≤ 600) (hd : d ≤ 1000) (hm : m ≤ 3) (ha : arity c.kind = m) (hp : p < cells.length) (hq : q ≤ 600) (hpq : p ≤ q)
    (gl : mS cells S (B.set p d) p d (p + 1) m 0 (.exit 0 (at_ [(0, .ptr 0 1 0 0), (1, i64 p), (6, i64 q)] (mB cells S2 B2) 3))) : msN cells S B p d (S2.set p ((q - p : Nat) : Int)) B2 := by
  unfold msN mS mB at *
  have g2 := kidsOf_ev c.kind
  rw [ha] at g2
  obtain ⟨ck, cn⟩ := c
  have e1 : ∃ y, (ints B)[p]? = some [C.t (.int .i64 y)] := ⟨B[p]'(by omega), by simp [ints, intc, show p < B.length by omega]⟩
  obtain ⟨y, e1⟩ := e1
  have e2 : (ints B).set p [C.t (.int .i64 d)] = ints (B.set p d) := by simp [ints, intc, List.map_set]
  have e3 : ∃ y, (ints S2)[p]? = some [C.t (.int .i64 y)] := ⟨S2[p]'(by omega), by simp [ints, intc, show p < S2.length by omega]⟩
  obtain ⟨y2, e3⟩ := e3
  have e4 : (ints S2).set p [C.t (.int .i64 ((q - p : Nat) : Int))] = ints (S2.set p ((q - p : Nat) : Int)) := by simp [ints, intc, List.map_set]
  have e5 : ((q - p : Nat) : Int) = (q : Int) - p := by omega
  simp only [List.length_set] at gl ⊢
  rw [hS, hB] at gl ⊢
  rw [hS', hB'] at gl ⊢
  rw [e5] at e4 ⊢
  let t0 : Tp pr := .m (show (decide ((0 : Int) ≤ (↑p : Int) ∧ (↑p : Int).toNat < cells.length)) = true by simp [*])
  let t1 : Tp pr := .c (show ((0 : Nat) + (↑p : Int).toNat : Nat) = p by omega)
  let t2 : Tp pr := .m (show (decide ((ints B).length = cells.length)) = true by simp [*])
  let t3 : Tp pr := .g .crow (show ((ints B)[p]?) = some ([C.t (T.int IntKind.i64 y)]) from e1)
  let t4 : Tp pr := .n .crows (show ((ints B).set p [C.t (T.int IntKind.i64 (↑d : Int))]) = ints (B.set p (↑d : Int)) by simp)
  let t5 : Tp pr := .i (wrap_i64 (a := (↑p : Int) + (1 : Int)) (by omega) (by omega))
  let t6 : Tp pr := .g .row (show (lkp (List.map Cell.ce cells) (↑p : Int)) = some ((Cell.mk ck cn).ce) from hc)
  let t9 : Tp pr := .i (wrap_i64 (a := (↑q : Int) - (↑p : Int)) (by omega) (by omega))
  let t12 : Tp pr := .m (show (decide ((ints S2).length = cells.length)) = true by simp [*])
  let t13 : Tp pr := .g .crow (show ((ints S2)[p]?) = some ([C.t (T.int IntKind.i64 y2)]) from e3)
  let t14 : Tp pr := .n .crows (show ((ints S2).set p [C.t (T.int IntKind.i64 ((↑q : Int) - (↑p : Int)))]) = ints (S2.set p ((↑q : Int) - (↑p : Int))) by simp)
  exact .tp [t0, t1, t2, t3, t4, t5, t6, .a (g2), .a (gl), t9, t0, t1, t12, t13, t14] (by kernel_rfl)
mutual
theorem ms_ev : ∀ (t : Tm) (cells pre post : List Cell) (S B : List Int) (p d : Nat), t.ok → cells = pre ++ (t.cells ++ post) → p = pre.length → S.length = cells.length → B.length = cells.length → cells.length ≤ 600 → d + t.cells.length ≤ 1000 →
    msN cells S B p d (spl S p t.sizes) (spl B p (t.bounds d))
  | .node k n ks, cells, pre, post, S, B, p, d, ho, hc, hp, hS, hB, hb, hd => by
    obtain ⟨h1, h2, h3⟩ := ho
    have ha := arity_bd k
    simp only [Tm.cells, List.length_cons] at hd
    have hcl : cells.length = pre.length + ((Tm.cellsL ks).length + 1) + post.length := by rw [hc]; simp [Tm.cells]; omega
    have hcell : lkp (cells.map Cell.ce) (p : Int) = some (Cell.ce ⟨k, n⟩) := by
      rw [hc, hp]
      simp [Tm.cells]
    have hs1 := sizesL_len ks
    have hs2 := boundsL_len k d 0 ks
    have gl := msL_ev ks [] k n d p ks.length cells (pre ++ [⟨k, n⟩]) post S (B.set p d) h3 (by rw [hc]; simp [Tm.cells, Tm.cellsL]) (by simp [hp]) hcell (by simp) (by omega) hS (by simpa using hB) hb (by omega)
    simp only [List.length_nil, Tm.cellsL, List.nil_append, Nat.add_zero] at gl
    have e1 : spl (B.set p d) (p + 1) (Tm.boundsL k d 0 ks) = spl B p (Tm.bounds d (.node k n ks)) := by
      rw [spl_set (by omega)]
      have := spl_snoc (l := B) (a := [(d : Int)]) (b := Tm.boundsL k d 0 ks) (p := p) (by simp; omega)
      simpa [Tm.bounds] using this
    rw [e1] at gl
    have hq : p + 1 + (Tm.cellsL ks).length - p = (Tm.cells (.node k n ks)).length := by simp [Tm.cells]; omega
    have := ms_node cells S B (spl S (p + 1) (Tm.sizesL ks)) (spl B p (Tm.bounds d (.node k n ks))) p d (p + 1 + (Tm.cellsL ks).length) ks.length ⟨k, n⟩ hcell hS hB (by rw [spl_len (by omega)]; exact hS) (by rw [spl_len (by simp [Tm.bounds]; omega)]; exact hB)
      hb (by omega) (by omega) h2.symm (by omega) (by omega) (by omega) gl
    rw [hq, spl_cons (by omega)] at this
    exact this
theorem msL_ev : ∀ (rest dn : List Tm) (k n : Int) (d p m : Nat) (cells pre post : List Cell) (S B : List Int), Tm.okL rest → cells = pre ++ (Tm.cellsL dn ++ (Tm.cellsL rest ++ post)) → pre.length = p + 1 → lkp (cells.map Cell.ce) (p : Int) = some (Cell.ce ⟨k, n⟩) →
    m = dn.length + rest.length → m ≤ 3 → S.length = cells.length → B.length = cells.length → cells.length ≤ 600 → d + 1 + (Tm.cellsL rest).length ≤ 1000 →
    mS cells S B p d (p + 1 + (Tm.cellsL dn).length) m dn.length (.exit 0 (at_ [(0, .ptr 0 1 0 0), (1, i64 p), (6, i64 ((p + 1 + (Tm.cellsL dn).length + (Tm.cellsL rest).length : Nat) : Int))]
      (mB cells (spl S (p + 1 + (Tm.cellsL dn).length) (Tm.sizesL rest)) (spl B (p + 1 + (Tm.cellsL dn).length) (Tm.boundsL k d dn.length rest))) 3))
  | [], dn, k, n, d, p, m, cells, pre, post, S, B, ho, hc, hp, hcell, hm, hm3, hS, hB, hb, hd => by
    simp only [Tm.sizesL, Tm.boundsL, Tm.cellsL, spl_nil, List.length_nil, Nat.add_zero] at hm ⊢
    subst hm
    exact mS_end cells S B p d _ dn.length
  | x :: rest, dn, k, n, d, p, m, cells, pre, post, S, B, ho, hc, hp, hcell, hm, hm3, hS, hB, hb, hd => by
    obtain ⟨ho1, ho2⟩ := ho
    have hbd := bindsAt_le k dn.length
    have hx := cells_pos x
    have hxs := sizes_len x
    have hxb := bounds_len (d + bindsAt k dn.length) x
    have hrs := sizesL_len rest
    have hrb := boundsL_len k d (dn.length + 1) rest
    simp only [Tm.cellsL, List.length_append, List.length_cons] at hd hm ⊢
    have hcl : cells.length = p + 1 + (Tm.cellsL dn).length + x.cells.length + (Tm.cellsL rest).length + post.length := by rw [hc]; simp [Tm.cellsL, hp]; omega
    have g := ms_ev x cells (pre ++ Tm.cellsL dn) (Tm.cellsL rest ++ post) S B (p + 1 + (Tm.cellsL dn).length) (d + bindsAt k dn.length) ho1 (by rw [hc]; simp [Tm.cellsL]) (by simp [hp]) hS hB hb (by omega)
    have gl := msL_ev rest (dn ++ [x]) k n d p m cells pre post (spl S (p + 1 + (Tm.cellsL dn).length) x.sizes) (spl B (p + 1 + (Tm.cellsL dn).length) (x.bounds (d + bindsAt k dn.length))) ho2 (by rw [hc]; simp [Tm.cellsL, cellsL_app]) hp hcell
      (by simp; omega) hm3 (by rw [spl_len (by omega)]; exact hS) (by rw [spl_len (by omega)]; exact hB) hb (by omega)
    simp only [cellsL_app, Tm.cellsL, List.append_nil, List.length_append, List.length_singleton] at gl
    have q1 : p + 1 + ((Tm.cellsL dn).length + x.cells.length) = p + 1 + (Tm.cellsL dn).length + x.sizes.length := by omega
    have q2 : p + 1 + ((Tm.cellsL dn).length + x.cells.length) = p + 1 + (Tm.cellsL dn).length + (x.bounds (d + bindsAt k dn.length)).length := by omega
    have s1 : spl (spl S (p + 1 + (Tm.cellsL dn).length) x.sizes) (p + 1 + ((Tm.cellsL dn).length + x.cells.length)) (Tm.sizesL rest) = spl S (p + 1 + (Tm.cellsL dn).length) (x.sizes ++ Tm.sizesL rest) := by
      rw [q1, spl_snoc (by omega)]
    have s2 : spl (spl B (p + 1 + (Tm.cellsL dn).length) (x.bounds (d + bindsAt k dn.length))) (p + 1 + ((Tm.cellsL dn).length + x.cells.length)) (Tm.boundsL k d (dn.length + 1) rest) = spl B (p + 1 + (Tm.cellsL dn).length) (x.bounds (d + bindsAt k dn.length) ++ Tm.boundsL k d (dn.length + 1) rest) := by
      rw [q2, spl_snoc (by omega)]
    rw [s1, s2] at gl
    rw [show p + 1 + ((Tm.cellsL dn).length + x.cells.length) + (Tm.cellsL rest).length = p + 1 + (Tm.cellsL dn).length + (x.cells.length + (Tm.cellsL rest).length) by omega, show p + 1 + ((Tm.cellsL dn).length + x.cells.length) = p + 1 + (Tm.cellsL dn).length + x.cells.length by omega] at gl
    have hgt : (spl S (p + 1 + (Tm.cellsL dn).length) x.sizes)[p + 1 + (Tm.cellsL dn).length]? = some (x.cells.length : Int) := by
      cases x with
      | node kx nx ksx =>
        rw [Tm.sizes]
        exact spl_get (by omega)
    refine mS_step cells S B _ _ p d _ m dn.length ⟨k, n⟩ hcell hS hB (by rw [spl_len (by omega)]; exact hS) (by rw [spl_len (by omega)]; exact hB) hb (by omega) (by omega) hm3 (by omega) x.cells.length (by omega) hgt g _ ?_
    simpa [Tm.sizesL, Tm.boundsL] using gl
end
theorem ne_long (L : List (List T)) (g : Ev pr (.call 57 [.t (.seq 2 L)] []) (.val (.t .nilp) [])) : Ev pr (.call 46 [.t (.seq 2 L)] []) (.val (.t .nilp) []) := by
  exact .tp [.a (g), .bT, .bT] (by kernel_rfl)
theorem ne_free (L : List (List T)) (t : Tm) (fs : List Int) (g : Ev pr (.call 57 [.t (.seq 2 L)] []) (.val (.t t.tp) [])) (g2 : Ev pr (.call 70 [.t t.tp] []) (.val (isq fs) [])) (h : ¬ fs.length = 0) :
    Ev pr (.call 46 [.t (.seq 2 L)] []) (.val (.t .nilp) []) := by
  obtain ⟨k', n', s', e'⟩ := t.tp_cells
  rw [e'] at g g2
  let t3 : Tp pr := .i (show ((↑(List.map intt fs).length : Int) : Int) = (↑fs.length : Int) by simp)
  let t4 : Tp pr := .b (show (decide ((↑fs.length : Int) > (0 : Int))) = true by (simp; omega))
  exact .tp [.a (g), .bF, .a (g2), t3, t4] (by kernel_rfl)
theorem ne_ok (cells : List Cell) (t : Tm) (hl : cells.length ≤ 600) (g : Ev pr (.call 57 [.t (.seq 2 (cells.map Cell.ce))] []) (.val (.t t.tp) [])) (g2 : Ev pr (.call 70 [.t t.tp] []) (.val (isq []) []))
    (S B : List Int) (hS : S.length = cells.length) (hB : B.length = cells.length) (g3 : msN cells (List.replicate cells.length 0) (List.replicate cells.length 0) 0 0 S B) :
    Ev pr (.call 46 [.t (.seq 2 (cells.map Cell.ce))] []) (.val (.ptr 0 1 0 0) (mB cells S B)) := by
  obtain ⟨k', n', s', e'⟩ := t.tp_cells
  rw [e'] at g g2
  unfold msN mB at *
  have e1 : ints (List.replicate cells.length 0) = List.replicate cells.length [C.t (.int .i64 0)] := by simp [ints, intc]
  rw [e1] at g3
  simp only [List.length_replicate] at g3
  rw [hS, hB] at g3 ⊢
  simp only [List.map_nil, isq, sl] at g2
  let t3 : Tp pr := .i (rfl : ((0 : Int) : Int) = (0 : Int))
  let t7 : Tp pr := .i (show ((↑(List.map Cell.ce cells).length : Int) : Int) = (↑cells.length : Int) by simp)
  let t9 : Tp pr := .m (show (decide ((0 : Int) ≤ (↑cells.length : Int) ∧ (↑cells.length : Int) ≤ (↑cells.length : Int) ∧ (↑cells.length : Int) ≤ (4294967296 : Int))) = true by (simp; omega))
  let t10 : Tp pr := .c (show ((↑cells.length : Int).toNat : Nat) = cells.length by omega)
  let t11 : Tp pr := .n .crows (rfl : (List.replicate cells.length [C.t (T.int IntKind.i64 (0 : Int))]) = _)
  exact .tp [.a (g), .bF, .a (g2), t3, .bF, .mT, .mT, t7, .mT, t9, t10, t11, .mT, .mT, t7, .mT, t9, t10, t11, .mT, .mT, .mT, .mT, .mT, .a (g3)] (by kernel_rfl)
theorem newEngine_ev (l : List Cell) (h2 : l.length ≤ 1048576) :
    (codeOf l = none ∧ Ev pr (.call 46 [.t (.seq 2 (l.map Cell.ce))] []) (.val (.t .nilp) [])) ∨
    ∃ t, codeOf l = some t ∧ l = t.cells ∧ t.ok ∧ t.frees 0 = [] ∧ l.length ≤ 600 ∧ Ev pr (.call 46 [.t (.seq 2 (l.map Cell.ce))] []) (.val (.ptr 0 1 0 0) (mB l t.sizes (t.bounds 0))) := by
  have g := termOf_ev l h2
  unfold termOf at g
  unfold codeOf
  by_cases c : l.length > 600
  · rw [if_pos c] at g ⊢
    exact .inl ⟨rfl, ne_long _ g⟩
  · rw [if_neg c] at g ⊢
    cases hr : readT 601 l with
    | none =>
      rw [hr] at g
      exact .inl ⟨rfl, ne_long _ g⟩
    | some p =>
      obtain ⟨t, r⟩ := p
      rw [hr] at g
      have hs := readT_spec 601 l t r hr
      cases r with
      | cons x r => exact .inl ⟨rfl, ne_long _ g⟩
      | nil =>
        have hl : l = t.cells := by rw [hs.1]; simp
        have hf := free_ev t hs.2 (by rw [← hl]; omega)
        by_cases hfr : t.frees 0 = []
        · refine .inr ⟨t, by simp [hfr], hl, hs.2, hfr, by omega, ?_⟩
          have hfe : frs t = [] := List.length_eq_zero_iff.1 ((frs_nil t).2 hfr)
          rw [hfe] at hf
          have hms := ms_ev t l [] [] (List.replicate l.length 0) (List.replicate l.length 0) 0 0 hs.2 (by simpa using hl) rfl (by simp) (by simp) (by omega) (by rw [← hl]; omega)
          have h1 := sizes_len t
          have h3 := bounds_len 0 t
          rw [spl_all (by rw [h1, ← hl]; simp), spl_all (by rw [h3, ← hl]; simp)] at hms
          exact ne_ok l t (by omega) g hf _ _ (by rw [h1, ← hl]) (by rw [h3, ← hl]) hms
        · refine .inl ⟨by simp [hfr], ne_free _ t (frs t) g hf ?_⟩
          rw [frs_nil]
          exact hfr
end Go.Ev

namespace Go.Ev
set_option linter.unusedVariables false
set_option linter.unusedSimpArgs false
open Go.Proofs
set_option maxRecDepth 100000
set_option maxHeartbeats 4000000
def eS (L : List (List T)) (n : Nat) (S B : List (List C)) (d : Bool) (p e v : Int) (lF : Nat) (F V D : List (List C)) (lg : Bool) : List Ob :=
  [.box [.t (.seq 2 L), .vec 1 n 1 0 n, .vec 2 n 1 0 n, bl d, i64 p, i64 e, i64 v, .vec 3 F.length 4 0 lF, .vec 4 V.length 4 0 V.length, .vec 5 D.length 2 0 D.length, bl lg], .vec true 1 S, .vec true 1 B, .vec true 4 F, .vec true 4 V, .vec true 2 D]
section
variable (L : List (List T)) (n : Nat) (S B : List (List C)) (d : Bool) (p e v : Int) (lF : Nat) (F V D : List (List C)) (lg : Bool)
theorem next_ev (q r : Int) : Ev pr (.call 162 [.ptr 0 1 0 0, i64 q, i64 r] (eS L n S B d p e v lF F V D lg)) (.val (bl true) (eS L n S B false q r (-1) lF F V D lg)) := by
  unfold eS
  exact .tp [] (by kernel_rfl)
theorem done_ev (r : Int) : Ev pr (.call 165 [.ptr 0 1 0 0, i64 r] (eS L n S B d p e v lF F V D lg)) (.val (bl true) (eS L n S B true (-1) (-1) r lF F V D lg)) := by
  unfold eS
  exact .tp [] (by kernel_rfl)
theorem roomY_ev (k : Nat) (h : k < 500) : Ev pr (.call 163 [.ptr 0 1 0 0, i64 k] (eS L n S B d p e v lF F V D lg)) (.val (bl true) (eS L n S B d p e v lF F V D lg)) := by
  unfold eS
  let t0 : Tp pr := .b (show (decide ((↑k : Int) = (500 : Int))) = false by (simp; omega))
  exact .tpe [t0] (Out.val (Ev.V.t (T.bool (decide ((↑k : Int) < (500 : Int))))) [Ob.box [Ev.V.t (T.seq (2 : Nat) L), Ev.V.vec (1 : Nat) n (1 : Nat) (0 : Nat) n, Ev.V.vec (2 : Nat) n (1 : Nat) (0 : Nat) n, Ev.V.t (T.bool d), Ev.V.t (T.int IntKind.i64 p), Ev.V.t (T.int IntKind.i64 e), Ev.V.t (T.int IntKind.i64 v), Ev.V.vec (3 : Nat) F.length (4 : Nat) (0 : Nat) lF, Ev.V.vec (4 : Nat) V.length (4 : Nat) (0 : Nat) V.length, Ev.V.vec (5 : Nat) D.length (2 : Nat) (0 : Nat) D.length, Ev.V.t (T.bool lg)], Ob.vec true (1 : Nat) S, Ob.vec true (1 : Nat) B, Ob.vec true (4 : Nat) F, Ob.vec true (4 : Nat) V, Ob.vec true (2 : Nat) D]) (by kernel_rfl) (congrArg (fun x => Out.val (Ev.V.t (T.bool x)) [Ob.box [Ev.V.t (T.seq (2 : Nat) L), Ev.V.vec (1 : Nat) n (1 : Nat) (0 : Nat) n, Ev.V.vec (2 : Nat) n (1 : Nat) (0 : Nat) n, Ev.V.t (T.bool d), Ev.V.t (T.int IntKind.i64 p), Ev.V.t (T.int IntKind.i64 e), Ev.V.t (T.int IntKind.i64 v), Ev.V.vec (3 : Nat) F.length (4 : Nat) (0 : Nat) lF, Ev.V.vec (4 : Nat) V.length (4 : Nat) (0 : Nat) V.length, Ev.V.vec (5 : Nat) D.length (2 : Nat) (0 : Nat) D.length, Ev.V.t (T.bool lg)], Ob.vec true (1 : Nat) S, Ob.vec true (1 : Nat) B, Ob.vec true (4 : Nat) F, Ob.vec true (4 : Nat) V, Ob.vec true (2 : Nat) D]) (show (decide ((↑k : Int) < (500 : Int))) = (true) by (simp; omega)))
theorem roomN_ev (k : Nat) (h : k = 500) : Ev pr (.call 163 [.ptr 0 1 0 0, i64 k] (eS L n S B d p e v lF F V D lg)) (.val (bl false) (eS L n S B d p e v lF F V D true)) := by
  unfold eS
  subst h
  exact .tp [.bT] (by kernel_rfl)
theorem drop_ev (h : lF < F.length) (hF : F.length ≤ 1000) : Ev pr (.call 161 [.ptr 0 1 0 0] (eS L n S B d p e v (lF + 1) F V D lg)) (.val (.tup []) (eS L n S B d p e v lF F V D lg)) := by
  unfold eS
  let t11 : Tp pr := .i (show ((↑(lF + (1 : Nat)) : Int) : Int) = (↑lF : Int) + (1 : Int) by omega)
  let t13 : Tp pr := .i (wrap_i64 (a := (↑lF : Int) + (1 : Int) - (1 : Int)) (by omega) (by omega))
  let t15 : Tp pr := .m (show (decide ((0 : Int) ≤ (0 : Int) ∧ (0 : Int) ≤ (↑lF : Int) + (1 : Int) - (1 : Int) ∧ (0 : Nat) + ((↑lF : Int) + (1 : Int) - (1 : Int)).toNat ≤ F.length)) = true by (simp; omega))
  let t17 : Tp pr := .c (show (((↑lF : Int) + (1 : Int) - (1 : Int)).toNat - (0 : Nat) : Nat) = lF by omega)
  exact .tp [.mT, .mT, .mT, .mT, .mT, .mT, .mT, .mT, .mT, .mT, .mT, t11, .mT, t13, .mT, t15, .c (rfl : ((0 : Nat)) = _), t17, .mT, .mT, .mT, .mT, .mT] (by kernel_rfl)
theorem over_ev (h : lF ≤ F.length) (hF : F.length ≤ 1000) : Ev pr (.call 49 [.ptr 0 1 0 0] (eS L n S B d p e v lF F V D lg)) (.val (bl (d && decide (lF = 0))) (eS L n S B d p e v lF F V D lg)) := by
  unfold eS
  cases d with
  | false => exact .tp [.bF] (by kernel_rfl)
  | true => exact .tpe [.bT, .i (rfl : ((↑lF : Int)) = _)] (Out.val (Ev.V.t (T.bool (decide ((↑lF : Int) = (0 : Int))))) [Ob.box [Ev.V.t (T.seq (2 : Nat) L), Ev.V.vec (1 : Nat) n (1 : Nat) (0 : Nat) n, Ev.V.vec (2 : Nat) n (1 : Nat) (0 : Nat) n, Ev.V.t (T.bool true), Ev.V.t (T.int IntKind.i64 p), Ev.V.t (T.int IntKind.i64 e), Ev.V.t (T.int IntKind.i64 v), Ev.V.vec (3 : Nat) F.length (4 : Nat) (0 : Nat) lF, Ev.V.vec (4 : Nat) V.length (4 : Nat) (0 : Nat) V.length, Ev.V.vec (5 : Nat) D.length (2 : Nat) (0 : Nat) D.length, Ev.V.t (T.bool lg)], Ob.vec true (1 : Nat) S, Ob.vec true (1 : Nat) B, Ob.vec true (4 : Nat) F, Ob.vec true (4 : Nat) V, Ob.vec true (2 : Nat) D]) (by kernel_rfl) (congrArg (fun x => Out.val (Ev.V.t (T.bool x)) [Ob.box [Ev.V.t (T.seq (2 : Nat) L), Ev.V.vec (1 : Nat) n (1 : Nat) (0 : Nat) n, Ev.V.vec (2 : Nat) n (1 : Nat) (0 : Nat) n, Ev.V.t (T.bool true), Ev.V.t (T.int IntKind.i64 p), Ev.V.t (T.int IntKind.i64 e), Ev.V.t (T.int IntKind.i64 v), Ev.V.vec (3 : Nat) F.length (4 : Nat) (0 : Nat) lF, Ev.V.vec (4 : Nat) V.length (4 : Nat) (0 : Nat) V.length, Ev.V.vec (5 : Nat) D.length (2 : Nat) (0 : Nat) D.length, Ev.V.t (T.bool lg)], Ob.vec true (1 : Nat) S, Ob.vec true (1 : Nat) B, Ob.vec true (4 : Nat) F, Ob.vec true (4 : Nat) V, Ob.vec true (2 : Nat) D]) (show (decide ((↑lF : Int) = (0 : Int))) = (true && decide (lF = (0 : Nat))) by simp))
theorem valueY_ev (h : V.length < 500) (x : Vl) : Ev pr (.call 164 [.ptr 0 1 0 0, .agg [bl x.fn, i64 x.num, i64 x.pl, i64 x.env]] (eS L n S B d p e v lF F V D lg)) (.val (bl true) (eS L n S B true (-1) (-1) V.length lF F (V ++ [x.cc]) D lg)) := by
  obtain ⟨f, m, q, r⟩ := x
  have g := roomY_ev L n S B d p e v lF F V D lg V.length h
  have g2 := done_ev L n S B d p e v lF F (V ++ [Vl.cc ⟨f, m, q, r⟩]) D lg V.length
  unfold eS at *
  simp only [List.length_append, List.length_singleton] at g2 ⊢
  let t12 : Tp pr := .m (show (decide (V.length = V.length ∧ (0 : Nat) + V.length ≤ V.length ∧ V.length + (1 : Nat) ≤ (4294967296 : Nat))) = true by (simp; omega))
  let t13 : Tp pr := .b (show (decide (V.length + (1 : Nat) ≤ V.length)) = false by simp)
  let t15 : Tp pr := .n .crows (show ((List.take V.length V).append (List.take (1 : Nat) (List.drop (0 : Nat) [[C.t (T.bool f), C.t (T.int IntKind.i64 m), C.t (T.int IntKind.i64 q), C.t (T.int IntKind.i64 r)]]))) = V ++ [[C.t (T.bool f), C.t (T.int IntKind.i64 m), C.t (T.int IntKind.i64 q), C.t (T.int IntKind.i64 r)]] by simp)
  let t21 : Tp pr := .i (show ((↑(V.length + (1 : Nat)) : Int) : Int) = (↑V.length : Int) + (1 : Int) by omega)
  let t22 : Tp pr := .i (wrap_i64 (a := (↑V.length : Int) + (1 : Int) - (1 : Int)) (by omega) (by omega))
  let t23 : Tp pr := .a (Ev.castq (congrArg (fun x => Q.call (165 : FuncId) [Ev.V.ptr (0 : Nat) (1 : Nat) (0 : Nat) (0 : Nat), i64 x] [Ob.box [Ev.V.t (T.seq (2 : Nat) L), Ev.V.vec (1 : Nat) n (1 : Nat) (0 : Nat) n, Ev.V.vec (2 : Nat) n (1 : Nat) (0 : Nat) n, bl d, i64 p, i64 e, i64 v, Ev.V.vec (3 : Nat) F.length (4 : Nat) (0 : Nat) lF, Ev.V.vec (4 : Nat) (V.length + (1 : Nat)) (4 : Nat) (0 : Nat) (V.length + (1 : Nat)), Ev.V.vec (5 : Nat) D.length (2 : Nat) (0 : Nat) D.length, bl lg], Ob.vec true (1 : Nat) S, Ob.vec true (1 : Nat) B, Ob.vec true (4 : Nat) F, Ob.vec true (4 : Nat) (V ++ [(Vl.mk f m q r).cc]), Ob.vec true (2 : Nat) D]) (show ((↑V.length : Int)) = ((↑V.length : Int) + (1 : Int) - (1 : Int)) by simp)) (g2))
  exact .tp [.i (rfl : ((↑V.length : Int)) = _), .a (g), .bF, .mT, .mT, .mT, .mT, .mT, .mT, .mT, .mT, .mT, t12, t13, .c (rfl : (V.length + (1 : Nat)) = _), t15, .mT, .mT, .mT, .mT, .mT, t21, t22, t23] (by kernel_rfl)
theorem valueN_ev (h : V.length = 500) (x : Vl) : Ev pr (.call 164 [.ptr 0 1 0 0, .agg [bl x.fn, i64 x.num, i64 x.pl, i64 x.env]] (eS L n S B d p e v lF F V D lg)) (.val (bl false) (eS L n S B d p e v lF F V D true)) := by
  obtain ⟨f, m, q, r⟩ := x
  have g := roomN_ev L n S B d p e v lF F V D lg V.length h
  unfold eS at *
  exact .tp [.i (rfl : ((↑V.length : Int)) = _), .a (g), .bT] (by kernel_rfl)
theorem bindY_ev (h : D.length < 500) (hl : lF < F.length) (hF : F.length ≤ 1000) (u q : Int) : Ev pr (.call 160 [.ptr 0 1 0 0, i64 u, i64 q] (eS L n S B d p e v (lF + 1) F V D lg)) (.val (bl true) (eS L n S B false q D.length (-1) lF F V (D ++ [Bd.cc ⟨v, u⟩]) lg)) := by
  have g := roomY_ev L n S B d p e v (lF + 1) F V D lg D.length h
  have g2 := drop_ev L n S B d p e v lF F V (D ++ [Bd.cc ⟨v, u⟩]) lg hl hF
  have g3 := next_ev L n S B d p e v lF F V (D ++ [Bd.cc ⟨v, u⟩]) lg q D.length
  unfold eS at *
  simp only [List.length_append, List.length_singleton] at g2 g3 ⊢
  let t18 : Tp pr := .m (show (decide (D.length = D.length ∧ (0 : Nat) + D.length ≤ D.length ∧ D.length + (1 : Nat) ≤ (4294967296 : Nat))) = true by (simp; omega))
  let t19 : Tp pr := .b (show (decide (D.length + (1 : Nat) ≤ D.length)) = false by simp)
  let t21 : Tp pr := .n .crows (show ((List.take D.length D).append (List.take (1 : Nat) (List.drop (0 : Nat) [[C.t (T.int IntKind.i64 v), C.t (T.int IntKind.i64 u)]]))) = D ++ [[C.t (T.int IntKind.i64 v), C.t (T.int IntKind.i64 u)]] by simp)
  let t28 : Tp pr := .i (show ((↑(D.length + (1 : Nat)) : Int) : Int) = (↑D.length : Int) + (1 : Int) by omega)
  let t29 : Tp pr := .i (wrap_i64 (a := (↑D.length : Int) + (1 : Int) - (1 : Int)) (by omega) (by omega))
  let t30 : Tp pr := .a (Ev.castq (congrArg (fun x => Q.call (162 : FuncId) [Ev.V.ptr (0 : Nat) (1 : Nat) (0 : Nat) (0 : Nat), i64 q, i64 x] [Ob.box [Ev.V.t (T.seq (2 : Nat) L), Ev.V.vec (1 : Nat) n (1 : Nat) (0 : Nat) n, Ev.V.vec (2 : Nat) n (1 : Nat) (0 : Nat) n, bl d, i64 p, i64 e, i64 v, Ev.V.vec (3 : Nat) F.length (4 : Nat) (0 : Nat) lF, Ev.V.vec (4 : Nat) V.length (4 : Nat) (0 : Nat) V.length, Ev.V.vec (5 : Nat) (D.length + (1 : Nat)) (2 : Nat) (0 : Nat) (D.length + (1 : Nat)), bl lg], Ob.vec true (1 : Nat) S, Ob.vec true (1 : Nat) B, Ob.vec true (4 : Nat) F, Ob.vec true (4 : Nat) V, Ob.vec true (2 : Nat) (D ++ [(Bd.mk v u).cc])]) (show ((↑D.length : Int)) = ((↑D.length : Int) + (1 : Int) - (1 : Int)) by simp)) (g3))
  exact .tp [.i (rfl : ((↑D.length : Int)) = _), .a (g), .bF, .mT, .mT, .mT, .mT, .mT, .mT, .mT, .mT, .mT, .mT, .mT, .mT, .mT, .mT, .mT, t18, t19, .c (rfl : (D.length + (1 : Nat)) = _), t21, .mT, .mT, .mT, .mT, .mT, .a (g2), t28, t29, t30] (by kernel_rfl)
theorem bindN_ev (h : D.length = 500) (u q : Int) : Ev pr (.call 160 [.ptr 0 1 0 0, i64 u, i64 q] (eS L n S B d p e v lF F V D lg)) (.val (bl false) (eS L n S B d p e v lF F V D true)) := by
  have g := roomN_ev L n S B d p e v lF F V D lg D.length h
  unfold eS at *
  exact .tp [.i (rfl : ((↑D.length : Int)) = _), .a (g), .bT] (by kernel_rfl)
end
end Go.Ev

namespace Go.Ev
set_option linter.unusedVariables false
set_option linter.unusedSimpArgs false
open Go.Proofs
set_option maxRecDepth 100000
set_option maxHeartbeats 4000000
section
variable (L : List (List T)) (n : Nat) (S B : List (List C)) (d : Bool) (p e v : Int) (lF : Nat) (F V D : List (List C)) (lg : Bool)
theorem bgNumY (k : Int) (hc : lkp L p = some [.int .i64 2, .int .i64 k]) (h0 : 0 ≤ p) (hL : p < L.length) (h : V.length < 500) : Ev pr (.call 104 [.ptr 0 1 0 0] (eS L n S B d p e v lF F V D lg)) (.val (bl true) (eS L n S B true (-1) (-1) V.length lF F (V ++ [Vl.cc ⟨false, k, 0, 0⟩]) D lg)) := by
  have g := valueY_ev L n S B d p e v lF F V D lg h ⟨false, k, 0, 0⟩
  unfold eS at *
  let t12 : Tp pr := .g .row (show (lkp L p) = some ([T.int IntKind.i64 (2 : Int), T.int IntKind.i64 k]) from hc)
  exact .tp [.mT, .mT, .mT, .mT, .mT, .mT, .mT, .mT, .mT, .mT, .mT, .mT, t12, .bT, .a (g)] (by kernel_rfl)
theorem bgNumN (k : Int) (hc : lkp L p = some [.int .i64 2, .int .i64 k]) (h0 : 0 ≤ p) (hL : p < L.length) (h : V.length = 500) : Ev pr (.call 104 [.ptr 0 1 0 0] (eS L n S B d p e v lF F V D lg)) (.val (bl false) (eS L n S B d p e v lF F V D true)) := by
  have g := valueN_ev L n S B d p e v lF F V D lg h ⟨false, k, 0, 0⟩
  unfold eS at *
  let t12 : Tp pr := .g .row (show (lkp L p) = some ([T.int IntKind.i64 (2 : Int), T.int IntKind.i64 k]) from hc)
  exact .tp [.mT, .mT, .mT, .mT, .mT, .mT, .mT, .mT, .mT, .mT, .mT, .mT, t12, .bT, .a (g)] (by kernel_rfl)
theorem bgLamY (k : Int) (hc : lkp L p = some [.int .i64 3, .int .i64 k]) (h0 : 0 ≤ p) (hL : p < L.length) (h : V.length < 500) : Ev pr (.call 104 [.ptr 0 1 0 0] (eS L n S B d p e v lF F V D lg)) (.val (bl true) (eS L n S B true (-1) (-1) V.length lF F (V ++ [Vl.cc ⟨true, 0, p, e⟩]) D lg)) := by
  have g := valueY_ev L n S B d p e v lF F V D lg h ⟨true, 0, p, e⟩
  unfold eS at *
  let t12 : Tp pr := .g .row (show (lkp L p) = some ([T.int IntKind.i64 (3 : Int), T.int IntKind.i64 k]) from hc)
  exact .tp [.mT, .mT, .mT, .mT, .mT, .mT, .mT, .mT, .mT, .mT, .mT, .mT, t12, .bF, .bT, .a (g)] (by kernel_rfl)
theorem bgLamN (k : Int) (hc : lkp L p = some [.int .i64 3, .int .i64 k]) (h0 : 0 ≤ p) (hL : p < L.length) (h : V.length = 500) : Ev pr (.call 104 [.ptr 0 1 0 0] (eS L n S B d p e v lF F V D lg)) (.val (bl false) (eS L n S B d p e v lF F V D true)) := by
  have g := valueN_ev L n S B d p e v lF F V D lg h ⟨true, 0, p, e⟩
  unfold eS at *
  let t12 : Tp pr := .g .row (show (lkp L p) = some ([T.int IntKind.i64 (3 : Int), T.int IntKind.i64 k]) from hc)
  exact .tp [.mT, .mT, .mT, .mT, .mT, .mT, .mT, .mT, .mT, .mT, .mT, .mT, t12, .bF, .bT, .a (g)] (by kernel_rfl)
def vrS (k i : Nat) (env : Int) (o : Out) : Prop :=
  Ev pr (.loop (lq pr 104 0) (at_ [(0, .ptr 0 1 0 0), (4, i64 env), (72, i64 k), (73, i64 i)] (eS L n S B d p e v lF F V D lg) 6)) o
theorem vr_end (k : Nat) (env : Int) : vrS L n S B d p e v lF F V D lg k k env (.exit 1 (at_ [(0, .ptr 0 1 0 0), (4, i64 env)] (eS L n S B d p e v lF F V D lg) 6)) := by
  unfold vrS eS
  let t0 : Tp pr := .b (show (decide ((↑k : Int) < (↑k : Int))) = false by simp)
  exact .tp [t0] (by kernel_rfl)
theorem vr_step (k i : Nat) (hi : i < k) (hk : k ≤ 1000) (env : Int) (h0 : 0 ≤ env) (h1 : env < D.length) (x u : Int) (hg : D[env.toNat]? = some (Bd.cc ⟨x, u⟩)) (o : Out) (g : vrS L n S B d p e v lF F V D lg k (i + 1) u o) : vrS L n S B d p e v lF F V D lg k i env o := by
  unfold vrS eS at *
  let t0 : Tp pr := .b (show (decide ((↑i : Int) < (↑k : Int))) = true by (simp; omega))
  let t1 : Tp pr := .m (show (decide ((0 : Int) ≤ env ∧ env.toNat < D.length)) = true by simp [*])
  let t2 : Tp pr := .c (show ((0 : Nat) + env.toNat : Nat) = env.toNat by omega)
  let t3 : Tp pr := .m (show (decide (D.length = D.length)) = true by simp)
  let t4 : Tp pr := .g .crow (show (D[env.toNat]?) = some ((Bd.mk x u).cc) from hg)
  let t5 : Tp pr := .i (wrap_i64 (a := (↑i : Int) + (1 : Int)) (by omega) (by omega))
  exact .tp [t0, t1, t2, t3, t4, t5, .a (g)] (by kernel_rfl)
theorem bgVar (k : Nat) (env x u : Int) (hc : lkp L p = some [.int .i64 1, .int .i64 k]) (h0 : 0 ≤ p) (hL : p < L.length) (he : 0 ≤ env) (h1 : env < D.length) (hg : D[env.toNat]? = some (Bd.cc ⟨x, u⟩))
    (gl : vrS L n S B d p e v lF F V D lg k 0 e (.exit 1 (at_ [(0, .ptr 0 1 0 0), (4, i64 env)] (eS L n S B d p e v lF F V D lg) 6))) : Ev pr (.call 104 [.ptr 0 1 0 0] (eS L n S B d p e v lF F V D lg)) (.val (bl true) (eS L n S B true (-1) (-1) x lF F V D lg)) := by
  have g := done_ev L n S B d p e v lF F V D lg x
  unfold vrS eS at *
  let t12 : Tp pr := .g .row (show (lkp L p) = some ([T.int IntKind.i64 (1 : Int), T.int IntKind.i64 (↑k : Int)]) from hc)
  let t17 : Tp pr := .m (show (decide ((0 : Int) ≤ env ∧ env.toNat < D.length)) = true by simp [*])
  let t18 : Tp pr := .c (show ((0 : Nat) + env.toNat : Nat) = env.toNat by omega)
  let t19 : Tp pr := .m (show (decide (D.length = D.length)) = true by simp)
  let t20 : Tp pr := .g .crow (show (D[env.toNat]?) = some ((Bd.mk x u).cc) from hg)
  exact .tp [.mT, .mT, .mT, .mT, .mT, .mT, .mT, .mT, .mT, .mT, .mT, .mT, t12, .bF, .bF, .bT, .a (gl), t17, t18, t19, t20, .a (g)] (by kernel_rfl)
theorem bgOtherN (k : Int) (hk : k ≠ 1 ∧ k ≠ 2 ∧ k ≠ 3) (hc : lkp L p = some [.int .i64 k, .int .i64 0]) (h0 : 0 ≤ p) (hL : p < L.length) (h : lF = 500) (hF : lF ≤ F.length) (hF2 : F.length ≤ 500) : Ev pr (.call 104 [.ptr 0 1 0 0] (eS L n S B d p e v lF F V D lg)) (.val (bl false) (eS L n S B d p e v lF F V D true)) := by
  have g := roomN_ev L n S B d p e v lF F V D lg lF h
  obtain ⟨hk1, hk2, hk3⟩ := hk
  unfold eS at *
  let t12 : Tp pr := .g .row (show (lkp L p) = some ([T.int IntKind.i64 k, T.int IntKind.i64 (0 : Int)]) from hc)
  let t13 : Tp pr := .b (show (decide (k = (2 : Int))) = false by (simp; omega))
  let t14 : Tp pr := .b (show (decide (k = (3 : Int))) = false by (simp; omega))
  let t15 : Tp pr := .b (show (decide (k = (1 : Int))) = false by (simp; omega))
  exact .tp [.mT, .mT, .mT, .mT, .mT, .mT, .mT, .mT, .mT, .mT, .mT, .mT, t12, t13, t14, t15, .i (rfl : ((↑lF : Int)) = _), .a (g), .bT] (by kernel_rfl)
theorem bgOther0 (k : Int) (hk : k ≠ 1 ∧ k ≠ 2 ∧ k ≠ 3) (hc : lkp L p = some [.int .i64 k, .int .i64 0]) (h0 : 0 ≤ p) (hL : p < L.length) (hL2 : L.length ≤ 600) (h : F.length < 500) :
    Ev pr (.call 104 [.ptr 0 1 0 0] (eS L n S B d p e v F.length F V D lg)) (.val (bl true) (eS L n S B false (p + 1) e (-1) (F.length + 1) (F ++ [Frm.cc ⟨k, p, e, -1⟩]) V D lg)) := by
  have g := roomY_ev L n S B d p e v F.length F V D lg F.length h
  have g2 := next_ev L n S B d p e v (F.length + 1) (F ++ [Frm.cc ⟨k, p, e, -1⟩]) V D lg (p + 1) e
  obtain ⟨hk1, hk2, hk3⟩ := hk
  unfold eS at *
  simp only [List.length_append, List.length_singleton] at g2 ⊢
  let t12 : Tp pr := .g .row (show (lkp L p) = some ([T.int IntKind.i64 k, T.int IntKind.i64 (0 : Int)]) from hc)
  let t13 : Tp pr := .b (show (decide (k = (2 : Int))) = false by (simp; omega))
  let t14 : Tp pr := .b (show (decide (k = (3 : Int))) = false by (simp; omega))
  let t15 : Tp pr := .b (show (decide (k = (1 : Int))) = false by (simp; omega))
  let t32 : Tp pr := .m (show (decide (F.length = F.length ∧ (0 : Nat) + F.length ≤ F.length ∧ F.length + (1 : Nat) ≤ (4294967296 : Nat))) = true by (simp; omega))
  let t33 : Tp pr := .b (show (decide (F.length + (1 : Nat) ≤ F.length)) = false by simp)
  let t35 : Tp pr := .n .crows (show ((List.take F.length F).append (List.take (1 : Nat) (List.drop (0 : Nat) [[C.t (T.int IntKind.i64 k), C.t (T.int IntKind.i64 p), C.t (T.int IntKind.i64 e), C.t (T.int IntKind.i64 (-1 : Int))]]))) = F ++ [[C.t (T.int IntKind.i64 k), C.t (T.int IntKind.i64 p), C.t (T.int IntKind.i64 e), C.t (T.int IntKind.i64 (-1 : Int))]] by simp)
  let t41 : Tp pr := .i (wrap_i64 (a := p + (1 : Int)) (by omega) (by omega))
  exact .tp [.mT, .mT, .mT, .mT, .mT, .mT, .mT, .mT, .mT, .mT, .mT, .mT, t12, t13, t14, t15, .i (rfl : ((↑F.length : Int)) = _), .a (g), .bF, .mT, .mT, .mT, .mT, .mT, .mT, .mT, .mT, .mT, .mT, .mT, .mT, .mT, t32, t33, .c (rfl : (F.length + (1 : Nat)) = _), t35, .mT, .mT, .mT, .mT, .mT, t41, .a (g2)] (by kernel_rfl)
theorem bgOther1 (k : Int) (hk : k ≠ 1 ∧ k ≠ 2 ∧ k ≠ 3) (hc : lkp L p = some [.int .i64 k, .int .i64 0]) (h0 : 0 ≤ p) (hL : p < L.length) (hL2 : L.length ≤ 600) (P J : List (List C)) (j : List C) (h : P.length < 500) (h2 : (P ++ j :: J).length ≤ 500) :
    Ev pr (.call 104 [.ptr 0 1 0 0] (eS L n S B d p e v P.length (P ++ j :: J) V D lg)) (.val (bl true) (eS L n S B false (p + 1) e (-1) (P.length + 1) (P ++ Frm.cc ⟨k, p, e, -1⟩ :: J) V D lg)) := by
  have g := roomY_ev L n S B d p e v P.length (P ++ j :: J) V D lg P.length h
  have g2 := next_ev L n S B d p e v (P.length + 1) (P ++ Frm.cc ⟨k, p, e, -1⟩ :: J) V D lg (p + 1) e
  obtain ⟨hk1, hk2, hk3⟩ := hk
  unfold eS at *
  have e1 : List.take P.length (P ++ j :: J) = P := List.take_left' rfl
  have e2 : List.drop (P.length + 1) (P ++ j :: J) = J := by rw [List.drop_append]; simp
  simp only [List.length_append, List.length_cons] at g g2 h2 ⊢
  let t12 : Tp pr := .g .row (show (lkp L p) = some ([T.int IntKind.i64 k, T.int IntKind.i64 (0 : Int)]) from hc)
  let t13 : Tp pr := .b (show (decide (k = (2 : Int))) = false by (simp; omega))
  let t14 : Tp pr := .b (show (decide (k = (3 : Int))) = false by (simp; omega))
  let t15 : Tp pr := .b (show (decide (k = (1 : Int))) = false by (simp; omega))
  let t32 : Tp pr := .m (show (decide ((P.append (j :: J)).length = P.length + (J.length + (1 : Nat)) ∧ (0 : Nat) + P.length ≤ P.length + (J.length + (1 : Nat)) ∧ P.length + (1 : Nat) ≤ (4294967296 : Nat))) = true by (simp; omega))
  let t33 : Tp pr := .b (show (decide (P.length + (1 : Nat) ≤ P.length + (J.length + (1 : Nat)))) = true by simp)
  let t35 : Tp pr := .n .crows (show (((List.take P.length (P.append (j :: J))).append (List.take (1 : Nat) (List.drop (0 : Nat) [[C.t (T.int IntKind.i64 k), C.t (T.int IntKind.i64 p), C.t (T.int IntKind.i64 e), C.t (T.int IntKind.i64 (-1 : Int))]]))).append (List.drop (P.length + (1 : Nat)) (P.append (j :: J)))) = P ++ [C.t (T.int IntKind.i64 k), C.t (T.int IntKind.i64 p), C.t (T.int IntKind.i64 e), C.t (T.int IntKind.i64 (-1 : Int))] :: J by simp)
  let t41 : Tp pr := .i (wrap_i64 (a := p + (1 : Int)) (by omega) (by omega))
  exact .tp [.mT, .mT, .mT, .mT, .mT, .mT, .mT, .mT, .mT, .mT, .mT, .mT, t12, t13, t14, t15, .i (rfl : ((↑P.length : Int)) = _), .a (g), .bF, .mT, .mT, .mT, .mT, .mT, .mT, .mT, .mT, .mT, .mT, .mT, .mT, .mT, t32, t33, .c (rfl : (P.length + (1 : Nat)) = _), t35, .mT, .mT, .mT, .mT, .mT, t41, .a (g2)] (by kernel_rfl)
theorem vr_all (bs : List Bd) (k : Nat) (hk : k ≤ 1000) : ∀ (r i : Nat) (env : Int) (c : Nat), i + r = k → BChain bs env (r + c) →
    vrS L n S B d p e v lF F V (bs.map Bd.cc) lg k i env (.exit 1 (at_ [(0, .ptr 0 1 0 0), (4, i64 (upN bs r env))] (eS L n S B d p e v lF F V (bs.map Bd.cc) lg) 6))
  | 0, i, env, c, h, hc => by
    obtain rfl : i = k := by omega
    exact vr_end L n S B d p e v lF F V _ lg i env
  | r + 1, i, env, c, h, hc => by
    have hc' : BChain bs env (r + c + 1) := by rw [show r + c + 1 = r + 1 + c by omega]; exact hc
    obtain ⟨h0, b, hb, hup⟩ := hc'.up
    have hbd := hc'.bd
    have ih := vr_all bs k hk r (i + 1) b.up c (by omega) hup
    have e1 : upN bs (r + 1) env = upN bs r b.up := by simp [upN, List.getD_eq_getElem?_getD, hb]
    rw [e1]
    exact vr_step L n S B d p e v lF F V _ lg k i (by omega) hk env h0 (by simpa using hbd.2) b.val b.up (by simp [hb]) _ ih
end
def eB (c : Cd) (m : Mc) (jk : List Frm) (lg : Bool) : List Ob :=
  eS (c.cells.map Cell.ce) c.cells.length (ints c.sizes) (ints c.bounds) m.done m.pl m.env m.val m.frs.length ((m.frs.reverse ++ jk).map Frm.cc) (m.vals.map Vl.cc) (m.bds.map Bd.cc) lg
theorem cell_at {c : Cd} {p : Int} {x : Cell} {b : Nat} {ks : List Int} (h : PlaceOk c p.toNat x b ks) (h0 : 0 ≤ p) : lkp (c.cells.map Cell.ce) p = some x.ce ∧ p < (c.cells.map Cell.ce).length := by
  have := (List.getElem?_eq_some_iff.1 h.cell).1
  exact ⟨lkp_get _ h0 h.cell, by simp; omega⟩
def srB (m : Mc) (lg : Bool) : Sr → Bool × Mc × Bool
  | .ok m' => (true, m', lg)
  | .no => (false, m, lg)
  | .full => (false, m, true)
theorem begin_ev (c : Cd) (hc : CdOk c) (m : Mc) (g : MGood c m) (hd : m.done = false) (jk : List Frm) (hj : m.frs.length + jk.length ≤ 500) (lg : Bool) : ∃ jk' : List Frm, ((srB m lg (m.begin c)).2.1.frs.length + jk'.length ≤ 500) ∧
    Ev pr (.call 104 [.ptr 0 1 0 0] (eB c m jk lg)) (.val (bl (srB m lg (m.begin c)).1) (eB c (srB m lg (m.begin c)).2.1 jk' (srB m lg (m.begin c)).2.2)) := by
  obtain ⟨hv, hf⟩ := g.todo hd
  obtain ⟨x, b, ks, hp⟩ := hf.place hc
  have hch := hf.chain hp
  obtain ⟨hlk, hpl⟩ := cell_at hp hf.pl
  have hgd := hp.good
  have hL : (c.cells.map Cell.ce).length ≤ 600 := by simpa using hc.len
  unfold eB Mc.begin
  rw [hp.at_]
  obtain ⟨xk, xn⟩ := x
  dsimp only
  by_cases h2 : xk = 2
  · subst h2
    rw [if_pos rfl]
    unfold Mc.new
    by_cases hl : m.vals.length = 500
    · rw [if_pos hl]
      refine ⟨jk, hj, ?_⟩
      exact bgNumN _ _ _ _ _ _ _ _ _ _ _ _ _ _ hlk hf.pl hpl (by simpa using hl)
    · rw [if_neg hl]
      refine ⟨jk, hj, ?_⟩
      have := bgNumY (c.cells.map Cell.ce) c.cells.length (ints c.sizes) (ints c.bounds) m.done m.pl m.env m.val m.frs.length ((m.frs.reverse ++ jk).map Frm.cc) (m.vals.map Vl.cc) (m.bds.map Bd.cc) lg xn hlk hf.pl hpl (by have := g.lv; simp; omega)
      simpa [srB, Mc.come] using this
  · rw [if_neg h2]
    by_cases h3 : xk = 3
    · subst h3
      rw [if_pos rfl]
      unfold Mc.new
      by_cases hl : m.vals.length = 500
      · rw [if_pos hl]
        refine ⟨jk, hj, ?_⟩
        exact bgLamN _ _ _ _ _ _ _ _ _ _ _ _ _ _ hlk hf.pl hpl (by simpa using hl)
      · rw [if_neg hl]
        refine ⟨jk, hj, ?_⟩
        have := bgLamY (c.cells.map Cell.ce) c.cells.length (ints c.sizes) (ints c.bounds) m.done m.pl m.env m.val m.frs.length ((m.frs.reverse ++ jk).map Frm.cc) (m.vals.map Vl.cc) (m.bds.map Bd.cc) lg xn hlk hf.pl hpl (by have := g.lv; simp; omega)
        simpa [srB, Mc.come] using this
    · rw [if_neg h3]
      by_cases h1 : xk = 1
      · subst h1
        rw [if_pos rfl]
        have hvar := hp.var rfl
        have hge : 0 ≤ xn ∧ xn ≤ 99 := by
          rw [cellGood, if_pos rfl] at hgd
          exact of_decide_eq_true hgd
        obtain ⟨k, rfl⟩ : ∃ k : Nat, xn = k := ⟨xn.toNat, by omega⟩
        simp only [Int.toNat_natCast] at *
        have hcc : BChain m.bds m.env (k + (b - k - 1 + 1)) := by
          rw [show k + (b - k - 1 + 1) = b by omega]; exact hch
        have hc2 := chain_upN k _ m.env hcc
        obtain ⟨h0, bb, hbb, _⟩ := hc2.up
        have hbd := hc2.bd
        refine ⟨jk, hj, ?_⟩
        have gl := vr_all (c.cells.map Cell.ce) c.cells.length (ints c.sizes) (ints c.bounds) m.done m.pl m.env m.val m.frs.length ((m.frs.reverse ++ jk).map Frm.cc) (m.vals.map Vl.cc) lg m.bds k (by omega) k 0 m.env _ (by omega) hcc
        have := bgVar _ _ _ _ _ _ _ _ _ _ _ _ _ k (upN m.bds k m.env) bb.val bb.up hlk hf.pl hpl h0 (by simpa using hbd.2) (by simp [hbb]) gl
        simpa [srB, Mc.come, hbb] using this
      · rw [if_neg h1]
        rw [cellGood, if_neg h1, if_neg h2] at hgd
        obtain ⟨ha, hn⟩ := of_decide_eq_true hgd
        dsimp only at hn
        subst hn
        by_cases hl : m.frs.length = 500
        · rw [if_pos hl]
          refine ⟨jk, hj, ?_⟩
          exact bgOtherN _ _ _ _ _ _ _ _ _ _ _ _ _ xk ⟨h1, h2, h3⟩ hlk hf.pl hpl hl (by simp) (by simpa using hj)
        · rw [if_neg hl]
          have hlf := g.lf
          cases jk with
          | nil =>
            refine ⟨[], by simp [srB, Mc.next]; omega, ?_⟩
            have := bgOther0 (c.cells.map Cell.ce) c.cells.length (ints c.sizes) (ints c.bounds) m.done m.pl m.env m.val ((m.frs.reverse ++ []).map Frm.cc) (m.vals.map Vl.cc) (m.bds.map Bd.cc) lg xk ⟨h1, h2, h3⟩ hlk hf.pl hpl hL (by simp; omega)
            simpa [srB, Mc.next] using this
          | cons j jk =>
            refine ⟨jk, by simp [srB, Mc.next] at hj ⊢; omega, ?_⟩
            have := bgOther1 (c.cells.map Cell.ce) c.cells.length (ints c.sizes) (ints c.bounds) m.done m.pl m.env m.val (m.vals.map Vl.cc) (m.bds.map Bd.cc) lg xk ⟨h1, h2, h3⟩ hlk hf.pl hpl hL (m.frs.reverse.map Frm.cc) (jk.map Frm.cc) j.cc (by simp; omega) (by simpa using hj)
            simpa [srB, Mc.next] using this
end Go.Ev

namespace Go.Ev
set_option linter.unusedVariables false
set_option linter.unusedSimpArgs false
open Go.Proofs
set_option maxRecDepth 100000
set_option maxHeartbeats 4000000
section
variable (L : List (List T)) (n : Nat) (S B : List (List C)) (d : Bool) (p e v : Int) (P J V D : List (List C)) (lg : Bool) (a r : Int) (s : Nat) (b : Bool) (x q u : Int)
theorem goLetY (h0 : 0 ≤ a) (ha : a + 1 < n) (hn : n ≤ 600) (hS : S.length = n) (hs : s ≤ 600) (hs2 : S[(a + 1).toNat]? = some [C.t (.int .i64 s)]) (hv : 0 ≤ v) (hv2 : v < V.length) (hvg : V[v.toNat]? = some (Vl.cc ⟨b, x, q, u⟩)) (hV : V.length ≤ 500) (hD : D.length ≤ 500) (hF : (P ++ Frm.cc ⟨7, a, r, -1⟩ :: J).length ≤ 500) (h : D.length < 500) : Ev pr (.call 103 [.ptr 0 1 0 0] (eS L n S B d p e v (P.length + 1) (P ++ Frm.cc ⟨7, a, r, -1⟩ :: J) V D lg)) (.val (bl true) (eS L n S B false (a + 1 + s) D.length (-1) P.length (P ++ Frm.cc ⟨7, a, r, -1⟩ :: J) V (D ++ [Bd.cc ⟨v, r⟩]) lg)) := by
  have g := bindY_ev L n S B d p e v P.length (P ++ Frm.cc ⟨7, a, r, -1⟩ :: J) V D lg h (by simp) (by omega) r (a + 1 + s)
  have e1 : (P ++ Frm.cc ⟨7, a, r, -1⟩ :: J)[P.length]? = some (Frm.cc ⟨7, a, r, -1⟩) := by simp
  have e2 : (P ++ Frm.cc ⟨7, a, r, -1⟩ :: J).length = P.length + 1 + J.length := by simp; omega
  unfold eS at *
  generalize hFF : (P ++ Frm.cc ⟨7, a, r, -1⟩ :: J) = F at *
  let t10 : Tp pr := .i (show ((↑(P.length + (1 : Nat)) : Int) : Int) = (↑P.length : Int) + (1 : Int) by omega)
  let t12 : Tp pr := .i (wrap_i64 (a := (↑P.length : Int) + (1 : Int) - (1 : Int)) (by omega) (by omega))
  let t14 : Tp pr := .m (show (decide ((0 : Int) ≤ (↑P.length : Int) + (1 : Int) - (1 : Int) ∧ ((↑P.length : Int) + (1 : Int) - (1 : Int)).toNat < P.length + (1 : Nat))) = true by simp)
  let t15 : Tp pr := .c (show ((0 : Nat) + ((↑P.length : Int) + (1 : Int) - (1 : Int)).toNat : Nat) = P.length by omega)
  let t21 : Tp pr := .m (show (decide (F.length = F.length)) = true by simp)
  let t22 : Tp pr := .g .crow (show (F[P.length]?) = some ((Frm.mk (7 : Int) a r (-1 : Int)).cc) from e1)
  let t24 : Tp pr := .i (wrap_i64 (a := a + (1 : Int)) (by omega) (by omega))
  let t38 : Tp pr := .m (show (decide ((0 : Int) ≤ a + (1 : Int) ∧ (a + (1 : Int)).toNat < n)) = true by (simp; omega))
  let t39 : Tp pr := .c (show ((0 : Nat) + (a + (1 : Int)).toNat : Nat) = (a + (1 : Int)).toNat by omega)
  let t41 : Tp pr := .m (show (decide (S.length = n)) = true by simp [*])
  let t42 : Tp pr := .g .crow (show (S[(a + (1 : Int)).toNat]?) = some ([C.t (T.int IntKind.i64 (↑s : Int))]) from hs2)
  let t44 : Tp pr := .i (wrap_i64 (a := a + (1 : Int) + (↑s : Int)) (by omega) (by omega))
  let t57 : Tp pr := .m (show (decide ((0 : Int) ≤ v ∧ v.toNat < V.length)) = true by simp [*])
  let t58 : Tp pr := .c (show ((0 : Nat) + v.toNat : Nat) = v.toNat by omega)
  let t60 : Tp pr := .m (show (decide (V.length = V.length)) = true by simp)
  let t61 : Tp pr := .g .crow (show (V[v.toNat]?) = some ((Vl.mk b x q u).cc) from hvg)
  exact .tp [.mT, .mT, .mT, .mT, .mT, .mT, .mT, .mT, .mT, .mT, t10, .mT, t12, .mT, t14, t15, .mT, .mT, .mT, .mT, .mT, t21, t22, .mT, t24, .mT, .mT, .mT, .mT, .mT, .mT, .mT, .mT, t21, t22, .mT, t24, .mT, t38, t39, .mT, t41, t42, .mT, t44, .mT, .mT, .mT, .mT, .mT, .mT, .mT, .mT, .mT, .mT, .mT, .mT, t57, t58, .mT, t60, t61, t60, t61, t60, t61, t60, t61, .mT, .mT, .mT, t21, t22, .bT, t21, t22, .a (g)] (by kernel_rfl)
theorem goLetN (h0 : 0 ≤ a) (ha : a + 1 < n) (hn : n ≤ 600) (hS : S.length = n) (hs : s ≤ 600) (hs2 : S[(a + 1).toNat]? = some [C.t (.int .i64 s)]) (hv : 0 ≤ v) (hv2 : v < V.length) (hvg : V[v.toNat]? = some (Vl.cc ⟨b, x, q, u⟩)) (hV : V.length ≤ 500) (hD : D.length ≤ 500) (hF : (P ++ Frm.cc ⟨7, a, r, -1⟩ :: J).length ≤ 500) (h : D.length = 500) : Ev pr (.call 103 [.ptr 0 1 0 0] (eS L n S B d p e v (P.length + 1) (P ++ Frm.cc ⟨7, a, r, -1⟩ :: J) V D lg)) (.val (bl false) (eS L n S B d p e v (P.length + 1) (P ++ Frm.cc ⟨7, a, r, -1⟩ :: J) V D true)) := by
  have g := bindN_ev L n S B d p e v (P.length + 1) (P ++ Frm.cc ⟨7, a, r, -1⟩ :: J) V D lg h r (a + 1 + s)
  have e1 : (P ++ Frm.cc ⟨7, a, r, -1⟩ :: J)[P.length]? = some (Frm.cc ⟨7, a, r, -1⟩) := by simp
  have e2 : (P ++ Frm.cc ⟨7, a, r, -1⟩ :: J).length = P.length + 1 + J.length := by simp; omega
  unfold eS at *
  generalize hFF : (P ++ Frm.cc ⟨7, a, r, -1⟩ :: J) = F at *
  let t10 : Tp pr := .i (show ((↑(P.length + (1 : Nat)) : Int) : Int) = (↑P.length : Int) + (1 : Int) by omega)
  let t12 : Tp pr := .i (wrap_i64 (a := (↑P.length : Int) + (1 : Int) - (1 : Int)) (by omega) (by omega))
  let t14 : Tp pr := .m (show (decide ((0 : Int) ≤ (↑P.length : Int) + (1 : Int) - (1 : Int) ∧ ((↑P.length : Int) + (1 : Int) - (1 : Int)).toNat < P.length + (1 : Nat))) = true by simp)
  let t15 : Tp pr := .c (show ((0 : Nat) + ((↑P.length : Int) + (1 : Int) - (1 : Int)).toNat : Nat) = P.length by omega)
  let t21 : Tp pr := .m (show (decide (F.length = F.length)) = true by simp)
  let t22 : Tp pr := .g .crow (show (F[P.length]?) = some ((Frm.mk (7 : Int) a r (-1 : Int)).cc) from e1)
  let t24 : Tp pr := .i (wrap_i64 (a := a + (1 : Int)) (by omega) (by omega))
  let t38 : Tp pr := .m (show (decide ((0 : Int) ≤ a + (1 : Int) ∧ (a + (1 : Int)).toNat < n)) = true by (simp; omega))
  let t39 : Tp pr := .c (show ((0 : Nat) + (a + (1 : Int)).toNat : Nat) = (a + (1 : Int)).toNat by omega)
  let t41 : Tp pr := .m (show (decide (S.length = n)) = true by simp [*])
  let t42 : Tp pr := .g .crow (show (S[(a + (1 : Int)).toNat]?) = some ([C.t (T.int IntKind.i64 (↑s : Int))]) from hs2)
  let t44 : Tp pr := .i (wrap_i64 (a := a + (1 : Int) + (↑s : Int)) (by omega) (by omega))
  let t57 : Tp pr := .m (show (decide ((0 : Int) ≤ v ∧ v.toNat < V.length)) = true by simp [*])
  let t58 : Tp pr := .c (show ((0 : Nat) + v.toNat : Nat) = v.toNat by omega)
  let t60 : Tp pr := .m (show (decide (V.length = V.length)) = true by simp)
  let t61 : Tp pr := .g .crow (show (V[v.toNat]?) = some ((Vl.mk b x q u).cc) from hvg)
  exact .tp [.mT, .mT, .mT, .mT, .mT, .mT, .mT, .mT, .mT, .mT, t10, .mT, t12, .mT, t14, t15, .mT, .mT, .mT, .mT, .mT, t21, t22, .mT, t24, .mT, .mT, .mT, .mT, .mT, .mT, .mT, .mT, t21, t22, .mT, t24, .mT, t38, t39, .mT, t41, t42, .mT, t44, .mT, .mT, .mT, .mT, .mT, .mT, .mT, .mT, .mT, .mT, .mT, .mT, t57, t58, .mT, t60, t61, t60, t61, t60, t61, t60, t61, .mT, .mT, .mT, t21, t22, .bT, t21, t22, .a (g)] (by kernel_rfl)
theorem goIfF (h0 : 0 ≤ a) (ha : a + 1 < n) (hn : n ≤ 600) (hS : S.length = n) (hs : s ≤ 600) (hs2 : S[(a + 1).toNat]? = some [C.t (.int .i64 s)]) (hv : 0 ≤ v) (hv2 : v < V.length) (hvg : V[v.toNat]? = some (Vl.cc ⟨true, x, q, u⟩)) (hV : V.length ≤ 500) (hD : D.length ≤ 500) (hF : (P ++ Frm.cc ⟨6, a, r, -1⟩ :: J).length ≤ 500)  : Ev pr (.call 103 [.ptr 0 1 0 0] (eS L n S B d p e v (P.length + 1) (P ++ Frm.cc ⟨6, a, r, -1⟩ :: J) V D lg)) (.val (bl false) (eS L n S B d p e v (P.length + 1) (P ++ Frm.cc ⟨6, a, r, -1⟩ :: J) V D lg)) := by
  have e1 : (P ++ Frm.cc ⟨6, a, r, -1⟩ :: J)[P.length]? = some (Frm.cc ⟨6, a, r, -1⟩) := by simp
  have e2 : (P ++ Frm.cc ⟨6, a, r, -1⟩ :: J).length = P.length + 1 + J.length := by simp; omega
  unfold eS at *
  generalize hFF : (P ++ Frm.cc ⟨6, a, r, -1⟩ :: J) = F at *
  let t10 : Tp pr := .i (show ((↑(P.length + (1 : Nat)) : Int) : Int) = (↑P.length : Int) + (1 : Int) by omega)
  let t12 : Tp pr := .i (wrap_i64 (a := (↑P.length : Int) + (1 : Int) - (1 : Int)) (by omega) (by omega))
  let t14 : Tp pr := .m (show (decide ((0 : Int) ≤ (↑P.length : Int) + (1 : Int) - (1 : Int) ∧ ((↑P.length : Int) + (1 : Int) - (1 : Int)).toNat < P.length + (1 : Nat))) = true by simp)
  let t15 : Tp pr := .c (show ((0 : Nat) + ((↑P.length : Int) + (1 : Int) - (1 : Int)).toNat : Nat) = P.length by omega)
  let t21 : Tp pr := .m (show (decide (F.length = F.length)) = true by simp)
  let t22 : Tp pr := .g .crow (show (F[P.length]?) = some ((Frm.mk (6 : Int) a r (-1 : Int)).cc) from e1)
  let t24 : Tp pr := .i (wrap_i64 (a := a + (1 : Int)) (by omega) (by omega))
  let t38 : Tp pr := .m (show (decide ((0 : Int) ≤ a + (1 : Int) ∧ (a + (1 : Int)).toNat < n)) = true by (simp; omega))
  let t39 : Tp pr := .c (show ((0 : Nat) + (a + (1 : Int)).toNat : Nat) = (a + (1 : Int)).toNat by omega)
  let t41 : Tp pr := .m (show (decide (S.length = n)) = true by simp [*])
  let t42 : Tp pr := .g .crow (show (S[(a + (1 : Int)).toNat]?) = some ([C.t (T.int IntKind.i64 (↑s : Int))]) from hs2)
  let t44 : Tp pr := .i (wrap_i64 (a := a + (1 : Int) + (↑s : Int)) (by omega) (by omega))
  let t57 : Tp pr := .m (show (decide ((0 : Int) ≤ v ∧ v.toNat < V.length)) = true by simp [*])
  let t58 : Tp pr := .c (show ((0 : Nat) + v.toNat : Nat) = v.toNat by omega)
  let t60 : Tp pr := .m (show (decide (V.length = V.length)) = true by simp)
  let t61 : Tp pr := .g .crow (show (V[v.toNat]?) = some ((Vl.mk true x q u).cc) from hvg)
  exact .tp [.mT, .mT, .mT, .mT, .mT, .mT, .mT, .mT, .mT, .mT, t10, .mT, t12, .mT, t14, t15, .mT, .mT, .mT, .mT, .mT, t21, t22, .mT, t24, .mT, .mT, .mT, .mT, .mT, .mT, .mT, .mT, t21, t22, .mT, t24, .mT, t38, t39, .mT, t41, t42, .mT, t44, .mT, .mT, .mT, .mT, .mT, .mT, .mT, .mT, .mT, .mT, .mT, .mT, t57, t58, .mT, t60, t61, t60, t61, t60, t61, t60, t61, .mT, .mT, .mT, t21, t22, .bF, t21, t22, .bT, .bT] (by kernel_rfl)
theorem goIf0 (h0 : 0 ≤ a) (ha : a + 1 < n) (hn : n ≤ 600) (hS : S.length = n) (hs : s ≤ 600) (hs2 : S[(a + 1).toNat]? = some [C.t (.int .i64 s)]) (hv : 0 ≤ v) (hv2 : v < V.length) (hvg : V[v.toNat]? = some (Vl.cc ⟨false, x, q, u⟩)) (hV : V.length ≤ 500) (hD : D.length ≤ 500) (hF : (P ++ Frm.cc ⟨6, a, r, -1⟩ :: J).length ≤ 500) (hx : x = 0) : Ev pr (.call 103 [.ptr 0 1 0 0] (eS L n S B d p e v (P.length + 1) (P ++ Frm.cc ⟨6, a, r, -1⟩ :: J) V D lg)) (.val (bl true) (eS L n S B false (a + 1 + s) r (-1) P.length (P ++ Frm.cc ⟨6, a, r, -1⟩ :: J) V D lg)) := by
  have g := drop_ev L n S B d p e v P.length (P ++ Frm.cc ⟨6, a, r, -1⟩ :: J) V D lg (by simp) (by omega)
  have g2 := next_ev L n S B d p e v P.length (P ++ Frm.cc ⟨6, a, r, -1⟩ :: J) V D lg (a + 1 + s) r
  have e1 : (P ++ Frm.cc ⟨6, a, r, -1⟩ :: J)[P.length]? = some (Frm.cc ⟨6, a, r, -1⟩) := by simp
  have e2 : (P ++ Frm.cc ⟨6, a, r, -1⟩ :: J).length = P.length + 1 + J.length := by simp; omega
  unfold eS at *
  generalize hFF : (P ++ Frm.cc ⟨6, a, r, -1⟩ :: J) = F at *
  let t10 : Tp pr := .i (show ((↑(P.length + (1 : Nat)) : Int) : Int) = (↑P.length : Int) + (1 : Int) by omega)
  let t12 : Tp pr := .i (wrap_i64 (a := (↑P.length : Int) + (1 : Int) - (1 : Int)) (by omega) (by omega))
  let t14 : Tp pr := .m (show (decide ((0 : Int) ≤ (↑P.length : Int) + (1 : Int) - (1 : Int) ∧ ((↑P.length : Int) + (1 : Int) - (1 : Int)).toNat < P.length + (1 : Nat))) = true by simp)
  let t15 : Tp pr := .c (show ((0 : Nat) + ((↑P.length : Int) + (1 : Int) - (1 : Int)).toNat : Nat) = P.length by omega)
  let t21 : Tp pr := .m (show (decide (F.length = F.length)) = true by simp)
  let t22 : Tp pr := .g .crow (show (F[P.length]?) = some ((Frm.mk (6 : Int) a r (-1 : Int)).cc) from e1)
  let t24 : Tp pr := .i (wrap_i64 (a := a + (1 : Int)) (by omega) (by omega))
  let t38 : Tp pr := .m (show (decide ((0 : Int) ≤ a + (1 : Int) ∧ (a + (1 : Int)).toNat < n)) = true by (simp; omega))
  let t39 : Tp pr := .c (show ((0 : Nat) + (a + (1 : Int)).toNat : Nat) = (a + (1 : Int)).toNat by omega)
  let t41 : Tp pr := .m (show (decide (S.length = n)) = true by simp [*])
  let t42 : Tp pr := .g .crow (show (S[(a + (1 : Int)).toNat]?) = some ([C.t (T.int IntKind.i64 (↑s : Int))]) from hs2)
  let t44 : Tp pr := .i (wrap_i64 (a := a + (1 : Int) + (↑s : Int)) (by omega) (by omega))
  let t57 : Tp pr := .m (show (decide ((0 : Int) ≤ v ∧ v.toNat < V.length)) = true by simp [*])
  let t58 : Tp pr := .c (show ((0 : Nat) + v.toNat : Nat) = v.toNat by omega)
  let t60 : Tp pr := .m (show (decide (V.length = V.length)) = true by simp)
  let t61 : Tp pr := .g .crow (show (V[v.toNat]?) = some ((Vl.mk false x q u).cc) from hvg)
  let t81 : Tp pr := .b (show (x != (0 : Int)) = false by (simp; omega))
  exact .tp [.mT, .mT, .mT, .mT, .mT, .mT, .mT, .mT, .mT, .mT, t10, .mT, t12, .mT, t14, t15, .mT, .mT, .mT, .mT, .mT, t21, t22, .mT, t24, .mT, .mT, .mT, .mT, .mT, .mT, .mT, .mT, t21, t22, .mT, t24, .mT, t38, t39, .mT, t41, t42, .mT, t44, .mT, .mT, .mT, .mT, .mT, .mT, .mT, .mT, .mT, .mT, .mT, .mT, t57, t58, .mT, t60, t61, t60, t61, t60, t61, t60, t61, .mT, .mT, .mT, t21, t22, .bF, t21, t22, .bT, .bF, t21, t22, .bT, t81, t21, t22, .a (g), .a (g2)] (by kernel_rfl)
theorem goIf1 (h0 : 0 ≤ a) (ha : a + 1 < n) (hn : n ≤ 600) (hS : S.length = n) (hs : s ≤ 600) (hs2 : S[(a + 1).toNat]? = some [C.t (.int .i64 s)]) (hv : 0 ≤ v) (hv2 : v < V.length) (hvg : V[v.toNat]? = some (Vl.cc ⟨false, x, q, u⟩)) (hV : V.length ≤ 500) (hD : D.length ≤ 500) (hF : (P ++ Frm.cc ⟨6, a, r, -1⟩ :: J).length ≤ 500) (hx : ¬ x = 0) (s2 : Nat) (hs3 : s2 ≤ 600) (ha2 : a + 1 + s < n) (hs4 : S[(a + 1 + s).toNat]? = some [C.t (.int .i64 s2)]) : Ev pr (.call 103 [.ptr 0 1 0 0] (eS L n S B d p e v (P.length + 1) (P ++ Frm.cc ⟨6, a, r, -1⟩ :: J) V D lg)) (.val (bl true) (eS L n S B false (a + 1 + s + s2) r (-1) P.length (P ++ Frm.cc ⟨6, a, r, -1⟩ :: J) V D lg)) := by
  have g := drop_ev L n S B d p e v P.length (P ++ Frm.cc ⟨6, a, r, -1⟩ :: J) V D lg (by simp) (by omega)
  have g2 := next_ev L n S B d p e v P.length (P ++ Frm.cc ⟨6, a, r, -1⟩ :: J) V D lg (a + 1 + s + s2) r
  have e1 : (P ++ Frm.cc ⟨6, a, r, -1⟩ :: J)[P.length]? = some (Frm.cc ⟨6, a, r, -1⟩) := by simp
  have e2 : (P ++ Frm.cc ⟨6, a, r, -1⟩ :: J).length = P.length + 1 + J.length := by simp; omega
  unfold eS at *
  generalize hFF : (P ++ Frm.cc ⟨6, a, r, -1⟩ :: J) = F at *
  let t10 : Tp pr := .i (show ((↑(P.length + (1 : Nat)) : Int) : Int) = (↑P.length : Int) + (1 : Int) by omega)
  let t12 : Tp pr := .i (wrap_i64 (a := (↑P.length : Int) + (1 : Int) - (1 : Int)) (by omega) (by omega))
  let t14 : Tp pr := .m (show (decide ((0 : Int) ≤ (↑P.length : Int) + (1 : Int) - (1 : Int) ∧ ((↑P.length : Int) + (1 : Int) - (1 : Int)).toNat < P.length + (1 : Nat))) = true by simp)
  let t15 : Tp pr := .c (show ((0 : Nat) + ((↑P.length : Int) + (1 : Int) - (1 : Int)).toNat : Nat) = P.length by omega)
  let t21 : Tp pr := .m (show (decide (F.length = F.length)) = true by simp)
  let t22 : Tp pr := .g .crow (show (F[P.length]?) = some ((Frm.mk (6 : Int) a r (-1 : Int)).cc) from e1)
  let t24 : Tp pr := .i (wrap_i64 (a := a + (1 : Int)) (by omega) (by omega))
  let t38 : Tp pr := .m (show (decide ((0 : Int) ≤ a + (1 : Int) ∧ (a + (1 : Int)).toNat < n)) = true by (simp; omega))
  let t39 : Tp pr := .c (show ((0 : Nat) + (a + (1 : Int)).toNat : Nat) = (a + (1 : Int)).toNat by omega)
  let t41 : Tp pr := .m (show (decide (S.length = n)) = true by simp [*])
  let t42 : Tp pr := .g .crow (show (S[(a + (1 : Int)).toNat]?) = some ([C.t (T.int IntKind.i64 (↑s : Int))]) from hs2)
  let t44 : Tp pr := .i (wrap_i64 (a := a + (1 : Int) + (↑s : Int)) (by omega) (by omega))
  let t57 : Tp pr := .m (show (decide ((0 : Int) ≤ v ∧ v.toNat < V.length)) = true by simp [*])
  let t58 : Tp pr := .c (show ((0 : Nat) + v.toNat : Nat) = v.toNat by omega)
  let t60 : Tp pr := .m (show (decide (V.length = V.length)) = true by simp)
  let t61 : Tp pr := .g .crow (show (V[v.toNat]?) = some ((Vl.mk false x q u).cc) from hvg)
  let t81 : Tp pr := .b (show (x != (0 : Int)) = true by (simp; omega))
  let t82 : Tp pr := .m (show (decide ((0 : Int) ≤ a + (1 : Int) + (↑s : Int) ∧ (a + (1 : Int) + (↑s : Int)).toNat < n)) = true by (simp; omega))
  let t83 : Tp pr := .c (show ((0 : Nat) + (a + (1 : Int) + (↑s : Int)).toNat : Nat) = (a + (1 : Int) + (↑s : Int)).toNat by omega)
  let t85 : Tp pr := .g .crow (show (S[(a + (1 : Int) + (↑s : Int)).toNat]?) = some ([C.t (T.int IntKind.i64 (↑s2 : Int))]) from hs4)
  let t86 : Tp pr := .i (wrap_i64 (a := a + (1 : Int) + (↑s : Int) + (↑s2 : Int)) (by omega) (by omega))
  exact .tp [.mT, .mT, .mT, .mT, .mT, .mT, .mT, .mT, .mT, .mT, t10, .mT, t12, .mT, t14, t15, .mT, .mT, .mT, .mT, .mT, t21, t22, .mT, t24, .mT, .mT, .mT, .mT, .mT, .mT, .mT, .mT, t21, t22, .mT, t24, .mT, t38, t39, .mT, t41, t42, .mT, t44, .mT, .mT, .mT, .mT, .mT, .mT, .mT, .mT, .mT, .mT, .mT, .mT, t57, t58, .mT, t60, t61, t60, t61, t60, t61, t60, t61, .mT, .mT, .mT, t21, t22, .bF, t21, t22, .bT, .bF, t21, t22, .bT, t81, t82, t83, t41, t85, t86, t21, t22, .a (g), .a (g2)] (by kernel_rfl)
theorem goApp0 (h0 : 0 ≤ a) (ha : a + 1 < n) (hn : n ≤ 600) (hS : S.length = n) (hs : s ≤ 600) (hs2 : S[(a + 1).toNat]? = some [C.t (.int .i64 s)]) (hv : 0 ≤ v) (hv2 : v < V.length) (hvg : V[v.toNat]? = some (Vl.cc ⟨b, x, q, u⟩)) (hV : V.length ≤ 500) (hD : D.length ≤ 500) (hF : (P ++ Frm.cc ⟨4, a, r, -1⟩ :: J).length ≤ 500)  : Ev pr (.call 103 [.ptr 0 1 0 0] (eS L n S B d p e v (P.length + 1) (P ++ Frm.cc ⟨4, a, r, -1⟩ :: J) V D lg)) (.val (bl true) (eS L n S B false (a + 1 + s) r (-1) (P.length + 1) (P ++ Frm.cc ⟨4, a, r, v⟩ :: J) V D lg)) := by
  have g2 := next_ev L n S B d p e v (P.length + 1) (P ++ Frm.cc ⟨4, a, r, v⟩ :: J) V D lg (a + 1 + s) r
  have e3 : (P ++ Frm.cc ⟨4, a, r, -1⟩ :: J).set P.length (Frm.cc ⟨4, a, r, v⟩) = (P ++ Frm.cc ⟨4, a, r, v⟩ :: J) := by simp
  have e5 : ((P ++ Frm.cc ⟨4, a, r, -1⟩ :: J).set P.length (Frm.cc ⟨4, a, r, v⟩))[P.length]? = some (Frm.cc ⟨4, a, r, v⟩) := by simp
  rw [← e3] at g2 ⊢
  have e1 : (P ++ Frm.cc ⟨4, a, r, -1⟩ :: J)[P.length]? = some (Frm.cc ⟨4, a, r, -1⟩) := by simp
  have e2 : (P ++ Frm.cc ⟨4, a, r, -1⟩ :: J).length = P.length + 1 + J.length := by simp; omega
  unfold eS at *
  simp only [List.length_set] at g2 ⊢
  generalize hFF : (P ++ Frm.cc ⟨4, a, r, -1⟩ :: J) = F at *
  let t10 : Tp pr := .i (show ((↑(P.length + (1 : Nat)) : Int) : Int) = (↑P.length : Int) + (1 : Int) by omega)
  let t12 : Tp pr := .i (wrap_i64 (a := (↑P.length : Int) + (1 : Int) - (1 : Int)) (by omega) (by omega))
  let t14 : Tp pr := .m (show (decide ((0 : Int) ≤ (↑P.length : Int) + (1 : Int) - (1 : Int) ∧ ((↑P.length : Int) + (1 : Int) - (1 : Int)).toNat < P.length + (1 : Nat))) = true by simp)
  let t15 : Tp pr := .c (show ((0 : Nat) + ((↑P.length : Int) + (1 : Int) - (1 : Int)).toNat : Nat) = P.length by omega)
  let t21 : Tp pr := .m (show (decide (F.length = F.length)) = true by simp)
  let t22 : Tp pr := .g .crow (show (F[P.length]?) = some ((Frm.mk (4 : Int) a r (-1 : Int)).cc) from e1)
  let t24 : Tp pr := .i (wrap_i64 (a := a + (1 : Int)) (by omega) (by omega))
  let t38 : Tp pr := .m (show (decide ((0 : Int) ≤ a + (1 : Int) ∧ (a + (1 : Int)).toNat < n)) = true by (simp; omega))
  let t39 : Tp pr := .c (show ((0 : Nat) + (a + (1 : Int)).toNat : Nat) = (a + (1 : Int)).toNat by omega)
  let t41 : Tp pr := .m (show (decide (S.length = n)) = true by simp [*])
  let t42 : Tp pr := .g .crow (show (S[(a + (1 : Int)).toNat]?) = some ([C.t (T.int IntKind.i64 (↑s : Int))]) from hs2)
  let t44 : Tp pr := .i (wrap_i64 (a := a + (1 : Int) + (↑s : Int)) (by omega) (by omega))
  let t57 : Tp pr := .m (show (decide ((0 : Int) ≤ v ∧ v.toNat < V.length)) = true by simp [*])
  let t58 : Tp pr := .c (show ((0 : Nat) + v.toNat : Nat) = v.toNat by omega)
  let t60 : Tp pr := .m (show (decide (V.length = V.length)) = true by simp)
  let t61 : Tp pr := .g .crow (show (V[v.toNat]?) = some ((Vl.mk b x q u).cc) from hvg)
  let t86 : Tp pr := .n .crows (rfl : (F.set P.length [C.t (T.int IntKind.i64 (4 : Int)), C.t (T.int IntKind.i64 a), C.t (T.int IntKind.i64 r), C.t (T.int IntKind.i64 v)]) = _)
  let t87 : Tp pr := .m (show (decide ((F.set P.length [C.t (T.int IntKind.i64 (4 : Int)), C.t (T.int IntKind.i64 a), C.t (T.int IntKind.i64 r), C.t (T.int IntKind.i64 v)]).length = F.length)) = true by simp)
  let t88 : Tp pr := .g .crow (show ((F.set P.length [C.t (T.int IntKind.i64 (4 : Int)), C.t (T.int IntKind.i64 a), C.t (T.int IntKind.i64 r), C.t (T.int IntKind.i64 v)])[P.length]?) = some ((Frm.mk (4 : Int) a r v).cc) from e5)
  exact .tp [.mT, .mT, .mT, .mT, .mT, .mT, .mT, .mT, .mT, .mT, t10, .mT, t12, .mT, t14, t15, .mT, .mT, .mT, .mT, .mT, t21, t22, .mT, t24, .mT, .mT, .mT, .mT, .mT, .mT, .mT, .mT, t21, t22, .mT, t24, .mT, t38, t39, .mT, t41, t42, .mT, t44, .mT, .mT, .mT, .mT, .mT, .mT, .mT, .mT, .mT, .mT, .mT, .mT, t57, t58, .mT, t60, t61, t60, t61, t60, t61, t60, t61, .mT, .mT, .mT, t21, t22, .bF, t21, t22, .bF, .bF, t21, t22, .bF, t21, t22, .bT, t21, t22, t86, t87, t88, .a (g2)] (by kernel_rfl)
theorem goAdd0 (h0 : 0 ≤ a) (ha : a + 1 < n) (hn : n ≤ 600) (hS : S.length = n) (hs : s ≤ 600) (hs2 : S[(a + 1).toNat]? = some [C.t (.int .i64 s)]) (hv : 0 ≤ v) (hv2 : v < V.length) (hvg : V[v.toNat]? = some (Vl.cc ⟨b, x, q, u⟩)) (hV : V.length ≤ 500) (hD : D.length ≤ 500) (hF : (P ++ Frm.cc ⟨5, a, r, -1⟩ :: J).length ≤ 500)  : Ev pr (.call 103 [.ptr 0 1 0 0] (eS L n S B d p e v (P.length + 1) (P ++ Frm.cc ⟨5, a, r, -1⟩ :: J) V D lg)) (.val (bl true) (eS L n S B false (a + 1 + s) r (-1) (P.length + 1) (P ++ Frm.cc ⟨5, a, r, v⟩ :: J) V D lg)) := by
  have g2 := next_ev L n S B d p e v (P.length + 1) (P ++ Frm.cc ⟨5, a, r, v⟩ :: J) V D lg (a + 1 + s) r
  have e3 : (P ++ Frm.cc ⟨5, a, r, -1⟩ :: J).set P.length (Frm.cc ⟨5, a, r, v⟩) = (P ++ Frm.cc ⟨5, a, r, v⟩ :: J) := by simp
  have e5 : ((P ++ Frm.cc ⟨5, a, r, -1⟩ :: J).set P.length (Frm.cc ⟨5, a, r, v⟩))[P.length]? = some (Frm.cc ⟨5, a, r, v⟩) := by simp
  rw [← e3] at g2 ⊢
  have e1 : (P ++ Frm.cc ⟨5, a, r, -1⟩ :: J)[P.length]? = some (Frm.cc ⟨5, a, r, -1⟩) := by simp
  have e2 : (P ++ Frm.cc ⟨5, a, r, -1⟩ :: J).length = P.length + 1 + J.length := by simp; omega
  unfold eS at *
  simp only [List.length_set] at g2 ⊢
  generalize hFF : (P ++ Frm.cc ⟨5, a, r, -1⟩ :: J) = F at *
  let t10 : Tp pr := .i (show ((↑(P.length + (1 : Nat)) : Int) : Int) = (↑P.length : Int) + (1 : Int) by omega)
  let t12 : Tp pr := .i (wrap_i64 (a := (↑P.length : Int) + (1 : Int) - (1 : Int)) (by omega) (by omega))
  let t14 : Tp pr := .m (show (decide ((0 : Int) ≤ (↑P.length : Int) + (1 : Int) - (1 : Int) ∧ ((↑P.length : Int) + (1 : Int) - (1 : Int)).toNat < P.length + (1 : Nat))) = true by simp)
  let t15 : Tp pr := .c (show ((0 : Nat) + ((↑P.length : Int) + (1 : Int) - (1 : Int)).toNat : Nat) = P.length by omega)
  let t21 : Tp pr := .m (show (decide (F.length = F.length)) = true by simp)
  let t22 : Tp pr := .g .crow (show (F[P.length]?) = some ((Frm.mk (5 : Int) a r (-1 : Int)).cc) from e1)
  let t24 : Tp pr := .i (wrap_i64 (a := a + (1 : Int)) (by omega) (by omega))
  let t38 : Tp pr := .m (show (decide ((0 : Int) ≤ a + (1 : Int) ∧ (a + (1 : Int)).toNat < n)) = true by (simp; omega))
  let t39 : Tp pr := .c (show ((0 : Nat) + (a + (1 : Int)).toNat : Nat) = (a + (1 : Int)).toNat by omega)
  let t41 : Tp pr := .m (show (decide (S.length = n)) = true by simp [*])
  let t42 : Tp pr := .g .crow (show (S[(a + (1 : Int)).toNat]?) = some ([C.t (T.int IntKind.i64 (↑s : Int))]) from hs2)
  let t44 : Tp pr := .i (wrap_i64 (a := a + (1 : Int) + (↑s : Int)) (by omega) (by omega))
  let t57 : Tp pr := .m (show (decide ((0 : Int) ≤ v ∧ v.toNat < V.length)) = true by simp [*])
  let t58 : Tp pr := .c (show ((0 : Nat) + v.toNat : Nat) = v.toNat by omega)
  let t60 : Tp pr := .m (show (decide (V.length = V.length)) = true by simp)
  let t61 : Tp pr := .g .crow (show (V[v.toNat]?) = some ((Vl.mk b x q u).cc) from hvg)
  let t86 : Tp pr := .n .crows (rfl : (F.set P.length [C.t (T.int IntKind.i64 (5 : Int)), C.t (T.int IntKind.i64 a), C.t (T.int IntKind.i64 r), C.t (T.int IntKind.i64 v)]) = _)
  let t87 : Tp pr := .m (show (decide ((F.set P.length [C.t (T.int IntKind.i64 (5 : Int)), C.t (T.int IntKind.i64 a), C.t (T.int IntKind.i64 r), C.t (T.int IntKind.i64 v)]).length = F.length)) = true by simp)
  let t88 : Tp pr := .g .crow (show ((F.set P.length [C.t (T.int IntKind.i64 (5 : Int)), C.t (T.int IntKind.i64 a), C.t (T.int IntKind.i64 r), C.t (T.int IntKind.i64 v)])[P.length]?) = some ((Frm.mk (5 : Int) a r v).cc) from e5)
  exact .tp [.mT, .mT, .mT, .mT, .mT, .mT, .mT, .mT, .mT, .mT, t10, .mT, t12, .mT, t14, t15, .mT, .mT, .mT, .mT, .mT, t21, t22, .mT, t24, .mT, .mT, .mT, .mT, .mT, .mT, .mT, .mT, t21, t22, .mT, t24, .mT, t38, t39, .mT, t41, t42, .mT, t44, .mT, .mT, .mT, .mT, .mT, .mT, .mT, .mT, .mT, .mT, .mT, .mT, t57, t58, .mT, t60, t61, t60, t61, t60, t61, t60, t61, .mT, .mT, .mT, t21, t22, .bF, t21, t22, .bF, .bF, t21, t22, .bF, t21, t22, .bT, t21, t22, t86, t87, t88, .a (g2)] (by kernel_rfl)
theorem goAppS (w : Int) (hw : 0 ≤ w) (hw2 : w < V.length) (b1 : Bool) (x1 q1 u1 : Int) (hwg : V[w.toNat]? = some (Vl.cc ⟨false, x1, q1, u1⟩)) (h0 : 0 ≤ a) (ha : a + 1 < n) (hn : n ≤ 600) (hS : S.length = n) (hs : s ≤ 600) (hs2 : S[(a + 1).toNat]? = some [C.t (.int .i64 s)]) (hv : 0 ≤ v) (hv2 : v < V.length) (hvg : V[v.toNat]? = some (Vl.cc ⟨b, x, q, u⟩)) (hV : V.length ≤ 500) (hD : D.length ≤ 500) (hF : (P ++ Frm.cc ⟨4, a, r, w⟩ :: J).length ≤ 500)  : Ev pr (.call 103 [.ptr 0 1 0 0] (eS L n S B d p e v (P.length + 1) (P ++ Frm.cc ⟨4, a, r, w⟩ :: J) V D lg)) (.val (bl false) (eS L n S B d p e v (P.length + 1) (P ++ Frm.cc ⟨4, a, r, w⟩ :: J) V D lg)) := by
  have e1 : (P ++ Frm.cc ⟨4, a, r, w⟩ :: J)[P.length]? = some (Frm.cc ⟨4, a, r, w⟩) := by simp
  have e2 : (P ++ Frm.cc ⟨4, a, r, w⟩ :: J).length = P.length + 1 + J.length := by simp; omega
  unfold eS at *
  generalize hFF : (P ++ Frm.cc ⟨4, a, r, w⟩ :: J) = F at *
  let t10 : Tp pr := .i (show ((↑(P.length + (1 : Nat)) : Int) : Int) = (↑P.length : Int) + (1 : Int) by omega)
  let t12 : Tp pr := .i (wrap_i64 (a := (↑P.length : Int) + (1 : Int) - (1 : Int)) (by omega) (by omega))
  let t14 : Tp pr := .m (show (decide ((0 : Int) ≤ (↑P.length : Int) + (1 : Int) - (1 : Int) ∧ ((↑P.length : Int) + (1 : Int) - (1 : Int)).toNat < P.length + (1 : Nat))) = true by simp)
  let t15 : Tp pr := .c (show ((0 : Nat) + ((↑P.length : Int) + (1 : Int) - (1 : Int)).toNat : Nat) = P.length by omega)
  let t21 : Tp pr := .m (show (decide (F.length = F.length)) = true by simp)
  let t22 : Tp pr := .g .crow (show (F[P.length]?) = some ((Frm.mk (4 : Int) a r w).cc) from e1)
  let t24 : Tp pr := .i (wrap_i64 (a := a + (1 : Int)) (by omega) (by omega))
  let t38 : Tp pr := .m (show (decide ((0 : Int) ≤ a + (1 : Int) ∧ (a + (1 : Int)).toNat < n)) = true by (simp; omega))
  let t39 : Tp pr := .c (show ((0 : Nat) + (a + (1 : Int)).toNat : Nat) = (a + (1 : Int)).toNat by omega)
  let t41 : Tp pr := .m (show (decide (S.length = n)) = true by simp [*])
  let t42 : Tp pr := .g .crow (show (S[(a + (1 : Int)).toNat]?) = some ([C.t (T.int IntKind.i64 (↑s : Int))]) from hs2)
  let t44 : Tp pr := .i (wrap_i64 (a := a + (1 : Int) + (↑s : Int)) (by omega) (by omega))
  let t57 : Tp pr := .m (show (decide ((0 : Int) ≤ v ∧ v.toNat < V.length)) = true by simp [*])
  let t58 : Tp pr := .c (show ((0 : Nat) + v.toNat : Nat) = v.toNat by omega)
  let t60 : Tp pr := .m (show (decide (V.length = V.length)) = true by simp)
  let t61 : Tp pr := .g .crow (show (V[v.toNat]?) = some ((Vl.mk b x q u).cc) from hvg)
  let t83 : Tp pr := .b (show (decide (w < (0 : Int))) = false by (simp; omega))
  let t95 : Tp pr := .m (show (decide ((0 : Int) ≤ w ∧ w.toNat < V.length)) = true by simp [*])
  let t96 : Tp pr := .c (show ((0 : Nat) + w.toNat : Nat) = w.toNat by omega)
  let t99 : Tp pr := .g .crow (show (V[w.toNat]?) = some ((Vl.mk false x1 q1 u1).cc) from hwg)
  exact .tp [.mT, .mT, .mT, .mT, .mT, .mT, .mT, .mT, .mT, .mT, t10, .mT, t12, .mT, t14, t15, .mT, .mT, .mT, .mT, .mT, t21, t22, .mT, t24, .mT, .mT, .mT, .mT, .mT, .mT, .mT, .mT, t21, t22, .mT, t24, .mT, t38, t39, .mT, t41, t42, .mT, t44, .mT, .mT, .mT, .mT, .mT, .mT, .mT, .mT, .mT, .mT, .mT, .mT, t57, t58, .mT, t60, t61, t60, t61, t60, t61, t60, t61, .mT, .mT, .mT, t21, t22, .bF, t21, t22, .bF, .bF, t21, t22, .bF, t21, t22, t83, .mT, .mT, .mT, .mT, .mT, .mT, .mT, .mT, t21, t22, .mT, t95, t96, .mT, t60, t99, t60, t99, t60, t99, t60, t99, .mT, .mT, .mT, t21, t22, .bT, .bF] (by kernel_rfl)
theorem goAppY (w : Int) (hw : 0 ≤ w) (hw2 : w < V.length) (b1 : Bool) (x1 q1 u1 : Int) (hwg : V[w.toNat]? = some (Vl.cc ⟨true, x1, q1, u1⟩)) (h0 : 0 ≤ a) (ha : a + 1 < n) (hn : n ≤ 600) (hS : S.length = n) (hs : s ≤ 600) (hs2 : S[(a + 1).toNat]? = some [C.t (.int .i64 s)]) (hv : 0 ≤ v) (hv2 : v < V.length) (hvg : V[v.toNat]? = some (Vl.cc ⟨b, x, q, u⟩)) (hV : V.length ≤ 500) (hD : D.length ≤ 500) (hF : (P ++ Frm.cc ⟨4, a, r, w⟩ :: J).length ≤ 500) (hq : 0 ≤ q1) (hq2 : q1 ≤ 600) (h : D.length < 500) : Ev pr (.call 103 [.ptr 0 1 0 0] (eS L n S B d p e v (P.length + 1) (P ++ Frm.cc ⟨4, a, r, w⟩ :: J) V D lg)) (.val (bl true) (eS L n S B false (q1 + 1) D.length (-1) P.length (P ++ Frm.cc ⟨4, a, r, w⟩ :: J) V (D ++ [Bd.cc ⟨v, u1⟩]) lg)) := by
  have g := bindY_ev L n S B d p e v P.length (P ++ Frm.cc ⟨4, a, r, w⟩ :: J) V D lg h (by simp) (by omega) u1 (q1 + 1)
  have e1 : (P ++ Frm.cc ⟨4, a, r, w⟩ :: J)[P.length]? = some (Frm.cc ⟨4, a, r, w⟩) := by simp
  have e2 : (P ++ Frm.cc ⟨4, a, r, w⟩ :: J).length = P.length + 1 + J.length := by simp; omega
  unfold eS at *
  generalize hFF : (P ++ Frm.cc ⟨4, a, r, w⟩ :: J) = F at *
  let t10 : Tp pr := .i (show ((↑(P.length + (1 : Nat)) : Int) : Int) = (↑P.length : Int) + (1 : Int) by omega)
  let t12 : Tp pr := .i (wrap_i64 (a := (↑P.length : Int) + (1 : Int) - (1 : Int)) (by omega) (by omega))
  let t14 : Tp pr := .m (show (decide ((0 : Int) ≤ (↑P.length : Int) + (1 : Int) - (1 : Int) ∧ ((↑P.length : Int) + (1 : Int) - (1 : Int)).toNat < P.length + (1 : Nat))) = true by simp)
  let t15 : Tp pr := .c (show ((0 : Nat) + ((↑P.length : Int) + (1 : Int) - (1 : Int)).toNat : Nat) = P.length by omega)
  let t21 : Tp pr := .m (show (decide (F.length = F.length)) = true by simp)
  let t22 : Tp pr := .g .crow (show (F[P.length]?) = some ((Frm.mk (4 : Int) a r w).cc) from e1)
  let t24 : Tp pr := .i (wrap_i64 (a := a + (1 : Int)) (by omega) (by omega))
  let t38 : Tp pr := .m (show (decide ((0 : Int) ≤ a + (1 : Int) ∧ (a + (1 : Int)).toNat < n)) = true by (simp; omega))
  let t39 : Tp pr := .c (show ((0 : Nat) + (a + (1 : Int)).toNat : Nat) = (a + (1 : Int)).toNat by omega)
  let t41 : Tp pr := .m (show (decide (S.length = n)) = true by simp [*])
  let t42 : Tp pr := .g .crow (show (S[(a + (1 : Int)).toNat]?) = some ([C.t (T.int IntKind.i64 (↑s : Int))]) from hs2)
  let t44 : Tp pr := .i (wrap_i64 (a := a + (1 : Int) + (↑s : Int)) (by omega) (by omega))
  let t57 : Tp pr := .m (show (decide ((0 : Int) ≤ v ∧ v.toNat < V.length)) = true by simp [*])
  let t58 : Tp pr := .c (show ((0 : Nat) + v.toNat : Nat) = v.toNat by omega)
  let t60 : Tp pr := .m (show (decide (V.length = V.length)) = true by simp)
  let t61 : Tp pr := .g .crow (show (V[v.toNat]?) = some ((Vl.mk b x q u).cc) from hvg)
  let t83 : Tp pr := .b (show (decide (w < (0 : Int))) = false by (simp; omega))
  let t95 : Tp pr := .m (show (decide ((0 : Int) ≤ w ∧ w.toNat < V.length)) = true by simp [*])
  let t96 : Tp pr := .c (show ((0 : Nat) + w.toNat : Nat) = w.toNat by omega)
  let t99 : Tp pr := .g .crow (show (V[w.toNat]?) = some ((Vl.mk true x1 q1 u1).cc) from hwg)
  let t113 : Tp pr := .i (wrap_i64 (a := q1 + (1 : Int)) (by omega) (by omega))
  exact .tp [.mT, .mT, .mT, .mT, .mT, .mT, .mT, .mT, .mT, .mT, t10, .mT, t12, .mT, t14, t15, .mT, .mT, .mT, .mT, .mT, t21, t22, .mT, t24, .mT, .mT, .mT, .mT, .mT, .mT, .mT, .mT, t21, t22, .mT, t24, .mT, t38, t39, .mT, t41, t42, .mT, t44, .mT, .mT, .mT, .mT, .mT, .mT, .mT, .mT, .mT, .mT, .mT, .mT, t57, t58, .mT, t60, t61, t60, t61, t60, t61, t60, t61, .mT, .mT, .mT, t21, t22, .bF, t21, t22, .bF, .bF, t21, t22, .bF, t21, t22, t83, .mT, .mT, .mT, .mT, .mT, .mT, .mT, .mT, t21, t22, .mT, t95, t96, .mT, t60, t99, t60, t99, t60, t99, t60, t99, .mT, .mT, .mT, t21, t22, .bT, .bT, t113, .a (g)] (by kernel_rfl)
theorem goAppN (w : Int) (hw : 0 ≤ w) (hw2 : w < V.length) (b1 : Bool) (x1 q1 u1 : Int) (hwg : V[w.toNat]? = some (Vl.cc ⟨true, x1, q1, u1⟩)) (h0 : 0 ≤ a) (ha : a + 1 < n) (hn : n ≤ 600) (hS : S.length = n) (hs : s ≤ 600) (hs2 : S[(a + 1).toNat]? = some [C.t (.int .i64 s)]) (hv : 0 ≤ v) (hv2 : v < V.length) (hvg : V[v.toNat]? = some (Vl.cc ⟨b, x, q, u⟩)) (hV : V.length ≤ 500) (hD : D.length ≤ 500) (hF : (P ++ Frm.cc ⟨4, a, r, w⟩ :: J).length ≤ 500) (hq : 0 ≤ q1) (hq2 : q1 ≤ 600) (h : D.length = 500) : Ev pr (.call 103 [.ptr 0 1 0 0] (eS L n S B d p e v (P.length + 1) (P ++ Frm.cc ⟨4, a, r, w⟩ :: J) V D lg)) (.val (bl false) (eS L n S B d p e v (P.length + 1) (P ++ Frm.cc ⟨4, a, r, w⟩ :: J) V D true)) := by
  have g := bindN_ev L n S B d p e v (P.length + 1) (P ++ Frm.cc ⟨4, a, r, w⟩ :: J) V D lg h u1 (q1 + 1)
  have e1 : (P ++ Frm.cc ⟨4, a, r, w⟩ :: J)[P.length]? = some (Frm.cc ⟨4, a, r, w⟩) := by simp
  have e2 : (P ++ Frm.cc ⟨4, a, r, w⟩ :: J).length = P.length + 1 + J.length := by simp; omega
  unfold eS at *
  generalize hFF : (P ++ Frm.cc ⟨4, a, r, w⟩ :: J) = F at *
  let t10 : Tp pr := .i (show ((↑(P.length + (1 : Nat)) : Int) : Int) = (↑P.length : Int) + (1 : Int) by omega)
  let t12 : Tp pr := .i (wrap_i64 (a := (↑P.length : Int) + (1 : Int) - (1 : Int)) (by omega) (by omega))
  let t14 : Tp pr := .m (show (decide ((0 : Int) ≤ (↑P.length : Int) + (1 : Int) - (1 : Int) ∧ ((↑P.length : Int) + (1 : Int) - (1 : Int)).toNat < P.length + (1 : Nat))) = true by simp)
  let t15 : Tp pr := .c (show ((0 : Nat) + ((↑P.length : Int) + (1 : Int) - (1 : Int)).toNat : Nat) = P.length by omega)
  let t21 : Tp pr := .m (show (decide (F.length = F.length)) = true by simp)
  let t22 : Tp pr := .g .crow (show (F[P.length]?) = some ((Frm.mk (4 : Int) a r w).cc) from e1)
  let t24 : Tp pr := .i (wrap_i64 (a := a + (1 : Int)) (by omega) (by omega))
  let t38 : Tp pr := .m (show (decide ((0 : Int) ≤ a + (1 : Int) ∧ (a + (1 : Int)).toNat < n)) = true by (simp; omega))
  let t39 : Tp pr := .c (show ((0 : Nat) + (a + (1 : Int)).toNat : Nat) = (a + (1 : Int)).toNat by omega)
  let t41 : Tp pr := .m (show (decide (S.length = n)) = true by simp [*])
  let t42 : Tp pr := .g .crow (show (S[(a + (1 : Int)).toNat]?) = some ([C.t (T.int IntKind.i64 (↑s : Int))]) from hs2)
  let t44 : Tp pr := .i (wrap_i64 (a := a + (1 : Int) + (↑s : Int)) (by omega) (by omega))
  let t57 : Tp pr := .m (show (decide ((0 : Int) ≤ v ∧ v.toNat < V.length)) = true by simp [*])
  let t58 : Tp pr := .c (show ((0 : Nat) + v.toNat : Nat) = v.toNat by omega)
  let t60 : Tp pr := .m (show (decide (V.length = V.length)) = true by simp)
  let t61 : Tp pr := .g .crow (show (V[v.toNat]?) = some ((Vl.mk b x q u).cc) from hvg)
  let t83 : Tp pr := .b (show (decide (w < (0 : Int))) = false by (simp; omega))
  let t95 : Tp pr := .m (show (decide ((0 : Int) ≤ w ∧ w.toNat < V.length)) = true by simp [*])
  let t96 : Tp pr := .c (show ((0 : Nat) + w.toNat : Nat) = w.toNat by omega)
  let t99 : Tp pr := .g .crow (show (V[w.toNat]?) = some ((Vl.mk true x1 q1 u1).cc) from hwg)
  let t113 : Tp pr := .i (wrap_i64 (a := q1 + (1 : Int)) (by omega) (by omega))
  exact .tp [.mT, .mT, .mT, .mT, .mT, .mT, .mT, .mT, .mT, .mT, t10, .mT, t12, .mT, t14, t15, .mT, .mT, .mT, .mT, .mT, t21, t22, .mT, t24, .mT, .mT, .mT, .mT, .mT, .mT, .mT, .mT, t21, t22, .mT, t24, .mT, t38, t39, .mT, t41, t42, .mT, t44, .mT, .mT, .mT, .mT, .mT, .mT, .mT, .mT, .mT, .mT, .mT, .mT, t57, t58, .mT, t60, t61, t60, t61, t60, t61, t60, t61, .mT, .mT, .mT, t21, t22, .bF, t21, t22, .bF, .bF, t21, t22, .bF, t21, t22, t83, .mT, .mT, .mT, .mT, .mT, .mT, .mT, .mT, t21, t22, .mT, t95, t96, .mT, t60, t99, t60, t99, t60, t99, t60, t99, .mT, .mT, .mT, t21, t22, .bT, .bT, t113, .a (g)] (by kernel_rfl)
theorem goAddF (w : Int) (hw : 0 ≤ w) (hw2 : w < V.length) (b1 : Bool) (x1 q1 u1 : Int) (hwg : V[w.toNat]? = some (Vl.cc ⟨true, x1, q1, u1⟩)) (h0 : 0 ≤ a) (ha : a + 1 < n) (hn : n ≤ 600) (hS : S.length = n) (hs : s ≤ 600) (hs2 : S[(a + 1).toNat]? = some [C.t (.int .i64 s)]) (hv : 0 ≤ v) (hv2 : v < V.length) (hvg : V[v.toNat]? = some (Vl.cc ⟨b, x, q, u⟩)) (hV : V.length ≤ 500) (hD : D.length ≤ 500) (hF : (P ++ Frm.cc ⟨5, a, r, w⟩ :: J).length ≤ 500)  : Ev pr (.call 103 [.ptr 0 1 0 0] (eS L n S B d p e v (P.length + 1) (P ++ Frm.cc ⟨5, a, r, w⟩ :: J) V D lg)) (.val (bl false) (eS L n S B d p e v (P.length + 1) (P ++ Frm.cc ⟨5, a, r, w⟩ :: J) V D lg)) := by
  have e1 : (P ++ Frm.cc ⟨5, a, r, w⟩ :: J)[P.length]? = some (Frm.cc ⟨5, a, r, w⟩) := by simp
  have e2 : (P ++ Frm.cc ⟨5, a, r, w⟩ :: J).length = P.length + 1 + J.length := by simp; omega
  unfold eS at *
  generalize hFF : (P ++ Frm.cc ⟨5, a, r, w⟩ :: J) = F at *
  let t10 : Tp pr := .i (show ((↑(P.length + (1 : Nat)) : Int) : Int) = (↑P.length : Int) + (1 : Int) by omega)
  let t12 : Tp pr := .i (wrap_i64 (a := (↑P.length : Int) + (1 : Int) - (1 : Int)) (by omega) (by omega))
  let t14 : Tp pr := .m (show (decide ((0 : Int) ≤ (↑P.length : Int) + (1 : Int) - (1 : Int) ∧ ((↑P.length : Int) + (1 : Int) - (1 : Int)).toNat < P.length + (1 : Nat))) = true by simp)
  let t15 : Tp pr := .c (show ((0 : Nat) + ((↑P.length : Int) + (1 : Int) - (1 : Int)).toNat : Nat) = P.length by omega)
  let t21 : Tp pr := .m (show (decide (F.length = F.length)) = true by simp)
  let t22 : Tp pr := .g .crow (show (F[P.length]?) = some ((Frm.mk (5 : Int) a r w).cc) from e1)
  let t24 : Tp pr := .i (wrap_i64 (a := a + (1 : Int)) (by omega) (by omega))
  let t38 : Tp pr := .m (show (decide ((0 : Int) ≤ a + (1 : Int) ∧ (a + (1 : Int)).toNat < n)) = true by (simp; omega))
  let t39 : Tp pr := .c (show ((0 : Nat) + (a + (1 : Int)).toNat : Nat) = (a + (1 : Int)).toNat by omega)
  let t41 : Tp pr := .m (show (decide (S.length = n)) = true by simp [*])
  let t42 : Tp pr := .g .crow (show (S[(a + (1 : Int)).toNat]?) = some ([C.t (T.int IntKind.i64 (↑s : Int))]) from hs2)
  let t44 : Tp pr := .i (wrap_i64 (a := a + (1 : Int) + (↑s : Int)) (by omega) (by omega))
  let t57 : Tp pr := .m (show (decide ((0 : Int) ≤ v ∧ v.toNat < V.length)) = true by simp [*])
  let t58 : Tp pr := .c (show ((0 : Nat) + v.toNat : Nat) = v.toNat by omega)
  let t60 : Tp pr := .m (show (decide (V.length = V.length)) = true by simp)
  let t61 : Tp pr := .g .crow (show (V[v.toNat]?) = some ((Vl.mk b x q u).cc) from hvg)
  let t83 : Tp pr := .b (show (decide (w < (0 : Int))) = false by (simp; omega))
  let t95 : Tp pr := .m (show (decide ((0 : Int) ≤ w ∧ w.toNat < V.length)) = true by simp [*])
  let t96 : Tp pr := .c (show ((0 : Nat) + w.toNat : Nat) = w.toNat by omega)
  let t99 : Tp pr := .g .crow (show (V[w.toNat]?) = some ((Vl.mk true x1 q1 u1).cc) from hwg)
  exact .tp [.mT, .mT, .mT, .mT, .mT, .mT, .mT, .mT, .mT, .mT, t10, .mT, t12, .mT, t14, t15, .mT, .mT, .mT, .mT, .mT, t21, t22, .mT, t24, .mT, .mT, .mT, .mT, .mT, .mT, .mT, .mT, t21, t22, .mT, t24, .mT, t38, t39, .mT, t41, t42, .mT, t44, .mT, .mT, .mT, .mT, .mT, .mT, .mT, .mT, .mT, .mT, .mT, .mT, t57, t58, .mT, t60, t61, t60, t61, t60, t61, t60, t61, .mT, .mT, .mT, t21, t22, .bF, t21, t22, .bF, .bF, t21, t22, .bF, t21, t22, t83, .mT, .mT, .mT, .mT, .mT, .mT, .mT, .mT, t21, t22, .mT, t95, t96, .mT, t60, t99, t60, t99, t60, t99, t60, t99, .mT, .mT, .mT, t21, t22, .bF, .bT, .bT, .bT, .bT] (by kernel_rfl)
theorem goAddG (w : Int) (hw : 0 ≤ w) (hw2 : w < V.length) (b1 : Bool) (x1 q1 u1 : Int) (hwg : V[w.toNat]? = some (Vl.cc ⟨false, x1, q1, u1⟩)) (h0 : 0 ≤ a) (ha : a + 1 < n) (hn : n ≤ 600) (hS : S.length = n) (hs : s ≤ 600) (hs2 : S[(a + 1).toNat]? = some [C.t (.int .i64 s)]) (hv : 0 ≤ v) (hv2 : v < V.length) (hvg : V[v.toNat]? = some (Vl.cc ⟨true, x, q, u⟩)) (hV : V.length ≤ 500) (hD : D.length ≤ 500) (hF : (P ++ Frm.cc ⟨5, a, r, w⟩ :: J).length ≤ 500)  : Ev pr (.call 103 [.ptr 0 1 0 0] (eS L n S B d p e v (P.length + 1) (P ++ Frm.cc ⟨5, a, r, w⟩ :: J) V D lg)) (.val (bl false) (eS L n S B d p e v (P.length + 1) (P ++ Frm.cc ⟨5, a, r, w⟩ :: J) V D lg)) := by
  have e1 : (P ++ Frm.cc ⟨5, a, r, w⟩ :: J)[P.length]? = some (Frm.cc ⟨5, a, r, w⟩) := by simp
  have e2 : (P ++ Frm.cc ⟨5, a, r, w⟩ :: J).length = P.length + 1 + J.length := by simp; omega
  unfold eS at *
  generalize hFF : (P ++ Frm.cc ⟨5, a, r, w⟩ :: J) = F at *
  let t10 : Tp pr := .i (show ((↑(P.length + (1 : Nat)) : Int) : Int) = (↑P.length : Int) + (1 : Int) by omega)
  let t12 : Tp pr := .i (wrap_i64 (a := (↑P.length : Int) + (1 : Int) - (1 : Int)) (by omega) (by omega))
  let t14 : Tp pr := .m (show (decide ((0 : Int) ≤ (↑P.length : Int) + (1 : Int) - (1 : Int) ∧ ((↑P.length : Int) + (1 : Int) - (1 : Int)).toNat < P.length + (1 : Nat))) = true by simp)
  let t15 : Tp pr := .c (show ((0 : Nat) + ((↑P.length : Int) + (1 : Int) - (1 : Int)).toNat : Nat) = P.length by omega)
  let t21 : Tp pr := .m (show (decide (F.length = F.length)) = true by simp)
  let t22 : Tp pr := .g .crow (show (F[P.length]?) = some ((Frm.mk (5 : Int) a r w).cc) from e1)
  let t24 : Tp pr := .i (wrap_i64 (a := a + (1 : Int)) (by omega) (by omega))
  let t38 : Tp pr := .m (show (decide ((0 : Int) ≤ a + (1 : Int) ∧ (a + (1 : Int)).toNat < n)) = true by (simp; omega))
  let t39 : Tp pr := .c (show ((0 : Nat) + (a + (1 : Int)).toNat : Nat) = (a + (1 : Int)).toNat by omega)
  let t41 : Tp pr := .m (show (decide (S.length = n)) = true by simp [*])
  let t42 : Tp pr := .g .crow (show (S[(a + (1 : Int)).toNat]?) = some ([C.t (T.int IntKind.i64 (↑s : Int))]) from hs2)
  let t44 : Tp pr := .i (wrap_i64 (a := a + (1 : Int) + (↑s : Int)) (by omega) (by omega))
  let t57 : Tp pr := .m (show (decide ((0 : Int) ≤ v ∧ v.toNat < V.length)) = true by simp [*])
  let t58 : Tp pr := .c (show ((0 : Nat) + v.toNat : Nat) = v.toNat by omega)
  let t60 : Tp pr := .m (show (decide (V.length = V.length)) = true by simp)
  let t61 : Tp pr := .g .crow (show (V[v.toNat]?) = some ((Vl.mk true x q u).cc) from hvg)
  let t83 : Tp pr := .b (show (decide (w < (0 : Int))) = false by (simp; omega))
  let t95 : Tp pr := .m (show (decide ((0 : Int) ≤ w ∧ w.toNat < V.length)) = true by simp [*])
  let t96 : Tp pr := .c (show ((0 : Nat) + w.toNat : Nat) = w.toNat by omega)
  let t99 : Tp pr := .g .crow (show (V[w.toNat]?) = some ((Vl.mk false x1 q1 u1).cc) from hwg)
  exact .tp [.mT, .mT, .mT, .mT, .mT, .mT, .mT, .mT, .mT, .mT, t10, .mT, t12, .mT, t14, t15, .mT, .mT, .mT, .mT, .mT, t21, t22, .mT, t24, .mT, .mT, .mT, .mT, .mT, .mT, .mT, .mT, t21, t22, .mT, t24, .mT, t38, t39, .mT, t41, t42, .mT, t44, .mT, .mT, .mT, .mT, .mT, .mT, .mT, .mT, .mT, .mT, .mT, .mT, t57, t58, .mT, t60, t61, t60, t61, t60, t61, t60, t61, .mT, .mT, .mT, t21, t22, .bF, t21, t22, .bF, .bF, t21, t22, .bF, t21, t22, t83, .mT, .mT, .mT, .mT, .mT, .mT, .mT, .mT, t21, t22, .mT, t95, t96, .mT, t60, t99, t60, t99, t60, t99, t60, t99, .mT, .mT, .mT, t21, t22, .bF, .bF, .bT, .bT, .bT] (by kernel_rfl)
theorem goAddB (w : Int) (hw : 0 ≤ w) (hw2 : w < V.length) (b1 : Bool) (x1 q1 u1 : Int) (hwg : V[w.toNat]? = some (Vl.cc ⟨false, x1, q1, u1⟩)) (h0 : 0 ≤ a) (ha : a + 1 < n) (hn : n ≤ 600) (hS : S.length = n) (hs : s ≤ 600) (hs2 : S[(a + 1).toNat]? = some [C.t (.int .i64 s)]) (hv : 0 ≤ v) (hv2 : v < V.length) (hvg : V[v.toNat]? = some (Vl.cc ⟨false, x, q, u⟩)) (hV : V.length ≤ 500) (hD : D.length ≤ 500) (hF : (P ++ Frm.cc ⟨5, a, r, w⟩ :: J).length ≤ 500) (hx : -1000000 ≤ x ∧ x ≤ 1000000) (hx1 : -1000000 ≤ x1 ∧ x1 ≤ 1000000) (hr : ¬ (-1000000 ≤ x1 + x ∧ x1 + x ≤ 1000000)) : Ev pr (.call 103 [.ptr 0 1 0 0] (eS L n S B d p e v (P.length + 1) (P ++ Frm.cc ⟨5, a, r, w⟩ :: J) V D lg)) (.val (bl false) (eS L n S B d p e v (P.length + 1) (P ++ Frm.cc ⟨5, a, r, w⟩ :: J) V D lg)) := by
  have hb : (decide (x1 + x ≥ -1000000) && decide (x1 + x ≤ 1000000)) = false := by simp; omega
  have gw := within_ev (x1 + x) (-1000000) 1000000
  rw [hb] at gw
  have e1 : (P ++ Frm.cc ⟨5, a, r, w⟩ :: J)[P.length]? = some (Frm.cc ⟨5, a, r, w⟩) := by simp
  have e2 : (P ++ Frm.cc ⟨5, a, r, w⟩ :: J).length = P.length + 1 + J.length := by simp; omega
  unfold eS at *
  generalize hFF : (P ++ Frm.cc ⟨5, a, r, w⟩ :: J) = F at *
  let t10 : Tp pr := .i (show ((↑(P.length + (1 : Nat)) : Int) : Int) = (↑P.length : Int) + (1 : Int) by omega)
  let t12 : Tp pr := .i (wrap_i64 (a := (↑P.length : Int) + (1 : Int) - (1 : Int)) (by omega) (by omega))
  let t14 : Tp pr := .m (show (decide ((0 : Int) ≤ (↑P.length : Int) + (1 : Int) - (1 : Int) ∧ ((↑P.length : Int) + (1 : Int) - (1 : Int)).toNat < P.length + (1 : Nat))) = true by simp)
  let t15 : Tp pr := .c (show ((0 : Nat) + ((↑P.length : Int) + (1 : Int) - (1 : Int)).toNat : Nat) = P.length by omega)
  let t21 : Tp pr := .m (show (decide (F.length = F.length)) = true by simp)
  let t22 : Tp pr := .g .crow (show (F[P.length]?) = some ((Frm.mk (5 : Int) a r w).cc) from e1)
  let t24 : Tp pr := .i (wrap_i64 (a := a + (1 : Int)) (by omega) (by omega))
  let t38 : Tp pr := .m (show (decide ((0 : Int) ≤ a + (1 : Int) ∧ (a + (1 : Int)).toNat < n)) = true by (simp; omega))
  let t39 : Tp pr := .c (show ((0 : Nat) + (a + (1 : Int)).toNat : Nat) = (a + (1 : Int)).toNat by omega)
  let t41 : Tp pr := .m (show (decide (S.length = n)) = true by simp [*])
  let t42 : Tp pr := .g .crow (show (S[(a + (1 : Int)).toNat]?) = some ([C.t (T.int IntKind.i64 (↑s : Int))]) from hs2)
  let t44 : Tp pr := .i (wrap_i64 (a := a + (1 : Int) + (↑s : Int)) (by omega) (by omega))
  let t57 : Tp pr := .m (show (decide ((0 : Int) ≤ v ∧ v.toNat < V.length)) = true by simp [*])
  let t58 : Tp pr := .c (show ((0 : Nat) + v.toNat : Nat) = v.toNat by omega)
  let t60 : Tp pr := .m (show (decide (V.length = V.length)) = true by simp)
  let t61 : Tp pr := .g .crow (show (V[v.toNat]?) = some ((Vl.mk false x q u).cc) from hvg)
  let t83 : Tp pr := .b (show (decide (w < (0 : Int))) = false by (simp; omega))
  let t95 : Tp pr := .m (show (decide ((0 : Int) ≤ w ∧ w.toNat < V.length)) = true by simp [*])
  let t96 : Tp pr := .c (show ((0 : Nat) + w.toNat : Nat) = w.toNat by omega)
  let t99 : Tp pr := .g .crow (show (V[w.toNat]?) = some ((Vl.mk false x1 q1 u1).cc) from hwg)
  let t114 : Tp pr := .i (wrap_i64 (a := x1 + x) (by omega) (by omega))
  exact .tp [.mT, .mT, .mT, .mT, .mT, .mT, .mT, .mT, .mT, .mT, t10, .mT, t12, .mT, t14, t15, .mT, .mT, .mT, .mT, .mT, t21, t22, .mT, t24, .mT, .mT, .mT, .mT, .mT, .mT, .mT, .mT, t21, t22, .mT, t24, .mT, t38, t39, .mT, t41, t42, .mT, t44, .mT, .mT, .mT, .mT, .mT, .mT, .mT, .mT, .mT, .mT, .mT, .mT, t57, t58, .mT, t60, t61, t60, t61, t60, t61, t60, t61, .mT, .mT, .mT, t21, t22, .bF, t21, t22, .bF, .bF, t21, t22, .bF, t21, t22, t83, .mT, .mT, .mT, .mT, .mT, .mT, .mT, .mT, t21, t22, .mT, t95, t96, .mT, t60, t99, t60, t99, t60, t99, t60, t99, .mT, .mT, .mT, t21, t22, .bF, .bF, .bF, t114, .a (gw), .bT, .bT] (by kernel_rfl)
theorem goAddN (w : Int) (hw : 0 ≤ w) (hw2 : w < V.length) (b1 : Bool) (x1 q1 u1 : Int) (hwg : V[w.toNat]? = some (Vl.cc ⟨false, x1, q1, u1⟩)) (h0 : 0 ≤ a) (ha : a + 1 < n) (hn : n ≤ 600) (hS : S.length = n) (hs : s ≤ 600) (hs2 : S[(a + 1).toNat]? = some [C.t (.int .i64 s)]) (hv : 0 ≤ v) (hv2 : v < V.length) (hvg : V[v.toNat]? = some (Vl.cc ⟨false, x, q, u⟩)) (hV : V.length ≤ 500) (hD : D.length ≤ 500) (hF : (P ++ Frm.cc ⟨5, a, r, w⟩ :: J).length ≤ 500) (hx : -1000000 ≤ x ∧ x ≤ 1000000) (hx1 : -1000000 ≤ x1 ∧ x1 ≤ 1000000) (hr : -1000000 ≤ x1 + x ∧ x1 + x ≤ 1000000) (h : V.length = 500) : Ev pr (.call 103 [.ptr 0 1 0 0] (eS L n S B d p e v (P.length + 1) (P ++ Frm.cc ⟨5, a, r, w⟩ :: J) V D lg)) (.val (bl false) (eS L n S B d p e v (P.length + 1) (P ++ Frm.cc ⟨5, a, r, w⟩ :: J) V D true)) := by
  have hb : (decide (x1 + x ≥ -1000000) && decide (x1 + x ≤ 1000000)) = true := by simp; omega
  have gw := within_ev (x1 + x) (-1000000) 1000000
  rw [hb] at gw
  have g := roomN_ev L n S B d p e v (P.length + 1) (P ++ Frm.cc ⟨5, a, r, w⟩ :: J) V D lg V.length h
  have e1 : (P ++ Frm.cc ⟨5, a, r, w⟩ :: J)[P.length]? = some (Frm.cc ⟨5, a, r, w⟩) := by simp
  have e2 : (P ++ Frm.cc ⟨5, a, r, w⟩ :: J).length = P.length + 1 + J.length := by simp; omega
  unfold eS at *
  generalize hFF : (P ++ Frm.cc ⟨5, a, r, w⟩ :: J) = F at *
  let t10 : Tp pr := .i (show ((↑(P.length + (1 : Nat)) : Int) : Int) = (↑P.length : Int) + (1 : Int) by omega)
  let t12 : Tp pr := .i (wrap_i64 (a := (↑P.length : Int) + (1 : Int) - (1 : Int)) (by omega) (by omega))
  let t14 : Tp pr := .m (show (decide ((0 : Int) ≤ (↑P.length : Int) + (1 : Int) - (1 : Int) ∧ ((↑P.length : Int) + (1 : Int) - (1 : Int)).toNat < P.length + (1 : Nat))) = true by simp)
  let t15 : Tp pr := .c (show ((0 : Nat) + ((↑P.length : Int) + (1 : Int) - (1 : Int)).toNat : Nat) = P.length by omega)
  let t21 : Tp pr := .m (show (decide (F.length = F.length)) = true by simp)
  let t22 : Tp pr := .g .crow (show (F[P.length]?) = some ((Frm.mk (5 : Int) a r w).cc) from e1)
  let t24 : Tp pr := .i (wrap_i64 (a := a + (1 : Int)) (by omega) (by omega))
  let t38 : Tp pr := .m (show (decide ((0 : Int) ≤ a + (1 : Int) ∧ (a + (1 : Int)).toNat < n)) = true by (simp; omega))
  let t39 : Tp pr := .c (show ((0 : Nat) + (a + (1 : Int)).toNat : Nat) = (a + (1 : Int)).toNat by omega)
  let t41 : Tp pr := .m (show (decide (S.length = n)) = true by simp [*])
  let t42 : Tp pr := .g .crow (show (S[(a + (1 : Int)).toNat]?) = some ([C.t (T.int IntKind.i64 (↑s : Int))]) from hs2)
  let t44 : Tp pr := .i (wrap_i64 (a := a + (1 : Int) + (↑s : Int)) (by omega) (by omega))
  let t57 : Tp pr := .m (show (decide ((0 : Int) ≤ v ∧ v.toNat < V.length)) = true by (simp; omega))
  let t58 : Tp pr := .c (show ((0 : Nat) + v.toNat : Nat) = v.toNat by omega)
  let t60 : Tp pr := .m (show (decide (V.length = V.length)) = true by simp)
  let t61 : Tp pr := .g .crow (show (V[v.toNat]?) = some ((Vl.mk false x q u).cc) from hvg)
  let t83 : Tp pr := .b (show (decide (w < (0 : Int))) = false by (simp; omega))
  let t95 : Tp pr := .m (show (decide ((0 : Int) ≤ w ∧ w.toNat < V.length)) = true by (simp; omega))
  let t96 : Tp pr := .c (show ((0 : Nat) + w.toNat : Nat) = w.toNat by omega)
  let t99 : Tp pr := .g .crow (show (V[w.toNat]?) = some ((Vl.mk false x1 q1 u1).cc) from hwg)
  let t114 : Tp pr := .i (wrap_i64 (a := x1 + x) (by omega) (by omega))
  exact .tp [.mT, .mT, .mT, .mT, .mT, .mT, .mT, .mT, .mT, .mT, t10, .mT, t12, .mT, t14, t15, .mT, .mT, .mT, .mT, .mT, t21, t22, .mT, t24, .mT, .mT, .mT, .mT, .mT, .mT, .mT, .mT, t21, t22, .mT, t24, .mT, t38, t39, .mT, t41, t42, .mT, t44, .mT, .mT, .mT, .mT, .mT, .mT, .mT, .mT, .mT, .mT, .mT, .mT, t57, t58, .mT, t60, t61, t60, t61, t60, t61, t60, t61, .mT, .mT, .mT, t21, t22, .bF, t21, t22, .bF, .bF, t21, t22, .bF, t21, t22, t83, .mT, .mT, .mT, .mT, .mT, .mT, .mT, .mT, t21, t22, .mT, t95, t96, .mT, t60, t99, t60, t99, t60, t99, t60, t99, .mT, .mT, .mT, t21, t22, .bF, .bF, .bF, t114, .a (gw), .bF, .i (rfl : ((↑V.length : Int)) = _), .a (g), .bT] (by kernel_rfl)
theorem goAddY (w : Int) (hw : 0 ≤ w) (hw2 : w < V.length) (b1 : Bool) (x1 q1 u1 : Int) (hwg : V[w.toNat]? = some (Vl.cc ⟨false, x1, q1, u1⟩)) (h0 : 0 ≤ a) (ha : a + 1 < n) (hn : n ≤ 600) (hS : S.length = n) (hs : s ≤ 600) (hs2 : S[(a + 1).toNat]? = some [C.t (.int .i64 s)]) (hv : 0 ≤ v) (hv2 : v < V.length) (hvg : V[v.toNat]? = some (Vl.cc ⟨false, x, q, u⟩)) (hV : V.length ≤ 500) (hD : D.length ≤ 500) (hF : (P ++ Frm.cc ⟨5, a, r, w⟩ :: J).length ≤ 500) (hx : -1000000 ≤ x ∧ x ≤ 1000000) (hx1 : -1000000 ≤ x1 ∧ x1 ≤ 1000000) (hr : -1000000 ≤ x1 + x ∧ x1 + x ≤ 1000000) (h : V.length < 500) : Ev pr (.call 103 [.ptr 0 1 0 0] (eS L n S B d p e v (P.length + 1) (P ++ Frm.cc ⟨5, a, r, w⟩ :: J) V D lg)) (.val (bl true) (eS L n S B true (-1) (-1) V.length P.length (P ++ Frm.cc ⟨5, a, r, w⟩ :: J) (V ++ [Vl.cc ⟨false, x1 + x, 0, 0⟩]) D lg)) := by
  have hb : (decide (x1 + x ≥ -1000000) && decide (x1 + x ≤ 1000000)) = true := by simp; omega
  have gw := within_ev (x1 + x) (-1000000) 1000000
  rw [hb] at gw
  have g := roomY_ev L n S B d p e v (P.length + 1) (P ++ Frm.cc ⟨5, a, r, w⟩ :: J) V D lg V.length h
  have g2 := drop_ev L n S B d p e v P.length (P ++ Frm.cc ⟨5, a, r, w⟩ :: J) V D lg (by simp) (by omega)
  have g3 := valueY_ev L n S B d p e v P.length (P ++ Frm.cc ⟨5, a, r, w⟩ :: J) V D lg h ⟨false, x1 + x, 0, 0⟩
  have e1 : (P ++ Frm.cc ⟨5, a, r, w⟩ :: J)[P.length]? = some (Frm.cc ⟨5, a, r, w⟩) := by simp
  have e2 : (P ++ Frm.cc ⟨5, a, r, w⟩ :: J).length = P.length + 1 + J.length := by simp; omega
  unfold eS at *
  generalize hFF : (P ++ Frm.cc ⟨5, a, r, w⟩ :: J) = F at *
  let t10 : Tp pr := .i (show ((↑(P.length + (1 : Nat)) : Int) : Int) = (↑P.length : Int) + (1 : Int) by omega)
  let t12 : Tp pr := .i (wrap_i64 (a := (↑P.length : Int) + (1 : Int) - (1 : Int)) (by omega) (by omega))
  let t14 : Tp pr := .m (show (decide ((0 : Int) ≤ (↑P.length : Int) + (1 : Int) - (1 : Int) ∧ ((↑P.length : Int) + (1 : Int) - (1 : Int)).toNat < P.length + (1 : Nat))) = true by simp)
  let t15 : Tp pr := .c (show ((0 : Nat) + ((↑P.length : Int) + (1 : Int) - (1 : Int)).toNat : Nat) = P.length by omega)
  let t21 : Tp pr := .m (show (decide (F.length = F.length)) = true by simp)
  let t22 : Tp pr := .g .crow (show (F[P.length]?) = some ((Frm.mk (5 : Int) a r w).cc) from e1)
  let t24 : Tp pr := .i (wrap_i64 (a := a + (1 : Int)) (by omega) (by omega))
  let t38 : Tp pr := .m (show (decide ((0 : Int) ≤ a + (1 : Int) ∧ (a + (1 : Int)).toNat < n)) = true by (simp; omega))
  let t39 : Tp pr := .c (show ((0 : Nat) + (a + (1 : Int)).toNat : Nat) = (a + (1 : Int)).toNat by omega)
  let t41 : Tp pr := .m (show (decide (S.length = n)) = true by simp [*])
  let t42 : Tp pr := .g .crow (show (S[(a + (1 : Int)).toNat]?) = some ([C.t (T.int IntKind.i64 (↑s : Int))]) from hs2)
  let t44 : Tp pr := .i (wrap_i64 (a := a + (1 : Int) + (↑s : Int)) (by omega) (by omega))
  let t57 : Tp pr := .m (show (decide ((0 : Int) ≤ v ∧ v.toNat < V.length)) = true by simp [*])
  let t58 : Tp pr := .c (show ((0 : Nat) + v.toNat : Nat) = v.toNat by omega)
  let t60 : Tp pr := .m (show (decide (V.length = V.length)) = true by simp)
  let t61 : Tp pr := .g .crow (show (V[v.toNat]?) = some ((Vl.mk false x q u).cc) from hvg)
  let t83 : Tp pr := .b (show (decide (w < (0 : Int))) = false by (simp; omega))
  let t95 : Tp pr := .m (show (decide ((0 : Int) ≤ w ∧ w.toNat < V.length)) = true by simp [*])
  let t96 : Tp pr := .c (show ((0 : Nat) + w.toNat : Nat) = w.toNat by omega)
  let t99 : Tp pr := .g .crow (show (V[w.toNat]?) = some ((Vl.mk false x1 q1 u1).cc) from hwg)
  let t114 : Tp pr := .i (wrap_i64 (a := x1 + x) (by omega) (by omega))
  exact .tp [.mT, .mT, .mT, .mT, .mT, .mT, .mT, .mT, .mT, .mT, t10, .mT, t12, .mT, t14, t15, .mT, .mT, .mT, .mT, .mT, t21, t22, .mT, t24, .mT, .mT, .mT, .mT, .mT, .mT, .mT, .mT, t21, t22, .mT, t24, .mT, t38, t39, .mT, t41, t42, .mT, t44, .mT, .mT, .mT, .mT, .mT, .mT, .mT, .mT, .mT, .mT, .mT, .mT, t57, t58, .mT, t60, t61, t60, t61, t60, t61, t60, t61, .mT, .mT, .mT, t21, t22, .bF, t21, t22, .bF, .bF, t21, t22, .bF, t21, t22, t83, .mT, .mT, .mT, .mT, .mT, .mT, .mT, .mT, t21, t22, .mT, t95, t96, .mT, t60, t99, t60, t99, t60, t99, t60, t99, .mT, .mT, .mT, t21, t22, .bF, .bF, .bF, t114, .a (gw), .bF, .i (rfl : ((↑V.length : Int)) = _), .a (g), .bF, .a (g2), t114, .a (g3)] (by kernel_rfl)
end
end Go.Ev

namespace Go.Ev
set_option linter.unusedVariables false
set_option linter.unusedSimpArgs false
open Go.Proofs
set_option maxRecDepth 100000
set_option maxHeartbeats 4000000
theorem kids2 {c : Cd} (hc : CdOk c) {p : Int} {x : Cell} {b : Nat} {ks : List Int} (h : PlaceOk c p.toNat x b ks) (h0 : 0 ≤ p) (ha : 2 ≤ arity x.kind) :
    ∃ s : Nat, s ≤ 600 ∧ p + 1 + s < c.cells.length ∧ (ints c.sizes)[(p + 1).toNat]? = some [C.t (.int .i64 s)] ∧ c.kid p 1 = p + 1 + s ∧
      (3 ≤ arity x.kind → ∃ s2 : Nat, s2 ≤ 600 ∧ (ints c.sizes)[(p + 1 + s).toNat]? = some [C.t (.int .i64 s2)] ∧ c.kid p 2 = p + 1 + s + s2) := by
  have hm := h.many
  have hl := hc.len
  have g0 := List.getElem?_eq_getElem (show 0 < ks.length by omega)
  have g1 := List.getElem?_eq_getElem (show 1 < ks.length by omega)
  obtain ⟨q, s, e1, e2, e3, e4, e5⟩ := h.part 0 _ g0
  have e6 := e5 _ g1
  have hq : q = p.toNat + 1 := e4 rfl
  obtain ⟨q1, s1, f1, f2, f3, f4, f5⟩ := h.part 1 _ g1
  have hq1 : q1 < c.cells.length := by rw [← hc.bounds]; exact (List.getElem?_eq_some_iff.1 f2).1
  have hk1 : c.kid p 1 = p + 1 + s := by
    rw [h.kid 1, List.getD_eq_getElem?_getD, g1, Option.getD_some, e6, e1, hq]; omega
  have hq1e : (q1 : Int) = p + 1 + s := by rw [← f1, e6, e1, hq]; omega
  refine ⟨s, by omega, by omega, ?_, hk1, fun ha3 => ?_⟩
  · have : (p + 1).toNat = q := by omega
    rw [this]
    simp [ints, intc, e3]
  · have g2 := List.getElem?_eq_getElem (show 2 < ks.length by omega)
    obtain ⟨q2, s2, d1, d2, d3, d4, d5⟩ := h.part 2 _ g2
    have hq2 : q2 < c.cells.length := by rw [← hc.bounds]; exact (List.getElem?_eq_some_iff.1 d2).1
    have e7 := f5 _ g2
    have hk2 : c.kid p 2 = p + 1 + s + s1 := by
      rw [h.kid 2, List.getD_eq_getElem?_getD, g2, Option.getD_some, e7, f1, hq1e]
    have hq2e : (q2 : Int) = p + 1 + s + s1 := by rw [← d1, e7, f1, hq1e]
    refine ⟨s1, by omega, ?_, hk2⟩
    have : (p + 1 + (s : Int)).toNat = q1 := by omega
    rw [this]
    simp [ints, intc, f3]
theorem vl_at {c : Cd} {m : Mc} (g : MGood c m) {k : Int} (h0 : 0 ≤ k) (h1 : k < m.vals.length) : (m.vals.map Vl.cc)[k.toNat]? = some (m.vl k).cc := by
  have : k.toNat < m.vals.length := by omega
  simp [Mc.vl, List.getD_eq_getElem?_getD, List.getElem?_eq_getElem this]
theorem goOn_ev (c : Cd) (hc : CdOk c) (m : Mc) (g : MGood c m) (hd : m.done = true) (f : Frm) (r : List Frm) (hfr : m.frs = f :: r) (jk : List Frm) (hj : m.frs.length + jk.length ≤ 500) (lg : Bool) :
    ∃ jk' : List Frm, ((srB m lg (m.goOn c f r)).2.1.frs.length + jk'.length ≤ 500) ∧
    Ev pr (.call 103 [.ptr 0 1 0 0] (eB c m jk lg)) (.val (bl (srB m lg (m.goOn c f r)).1) (eB c (srB m lg (m.goOn c f r)).2.1 jk' (srB m lg (m.goOn c f r)).2.2)) := by
  obtain ⟨_, _, hv0, hv1⟩ := g.did hd
  have hf := g.frs f (by rw [hfr]; simp)
  obtain ⟨x, b, ks, hp⟩ := hf.fits.place hc
  have hxk : x.kind = f.kind := by rw [← hf.kind, hp.at_]
  have hone := hf.one
  have h0 := hf.fits.pl
  have ha2 : 2 ≤ arity x.kind := by rw [hxk]; rcases hone with e | e | e | e <;> rw [e] <;> decide
  obtain ⟨s, hs, hpl, hsg, hk1, hk2⟩ := kids2 hc hp h0 ha2
  have hcl := hc.len
  have hsz := hc.sizes
  have gv := vl_at g hv0 hv1
  have gvl := vl_ok g hv0 hv1
  have lv := g.lv
  have lb := g.lb
  rw [hfr, List.length_cons] at hj
  have hF : (r.reverse.map Frm.cc ++ f.cc :: jk.map Frm.cc).length ≤ 500 := by simp; omega
  have heB : ∀ (m' : Mc) (f' : Frm) (lg' : Bool), m'.frs = f' :: r → eB c m' jk lg' = eS (c.cells.map Cell.ce) c.cells.length (ints c.sizes) (ints c.bounds) m'.done m'.pl m'.env m'.val ((r.reverse.map Frm.cc).length + 1) (r.reverse.map Frm.cc ++ f'.cc :: jk.map Frm.cc) (m'.vals.map Vl.cc) (m'.bds.map Bd.cc) lg' := fun m' f' lg' h => by
    simp [eB, h]
  have heD : ∀ (m' : Mc) (lg' : Bool), m'.frs = r → eB c m' (f :: jk) lg' = eS (c.cells.map Cell.ce) c.cells.length (ints c.sizes) (ints c.bounds) m'.done m'.pl m'.env m'.val (r.reverse.map Frm.cc).length (r.reverse.map Frm.cc ++ f.cc :: jk.map Frm.cc) (m'.vals.map Vl.cc) (m'.bds.map Bd.cc) lg' := fun m' lg' h => by
    simp [eB, h]
  rw [heB m f lg hfr]
  have stay : ∀ (lg' : Bool), Ev pr (.call 103 [.ptr 0 1 0 0] (eS (c.cells.map Cell.ce) c.cells.length (ints c.sizes) (ints c.bounds) m.done m.pl m.env m.val ((r.reverse.map Frm.cc).length + 1) (r.reverse.map Frm.cc ++ f.cc :: jk.map Frm.cc) (m.vals.map Vl.cc) (m.bds.map Bd.cc) lg)) (.val (bl false) (eS (c.cells.map Cell.ce) c.cells.length (ints c.sizes) (ints c.bounds) m.done m.pl m.env m.val ((r.reverse.map Frm.cc).length + 1) (r.reverse.map Frm.cc ++ f.cc :: jk.map Frm.cc) (m.vals.map Vl.cc) (m.bds.map Bd.cc) lg')) →
      ∃ jk' : List Frm, m.frs.length + jk'.length ≤ 500 ∧ Ev pr (.call 103 [.ptr 0 1 0 0] (eS (c.cells.map Cell.ce) c.cells.length (ints c.sizes) (ints c.bounds) m.done m.pl m.env m.val ((r.reverse.map Frm.cc).length + 1) (r.reverse.map Frm.cc ++ f.cc :: jk.map Frm.cc) (m.vals.map Vl.cc) (m.bds.map Bd.cc) lg)) (.val (bl false) (eB c m jk' lg')) := fun lg' h =>
    ⟨jk, by rw [hfr, List.length_cons]; omega, by rw [heB m f lg' hfr]; exact h⟩
  have vlc : ∀ k, Vl.cc (m.vl k) = Vl.cc ⟨(m.vl k).fn, (m.vl k).num, (m.vl k).pl, (m.vl k).env⟩ := fun k => rfl
  have hjd : r.length + (f :: jk).length ≤ 500 := by simp; omega
  have hp1 : f.pl + 1 < (c.cells.length : Int) := by omega
  have hnone := hf.none
  have hval := hf.val
  obtain ⟨fk, fa, fe, fv⟩ := f
  dsimp only at *
  unfold Mc.goOn
  dsimp only
  by_cases h7 : fk = 7
  · subst h7
    obtain rfl : fv = -1 := hnone (.inr rfl)
    rw [if_pos rfl]
    unfold Mc.bind
    dsimp only
    by_cases hl : m.bds.length = 500
    · rw [if_pos hl]
      exact stay true (goLetN _ _ _ _ _ _ _ _ _ _ _ _ _ fa fe s _ _ _ _ h0 hp1 hcl (by simpa using hsz) hs hsg hv0 (by simpa using hv1) gv (by simpa using lv) (by simpa using lb) hF (by simpa using hl))
    · rw [if_neg hl]
      refine ⟨⟨7, fa, fe, -1⟩ :: jk, hjd, ?_⟩
      have := goLetY (c.cells.map Cell.ce) c.cells.length (ints c.sizes) (ints c.bounds) m.done m.pl m.env m.val (r.reverse.map Frm.cc) (jk.map Frm.cc) (m.vals.map Vl.cc) (m.bds.map Bd.cc) lg fa fe s _ _ _ _ h0 hp1 hcl (by simpa using hsz) hs hsg hv0 (by simpa using hv1) gv (by simpa using lv) (by simpa using lb) hF (by simp; omega)
      dsimp only [srB]
      rw [heD _ _ rfl]
      simpa [Mc.next, hk1] using this
  rw [if_neg h7]
  by_cases h6 : fk = 6
  · subst h6
    obtain rfl : fv = -1 := hnone (.inl rfl)
    rw [if_pos rfl]
    by_cases hfn : (m.vl m.val).fn = true
    · rw [if_pos hfn]
      rw [vlc, hfn] at gv
      exact stay lg (goIfF _ _ _ _ _ _ _ _ _ _ _ _ _ fa fe s _ _ _ h0 hp1 hcl (by simpa using hsz) hs hsg hv0 (by simpa using hv1) gv (by simpa using lv) (by simpa using lb) hF)
    · rw [if_neg hfn]
      have hfn' : (m.vl m.val).fn = false := by simpa using hfn
      rw [vlc, hfn'] at gv
      refine ⟨⟨6, fa, fe, -1⟩ :: jk, hjd, ?_⟩
      dsimp only [srB]
      rw [heD _ _ rfl]
      by_cases hz : (m.vl m.val).num = 0
      · rw [if_pos hz, hk1]
        exact goIf0 _ _ _ _ _ _ _ _ _ _ _ _ _ fa fe s _ _ _ h0 hp1 hcl (by simpa using hsz) hs hsg hv0 (by simpa using hv1) gv (by simpa using lv) (by simpa using lb) hF hz
      · rw [if_neg hz]
        obtain ⟨s2, hs2, hsg2, hk2'⟩ := hk2 (by rw [hxk]; decide)
        rw [hk2']
        exact goIf1 _ _ _ _ _ _ _ _ _ _ _ _ _ fa fe s _ _ _ h0 hp1 hcl (by simpa using hsz) hs hsg hv0 (by simpa using hv1) gv (by simpa using lv) (by simpa using lb) hF hz s2 hs2 hpl hsg2
  rw [if_neg h6]
  clear hk2
  have h45 : fk = 4 ∨ fk = 5 := by omega
  have hfv := hval h45
  by_cases hneg : fv < 0
  · have efv : fv = -1 := by omega
    subst efv
    rw [if_pos hneg, hk1]
    refine ⟨jk, by simp [srB, Mc.next]; omega, ?_⟩
    dsimp only [srB]
    rw [heB _ _ lg rfl]
    rcases h45 with rfl | rfl
    · exact goApp0 _ _ _ _ _ _ _ _ _ _ _ _ _ fa fe s _ _ _ _ h0 hp1 hcl (by simpa using hsz) hs hsg hv0 (by simpa using hv1) gv (by simpa using lv) (by simpa using lb) hF
    · exact goAdd0 _ _ _ _ _ _ _ _ _ _ _ _ _ fa fe s _ _ _ _ h0 hp1 hcl (by simpa using hsz) hs hsg hv0 (by simpa using hv1) gv (by simpa using lv) (by simpa using lb) hF
  · rw [if_neg hneg]
    have gw := vl_at g (k := fv) (by omega) hfv.2
    have gwl := vl_ok g (k := fv) (by omega) hfv.2
    by_cases h4 : fk = 4
    · subst h4
      rw [if_pos rfl]
      by_cases hfn : (m.vl fv).fn = true
      · rw [if_pos hfn]
        obtain ⟨_, hft, hlam, _⟩ := gwl.fun_ hfn
        obtain ⟨y, d, js, hq⟩ := hft.place hc
        have hyk : y.kind = 3 := by rw [← hlam, hq.at_]
        have hq0 := hft.pl
        have hqc := (List.getElem?_eq_some_iff.1 hq.cell).1
        have hkq : c.kid (m.vl fv).pl 0 = (m.vl fv).pl + 1 := by
          rw [hq.kid 0, List.getD_eq_getElem?_getD]
          have hm := hq.many
          rw [hyk] at hm
          have hl0 : 0 < js.length := by have : arity 3 = 1 := rfl; omega
          have hg := List.getElem?_eq_getElem hl0
          obtain ⟨q, s', h1, _, _, h4', _⟩ := hq.part 0 _ hg
          rw [hg, Option.getD_some, h1, h4' rfl]
          omega
        rw [vlc, hfn] at gw
        rw [hkq]
        unfold Mc.bind
        dsimp only
        by_cases hl : m.bds.length = 500
        · rw [if_pos hl]
          exact stay true (goAppN _ _ _ _ _ _ _ _ _ _ _ _ _ fa fe s _ _ _ _ fv (by omega) (by simpa using hfv.2) true _ _ _ gw h0 hp1 hcl (by simpa using hsz) hs hsg hv0 (by simpa using hv1) gv (by simpa using lv) (by simpa using lb) hF hq0 (by omega) (by simpa using hl))
        · rw [if_neg hl]
          refine ⟨⟨4, fa, fe, fv⟩ :: jk, hjd, ?_⟩
          have := goAppY (c.cells.map Cell.ce) c.cells.length (ints c.sizes) (ints c.bounds) m.done m.pl m.env m.val (r.reverse.map Frm.cc) (jk.map Frm.cc) (m.vals.map Vl.cc) (m.bds.map Bd.cc) lg fa fe s (m.vl m.val).fn (m.vl m.val).num (m.vl m.val).pl (m.vl m.val).env fv (by omega) (by simpa using hfv.2) true _ _ _ gw h0 hp1 hcl (by simpa using hsz) hs hsg hv0 (by simpa using hv1) gv (by simpa using lv) (by simpa using lb) hF hq0 (by omega) (by simp; omega)
          dsimp only [srB]
          rw [heD _ _ rfl]
          simpa [Mc.next] using this
      · rw [if_neg hfn]
        have hfn' : (m.vl fv).fn = false := by simpa using hfn
        rw [vlc, hfn'] at gw
        exact stay lg (goAppS _ _ _ _ _ _ _ _ _ _ _ _ _ fa fe s _ _ _ _ fv (by omega) (by simpa using hfv.2) true _ _ _ gw h0 hp1 hcl (by simpa using hsz) hs hsg hv0 (by simpa using hv1) gv (by simpa using lv) (by simpa using lb) hF)
    · rw [if_neg h4]
      obtain rfl : fk = 5 := by omega
      by_cases hfn : (m.vl fv).fn = true
      · rw [if_pos (.inl hfn)]
        rw [vlc, hfn] at gw
        exact stay lg (goAddF _ _ _ _ _ _ _ _ _ _ _ _ _ fa fe s _ _ _ _ fv (by omega) (by simpa using hfv.2) true _ _ _ gw h0 hp1 hcl (by simpa using hsz) hs hsg hv0 (by simpa using hv1) gv (by simpa using lv) (by simpa using lb) hF)
      have hfn' : (m.vl fv).fn = false := by simpa using hfn
      obtain ⟨_, _, hn1, hn2⟩ := gwl.num hfn'
      rw [vlc, hfn'] at gw
      by_cases hfm : (m.vl m.val).fn = true
      · rw [if_pos (.inr (.inl hfm))]
        rw [vlc, hfm] at gv
        exact stay lg (goAddG _ _ _ _ _ _ _ _ _ _ _ _ _ fa fe s _ _ _ fv (by omega) (by simpa using hfv.2) true _ _ _ gw h0 hp1 hcl (by simpa using hsz) hs hsg hv0 (by simpa using hv1) gv (by simpa using lv) (by simpa using lb) hF)
      have hfm' : (m.vl m.val).fn = false := by simpa using hfm
      obtain ⟨_, _, hm1, hm2⟩ := gvl.num hfm'
      rw [vlc, hfm'] at gv
      by_cases hrg : -1000000 ≤ (m.vl fv).num + (m.vl m.val).num ∧ (m.vl fv).num + (m.vl m.val).num ≤ 1000000
      · rw [if_neg (by simp [hfn', hfm']; exact hrg)]
        unfold Mc.new
        dsimp only
        by_cases hl : m.vals.length = 500
        · rw [if_pos hl]
          exact stay true (goAddN _ _ _ _ _ _ _ _ _ _ _ _ _ fa fe s _ _ _ fv (by omega) (by simpa using hfv.2) true _ _ _ gw h0 hp1 hcl (by simpa using hsz) hs hsg hv0 (by simpa using hv1) gv (by simpa using lv) (by simpa using lb) hF ⟨hm1, hm2⟩ ⟨hn1, hn2⟩ hrg (by simpa using hl))
        · rw [if_neg hl]
          refine ⟨⟨5, fa, fe, fv⟩ :: jk, hjd, ?_⟩
          have := goAddY (c.cells.map Cell.ce) c.cells.length (ints c.sizes) (ints c.bounds) m.done m.pl m.env m.val (r.reverse.map Frm.cc) (jk.map Frm.cc) (m.vals.map Vl.cc) (m.bds.map Bd.cc) lg fa fe s (m.vl m.val).num (m.vl m.val).pl (m.vl m.val).env fv (by omega) (by simpa using hfv.2) true _ _ _ gw h0 hp1 hcl (by simpa using hsz) hs hsg hv0 (by simpa using hv1) gv (by simpa using lv) (by simpa using lb) hF ⟨hm1, hm2⟩ ⟨hn1, hn2⟩ hrg (by simp; omega)
          dsimp only [srB]
          rw [heD _ _ rfl]
          simpa [Mc.come] using this
      · rw [if_pos (.inr (.inr hrg))]
        exact stay lg (goAddB _ _ _ _ _ _ _ _ _ _ _ _ _ fa fe s _ _ _ fv (by omega) (by simpa using hfv.2) true _ _ _ gw h0 hp1 hcl (by simpa using hsz) hs hsg hv0 (by simpa using hv1) gv (by simpa using lv) (by simpa using lb) hF ⟨hm1, hm2⟩ ⟨hn1, hn2⟩ hrg)
end Go.Ev

namespace Go.Ev
set_option linter.unusedVariables false
set_option linter.unusedSimpArgs false
open Go.Proofs
set_option maxRecDepth 100000
set_option maxHeartbeats 4000000
section
variable (L : List (List T)) (n : Nat) (S B : List (List C)) (p e v : Int) (lF : Nat) (F V D : List (List C)) (lg : Bool) (b d2 : Bool) (p2 e2 v2 : Int) (lF2 : Nat) (F2 V2 D2 : List (List C)) (lg2 : Bool)
theorem stOver (hF : F.length ≤ 1000) : Ev pr (.call 50 [.ptr 0 1 0 0] (eS L n S B true p e v 0 F V D lg)) (.val (bl false) (eS L n S B true p e v 0 F V D lg)) := by
  have g := over_ev L n S B true p e v 0 F V D lg (by omega) hF
  unfold eS at *
  exact .tp [.a (g), .bT] (by kernel_rfl)
theorem stGo (h : 0 < lF) (hl : lF ≤ F.length) (hF : F.length ≤ 1000) (g2 : Ev pr (.call 103 [.ptr 0 1 0 0] (eS L n S B true p e v lF F V D lg)) (.val (bl b) (eS L n S B d2 p2 e2 v2 lF2 F2 V2 D2 lg2))) :
    Ev pr (.call 50 [.ptr 0 1 0 0] (eS L n S B true p e v lF F V D lg)) (.val (bl b) (eS L n S B d2 p2 e2 v2 lF2 F2 V2 D2 lg2)) := by
  have g := over_ev L n S B true p e v lF F V D lg hl hF
  have hd : (true && decide (lF = 0)) = false := by simp; omega
  rw [hd] at g
  unfold eS at *
  exact .tp [.a (g), .bF, .bT, .a (g2)] (by kernel_rfl)
theorem stBg (hl : lF ≤ F.length) (hF : F.length ≤ 1000) (g2 : Ev pr (.call 104 [.ptr 0 1 0 0] (eS L n S B false p e v lF F V D lg)) (.val (bl b) (eS L n S B d2 p2 e2 v2 lF2 F2 V2 D2 lg2))) :
    Ev pr (.call 50 [.ptr 0 1 0 0] (eS L n S B false p e v lF F V D lg)) (.val (bl b) (eS L n S B d2 p2 e2 v2 lF2 F2 V2 D2 lg2)) := by
  have g := over_ev L n S B false p e v lF F V D lg hl hF
  rw [Bool.false_and] at g
  unfold eS at *
  exact .tp [.a (g), .bF, .bF, .a (g2)] (by kernel_rfl)
end
theorem step_ev (c : Cd) (hc : CdOk c) (m : Mc) (g : MGood c m) (jk : List Frm) (hj : m.frs.length + jk.length ≤ 500) (lg : Bool) : ∃ jk' : List Frm, ((srB m lg (m.step c)).2.1.frs.length + jk'.length ≤ 500) ∧
    Ev pr (.call 50 [.ptr 0 1 0 0] (eB c m jk lg)) (.val (bl (srB m lg (m.step c)).1) (eB c (srB m lg (m.step c)).2.1 jk' (srB m lg (m.step c)).2.2)) := by
  have hF : ((m.frs.reverse ++ jk).map Frm.cc).length ≤ 1000 := by simp; omega
  unfold Mc.step
  cases hd : m.done with
  | false =>
    rw [if_neg (by simp)]
    obtain ⟨jk', h1, h2⟩ := begin_ev c hc m g hd jk hj lg
    refine ⟨jk', h1, ?_⟩
    unfold eB at h2 ⊢
    rw [hd] at h2 ⊢
    exact stBg _ _ _ _ _ _ _ _ _ _ _ _ _ _ _ _ _ _ _ _ _ _ (by simp) hF h2
  | true =>
    rw [if_pos rfl]
    cases hfr : m.frs with
    | nil =>
      refine ⟨jk, by simpa [srB, hfr] using hj, ?_⟩
      dsimp only [srB]
      unfold eB
      rw [hd, hfr]
      exact stOver _ _ _ _ _ _ _ _ _ _ _ (by rw [hfr] at hF; exact hF)
    | cons f r =>
      obtain ⟨jk', h1, h2⟩ := goOn_ev c hc m g hd f r hfr jk hj lg
      refine ⟨jk', h1, ?_⟩
      unfold eB at h2 ⊢
      rw [hd] at h2 ⊢
      exact stGo _ _ _ _ _ _ _ _ _ _ _ _ _ _ _ _ _ _ _ _ _ _ (by rw [hfr]; simp) (by simp) hF h2
def plS (E : List Ob) (k i : Nat) (o : Out) : Prop :=
  Ev pr (.loop (lq pr 48 0) (at_ [(0, .ptr 0 1 0 0), (1, i64 k), (6, i64 k), (7, i64 i)] E 3)) o
def plO (c : Cd) (k i : Nat) (m : Mc) (jk : List Frm) (lg : Bool) : Prop :=
  plS (eB c m jk lg) k i (.exit 0 (at_ [(1, i64 k)] (eB c m jk lg) 3))
end Go.Ev

namespace Go.Ev
set_option linter.unusedVariables false
set_option linter.unusedSimpArgs false
open Go.Proofs
set_option maxRecDepth 100000
set_option maxHeartbeats 4000000
def rtO (x : Int × Int × Int × Bool) : Out := .val (.tup [i64 x.1, i64 x.2.1, i64 x.2.2.1, bl x.2.2.2]) []
section
variable (cells : List Cell) (S B : List Int) (k : Nat) (hk : k ≤ 2000) (j : Nat)
  (g : Ev pr (.call 46 [.t (.seq 2 (cells.map Cell.ce))] []) (.val (.ptr 0 1 0 0) (mB cells S B)))
  (L : List (List T)) (n : Nat) (S2 B2 : List (List C)) (d : Bool) (p e v : Int) (lF : Nat) (F V D : List (List C)) (lg : Bool) (hF : lF ≤ F.length) (hF2 : F.length ≤ 1000)
  (g2 : Ev pr (.call 48 [.ptr 0 1 0 0, i64 k] (mB cells S B)) (.val (i64 j) (eS L n S2 B2 d p e v lF F V D lg)))
include hk g g2 hF hF2
variable (ho : (d && decide (lF = 0)) = false) (d2 : Bool) (p2 e2 v2 : Int) (lF2 : Nat) (F2 V2 D2 : List (List C))
include ho
end
end Go.Ev

namespace Go.Ev
set_option linter.unusedVariables false
set_option linter.unusedSimpArgs false
open Go.Proofs
set_option maxRecDepth 100000
set_option maxHeartbeats 4000000
def tsV (k n : Int) (ks : List Tm) : V := .agg [i64 k, i64 n, .t (.seq 3 (Tm.tsL ks))]
def Tm.tv : Tm → V
  | .node k n ks => tsV k n ks
def l3O (N : Nat) : Option (Tm × List Cell) → Out
  | none => .val (.tup [tsV 0 0 [], i64 0]) []
  | some (t, r) => .val (.tup [t.tv, i64 ((N - r.length : Nat) : Int)]) []
@[local simp] theorem tsL_nil : Tm.tsL [] = [] := rfl
theorem l3_end (L : List (List T)) (p : Nat) (h : L.length = p) : Ev pr (.call 133 [.t (.seq 2 L), i64 p] []) (l3O p none) := by
  unfold l3O tsV
  subst h
  let t1 : Tp pr := .b (show (decide ((↑L.length : Int) ≥ (↑L.length : Int))) = true by simp)
  exact .tp [.i (rfl : ((↑L.length : Int)) = _), t1, .bT] (by kernel_rfl)
theorem l3_bad (L : List (List T)) (p : Nat) (h : p < L.length) (c : Cell) (hc : lkp L (p : Int) = some c.ce) (hg : cellGood c = false) : Ev pr (.call 133 [.t (.seq 2 L), i64 p] []) (l3O p none) := by
  unfold l3O tsV
  have g := l3Cell_ev c
  rw [hg] at g
  let t1 : Tp pr := .b (show (decide ((↑p : Int) ≥ (↑L.length : Int))) = false by (simp; omega))
  let t2 : Tp pr := .g .row (show (lkp L (↑p : Int)) = some (c.ce) from hc)
  exact .tp [.i (rfl : ((↑L.length : Int)) = _), t1, t2, .a (g), .bT] (by kernel_rfl)
def tcs (dn : List Tm) : List (List C) := (Tm.tsL dn).map (List.map C.t)
@[simp] theorem tcs_len (dn : List Tm) : (tcs dn).length = dn.length := by simp [tcs]
@[simp] theorem tcs_fz (dn : List Tm) : (tcs dn).map (List.map C.fz) = Tm.tsL dn := by simp [tcs, Function.comp_def, C.fz]
theorem tcs_snoc (dn : List Tm) (k n : Int) (ks : List Tm) : tcs (dn ++ [.node k n ks]) = (tcs dn).append [[C.t (.int .i64 k), C.t (.int .i64 n), C.t (.seq 3 (Tm.tsL ks))]] := by simp [tcs, tsL_app, Tm.tsL, Tm.ts]
def l3S (L : List (List T)) (p m : Nat) (k n : Int) (dn : List Tm) (o : Out) : Prop :=
  Ev pr (.loop (lq pr 133 0) (at_ [(0, .t (.seq 2 L)), (1, i64 p), (4, .ptr 0 1 0 0), (6, .ptr 1 1 0 0), (7, i64 m)] [.box [i64 0, i64 0, .t .nils], .box [i64 k, i64 n, .vec 2 dn.length 3 0 dn.length], .vec true 3 (tcs dn)] 0)) o
theorem l3L_end (L : List (List T)) (p : Nat) (k n : Int) (dn : List Tm) : l3S L p 0 k n dn (.exit 0 (at_ [(1, i64 p), (4, .ptr 0 1 0 0), (6, .ptr 1 1 0 0)] [.box [i64 0, i64 0, .t .nils], .box [i64 k, i64 n, .vec 2 dn.length 3 0 dn.length], .vec true 3 (tcs dn)] 0)) := by
  unfold l3S
  exact .tp [.bF] (by kernel_rfl)
theorem l3L_none (L : List (List T)) (p m : Nat) (hm : m ≤ 3) (k n : Int) (dn : List Tm) (g : Ev pr (.call 133 [.t (.seq 2 L), i64 p] []) (l3O p none)) : l3S L p (m + 1) k n dn (.ret (at_ [(4, .ptr 0 1 0 0), (5, i64 0)] [.box [i64 0, i64 0, .t .nils]] 0)) := by
  unfold l3S l3O tsV at *
  let t0 : Tp pr := .b (show (decide ((↑(m + (1 : Nat)) : Int) > (0 : Int))) = true by simp)
  exact .tp [t0, .a (g), .bT] (by kernel_rfl)
theorem l3L_some (L : List (List T)) (p m : Nat) (hm : m ≤ 3) (k n : Int) (dn : List Tm) (hd : dn.length ≤ 10) (k2 n2 : Int) (ks : List Tm) (q : Nat) (hq : q ≠ 0) (g : Ev pr (.call 133 [.t (.seq 2 L), i64 p] []) (.val (.tup [tsV k2 n2 ks, i64 q]) [])) (o : Out)
    (gl : l3S L q m k n (dn ++ [.node k2 n2 ks]) o) : l3S L p (m + 1) k n dn o := by
  unfold l3S tsV at *
  rw [tcs_snoc] at gl
  simp only [List.length_append, List.length_singleton] at gl
  have hl : (tcs dn).length = dn.length := by simp
  have ht : List.take dn.length (tcs dn) = tcs dn := List.take_of_length_le (by simp)
  let t0 : Tp pr := .b (show (decide ((↑(m + (1 : Nat)) : Int) > (0 : Int))) = true by simp)
  let t2 : Tp pr := .b (show (decide ((↑q : Int) = (0 : Int))) = false by (simp; omega))
  let t4 : Tp pr := .m (show (decide ((tcs dn).length = dn.length ∧ (0 : Nat) + dn.length ≤ dn.length ∧ dn.length + (1 : Nat) ≤ (4294967296 : Nat))) = true by (simp; omega))
  let t5 : Tp pr := .b (show (decide (dn.length + (1 : Nat) ≤ dn.length)) = false by simp)
  let t7 : Tp pr := .n .crows (show ((List.take dn.length (tcs dn)).append (List.take (1 : Nat) (List.drop (0 : Nat) [[C.t (T.int IntKind.i64 k2), C.t (T.int IntKind.i64 n2), C.t (T.seq (3 : Nat) (Tm.tsL ks))]]))) = List.take dn.length (tcs dn) ++ [[C.t (T.int IntKind.i64 k2), C.t (T.int IntKind.i64 n2), C.t (T.seq (3 : Nat) (Tm.tsL ks))]] by simp)
  let t8 : Tp pr := .i (wrap_i64 (a := (↑(m + (1 : Nat)) : Int) - (1 : Int)) (by omega) (by omega))
  let t9 : Tp pr := .a (Ev.castq ((congrArg (fun x => Q.loop (lq pr (133 : FuncId) (0 : Nat)) (at_ [((0 : Nat), V.t (T.seq (2 : Nat) L)), ((1 : Nat), i64 (↑q : Int)), ((4 : Nat), V.ptr (0 : Nat) (1 : Nat) (0 : Nat) (0 : Nat)), ((6 : Nat), V.ptr (1 : Nat) (1 : Nat) (0 : Nat) (0 : Nat)), ((7 : Nat), i64 x)] [Ob.box [i64 (0 : Int), i64 (0 : Int), V.t T.nils], Ob.box [i64 k, i64 n, V.vec (2 : Nat) (dn.length + (1 : Nat)) (3 : Nat) (0 : Nat) (dn.length + (1 : Nat))], Ob.vec true (3 : Nat) ((tcs dn).append [[C.t (T.int IntKind.i64 k2), C.t (T.int IntKind.i64 n2), C.t (T.seq (3 : Nat) (Tm.tsL ks))]])] (0 : Nat))) (show ((↑m : Int)) = ((↑(m + (1 : Nat)) : Int) - (1 : Int)) by simp)).trans (congrArg (fun x => Q.loop (lq pr (133 : FuncId) (0 : Nat)) (at_ [((0 : Nat), V.t (T.seq (2 : Nat) L)), ((1 : Nat), i64 (↑q : Int)), ((4 : Nat), V.ptr (0 : Nat) (1 : Nat) (0 : Nat) (0 : Nat)), ((6 : Nat), V.ptr (1 : Nat) (1 : Nat) (0 : Nat) (0 : Nat)), ((7 : Nat), i64 ((↑(m + (1 : Nat)) : Int) - (1 : Int)))] [Ob.box [i64 (0 : Int), i64 (0 : Int), V.t T.nils], Ob.box [i64 k, i64 n, V.vec (2 : Nat) (dn.length + (1 : Nat)) (3 : Nat) (0 : Nat) (dn.length + (1 : Nat))], Ob.vec true (3 : Nat) x] (0 : Nat))) (show ((tcs dn).append [[C.t (T.int IntKind.i64 k2), C.t (T.int IntKind.i64 n2), C.t (T.seq (3 : Nat) (Tm.tsL ks))]]) = ((List.take dn.length (tcs dn)).append [[C.t (T.int IntKind.i64 k2), C.t (T.int IntKind.i64 n2), C.t (T.seq (3 : Nat) (Tm.tsL ks))]]) by simp [*]))) (gl))
  exact .tp [t0, .a (g), t2, .mT, t4, t5, .c (rfl : (dn.length + (1 : Nat)) = _), t7, t8, t9] (by kernel_rfl)
theorem l3_okN (L : List (List T)) (p : Nat) (h : p < L.length) (hL : L.length ≤ 1048576) (c : Cell) (hc : lkp L (p : Int) = some c.ce) (hg : cellGood c = true) (m : Nat) (hm : m ≤ 3) (hk : arity c.kind = m)
    (gl : l3S L (p + 1) m c.kind c.n [] (.ret (at_ [(4, .ptr 0 1 0 0), (5, i64 0)] [.box [i64 0, i64 0, .t .nils]] 0))) : Ev pr (.call 133 [.t (.seq 2 L), i64 p] []) (l3O p none) := by
  unfold l3S l3O tsV at *
  have g := l3Cell_ev c
  rw [hg] at g
  have g2 := l3Arity_ev c.kind
  rw [hk] at g2
  have e1 : tcs [] = [] := rfl
  simp only [List.length_nil] at gl
  rw [e1] at gl
  obtain ⟨ck, cn⟩ := c
  let t1 : Tp pr := .b (show (decide ((↑p : Int) ≥ (↑L.length : Int))) = false by (simp; omega))
  let t2 : Tp pr := .g .row (show (lkp L (↑p : Int)) = some ((Cell.mk ck cn).ce) from hc)
  let t21 : Tp pr := .i (wrap_i64 (a := (↑p : Int) + (1 : Int)) (by omega) (by omega))
  exact .tp [.i (rfl : ((↑L.length : Int)) = _), t1, t2, .a (g), .bF, .mT, .mT, t2, .mT, .mT, .mT, .mT, .mT, t2, .mT, .mT, .mT, .mT, .mT, .mT, .a (g2), t21, .a (gl)] (by kernel_rfl)
theorem l3_okS (L : List (List T)) (p : Nat) (h : p < L.length) (hL : L.length ≤ 1048576) (c : Cell) (hc : lkp L (p : Int) = some c.ce) (hg : cellGood c = true) (m : Nat) (hm : m ≤ 3) (hk : arity c.kind = m) (q : Nat) (ks : List Tm)
    (gl : l3S L (p + 1) m c.kind c.n [] (.exit 0 (at_ [(1, i64 q), (4, .ptr 0 1 0 0), (6, .ptr 1 1 0 0)] [.box [i64 0, i64 0, .t .nils], .box [i64 c.kind, i64 c.n, .vec 2 ks.length 3 0 ks.length], .vec true 3 (tcs ks)] 0))) :
    Ev pr (.call 133 [.t (.seq 2 L), i64 p] []) (.val (.tup [tsV c.kind c.n ks, i64 q]) []) := by
  unfold l3S tsV at *
  have g := l3Cell_ev c
  rw [hg] at g
  have g2 := l3Arity_ev c.kind
  rw [hk] at g2
  have e1 : tcs [] = [] := rfl
  simp only [List.length_nil] at gl
  rw [e1] at gl
  have e2 := tcs_fz ks
  have hl : (tcs ks).length = ks.length := by simp
  have ht : List.take ks.length (Tm.tsL ks) = Tm.tsL ks := List.take_of_length_le (by simp)
  obtain ⟨ck, cn⟩ := c
  let t1 : Tp pr := .b (show (decide ((↑p : Int) ≥ (↑L.length : Int))) = false by (simp; omega))
  let t2 : Tp pr := .g .row (show (lkp L (↑p : Int)) = some ((Cell.mk ck cn).ce) from hc)
  let t21 : Tp pr := .i (wrap_i64 (a := (↑p : Int) + (1 : Int)) (by omega) (by omega))
  let t23 : Tp pr := .m (show (decide ((tcs ks).length = ks.length ∧ (0 : Nat) + ks.length ≤ ks.length)) = true by simp)
  let t24 : Tp pr := .n .rows (show (List.map (fun x => List.map C.fz x) (List.take ks.length (List.drop (0 : Nat) (tcs ks)))) = List.take ks.length (Tm.tsL ks) by simp)
  exact .tpe [.i (rfl : ((↑L.length : Int)) = _), t1, t2, .a (g), .bF, .mT, .mT, t2, .mT, .mT, .mT, .mT, .mT, t2, .mT, .mT, .mT, .mT, .mT, .mT, .a (g2), t21, .a (gl), t23, t24] (Out.val (V.tup [V.agg [V.t (T.int IntKind.i64 ck), V.t (T.int IntKind.i64 cn), V.t (T.seq (3 : Nat) (List.take ks.length (Tm.tsL ks)))], V.t (T.int IntKind.i64 (↑q : Int))]) []) (by kernel_rfl) (congrArg (fun x => Out.val (V.tup [V.agg [V.t (T.int IntKind.i64 ck), V.t (T.int IntKind.i64 cn), V.t (T.seq (3 : Nat) x)], V.t (T.int IntKind.i64 (↑q : Int))]) []) (show (List.take ks.length (Tm.tsL ks)) = (Tm.tsL ks) by assumption))
theorem l3L_ev (f : Nat) (L0 : List Cell) (hL : L0.length ≤ 1048576) (ih : ∀ (pre l : List Cell), L0 = pre ++ l → l.length ≤ f → Ev pr (.call 133 [.t (.seq 2 (L0.map Cell.ce)), i64 pre.length] []) (l3O L0.length (readT f l))) (k n : Int) :
    ∀ (m : Nat), m ≤ 3 → ∀ (dn : List Tm) (pre l : List Cell), dn.length + m ≤ 3 → L0 = pre ++ l → l.length ≤ f → l3S (L0.map Cell.ce) pre.length m k n dn (match readK (readT f) m l with
      | none => .ret (at_ [(4, .ptr 0 1 0 0), (5, i64 0)] [.box [i64 0, i64 0, .t .nils]] 0)
      | some (ts, q) => .exit 0 (at_ [(1, i64 ((L0.length - q.length : Nat) : Int)), (4, .ptr 0 1 0 0), (6, .ptr 1 1 0 0)] [.box [i64 0, i64 0, .t .nils], .box [i64 k, i64 n, .vec 2 (dn ++ ts).length 3 0 (dn ++ ts).length], .vec true 3 (tcs (dn ++ ts))] 0))
  | 0, hm, dn, pre, l, hd, he, hl => by
    have := l3L_end (L0.map Cell.ce) pre.length k n dn
    have e : L0.length - l.length = pre.length := by rw [he]; simp
    simpa [readK, e] using this
  | m + 1, hm, dn, pre, l, hd, he, hl => by
    have g := ih pre l he hl
    unfold readK
    cases hr : readT f l with
    | none =>
      rw [hr] at g
      exact l3L_none _ _ m (by omega) k n dn g
    | some p =>
      obtain ⟨t, r⟩ := p
      rw [hr] at g
      have e := (readT_spec f l t r hr).1
      have hp := cells_pos t
      have hlen : l.length = t.cells.length + r.length := by rw [e]; simp
      have he2 : L0 = (pre ++ t.cells) ++ r := by rw [he, e, List.append_assoc]
      have gl := l3L_ev f L0 hL ih k n m (by omega) (dn ++ [t]) (pre ++ t.cells) r (by simp; omega) he2 (by omega)
      have hq : L0.length - r.length = (pre ++ t.cells).length := by
        have := congrArg List.length he2
        simp only [List.length_append] at this ⊢
        omega
      dsimp only [l3O] at g ⊢
      rw [hq] at g
      obtain ⟨k2, n2, ks⟩ := t
      refine l3L_some _ _ m (by omega) k n dn (by omega) k2 n2 ks _ (by simp [Tm.cells]) g _ ?_
      cases hq : readK (readT f) m r with
      | none => rw [hq] at gl; exact gl
      | some p =>
        obtain ⟨ts, q⟩ := p
        rw [hq] at gl
        simpa using gl
theorem l3Read_ev (L0 : List Cell) (hL : L0.length ≤ 1048576) : ∀ (f : Nat) (pre l : List Cell), L0 = pre ++ l → l.length ≤ f → Ev pr (.call 133 [.t (.seq 2 (L0.map Cell.ce)), i64 pre.length] []) (l3O L0.length (readT f l))
  | f, pre, [], he, hl => by
    have e : readT f [] = none := by cases f <;> rfl
    rw [e]
    exact l3_end _ _ (by rw [he]; simp)
  | 0, pre, c :: l, he, hl => by simp at hl
  | f + 1, pre, c :: l, he, hl => by
    have hlt : pre.length < (L0.map Cell.ce).length := by rw [he]; simp
    have hc : lkp (L0.map Cell.ce) (pre.length : Int) = some c.ce := by rw [he]; simp
    unfold readT
    by_cases hg : cellGood c = true
    · rw [if_pos hg]
      have ha := cellGood_ar hg
      have hb := arity_bd c.kind
      simp only [List.length_cons] at hl
      have gl := l3L_ev f L0 hL (fun pre l he hl => l3Read_ev L0 hL f pre l he hl) c.kind c.n (arity c.kind).toNat (by omega) [] (pre ++ [c]) l (by simp; omega) (by rw [he]; simp) (by omega)
      simp only [List.length_append, List.length_singleton] at gl
      cases hr : readK (readT f) (arity c.kind).toNat l with
      | none =>
        rw [hr] at gl
        exact l3_okN _ _ hlt (by simpa using hL) c hc hg _ (by omega) (by omega) gl
      | some p =>
        obtain ⟨ts, q⟩ := p
        rw [hr] at gl
        simp only [List.length_nil, Nat.zero_add, List.nil_append] at gl
        have := l3_okS _ _ hlt (by simpa using hL) c hc hg (arity c.kind).toNat (by omega) (by omega) _ ts gl
        simpa [l3O, Tm.tv] using this
    · rw [if_neg hg]
      exact l3_bad _ _ hlt c hc (by simpa using hg)
theorem lt_long (L : List (List T)) (h : L.length > 600) (hL : L.length ≤ 1048576) : Ev pr (.call 93 [.t (.seq 2 L)] []) (.val (.tup [tsV 0 0 [], bl false]) []) := by
  unfold tsV
  let t1 : Tp pr := .b (show (decide ((↑L.length : Int) > (600 : Int))) = true by (simp; omega))
  exact .tp [.i (rfl : ((↑L.length : Int)) = _), t1] (by kernel_rfl)
theorem lt_some (L : List (List T)) (h : ¬ L.length > 600) (k n : Int) (ks : List Tm) (q : Nat) (g : Ev pr (.call 133 [.t (.seq 2 L), i64 0] []) (.val (.tup [tsV k n ks, i64 q]) [])) :
    Ev pr (.call 93 [.t (.seq 2 L)] []) (.val (.tup [tsV k n ks, bl (decide ((q : Int) = L.length) && decide (0 < q))]) []) := by
  unfold tsV at *
  by_cases c : 0 < q
  · let t1 : Tp pr := .b (show (decide ((↑L.length : Int) > (600 : Int))) = false by (simp; omega))
    let t3 : Tp pr := .b (show (decide ((↑q : Int) > (0 : Int))) = true by (simp; omega))
    exact .tpe [.i (rfl : ((↑L.length : Int)) = _), t1, .a (g), t3, .i (rfl : ((↑L.length : Int)) = _)] (Out.val (V.tup [V.agg [V.t (T.int IntKind.i64 k), V.t (T.int IntKind.i64 n), V.t (T.seq (3 : Nat) (Tm.tsL ks))], V.t (T.bool (decide ((↑q : Int) = (↑L.length : Int))))]) []) (by kernel_rfl) (congrArg (fun x => Out.val (V.tup [V.agg [V.t (T.int IntKind.i64 k), V.t (T.int IntKind.i64 n), V.t (T.seq (3 : Nat) (Tm.tsL ks))], V.t (T.bool x)]) []) (show (decide ((↑q : Int) = (↑L.length : Int))) = (decide ((↑q : Int) = (↑L.length : Int)) && decide ((0 : Nat) < q)) by simp [*]))
  · let t1 : Tp pr := .b (show (decide ((↑L.length : Int) > (600 : Int))) = false by (simp; omega))
    let t3 : Tp pr := .b (show (decide ((↑q : Int) > (0 : Int))) = false by (simp; omega))
    exact .tpe [.i (rfl : ((↑L.length : Int)) = _), t1, .a (g), t3] (Out.val (V.tup [V.agg [V.t (T.int IntKind.i64 k), V.t (T.int IntKind.i64 n), V.t (T.seq (3 : Nat) (Tm.tsL ks))], V.t (T.bool false)]) []) (by kernel_rfl) (congrArg (fun x => Out.val (V.tup [V.agg [V.t (T.int IntKind.i64 k), V.t (T.int IntKind.i64 n), V.t (T.seq (3 : Nat) (Tm.tsL ks))], V.t (T.bool x)]) []) (show (false) = (decide ((↑q : Int) = (↑L.length : Int)) && decide ((0 : Nat) < q)) by simp [*]))
theorem l3Tree_ev (l : List Cell) (h2 : l.length ≤ 1048576) :
    (termOf l = none ∧ ∃ k n ks, Ev pr (.call 93 [.t (.seq 2 (l.map Cell.ce))] []) (.val (.tup [tsV k n ks, bl false]) [])) ∨
    ∃ t, termOf l = some t ∧ l = t.cells ∧ t.ok ∧ l.length ≤ 600 ∧ Ev pr (.call 93 [.t (.seq 2 (l.map Cell.ce))] []) (.val (.tup [t.tv, bl true]) []) := by
  unfold termOf
  by_cases c : l.length > 600
  · rw [if_pos c]
    exact .inl ⟨rfl, 0, 0, [], lt_long _ (by simpa using c) (by simpa using h2)⟩
  · rw [if_neg c]
    have g := l3Read_ev l h2 601 [] l rfl (by omega)
    cases hr : readT 601 l with
    | none =>
      rw [hr] at g
      have := lt_some (l.map Cell.ce) (by simpa using c) 0 0 [] 0 g
      exact .inl ⟨rfl, 0, 0, [], by simpa using this⟩
    | some p =>
      obtain ⟨t, r⟩ := p
      rw [hr] at g
      have hs := readT_spec 601 l t r hr
      have hp := cells_pos t
      have hlen : l.length = t.cells.length + r.length := by rw [hs.1]; simp
      obtain ⟨k, n, ks⟩ := t
      have := lt_some (l.map Cell.ce) (by simpa using c) k n ks _ g
      cases r with
      | nil =>
        refine .inr ⟨_, rfl, by rw [hs.1]; simp, hs.2, by omega, ?_⟩
        have h0 : 0 < l.length := by omega
        simpa [Tm.tv, h0] using this
      | cons x r =>
        refine .inl ⟨rfl, k, n, ks, ?_⟩
        have h0 : decide (((l.length - (x :: r).length : Nat) : Int) = ((l.map Cell.ce).length : Int)) = false := by
          simp only [List.length_map, List.length_cons, decide_eq_false_iff_not] at hlen ⊢
          omega
        rw [h0, Bool.false_and] at this
        exact this
end Go.Ev
