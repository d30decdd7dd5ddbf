import Derived.Test.YtipolnpffmfmmaaKFnCopied3
/- The evaluator's policies and annotations of this program's functions: printed by a program of mine. -/
namespace Go.Ev
set_option linter.unusedVariables false
set_option linter.unusedSimpArgs false
open Go.Proofs
def prPrim : FuncId → Option (List V → List Ob → Option (V × List Ob)) := fun f => if f = 76 then some clonePrim else none
def prPol : FuncId → Pol
  | 2 => { modes := [], own := false, nest := false, frz := [] }
  | 3 => { modes := [.borrow, .borrow], own := false, nest := false, frz := [] }
  | 4 => { modes := [.borrow], own := false, nest := false, frz := [] }
  | 5 => { modes := [.borrow, .borrow], own := false, nest := false, frz := [] }
  | 6 => { modes := [.borrow, .borrow], own := false, nest := false, frz := [] }
  | 7 => { modes := [.borrow], own := false, nest := false, frz := [] }
  | 8 => { modes := [.borrow, .borrow], own := false, nest := false, frz := [] }
  | 9 => { modes := [.borrow, .borrow], own := false, nest := false, frz := [] }
  | 10 => { modes := [.move, .move], own := false, nest := false, frz := [] }
  | 11 => { modes := [.borrow], own := true, nest := false, frz := [] }
  | 12 => { modes := [.borrow, .borrow], own := false, nest := false, frz := [] }
  | 13 => { modes := [.borrow, .borrow], own := false, nest := false, frz := [] }
  | 14 => { modes := [.move], own := true, nest := false, frz := [], soft := [[2, 1], [1], [0]] }
  | 15 => { modes := [.borrow], own := false, nest := false, frz := [], soft := [[2, 1], [1], [0]] }
  | 16 => { modes := [.borrow, .borrow], own := false, nest := false, frz := [] }
  | 17 => { modes := [.pass, .pass], own := false, nest := false, frz := [] }
  | 18 => { modes := [.pass, .pass], own := false, nest := false, frz := [] }
  | 19 => { modes := [.borrow, .borrow], own := false, nest := false, frz := [] }
  | 20 => { modes := [.borrow, .borrow], own := false, nest := false, frz := [] }
  | 21 => { modes := [.move], own := false, nest := false, frz := [], soft := [[2, 1], [0], [0], [0]] }
  | 22 => { modes := [.borrow, .borrow, .borrow, .borrow], own := false, nest := false, frz := [], soft := [[2, 1], [0]] }
  | 23 => { modes := [.move, .move, .move, .move], own := false, nest := false, frz := [], soft := [[2, 1], [0]] }
  | 24 => { modes := [.borrow, .borrow], own := false, nest := false, frz := [] }
  | 25 => { modes := [.borrow], own := false, nest := false, frz := [] }
  | 26 => { modes := [.move], own := false, nest := false, frz := [], soft := [[2, 1], [0], [1]] }
  | 27 => { modes := [.borrow, .borrow, .borrow], own := false, nest := true, frz := [], soft := [[2, 1], [0]] }
  | 28 => { modes := [.move, .move, .move], own := false, nest := true, frz := [], soft := [[2, 1], [0]] }
  | 29 => { modes := [.move], own := false, nest := false, frz := [], soft := [[2, 1], [0]] }
  | 30 => { modes := [.borrow, .borrow], own := false, nest := false, frz := [], soft := [[2, 1], [0]] }
  | 31 => { modes := [.move, .move], own := false, nest := false, frz := [], soft := [[2, 1], [0]] }
  | 32 => { modes := [.move], own := false, nest := false, frz := [], soft := [[2, 1], [0], [1]] }
  | 33 => { modes := [.borrow, .borrow, .borrow], own := false, nest := false, frz := [] }
  | 34 => { modes := [.move, .move, .move], own := false, nest := false, frz := [] }
  | 35 => { modes := [.move], own := false, nest := false, frz := [], soft := [[2, 1]] }
  | 36 => { modes := [.borrow], own := false, nest := false, frz := [], soft := [[1], [0]] }
  | 37 => { modes := [.move], own := false, nest := false, frz := [], soft := [[1], [0]] }
  | 38 => { modes := [.borrow, .borrow], own := false, nest := false, frz := [] }
  | 39 => { modes := [.borrow, .borrow], own := false, nest := false, frz := [] }
  | 40 => { modes := [.move], own := false, nest := false, frz := [], soft := [[2, 1], [2, 1]] }
  | 41 => { modes := [.borrow, .borrow], own := false, nest := false, frz := [] }
  | 42 => { modes := [.move], own := false, nest := false, frz := [], soft := [[1], [0], [0]] }
  | 43 => { modes := [.borrow], own := true, nest := false, frz := [] }
  | 44 => { modes := [.borrow], own := false, nest := false, frz := [], soft := [[1], [0], [0]] }
  | 45 => { modes := [.borrow, .borrow], own := false, nest := false, frz := [] }
  | 46 => { modes := [.pass, .pass], own := false, nest := false, frz := [] }
  | 47 => { modes := [.move, .move], own := false, nest := false, frz := [], soft := [[1], [1], [0]] }
  | 48 => { modes := [.borrow, .borrow], own := false, nest := false, frz := [], soft := [[1], [1], [0]] }
  | 49 => { modes := [.borrow, .borrow], own := false, nest := false, frz := [] }
  | 50 => { modes := [.borrow, .borrow], own := false, nest := false, frz := [] }
  | 51 => { modes := [.borrow], own := false, nest := false, frz := [] }
  | 52 => { modes := [.borrow], own := true, nest := false, frz := [] }
  | 53 => { modes := [.borrow, .borrow], own := false, nest := false, frz := [] }
  | 54 => { modes := [.borrow], own := true, nest := true, frz := [] }
  | 55 => { modes := [.borrow], own := true, nest := false, frz := [] }
  | 56 => { modes := [.borrow], own := true, nest := true, frz := [] }
  | 57 => { modes := [.borrow, .borrow], own := false, nest := false, frz := [] }
  | 58 => { modes := [.borrow, .borrow], own := false, nest := false, frz := [] }
  | 59 => { modes := [.borrow, .borrow, .borrow], own := false, nest := false, frz := [] }
  | 60 => { modes := [.borrow, .borrow], own := false, nest := false, frz := [] }
  | 61 => { modes := [.borrow], own := false, nest := false, frz := [], soft := [[1]] }
  | 62 => { modes := [.borrow, .borrow], own := false, nest := false, frz := [] }
  | 63 => { modes := [.pass, .pass], own := false, nest := false, frz := [] }
  | 64 => { modes := [.borrow, .borrow], own := false, nest := false, frz := [] }
  | 65 => { modes := [.pass], own := false, nest := false, frz := [], soft := [[2, 1]] }
  | 66 => { modes := [.pass, .borrow], own := false, nest := false, frz := [] }
  | 67 => { modes := [.borrow, .borrow, .borrow], own := false, nest := false, frz := [] }
  | 68 => { modes := [.borrow], own := true, nest := true, frz := [] }
  | 69 => { modes := [.pass], own := true, nest := false, frz := [] }
  | 70 => { modes := [.borrow], own := true, nest := true, frz := [] }
  | 71 => { modes := [.pass], own := true, nest := false, frz := [] }
  | 72 => { modes := [.borrow, .borrow, .borrow], own := false, nest := false, frz := [] }
  | 73 => { modes := [.borrow, .borrow], own := false, nest := false, frz := [] }
  | 74 => { modes := [.borrow], own := false, nest := false, frz := [] }
  | 75 => { modes := [.pass, .move], own := false, nest := false, frz := [] }
  | 76 => { modes := [.borrow], own := true, nest := false, frz := [] }
  | 77 => { modes := [.pass, .borrow, .borrow], own := true, nest := false, frz := [] }
  | 78 => { modes := [.move], own := false, nest := false, frz := [], soft := [[2, 1]] }
  | 79 => { modes := [.borrow, .borrow], own := false, nest := false, frz := [], soft := [[1]] }
  | 80 => { modes := [.pass, .borrow], own := false, nest := false, frz := [] }
  | 81 => { modes := [.move], own := false, nest := false, frz := [] }
  | 82 => { modes := [.borrow], own := false, nest := false, frz := [], soft := [[1]] }
  | 83 => { modes := [.borrow], own := false, nest := false, frz := [], soft := [[1]] }
  | 84 => { modes := [.borrow, .borrow, .borrow], own := false, nest := false, frz := [] }
  | 85 => { modes := [.borrow], own := false, nest := false, frz := [] }
  | 86 => { modes := [.borrow], own := false, nest := false, frz := [] }
  | 87 => { modes := [.borrow], own := false, nest := false, frz := [], soft := [[1]] }
  | 88 => { modes := [.borrow], own := false, nest := false, frz := [], soft := [[1]] }
  | 89 => { modes := [.borrow, .borrow, .borrow], own := false, nest := false, frz := [] }
  | 90 => { modes := [.borrow, .borrow], own := false, nest := false, frz := [] }
  | 91 => { modes := [.borrow, .borrow, .borrow], own := false, nest := false, frz := [] }
  | 92 => { modes := [.borrow, .borrow], own := false, nest := false, frz := [] }
  | 93 => { modes := [.borrow, .borrow], own := false, nest := false, frz := [] }
  | 94 => { modes := [.borrow, .borrow], own := false, nest := false, frz := [] }
  | 95 => { modes := [.borrow], own := true, nest := false, frz := [] }
  | 96 => { modes := [.borrow, .borrow], own := true, nest := false, frz := [] }
  | 97 => { modes := [.pass, .borrow], own := true, nest := false, frz := [] }
  | 98 => { modes := [.borrow, .borrow], own := false, nest := false, frz := [] }
  | 99 => { modes := [.borrow, .borrow], own := false, nest := false, frz := [] }
  | 100 => { modes := [.pass], own := false, nest := false, frz := [] }
  | 101 => { modes := [.borrow, .borrow], own := false, nest := false, frz := [] }
  | 102 => { modes := [.borrow], own := false, nest := false, frz := [] }
  | 103 => { modes := [.borrow, .borrow], own := false, nest := false, frz := [] }
  | 104 => { modes := [.borrow, .borrow], own := false, nest := false, frz := [] }
  | 105 => { modes := [.borrow], own := false, nest := false, frz := [] }
  | 106 => { modes := [.borrow, .borrow], own := false, nest := false, frz := [] }
  | 107 => { modes := [.borrow, .borrow], own := false, nest := false, frz := [] }
  | 108 => { modes := [.borrow, .borrow], own := false, nest := false, frz := [] }
  | 109 => { modes := [.borrow, .borrow], own := false, nest := false, frz := [] }
  | 110 => { modes := [.pass, .borrow], own := false, nest := false, frz := [] }
  | 111 => { modes := [.borrow, .borrow], own := false, nest := false, frz := [] }
  | 112 => { modes := [.borrow, .borrow], own := false, nest := false, frz := [] }
  | 113 => { modes := [.borrow, .borrow, .borrow], own := false, nest := false, frz := [] }
  | 114 => { modes := [.borrow], own := false, nest := false, frz := [] }
  | 115 => { modes := [.borrow, .borrow], own := false, nest := false, frz := [] }
  | 116 => { modes := [.borrow, .borrow], own := false, nest := false, frz := [] }
  | 117 => { modes := [.borrow, .borrow, .borrow, .borrow], own := false, nest := false, frz := [] }
  | 118 => { modes := [.borrow, .borrow, .borrow, .borrow, .borrow], own := false, nest := false, frz := [] }
  | 119 => { modes := [.borrow, .borrow, .borrow, .borrow, .borrow], own := false, nest := false, frz := [] }
  | 120 => { modes := [.borrow, .borrow, .borrow, .borrow, .borrow], own := false, nest := false, frz := [] }
  | _ => {}
def prAnn : FuncId → Ann
  | 2 => .n
  | 3 => (.seq .n (.seq .n (.seq .n (.seq (.seq .n (.cond (.seq .n .n) .n)) (.seq .n (.seq (.seq .n (.cond (.seq .n .n) .n)) (.seq .n (.seq .n (.seq .n (.seq .n (.seq (.seq .n (.cond (.seq .n .n) .n)) (.seq (.seq .n (.cond (.seq .n .n) .n)) (.seq (.seq .n (.cond (.seq .n .n) .n)) (.seq .n .n))))))))))))))
  | 4 => (.seq .n (.seq .n (.seq .n (.seq (.seq .n (.cond (.seq .n .n) .n)) (.seq .n (.seq .n (.seq .n (.seq (.seq .n (.cond (.seq .n .n) .n)) (.seq (.seq .n (.cond (.seq .n .n) .n)) (.seq .n (.seq .n (.seq (.seq .n (.cond (.seq .n .n) .n)) (.seq .n (.seq .n (.seq .n (.seq .n (.seq .n (.seq (.seq .n (.cond (.seq .n .n) .n)) (.seq .n (.seq (.seq .n (.cond (.seq .n .n) .n)) (.seq (.seq .n (.cond (.seq .n .n) .n)) (.seq .n (.seq (.seq .n (.cond (.seq .n .n) .n)) (.seq .n (.seq .n (.seq (.seq .n (.cond (.seq .n .n) .n)) (.seq .n (.seq (.seq .n (.cond (.seq .n .n) .n)) (.seq (.seq .n (.cond (.seq .n .n) .n)) (.seq .n .n))))))))))))))))))))))))))))))
  | 5 => (.seq .n (.seq (.seq .n (.cond (.seq .n .n) .n)) (.seq .n (.seq .n (.seq .n (.seq (.seq .n (.cond (.seq .n .n) .n)) (.seq (.seq .n (.cond (.seq .n (.seq (.seq .n (.cond (.seq .n .n) .n)) (.seq .n (.seq (.seq .n (.cond .n .n)) (.cut [1, 6, 7, 8, 9, 13, 14, 16] (.seq .n (.cond (.seq .n (.seq .n (.seq .n (.cond (.seq .n .n) .n)))) .n))))))) .n)) (.cut [1] (.seq .n (.seq .n (.seq .n (.seq .n (.seq .n (.seq .n (.seq .n (.seq .n (.seq .n (.seq (.seq .n (.cond (.seq .n .n) .n)) (.seq .n .n)))))))))))))))))))
  | 6 => (.seq .n (.seq (.seq .n (.cond (.seq .n .n) .n)) (.seq .n (.seq .n (.seq .n (.seq .n (.seq .n (.seq (.seq .n (.cond (.seq .n .n) .n)) (.seq (.seq .n (.cond (.seq .n (.seq .n (.seq .n (.seq (.seq .n (.cond (.seq .n .n) .n)) (.seq (.seq .n (.block (.loop [1, 5, 6, 12, 162, 163, 164] [1, 5, 6] [4] [] (.seq .n (.seq (.cond .n .n) (.seq (.block (.seq .n (.seq .n (.cond (.seq .n .n) .n)))) .n)))))) (.cut [1, 5, 6] (.seq .n (.seq (.seq .n (.block (.loop [1, 5, 6, 25, 195, 196, 197] [1, 5, 6, 25] [4] [(25, none, 1)] (.seq .n (.seq (.cond .n .n) (.seq (.block (.seq .n (.seq .n (.cond .n .n)))) (.cut [1, 5, 6, 25, 195, 196, 197] .n))))))) (.cut [1, 5, 6, 25] (.seq .n (.block (.loop [1, 5, 6, 25, 213, 214] [1] [4] [] (.seq .n (.seq (.cond .n .n) (.seq (.block (.seq .n (.seq .n (.seq .n (.seq .n (.cond (.seq .n .n) .n)))))) .n))))))))))))))) .n)) (.cut [1] (.seq .n (.seq .n (.seq .n (.seq .n (.seq .n .n)))))))))))))))
  | 7 => (.seq .n (.seq .n (.seq .n (.seq (.seq .n (.cond (.seq .n .n) .n)) (.seq .n (.seq .n (.seq .n (.seq (.seq .n (.cond (.seq .n .n) .n)) (.seq (.seq .n (.cond (.seq .n .n) .n)) (.seq .n (.seq .n (.seq (.seq .n (.cond (.seq .n .n) .n)) (.seq .n (.seq .n (.seq .n (.seq .n (.seq (.seq .n (.cond (.seq .n .n) .n)) (.seq (.seq .n (.cond (.seq .n .n) .n)) (.seq .n (.seq (.seq .n (.cond (.seq .n .n) .n)) (.seq .n (.seq .n (.seq (.seq .n (.cond (.seq .n .n) .n)) (.seq (.seq .n (.cond (.seq .n .n) .n)) (.seq .n .n)))))))))))))))))))))))))
  | 8 => (.seq .n (.seq .n (.seq .n (.seq (.seq .n (.cond (.seq .n .n) .n)) (.seq .n (.seq .n (.seq .n (.seq (.seq .n (.cond (.seq .n .n) .n)) (.seq (.seq .n (.cond (.seq .n .n) .n)) (.seq .n (.seq .n (.seq (.seq .n (.cond (.seq .n .n) .n)) (.seq .n (.seq .n (.seq .n (.seq .n (.seq .n (.seq (.seq .n (.cond (.seq .n .n) .n)) (.seq .n (.seq (.seq .n (.cond (.seq .n .n) .n)) (.seq (.seq .n (.cond (.seq .n .n) .n)) (.seq .n (.seq (.seq .n (.cond (.seq .n .n) .n)) (.seq .n (.seq .n (.seq (.seq .n (.cond (.seq .n .n) .n)) (.seq .n (.seq (.seq .n (.cond (.seq .n .n) .n)) (.seq (.seq .n (.cond (.seq .n .n) .n)) (.seq .n .n))))))))))))))))))))))))))))))
  | 9 => (.seq .n (.seq .n (.seq (.seq .n (.cond (.seq .n .n) .n)) (.seq .n (.seq (.seq .n (.cond (.seq .n .n) .n)) (.seq .n .n))))))
  | 10 => (.seq .n (.seq (.seq .n (.cond (.seq .n .n) .n)) (.seq .n (.seq .n (.seq (.seq .n (.cond (.seq .n .n) .n)) (.seq (.seq .n (.block (.loop [7, 38, 39, 40] [] [4, 5] [] (.seq .n (.seq (.cond .n .n) (.seq (.block (.seq .n (.seq .n (.cond (.seq .n .n) .n)))) .n)))))) (.cut [] (.seq .n .n))))))))
  | 11 => (.seq .n (.seq .n (.seq .n (.seq .n (.seq .n .n)))))
  | 12 => (.seq .n (.seq (.seq .n (.cond (.seq .n .n) .n)) (.seq .n (.seq .n (.seq .n (.seq .n .n))))))
  | 13 => (.seq .n (.seq (.seq .n (.cond (.seq .n .n) .n)) (.seq (.seq .n (.cond (.seq .n .n) .n)) (.seq .n .n))))
  | 14 => (.seq .n (.seq (.seq .n (.cond (.seq .n .n) .n)) (.seq .n (.seq .n (.seq (.seq .n (.block (.loop [1, 2, 5, 6, 16, 17] [1, 2, 6] [2, 3, 4] [(6, none, 1)] (.seq .n (.seq (.cond .n .n) (.seq (.block (.seq .n .n)) .n)))))) (.cut [1, 2, 6] (.seq .n .n)))))))
  | 15 => (.seq .n (.seq (.seq .n (.cond (.seq .n .n) .n)) (.seq .n (.seq .n .n))))
  | 16 => (.seq .n (.seq (.seq .n (.cond (.seq .n .n) .n)) (.seq (.seq .n (.block (.loop [0, 1, 5] [] [4] [] (.seq (.seq .n (.cond .n .n)) (.seq (.block (.seq .n (.cond (.seq .n .n) .n))) .n))))) (.cut [] (.seq .n .n)))))
  | 17 => (.seq .n (.seq .n (.seq .n (.seq .n .n))))
  | 18 => (.seq .n (.seq (.seq .n (.block (.loop [0, 1, 5] [1] [4] [] (.seq (.seq .n (.cond .n .n)) (.seq (.block (.seq .n .n)) .n))))) (.cut [1] (.seq .n .n))))
  | 19 => (.seq .n (.seq .n (.seq (.seq .n (.cond (.seq .n .n) .n)) (.seq .n (.seq (.seq .n (.cond (.seq .n .n) .n)) (.seq .n .n))))))
  | 20 => (.seq .n (.seq (.seq .n (.block (.loop [0, 1, 5] [1] [4] [] (.seq (.seq .n (.cond .n .n)) (.seq (.block (.seq (.seq .n (.cond (.seq .n .n) .n)) .n)) .n))))) (.cut [1] (.seq .n .n))))
  | 21 => (.seq .n (.seq .n (.seq .n (.seq .n (.seq .n .n)))))
  | 22 => (.seq .n (.seq (.seq .n (.cond (.seq .n .n) .n)) (.seq .n (.seq .n (.seq .n .n)))))
  | 23 => (.seq .n (.seq (.seq .n (.cond (.seq .n .n) .n)) (.seq .n (.seq .n (.seq .n .n)))))
  | 24 => (.seq .n (.seq (.seq .n (.cond (.seq .n .n) .n)) (.seq (.seq .n (.block (.loop [2, 3, 23, 24] [] [4] [] (.seq .n (.seq (.cond .n .n) (.seq (.block (.seq .n (.seq .n (.cond (.seq .n .n) .n)))) .n)))))) (.cut [] (.seq .n .n)))))
  | 25 => (.seq .n (.seq .n (.seq (.seq .n (.cond (.seq .n .n) .n)) (.seq .n .n))))
  | 26 => (.seq .n (.seq .n (.seq .n (.seq .n (.seq (.seq .n (.block (.loop [2, 5, 6, 7, 8] [2, 5, 6, 7] [2, 3, 4] [(7, none, 1)] (.seq (.seq .n (.cond .n .n)) (.seq (.block .n) .n))))) (.cut [2, 5, 6, 7] (.seq .n .n)))))))
  | 27 => (.seq .n (.seq (.seq .n (.cond (.seq .n .n) .n)) (.seq .n (.seq .n (.seq .n (.seq .n .n))))))
  | 28 => (.seq .n (.seq (.seq .n (.cond (.seq .n .n) .n)) (.seq .n (.seq .n (.seq .n (.seq .n .n))))))
  | 29 => (.seq .n (.seq .n (.seq .n (.seq .n .n))))
  | 30 => (.seq .n (.seq (.seq .n (.cond (.seq .n .n) .n)) (.seq .n (.seq .n (.seq .n .n)))))
  | 31 => (.seq .n (.seq (.seq .n (.cond (.seq .n .n) .n)) (.seq .n (.seq .n (.seq .n .n)))))
  | 32 => (.seq .n (.seq .n (.seq .n (.seq .n (.seq (.seq .n (.block (.loop [2, 5, 6, 7, 8] [2, 5, 6, 7] [2, 3, 4] [(7, none, 1)] (.seq (.seq .n (.cond .n .n)) (.seq (.block .n) .n))))) (.cut [2, 5, 6, 7] (.seq .n .n)))))))
  | 33 => (.seq .n (.seq (.seq .n (.cond (.seq .n .n) .n)) (.seq .n (.seq (.seq .n (.block (.loop [3, 8, 33, 34, 35] [3, 8] [6, 7] [] (.seq .n (.seq (.cond .n .n) (.seq (.block (.seq .n (.seq (.seq .n (.cond (.seq .n .n) .n)) .n))) .n)))))) (.cut [3, 8] (.seq (.seq .n (.cond (.seq .n .n) .n)) (.seq .n .n)))))))
  | 34 => (.seq .n (.seq (.seq .n (.cond (.seq .n .n) .n)) (.seq .n (.seq (.seq .n (.block (.loop [3, 8, 35, 36, 37] [3, 8] [6, 7] [] (.seq .n (.seq (.cond .n .n) (.seq (.block (.seq .n (.seq (.seq .n (.cond (.seq .n .n) .n)) .n))) .n)))))) (.cut [3, 8] (.seq (.seq .n (.cond (.seq .n .n) .n)) (.seq .n .n)))))))
  | 35 => (.seq .n (.seq .n .n))
  | 36 => (.seq .n (.seq (.seq .n (.cond (.seq .n .n) .n)) (.seq .n (.seq .n (.seq (.seq .n (.block (.loop [6, 18, 19, 20] [6] [2, 3] [(6, none, 1)] (.seq .n (.seq (.cond .n .n) (.seq (.block (.seq .n (.seq .n (.cond .n .n)))) (.cut [6, 18, 19, 20] .n))))))) (.cut [6] (.seq .n .n)))))))
  | 37 => (.seq .n (.seq (.seq .n (.cond (.seq .n .n) .n)) (.seq .n (.seq (.seq .n (.block (.loop [4, 11, 12, 13] [4] [2, 3] [] (.seq .n (.seq (.cond .n .n) (.seq (.block (.seq .n .n)) .n)))))) (.cut [4] (.seq .n .n))))))
  | 38 => (.seq .n (.seq (.seq .n (.cond (.seq .n .n) .n)) (.seq (.seq .n (.block (.loop [0, 1, 12, 13] [] [4] [] (.seq .n (.seq (.cond .n .n) (.seq (.block (.seq .n (.seq .n (.cond (.seq .n .n) .n)))) .n)))))) (.cut [] (.seq .n .n)))))
  | 39 => (.seq .n (.seq (.seq .n (.block (.loop [1, 7, 8, 9] [] [4] [] (.seq .n (.seq (.cond .n .n) (.seq (.block (.seq .n (.seq .n (.cond (.seq .n .n) .n)))) .n)))))) (.cut [] (.seq .n .n))))
  | 40 => (.seq .n (.seq .n (.seq .n (.seq (.seq .n (.seq .n (.cond (.seq (.seq .n (.cond .n .n)) (.cut [2, 3, 5, 6] (.seq .n .n))) .n))) (.seq .n .n)))))
  | 41 => (.seq .n (.seq .n (.seq (.seq .n (.cond (.seq .n .n) .n)) (.seq .n .n))))
  | 42 => (.seq .n (.seq (.seq .n (.cond (.seq .n .n) .n)) (.seq .n (.seq .n (.seq (.seq .n (.block (.loop [0, 5, 6, 17, 18, 19] [5, 6] [2, 3, 4] [] (.seq .n (.seq (.cond .n .n) (.seq (.block (.seq .n (.seq .n (.seq .n (.seq .n (.cond .n .n)))))) (.cut [0, 5, 6, 17, 18, 19] .n))))))) (.cut [5, 6] (.seq .n .n)))))))
  | 43 => (.seq .n (.seq .n (.seq (.seq .n (.block (.loop [0, 3, 4] [3] [2] [] (.seq (.seq .n (.cond .n .n)) (.seq (.block .n) .n))))) (.cut [3] (.seq .n .n)))))
  | 44 => (.seq .n (.seq (.seq .n (.cond (.seq .n .n) .n)) (.seq .n (.seq (.seq .n (.block (.loop [0, 5, 6, 16, 17, 18] [5, 6] [2, 3, 4] [] (.seq .n (.seq (.cond .n .n) (.seq (.block (.seq .n (.seq .n .n))) .n)))))) (.cut [5, 6] (.seq .n .n))))))
  | 45 => (.seq .n (.seq (.seq .n (.cond (.seq .n .n) .n)) (.seq (.seq .n (.block (.loop [0, 1, 5] [] [4] [] (.seq (.seq .n (.cond .n .n)) (.seq (.block (.seq .n (.cond (.seq .n .n) .n))) .n))))) (.cut [] (.seq .n .n)))))
  | 46 => (.seq .n (.seq (.seq .n (.block (.loop [0, 1, 5] [1] [4] [] (.seq (.seq .n (.cond .n .n)) (.seq (.block (.seq .n (.seq .n (.seq .n .n)))) .n))))) (.cut [1] (.seq .n .n))))
  | 47 => (.seq .n (.seq (.seq .n (.cond (.seq .n .n) .n)) (.seq .n (.seq .n (.seq (.seq .n (.block (.loop [0, 1, 7, 8, 27, 28, 29] [7, 8] [4, 5, 6] [] (.seq .n (.seq (.cond .n .n) (.seq (.block (.seq .n (.seq .n (.seq (.seq .n (.cond (.seq .n .n) .n)) (.seq .n (.seq (.seq .n (.block (.loop [0, 1, 7, 8, 10, 12, 27, 28, 29, 49, 50, 51] [0, 1, 7, 8, 10, 12, 27, 28, 29] [4, 5, 6] [] (.seq .n (.seq (.cond .n .n) (.seq (.block (.seq .n (.seq .n (.cond .n .n)))) (.cut [0, 1, 7, 8, 10, 12, 27, 28, 29, 49, 50, 51] .n))))))) (.cut [0, 1, 7, 8, 10, 12, 27, 28, 29] (.seq (.seq .n (.cond (.seq .n .n) .n)) (.cut [0, 1, 7, 8, 12, 27, 28, 29] .n))))))))) (.cut [0, 1, 7, 8, 27, 28, 29] .n))))))) (.cut [7, 8] (.seq .n .n)))))))
  | 48 => (.seq .n (.seq (.seq .n (.cond (.seq .n .n) .n)) (.seq .n (.seq (.seq .n (.block (.loop [0, 1, 7, 29, 30, 31] [7] [4, 5, 6] [] (.seq .n (.seq (.cond .n .n) (.seq (.block (.seq .n (.seq (.seq .n (.seq .n (.cond (.seq .n .n) .n))) (.seq .n (.seq (.seq .n (.block (.loop [0, 1, 7, 9, 11, 29, 30, 31, 51, 52, 53] [0, 1, 7, 9, 11, 29, 30, 31] [4, 5, 6] [] (.seq .n (.seq (.cond .n .n) (.seq (.block (.seq .n (.seq .n (.cond .n .n)))) (.cut [0, 1, 7, 9, 11, 29, 30, 31, 51, 52, 53] .n))))))) (.cut [0, 1, 7, 9, 11, 29, 30, 31] (.seq .n (.cond .n .n)))))))) (.cut [0, 1, 7, 29, 30, 31] .n))))))) (.cut [7] (.seq .n (.seq (.seq .n (.block (.loop [7, 14, 99, 100, 101] [7, 14] [4, 5, 6] [(14, none, 1)] (.seq .n (.seq (.cond .n .n) (.seq (.block (.seq .n (.seq .n (.cond .n .n)))) (.cut [7, 14, 99, 100, 101] .n))))))) (.cut [7, 14] (.seq .n .n)))))))))
  | 49 => (.seq .n (.seq .n (.seq (.seq .n (.cond (.seq .n .n) .n)) (.seq (.seq .n (.block (.loop [0, 1, 5] [1] [4] [] (.seq (.seq .n (.cond .n .n)) (.seq (.block (.seq .n (.seq .n (.cond (.seq .n .n) .n)))) .n))))) (.cut [1] (.seq .n .n))))))
  | 50 => (.seq .n (.seq .n (.seq (.seq .n (.cond (.seq .n .n) .n)) (.seq .n .n))))
  | 51 => (.seq .n (.seq (.seq .n (.block (.loop [1, 10, 11, 12] [1] [2] [] (.seq .n (.seq (.cond .n .n) (.seq (.block (.seq .n (.seq (.seq .n (.cond (.seq .n .n) .n)) (.seq .n (.block (.loop [1, 10, 11, 12, 27, 28, 29] [1, 10, 11, 12] [2] [] (.seq .n (.seq (.cond .n .n) (.seq (.block (.seq .n (.seq .n (.cond (.seq .n .n) .n)))) .n))))))))) (.cut [1, 10, 11, 12] .n))))))) (.cut [1] (.seq (.seq .n (.block (.loop [1, 42, 43, 44] [1] [2] [] (.seq .n (.seq (.cond .n .n) (.seq (.block (.seq .n (.seq .n (.cond (.seq .n .n) .n)))) .n)))))) (.cut [1] (.seq .n .n))))))
  | 52 => (.seq .n (.seq .n (.seq .n (.seq (.seq .n (.block (.loop [1, 2, 3, 4, 15, 16, 17] [1, 2, 3, 4] [2] [(4, some 0, 2)] (.seq .n (.seq (.cond .n .n) (.seq (.block (.seq .n (.seq .n (.seq (.seq .n (.block (.loop [1, 2, 3, 4, 7, 15, 16, 17, 33, 34, 35] [1, 2, 3, 4, 7, 15, 16, 17] [2] [(7, some 1, 1)] (.seq .n (.seq (.cond .n .n) (.seq (.block (.seq .n .n)) .n)))))) (.cut [1, 2, 3, 4, 7, 15, 16, 17] .n))))) (.cut [1, 2, 3, 4, 15, 16, 17] .n))))))) (.cut [1, 2, 3, 4] (.seq (.seq .n (.block (.loop [2, 3, 4, 56, 57, 58] [2, 4] [2] [(4, some 1, 1)] (.seq .n (.seq (.cond .n .n) (.seq (.block (.seq .n .n)) .n)))))) (.cut [2, 4] (.seq .n .n))))))))
  | 53 => (.seq .n (.seq (.seq .n (.cond (.seq .n .n) .n)) (.seq (.seq .n (.block (.loop [0, 1, 12, 13] [] [4] [] (.seq .n (.seq (.cond .n .n) (.seq (.block (.seq .n (.seq .n (.cond (.seq .n .n) .n)))) .n)))))) (.cut [] (.seq .n .n)))))
  | 54 => (.seq .n (.seq .n (.seq (.seq .n (.block (.loop [0, 3, 4] [3] [2] [] (.seq (.seq .n (.cond .n .n)) (.seq (.block .n) .n))))) (.cut [3] (.seq .n .n)))))
  | 55 => (.seq .n (.seq .n (.seq (.seq .n (.block (.loop [0, 3, 4] [3] [2] [] (.seq (.seq .n (.cond .n .n)) (.seq (.block .n) .n))))) (.cut [3] (.seq .n .n)))))
  | 56 => (.seq .n (.seq .n (.seq .n (.seq (.seq .n (.block (.loop [1, 2, 4, 5, 6] [2, 4, 5] [2, 3] [(5, some 0, 2)] (.seq (.seq .n (.cond .n .n)) (.seq (.block (.seq .n .n)) .n))))) (.cut [2, 4, 5] (.seq .n .n))))))
  | 57 => (.seq .n (.seq .n .n))
  | 58 => (.seq .n (.seq (.seq .n (.cond (.seq .n .n) .n)) (.seq (.seq .n (.block (.loop [0, 1, 12, 13] [] [4] [] (.seq .n (.seq (.cond .n .n) (.seq (.block (.seq .n (.seq .n (.cond (.seq .n .n) .n)))) .n)))))) (.cut [] (.seq .n .n)))))
  | 59 => (.seq .n (.seq (.seq .n (.cond (.seq .n .n) .n)) (.seq (.seq .n (.block (.loop [1, 2, 15, 16, 17] [] [6] [] (.seq .n (.seq (.cond .n .n) (.seq (.block (.seq .n (.seq .n (.seq .n (.cond (.seq .n .n) .n))))) .n)))))) (.cut [] (.seq .n .n)))))
  | 60 => (.seq .n (.seq (.seq .n (.cond (.seq .n .n) .n)) (.seq (.seq .n (.block (.loop [0, 1, 5] [] [4] [] (.seq (.seq .n (.cond .n .n)) (.seq (.block (.seq .n (.cond (.seq .n .n) .n))) .n))))) (.cut [] (.seq .n .n)))))
  | 61 => (.seq .n (.seq .n (.seq (.seq .n (.block (.loop [1, 3, 10, 11, 12] [1, 3] [2] [(3, none, 1)] (.seq .n (.seq (.cond .n .n) (.seq (.block (.seq .n (.seq .n (.cond .n .n)))) (.cut [1, 3, 10, 11, 12] .n))))))) (.cut [1, 3] (.seq (.seq .n (.block (.loop [1, 3, 6] [3] [2] [(3, none, 1)] (.seq (.seq .n (.cond .n .n)) (.seq (.block (.seq .n (.block (.loop [1, 3, 6, 43, 44, 45] [1, 3, 6] [2] [(3, none, 1)] (.seq .n (.seq (.cond .n .n) (.seq (.block (.seq .n (.seq .n (.cond .n .n)))) (.cut [1, 3, 6, 43, 44, 45] .n)))))))) (.cut [1, 3, 6] .n)))))) (.cut [3] (.seq .n .n)))))))
  | 62 => (.seq .n (.seq (.seq .n (.block (.loop [1, 7, 8, 9] [] [4] [] (.seq .n (.seq (.cond .n .n) (.seq (.block (.seq .n (.seq .n (.cond (.seq .n .n) .n)))) .n)))))) (.cut [] (.seq .n .n))))
  | 63 => (.seq .n (.seq (.seq .n (.block (.loop [0, 1, 5] [1] [4] [] (.seq (.seq .n (.cond .n .n)) (.seq (.block (.seq .n (.seq .n .n))) .n))))) (.cut [1] (.seq .n .n))))
  | 64 => (.seq .n (.seq (.seq .n (.block (.loop [0, 1, 5] [1] [4] [] (.seq (.seq .n (.cond .n .n)) (.seq (.block (.seq (.seq .n (.cond (.seq .n .n) .n)) (.seq .n (.seq .n (.seq .n (.cond (.seq .n .n) .n)))))) .n))))) (.cut [1] (.seq .n .n))))
  | 65 => (.seq .n (.seq .n (.seq .n (.seq (.seq .n (.cond .n .n)) (.cut [0, 2, 3, 4] (.seq (.seq .n (.block (.loop [0, 2, 3, 4, 5] [0, 2, 3, 4] [2] [(3, some 0, 2)] (.seq (.seq .n (.cond .n .n)) (.seq (.block (.seq .n (.seq (.seq .n (.block (.loop [0, 2, 3, 4, 5, 6, 7] [0, 2, 3, 4, 5, 6] [2] [(6, some 1, 1)] (.seq (.seq .n (.cond .n .n)) (.seq (.block .n) .n))))) (.cut [0, 2, 3, 4, 5, 6] .n)))) (.cut [0, 2, 3, 4, 5] .n)))))) (.cut [0, 2, 3, 4] (.seq (.seq .n (.block (.loop [0, 2, 3, 4, 8] [0, 2, 3, 4] [2] [(3, some 1, 1)] (.seq (.seq .n (.cond .n .n)) (.seq (.block .n) .n))))) (.cut [0, 2, 3, 4] (.seq (.seq .n (.cond (.seq .n (.block (.seq .n (.cond .n (.seq .n (.cond .n .n)))))) .n)) (.cut [2, 3] (.seq .n .n))))))))))))
  | 66 => (.seq .n (.seq (.seq .n (.cond (.seq .n .n) .n)) (.seq .n (.seq (.seq .n (.cond .n .n)) (.cut [1, 5] (.seq .n .n))))))
  | 67 => (.seq .n (.seq .n .n))
  | 68 => (.seq .n (.seq .n (.seq (.seq .n (.block (.loop [2, 3, 15, 16, 17] [2, 3] [2] [] (.seq .n (.seq (.cond .n .n) (.seq (.block (.seq .n .n)) .n)))))) (.cut [2, 3] (.seq .n .n)))))
  | 69 => (.seq .n (.seq (.seq .n (.cond (.seq .n .n) .n)) (.seq .n .n)))
  | 70 => (.seq .n (.seq .n (.seq (.seq .n (.block (.loop [2, 3, 12, 13, 14] [2, 3] [2] [(3, some 0, 2)] (.seq .n (.seq (.cond .n .n) (.seq (.block (.seq .n (.seq .n .n))) .n)))))) (.cut [2, 3] (.seq .n .n)))))
  | 71 => (.seq .n (.seq (.seq .n (.cond (.seq .n .n) .n)) (.seq .n .n)))
  | 72 => (.seq .n (.seq .n .n))
  | 73 => (.seq .n (.seq .n .n))
  | 74 => (.seq .n (.seq .n .n))
  | 75 => (.seq .n (.seq .n .n))
  | 76 => (.seq .n (.seq (.seq .n (.cond (.seq .n .n) .n)) (.seq .n .n)))
  | 77 => (.seq .n (.seq .n (.seq (.seq .n (.cond (.seq .n .n) .n)) (.seq .n (.seq .n (.seq .n (.seq .n .n)))))))
  | 78 => (.seq .n (.seq .n (.seq .n .n)))
  | 79 => (.seq .n (.seq .n (.seq (.block (.loop [0, 1, 5] [0, 1, 5] [4] [] (.seq (.seq .n (.cond .n .n)) (.block .n)))) (.cut [0, 1, 5] (.seq (.seq .n (.cond (.seq .n .n) .n)) (.seq .n (.seq .n (.seq .n (.seq .n .n)))))))))
  | 80 => (.seq .n (.seq .n .n))
  | 81 => (.seq .n (.seq (.seq .n (.block (.loop [0, 5, 6, 7] [0] [2] [] (.seq .n (.seq (.cond .n .n) (.seq (.block (.seq .n (.seq .n (.cond (.seq .n .n) .n)))) .n)))))) (.cut [0] (.seq .n .n))))
  | 82 => (.seq .n (.seq .n (.seq (.block (.loop [0, 3] [3] [2] [(3, none, 1)] (.seq (.seq .n (.cond .n .n)) (.seq (.block .n) .n)))) (.cut [3] (.seq .n .n)))))
  | 83 => (.seq .n (.seq .n (.seq (.seq .n (.block (.loop [0, 3, 8, 9, 10] [3] [2] [(3, none, 1)] (.seq .n (.seq (.cond .n .n) (.seq (.block (.seq .n (.seq .n (.seq (.block (.loop [0, 3, 4, 5, 6, 8, 9, 10] [0, 3, 4, 6, 8, 9, 10] [2] [] (.seq (.seq .n (.cond .n .n)) (.block .n)))) (.cut [0, 3, 4, 6, 8, 9, 10] (.seq .n (.seq .n (.seq .n .n)))))))) (.cut [0, 3, 8, 9, 10] .n))))))) (.cut [3] (.seq .n .n)))))
  | 84 => (.seq .n (.seq .n (.seq (.seq .n (.block (.loop [0, 1, 2, 7, 8] [7] [6] [] (.seq (.seq .n (.cond .n .n)) (.block (.seq .n (.seq .n (.block (.loop [0, 1, 2, 7, 8, 12, 13, 14] [0, 1, 2, 7, 8] [6] [] (.seq .n (.seq (.cond .n .n) (.seq (.block (.seq .n (.seq .n (.cond (.seq .n .n) .n)))) (.cut [0, 1, 2, 7, 8, 12, 13, 14] .n))))))))))))) (.cut [7] (.seq .n .n)))))
  | 85 => (.seq .n (.seq .n (.seq .n (.seq .n (.seq .n .n)))))
  | 86 => (.seq .n (.seq (.seq .n (.cond (.seq .n .n) .n)) (.seq .n .n)))
  | 87 => (.seq .n (.seq .n .n))
  | 88 => (.seq .n (.seq .n (.seq (.seq .n (.block (.loop [1, 3, 9, 10] [1, 3] [2] [] (.seq .n (.seq (.cond .n .n) (.seq (.block (.seq .n .n)) .n)))))) (.cut [1, 3] (.seq .n (.seq .n .n))))))
  | 89 => (.seq .n (.seq .n (.block (.loop [0, 1, 2, 7] [] [6] [] (.seq (.block (.seq .n (.seq (.seq .n (.block (.loop [0, 1, 2, 7, 8, 13, 14, 15] [0, 1, 2, 7, 8] [6] [] (.seq .n (.seq (.cond .n .n) (.seq (.block (.seq .n .n)) .n)))))) (.cut [0, 1, 2, 7, 8] (.seq .n (.cond (.seq .n .n) .n)))))) (.cut [0, 1, 2, 7] .n))))))
  | 90 => (.seq .n (.seq (.seq .n (.cond (.seq .n .n) .n)) (.seq (.seq .n (.cond (.seq .n .n) .n)) (.seq .n .n))))
  | 91 => (.seq .n (.seq .n .n))
  | 92 => (.seq .n (.seq .n .n))
  | 93 => (.seq .n (.seq .n (.seq (.seq .n (.cond (.seq .n .n) .n)) (.seq .n .n))))
  | 94 => (.seq .n (.seq .n .n))
  | 95 => (.seq .n (.seq .n (.seq .n (.seq .n (.seq .n .n)))))
  | 96 => (.seq .n (.seq (.seq .n (.cond .n .n)) (.cut [0, 1] (.seq .n (.seq (.seq .n (.cond .n .n)) (.cut [0, 6] (.seq .n (.seq .n (.seq (.block (.loop [7, 8] [7] [4] [] (.seq (.seq .n (.cond .n .n)) (.block .n)))) (.cut [7] (.seq .n .n)))))))))))
  | 97 => (.seq .n (.seq .n (.seq (.seq .n (.block (.loop [0, 5, 11, 12, 13] [5] [4] [(0, some 1, 1)] (.seq .n (.seq (.cond .n .n) (.seq (.block (.seq .n .n)) .n)))))) (.cut [5] (.seq .n .n)))))
  | 98 => (.seq .n (.seq (.seq .n (.cond (.seq .n .n) .n)) (.seq (.seq .n (.cond (.seq .n .n) .n)) (.seq .n .n))))
  | 99 => (.seq .n (.seq (.seq .n (.block (.loop [1, 7, 8, 9] [] [4] [] (.seq .n (.seq (.cond .n .n) (.seq (.block (.seq .n (.seq .n (.cond (.seq .n .n) .n)))) .n)))))) (.cut [] (.seq .n .n))))
  | 100 => (.seq .n (.seq .n (.seq (.seq .n (.cond .n .n)) (.cut [0, 3] (.seq .n (.seq .n (.seq (.seq .n (.cond (.seq .n .n) .n)) (.seq .n .n))))))))
  | 101 => (.seq .n (.seq .n .n))
  | 102 => (.seq .n (.seq .n .n))
  | 103 => (.seq .n (.seq (.seq .n (.block (.loop [0, 1, 7, 8] [] [4] [] (.seq .n (.seq (.cond .n .n) (.seq (.block (.seq .n (.seq .n (.cond (.seq .n .n) .n)))) .n)))))) (.cut [] (.seq .n .n))))
  | 104 => (.seq .n (.seq .n .n))
  | 105 => (.seq .n (.seq .n .n))
  | 106 => .n
  | 107 => (.seq .n (.seq .n .n))
  | 108 => (.seq .n (.seq .n (.seq .n (.seq (.seq .n (.cond (.seq (.seq .n (.cond (.seq .n .n) .n)) (.seq .n .n)) .n)) (.seq (.seq .n (.cond (.seq .n .n) .n)) (.seq (.seq .n (.cond (.seq .n .n) .n)) (.seq (.seq .n (.cond (.seq .n .n) .n)) (.seq .n .n))))))))
  | 109 => (.seq .n (.seq (.cond (.seq .n (.seq .n .n)) .n) (.seq .n (.seq .n .n))))
  | 110 => (.seq .n (.seq (.seq .n (.cond (.seq .n .n) .n)) (.seq (.seq .n (.cond (.seq .n .n) .n)) (.cut [0, 1] (.seq .n .n)))))
  | 111 => (.seq .n (.seq (.seq .n (.block (.loop [0, 1, 7, 8] [] [4] [] (.seq .n (.seq (.cond .n .n) (.seq (.block (.seq .n (.seq .n (.cond (.seq .n .n) .n)))) .n)))))) (.cut [] (.seq .n .n))))
  | 112 => (.seq .n (.seq (.seq .n (.block (.loop [0, 1, 7, 8] [] [4] [] (.seq .n (.seq (.cond .n .n) (.seq (.block (.seq .n (.seq .n (.cond (.seq .n .n) .n)))) .n)))))) (.cut [] (.seq .n .n))))
  | 113 => (.seq .n (.seq .n (.seq (.block (.loop [0, 1, 2, 6, 7, 8] [0, 1, 2, 6, 7] [] [] (.seq (.seq .n (.cond .n .n)) (.block (.seq .n (.seq .n .n)))))) (.cut [0, 1, 2, 6, 7] (.seq .n (.block (.loop [0, 1, 2, 6] [] [] [] (.seq (.seq .n (.cond .n .n)) (.block (.seq .n (.seq (.block (.loop [0, 1, 2, 6, 7, 8] [0, 1, 2, 6, 7] [] [] (.seq (.seq .n (.cond .n .n)) (.block (.seq .n (.seq .n .n)))))) (.cut [0, 1, 2, 6, 7] (.seq (.seq .n (.seq .n (.cond .n .n))) (.cut [0, 1, 2, 6] .n))))))))))))))
  | 114 => (.seq .n (.seq .n .n))
  | 115 => (.seq .n (.seq .n (.seq .n .n)))
  | 116 => (.seq .n (.seq .n (.seq .n (.seq .n (.seq .n (.seq .n (.seq .n (.seq .n (.seq .n (.seq .n (.seq .n (.seq .n .n))))))))))))
  | 117 => (.seq .n (.block (.loop [0, 1, 2, 3, 8] [] [] [] (.seq (.seq .n (.cond .n .n)) (.seq (.block (.seq .n (.block (.loop [0, 1, 2, 3, 8, 9] [0, 1, 2, 3, 8] [] [] (.seq (.seq .n (.cond .n .n)) (.seq (.block .n) .n)))))) (.cut [0, 1, 2, 3, 8] .n))))))
  | 118 => (.seq (.seq .n (.cond (.seq .n (.seq .n (.seq (.block (.loop [0, 1, 4, 10, 11] [0, 1, 10] [] [] (.seq (.seq .n (.cond .n .n)) (.block (.seq .n (.seq .n (.cond .n .n))))))) (.cut [0, 1, 10] (.seq (.seq .n (.block (.loop [0, 10, 13] [] [] [] (.seq (.seq .n (.cond .n .n)) (.seq (.block .n) .n))))) .n))))) .n)) (.cut [0, 1, 2, 3, 4] (.seq (.seq .n (.cond (.seq .n (.seq .n (.seq (.block (.loop [0, 2, 4, 14, 15] [0, 2, 14] [] [] (.seq (.seq .n (.cond .n .n)) (.block (.seq .n (.seq .n (.cond .n .n))))))) (.cut [0, 2, 14] (.seq (.seq .n (.block (.loop [0, 14, 17] [] [] [] (.seq (.seq .n (.cond .n .n)) (.seq (.block .n) .n))))) .n))))) .n)) (.cut [0, 1, 2, 3, 4] (.seq .n (.seq .n (.seq .n (.seq (.seq .n (.cond (.seq .n .n) (.seq .n .n))) (.cut [0, 1, 2, 3, 4, 18, 19, 20, 21] (.seq .n (.seq (.block (.loop [0, 1, 2, 3, 4, 18, 19, 20, 21, 22] [0, 1, 2, 3, 4, 18, 19, 20] [] [] (.seq (.seq .n (.cond .n .n)) (.block (.seq .n (.seq .n (.cond .n .n))))))) (.cut [0, 1, 2, 3, 4, 18, 19, 20] (.seq .n (.seq (.seq .n (.cond .n .n)) (.cut [0, 1, 3, 4, 18, 20, 24] (.seq (.seq .n (.cond .n .n)) (.cut [0, 3, 4, 18, 24] (.seq .n (.cond .n .n)))))))))))))))))))
  | 119 => (.seq .n (.seq .n (.seq (.block (.loop [0, 2, 4, 10, 11] [0, 2, 4, 10] [] [] (.seq (.seq .n (.cond .n .n)) (.block (.seq .n (.cond (.seq .n .n) (.seq .n .n))))))) (.cut [0, 2, 4, 10] .n))))
  | 120 => (.seq .n (.block (.loop [0, 1, 2, 3, 10] [] [] [] (.seq (.seq .n (.cond .n .n)) (.seq (.block .n) .n)))))
  | _ => .n
noncomputable def pr : Pr := ⟨Try.prog, prPol, prAnn, prPrim⟩
noncomputable def pr0 : Pr := ⟨Try.prog, prPol, prAnn, fun _ => none⟩
end Go.Ev

/- Heaps: what the laws' own functions do with them. -/
namespace Go.Ev
set_option linter.unusedVariables false
set_option linter.unusedSimpArgs false
open Go.Proofs
set_option maxRecDepth 100000
set_option linter.unusedVariables false
set_option maxHeartbeats 2000000
theorem toIntL_ev (l : List Int) : ∀ (rest m : List Int), l = m ++ rest → l.length ≤ 1048576 → Ev pr (.loop (lq pr 55 0) (at_ [(0, .t (.seq 1 (l.map intt))), (3, .vec 0 l.length 1 0 l.length), (4, i64 m.length)] [.vec true 1 (ints (m ++ List.replicate rest.length 0))] 0))
    (.exit 0 (at_ [(3, .vec 0 l.length 1 0 l.length)] [.vec true 1 (ints l)] 0))
  | [], m, he, h => by
    have hll : (l.length : Int) = m.length := by simp [he]
    have he2 : l = m := by simpa using he
    subst he2
    let t0 : Tp pr := .i (show ((↑(List.map intt l).length : Int) : Int) = (↑l.length : Int) by simp)
    let t1 : Tp pr := .b (show (decide ((↑l.length : Int) < (↑l.length : Int))) = false by simp)
    exact .tpe [t0, t1] (Out.exit (0 : Nat) (at_ [((3 : Nat), V.vec (0 : Nat) l.length (1 : Nat) (0 : Nat) l.length)] [Ob.vec true (1 : Nat) (ints (l ++ List.replicate (0 : Nat) (0 : Int)))] (0 : Nat))) (by kernel_rfl) (congrArg (fun x => Out.exit (0 : Nat) (at_ [((3 : Nat), V.vec (0 : Nat) l.length (1 : Nat) (0 : Nat) l.length)] [Ob.vec true (1 : Nat) x] (0 : Nat))) (show (ints (l ++ List.replicate (0 : Nat) (0 : Int))) = (ints l) by simp))
  | x :: rest, m, he, h => by
    have hll : (l.length : Int) = m.length + 1 + rest.length := by simp [he]; omega
    have hg : lkp (l.map intt) (m.length : Int) = some [T.int .i64 x] := by subst he; simp [intt]
    have ih := toIntL_ev l rest (m ++ [x]) (by simp [he]) h
    have hg2 : (ints (m ++ 0 :: List.replicate rest.length 0))[m.length]? = some (intc 0) := by simp [ints]
    rw [show List.replicate (x :: rest).length (0 : Int) = 0 :: List.replicate rest.length 0 from rfl]
    let t0 : Tp pr := .i (show ((↑(List.map intt l).length : Int) : Int) = (↑l.length : Int) by simp)
    let t1 : Tp pr := .b (show (decide ((↑m.length : Int) < (↑l.length : Int))) = true by (simp; omega))
    let t2 : Tp pr := .g .row (show (lkp (List.map intt l) (↑m.length : Int)) = some ([T.int IntKind.i64 x]) from hg)
    let t3 : Tp pr := .m (show (decide ((0 : Int) ≤ (↑m.length : Int) ∧ (↑m.length : Int).toNat < l.length)) = true by simp [*])
    let t4 : Tp pr := .c (show ((0 : Nat) + (↑m.length : Int).toNat : Nat) = m.length by omega)
    let t5 : Tp pr := .m (show (decide ((ints (m ++ (0 : Int) :: List.replicate rest.length (0 : Int))).length = l.length)) = true by simp [*])
    let t6 : Tp pr := .g .crow (show ((ints (m ++ (0 : Int) :: List.replicate rest.length (0 : Int)))[m.length]?) = some (intc (0 : Int)) from hg2)
    let t7 : Tp pr := .n .crows (show ((ints (m ++ (0 : Int) :: List.replicate rest.length (0 : Int))).set m.length [C.t (T.int IntKind.i64 x)]) = ints (m ++ x :: List.replicate rest.length (0 : Int)) by simp)
    let t8 : Tp pr := .i (wrap_i64 (a := (↑m.length : Int) + (1 : Int)) (by omega) (by omega))
    let t9 : Tp pr := .a (Ev.castq ((congrArg (fun x_1 => Q.loop (lq pr (55 : FuncId) (0 : Nat)) (at_ [((0 : Nat), V.t (T.seq (1 : Nat) (List.map intt l))), ((3 : Nat), V.vec (0 : Nat) l.length (1 : Nat) (0 : Nat) l.length), ((4 : Nat), i64 x_1)] [Ob.vec true (1 : Nat) (ints (m ++ [x] ++ List.replicate rest.length (0 : Int)))] (0 : Nat))) (show ((↑(m ++ [x]).length : Int)) = ((↑m.length : Int) + (1 : Int)) by simp [ints, intc])).trans (congrArg (fun x => Q.loop (lq pr (55 : FuncId) (0 : Nat)) (at_ [((0 : Nat), V.t (T.seq (1 : Nat) (List.map intt l))), ((3 : Nat), V.vec (0 : Nat) l.length (1 : Nat) (0 : Nat) l.length), ((4 : Nat), i64 ((↑m.length : Int) + (1 : Int)))] [Ob.vec true (1 : Nat) x] (0 : Nat))) (show (ints (m ++ [x] ++ List.replicate rest.length (0 : Int))) = (ints (m ++ x :: List.replicate rest.length (0 : Int))) by simp [ints, intc]))) (ih))
    exact .tp [t0, t1, t2, t3, t4, t5, t6, t7, t8, t9] (by kernel_rfl)
theorem toIntS_ev (l : List Int) (hl : l.length ≤ 1048576) : Ev pr (.call 55 [.t (.seq 1 (l.map intt))] []) (.val (.vec 0 l.length 1 0 l.length) [.vec true 1 (ints l)]) := by
  have := toIntL_ev l l [] rfl hl
  let t0 : Tp pr := .i (show ((↑(List.map intt l).length : Int) : Int) = (↑l.length : Int) by simp)
  let t1 : Tp pr := .m (show (decide ((0 : Int) ≤ (↑l.length : Int) ∧ (↑l.length : Int) ≤ (↑l.length : Int) ∧ (↑l.length : Int) ≤ (4294967296 : Int))) = true by (simp; omega))
  let t2 : Tp pr := .c (show ((↑l.length : Int).toNat : Nat) = l.length by omega)
  let t3 : Tp pr := .n .crows (rfl : (List.replicate l.length [C.t (T.int IntKind.i64 (0 : Int))]) = _)
  let t4 : Tp pr := .a (Ev.castq (congrArg (fun x => Q.loop (lq pr (55 : FuncId) (0 : Nat)) (at_ [((0 : Nat), V.t (T.seq (1 : Nat) (List.map intt l))), ((3 : Nat), V.vec (0 : Nat) l.length (1 : Nat) (0 : Nat) l.length), ((4 : Nat), i64 (↑(0 : Nat) : Int))] [Ob.vec true (1 : Nat) x] (0 : Nat))) (show (ints ([] ++ List.replicate l.length (0 : Int))) = (List.replicate l.length [C.t (T.int IntKind.i64 (0 : Int))]) by simp [ints, intc])) (this))
  exact .tp [t0, t1, t2, t3, t4] (by kernel_rfl)
theorem eqIntL_ev : ∀ (rest m : List Int), m.length + rest.length ≤ 1048576 → Ev pr (.loop (lq pr 16 0) (at_ [(0, .t (.seq 1 ((m ++ rest).map intt))), (1, .t (.seq 1 ((m ++ rest).map intt))), (5, i64 m.length)] [] 0)) (.exit 0 (at_ [] [] 0))
  | [], m, h => by
    let t0 : Tp pr := .i (show ((↑(List.map intt (m ++ [])).length : Int) : Int) = (↑m.length : Int) by simp)
    let t1 : Tp pr := .b (show (decide ((↑m.length : Int) < (↑m.length : Int))) = false by simp)
    exact .tp [t0, t1] (by kernel_rfl)
  | x :: rest, m, h => by
    simp at h
    have ih := eqIntL_ev rest (m ++ [x]) (by simp; omega)
    have hg : lkp ((m ++ x :: rest).map intt) (m.length : Int) = some [T.int .i64 x] := by simp [intt]
    let t0 : Tp pr := .i (show ((↑(List.map intt (m ++ x :: rest)).length : Int) : Int) = (↑m.length : Int) + ((↑rest.length : Int) + (1 : Int)) by simp)
    let t1 : Tp pr := .b (show (decide ((↑m.length : Int) < (↑m.length : Int) + ((↑rest.length : Int) + (1 : Int)))) = true by (simp; omega))
    let t4 : Tp pr := .g .row (show (lkp (List.map intt (m ++ x :: rest)) (↑m.length : Int)) = some ([T.int IntKind.i64 x]) from hg)
    let t9 : Tp pr := .g .row (show (lkp (List.map intt (m ++ x :: rest)) (↑m.length : Int)) = some ([T.int IntKind.i64 x]) from hg)
    let t14 : Tp pr := .i (wrap_i64 (a := (↑m.length : Int) + (1 : Int)) (by omega) (by omega))
    let t15 : Tp pr := .a (Ev.castq ((congrArg (fun x_1 => Q.loop (lq pr (16 : FuncId) (0 : Nat)) (at_ [((0 : Nat), V.t (T.seq (1 : Nat) x_1)), ((1 : Nat), V.t (T.seq (1 : Nat) x_1)), ((5 : Nat), i64 (↑(m ++ [x]).length : Int))] [] (0 : Nat))) (show (List.map intt (m ++ [x] ++ rest)) = (List.map intt (m ++ x :: rest)) by simp)).trans (congrArg (fun x_1 => Q.loop (lq pr (16 : FuncId) (0 : Nat)) (at_ [((0 : Nat), V.t (T.seq (1 : Nat) (List.map intt (m ++ x :: rest)))), ((1 : Nat), V.t (T.seq (1 : Nat) (List.map intt (m ++ x :: rest)))), ((5 : Nat), i64 x_1)] [] (0 : Nat))) (show ((↑(m ++ [x]).length : Int)) = ((↑m.length : Int) + (1 : Int)) by simp))) (ih))
    exact .tp [t0, t1, .m (rfl : true = true), .m (rfl : true = true), t4, .m (rfl : true = true), .m (rfl : true = true), .m (rfl : true = true), .m (rfl : true = true), t9, .m (rfl : true = true), .m (rfl : true = true), .m (rfl : true = true), .b (show (x != x) = false by simp), t14, t15] (by kernel_rfl)
theorem eqIntS_ev (l : List Int) (h : l.length ≤ 1048576) : Ev pr (.call 16 [.t (.seq 1 (l.map intt)), .t (.seq 1 (l.map intt))] []) (.val (bl true) []) := by
  have := eqIntL_ev l [] (by simpa using h)
  let t0 : Tp pr := .i (show ((↑(List.map intt l).length : Int) : Int) = (↑l.length : Int) by simp)
  let t1 : Tp pr := .i (show ((↑(List.map intt l).length : Int) : Int) = (↑l.length : Int) by simp)
  let t2 : Tp pr := .b (show ((↑l.length : Int) != (↑l.length : Int)) = false by simp)
  exact .tp [t0, t1, t2, .a (this)] (by kernel_rfl)
theorem markIntL_ev : ∀ (rest m : List Int) (k : Int), 0 ≤ k → k + rest.length ≤ 9000000 → m.length + rest.length ≤ 1048576 →
    Ev pr (.loop (lq pr 18 0) (at_ [(0, .vec 0 (m.length + rest.length) 1 0 (m.length + rest.length)), (1, i64 k), (5, i64 m.length)] [.vec true 1 (ints (m ++ rest))] 1))
      (.exit 0 (at_ [(1, i64 (k + rest.length))] [.vec true 1 (ints (m ++ markI k rest.length))] 1))
  | [], m, k, h0, h1, h2 => by
    let t0 : Tp pr := .i (show ((↑(m.length + (0 : Nat)) : Int) : Int) = (↑m.length : Int) by omega)
    let t1 : Tp pr := .b (show (decide ((↑m.length : Int) < (↑m.length : Int))) = false by simp)
    exact .tpe [t0, t1] (Out.exit (0 : Nat) (at_ [((1 : Nat), V.t (T.int IntKind.i64 k))] [Ob.vec true (1 : Nat) (ints (m ++ []))] (1 : Nat))) (by kernel_rfl) ((congrArg (fun x => Out.exit (0 : Nat) (at_ [((1 : Nat), V.t (T.int IntKind.i64 x))] [Ob.vec true (1 : Nat) (ints (m ++ []))] (1 : Nat))) (show (k) = (k + (0 : Int)) by simp [markI])).trans (congrArg (fun x => Out.exit (0 : Nat) (at_ [((1 : Nat), V.t (T.int IntKind.i64 (k + (0 : Int))))] [Ob.vec true (1 : Nat) x] (1 : Nat))) (show (ints (m ++ [])) = (ints (m ++ markI k (0 : Nat))) by simp [markI])))
  | x :: rest, m, k, h0, h1, h2 => by
    simp at h1 h2
    have ih := markIntL_ev rest (m ++ [k]) (k + 1) (by omega) (by omega) (by simp; omega)
    let t0 : Tp pr := .i (show ((↑(m.length + (x :: rest).length) : Int) : Int) = (↑m.length : Int) + ((↑rest.length : Int) + (1 : Int)) by simp)
    let t1 : Tp pr := .b (show (decide ((↑m.length : Int) < (↑m.length : Int) + ((↑rest.length : Int) + (1 : Int)))) = true by (simp; omega))
    let t2 : Tp pr := .m (show (decide ((0 : Int) ≤ (↑m.length : Int) ∧ (↑m.length : Int).toNat < m.length + (x :: rest).length)) = true by simp)
    let t3 : Tp pr := .c (show ((0 : Nat) + (↑m.length : Int).toNat : Nat) = m.length by omega)
    let t4 : Tp pr := .m (show (decide ((ints (m ++ x :: rest)).length = m.length + (x :: rest).length)) = true by simp)
    let t5 : Tp pr := .g .crow (show ((ints (m ++ x :: rest))[m.length]?) = some ([C.t (T.int IntKind.i64 x)]) by simp)
    let t6 : Tp pr := .n .crows (show ((ints (m ++ x :: rest)).set m.length [C.t (T.int IntKind.i64 k)]) = ints (m ++ k :: rest) by simp)
    let t7 : Tp pr := .i (wrap_i64 (a := k + (1 : Int)) (by omega) (by omega))
    let t8 : Tp pr := .i (wrap_i64 (a := (↑m.length : Int) + (1 : Int)) (by omega) (by omega))
    let t9 : Tp pr := .a (Ev.castq (((congrArg (fun x => Q.loop (lq pr (18 : FuncId) (0 : Nat)) (at_ [((0 : Nat), V.vec (0 : Nat) x (1 : Nat) (0 : Nat) x), ((1 : Nat), i64 (k + (1 : Int))), ((5 : Nat), i64 (↑(m ++ [k]).length : Int))] [Ob.vec true (1 : Nat) (ints (m ++ [k] ++ rest))] (1 : Nat))) (show ((m ++ [k]).length + rest.length) = (m.length + (x :: rest).length) by (simp [markI] <;> omega))).trans (congrArg (fun x_1 => Q.loop (lq pr (18 : FuncId) (0 : Nat)) (at_ [((0 : Nat), V.vec (0 : Nat) (m.length + (x :: rest).length) (1 : Nat) (0 : Nat) (m.length + (x :: rest).length)), ((1 : Nat), i64 (k + (1 : Int))), ((5 : Nat), i64 x_1)] [Ob.vec true (1 : Nat) (ints (m ++ [k] ++ rest))] (1 : Nat))) (show ((↑(m ++ [k]).length : Int)) = ((↑m.length : Int) + (1 : Int)) by (simp [markI] <;> omega)))).trans (congrArg (fun x_1 => Q.loop (lq pr (18 : FuncId) (0 : Nat)) (at_ [((0 : Nat), V.vec (0 : Nat) (m.length + (x :: rest).length) (1 : Nat) (0 : Nat) (m.length + (x :: rest).length)), ((1 : Nat), i64 (k + (1 : Int))), ((5 : Nat), i64 ((↑m.length : Int) + (1 : Int)))] [Ob.vec true (1 : Nat) x_1] (1 : Nat))) (show (ints (m ++ [k] ++ rest)) = (ints (m ++ k :: rest)) by (simp [markI] <;> omega)))) (ih))
    exact .tpe [t0, t1, t2, t3, t4, t5, t6, t7, t8, t9] (Out.exit (0 : Nat) (at_ [((1 : Nat), V.t (T.int IntKind.i64 (k + (1 : Int) + (↑rest.length : Int))))] [Ob.vec true (1 : Nat) (ints (m ++ [k] ++ markI (k + (1 : Int)) rest.length))] (1 : Nat))) (by kernel_rfl) ((congrArg (fun x => Out.exit (0 : Nat) (at_ [((1 : Nat), V.t (T.int IntKind.i64 x))] [Ob.vec true (1 : Nat) (ints (m ++ [k] ++ markI (k + (1 : Int)) rest.length))] (1 : Nat))) (show (k + (1 : Int) + (↑rest.length : Int)) = (k + (↑(x :: rest).length : Int)) by (simp [markI] <;> omega))).trans (congrArg (fun x_1 => Out.exit (0 : Nat) (at_ [((1 : Nat), V.t (T.int IntKind.i64 (k + (↑(x :: rest).length : Int))))] [Ob.vec true (1 : Nat) x_1] (1 : Nat))) (show (ints (m ++ [k] ++ markI (k + (1 : Int)) rest.length)) = (ints (m ++ markI k (x :: rest).length)) by (simp [markI] <;> omega))))
theorem markIntS_ev (l : List Int) (k : Int) (h0 : 0 ≤ k) (h : k + l.length ≤ 9000000) (h2 : l.length ≤ 1048576) : Ev pr (.call 18 [.vec 0 l.length 1 0 l.length, i64 k] [.vec true 1 (ints l)]) (.val (i64 (k + l.length)) [.vec true 1 (ints (markI k l.length))]) := by
  have := markIntL_ev l [] k h0 h (by simpa using h2)
  let t0 : Tp pr := .a (Ev.castq (congrArg (fun x => Q.loop (lq pr (18 : FuncId) (0 : Nat)) (at_ [((0 : Nat), V.vec (0 : Nat) x (1 : Nat) (0 : Nat) x), ((1 : Nat), i64 k), ((5 : Nat), i64 (↑(0 : Nat) : Int))] [Ob.vec true (1 : Nat) (ints ([] ++ l))] (1 : Nat))) (show ((0 : Nat) + l.length) = (l.length) by simp)) (this))
  exact .tp [t0] (by kernel_rfl)
theorem heldIntL_ev : ∀ (n : Nat) (m : List Int) (k : Int), 0 ≤ k → k + n ≤ 9000000 → m.length + n ≤ 1048576 →
    Ev pr (.loop (lq pr 20 0) (at_ [(0, .t (.seq 1 ((m ++ markI k n).map intt))), (1, i64 k), (5, i64 m.length)] [] 0)) (.exit 0 (at_ [(1, i64 (k + n))] [] 0))
  | 0, m, k, h0, h1, h2 => by
    let t0 : Tp pr := .i (show ((↑(List.map intt (m ++ markI k (0 : Nat))).length : Int) : Int) = (↑m.length : Int) + (↑(markI k (0 : Nat)).length : Int) by simp)
    let t1 : Tp pr := .b (show (decide ((↑m.length : Int) < (↑m.length : Int) + (0 : Int))) = false by simp)
    exact .tpe [t0, t1] (Out.exit (0 : Nat) (at_ [((1 : Nat), V.t (T.int IntKind.i64 k))] [] (0 : Nat))) (by kernel_rfl) (congrArg (fun x => Out.exit (0 : Nat) (at_ [((1 : Nat), V.t (T.int IntKind.i64 x))] [] (0 : Nat))) (show (k) = (k + (0 : Int)) by simp [markI]))
  | n + 1, m, k, h0, h1, h2 => by
    have ih := heldIntL_ev n (m ++ [k]) (k + 1) (by omega) (by omega) (by simp; omega)
    have hm := markI_len (k + 1) n
    rw [show markI k (n + 1) = k :: markI (k + 1) n from rfl]
    have hg : lkp ((m ++ k :: markI (k + 1) n).map intt) (m.length : Int) = some [T.int .i64 k] := by simp [intt]
    let t0 : Tp pr := .i (show ((↑(List.map intt (m ++ k :: markI (k + (1 : Int)) n)).length : Int) : Int) = (↑m.length : Int) + ((↑(markI (k + (1 : Int)) n).length : Int) + (1 : Int)) by simp)
    let t1 : Tp pr := .b (show (decide ((↑m.length : Int) < (↑m.length : Int) + ((↑(markI (k + (1 : Int)) n).length : Int) + (1 : Int)))) = true by (simp; omega))
    let t2 : Tp pr := .g .row (show (lkp (List.map intt (m ++ k :: markI (k + (1 : Int)) n)) (↑m.length : Int)) = some ([T.int IntKind.i64 k]) from hg)
    let t4 : Tp pr := .i (wrap_i64 (a := k + (1 : Int)) (by omega) (by omega))
    let t5 : Tp pr := .i (wrap_i64 (a := (↑m.length : Int) + (1 : Int)) (by omega) (by omega))
    let t6 : Tp pr := .a (Ev.castq ((congrArg (fun x => Q.loop (lq pr (20 : FuncId) (0 : Nat)) (at_ [((0 : Nat), V.t (T.seq (1 : Nat) x)), ((1 : Nat), i64 (k + (1 : Int))), ((5 : Nat), i64 (↑(m ++ [k]).length : Int))] [] (0 : Nat))) (show (List.map intt (m ++ [k] ++ markI (k + (1 : Int)) n)) = (List.map intt (m ++ k :: markI (k + (1 : Int)) n)) by (simp <;> omega))).trans (congrArg (fun x => Q.loop (lq pr (20 : FuncId) (0 : Nat)) (at_ [((0 : Nat), V.t (T.seq (1 : Nat) (List.map intt (m ++ k :: markI (k + (1 : Int)) n)))), ((1 : Nat), i64 (k + (1 : Int))), ((5 : Nat), i64 x)] [] (0 : Nat))) (show ((↑(m ++ [k]).length : Int)) = ((↑m.length : Int) + (1 : Int)) by (simp <;> omega)))) (ih))
    exact .tpe [t0, t1, t2, .b (show (k != k) = false by simp), t4, t5, t6] (Out.exit (0 : Nat) (at_ [((1 : Nat), V.t (T.int IntKind.i64 (k + (1 : Int) + (↑n : Int))))] [] (0 : Nat))) (by kernel_rfl) (congrArg (fun x => Out.exit (0 : Nat) (at_ [((1 : Nat), V.t (T.int IntKind.i64 x))] [] (0 : Nat))) (show (k + (1 : Int) + (↑n : Int)) = (k + (↑(n + (1 : Nat)) : Int)) by (simp <;> omega)))
theorem heldIntS_ev (n : Nat) (k : Int) (h0 : 0 ≤ k) (h : k + n ≤ 9000000) (h2 : n ≤ 1048576) : Ev pr (.call 20 [.t (.seq 1 ((markI k n).map intt)), i64 k] []) (.val (i64 (k + n)) []) := by
  have := heldIntL_ev n [] k h0 h (by simpa using h2)
  exact .tp [.a (this)] (by kernel_rfl)
theorem eqIntNL_ev : Ev pr (.loop (lq pr 16 0) (at_ [(0, .t .nils), (1, .t (.seq 1 [])), (5, i64 0)] [] 0)) (.exit 0 (at_ [] [] 0)) := by
  let t0 : Tp pr := .i (rfl : ((0 : Int) : Int) = (0 : Int))
  exact .tp [t0, .b (rfl : false = false)] (by kernel_rfl)
theorem eqIntN_ev : Ev pr (.call 16 [.t .nils, .t (.seq 1 [])] []) (.val (bl true) []) := by
  let t0 : Tp pr := .i (rfl : ((0 : Int) : Int) = (0 : Int))
  let t1 : Tp pr := .i (rfl : ((0 : Int) : Int) = (0 : Int))
  exact .tp [t0, t1, .b (rfl : false = false), .a (eqIntNL_ev)] (by kernel_rfl)
theorem markIntNL_ev (k : Int) : Ev pr (.loop (lq pr 18 0) (at_ [(0, .t .nils), (1, i64 k), (5, i64 0)] [] 0)) (.exit 0 (at_ [(1, i64 k)] [] 0)) := by
  let t0 : Tp pr := .i (rfl : ((0 : Int) : Int) = (0 : Int))
  exact .tp [t0, .b (rfl : false = false)] (by kernel_rfl)
theorem markIntN_ev (k : Int) : Ev pr (.call 18 [.t .nils, i64 k] []) (.val (i64 k) []) := by
  have := markIntNL_ev k
  exact .tp [.a (this)] (by kernel_rfl)
theorem heldIntNL_ev (k : Int) : Ev pr (.loop (lq pr 20 0) (at_ [(0, .t .nils), (1, i64 k), (5, i64 0)] [] 0)) (.exit 0 (at_ [(1, i64 k)] [] 0)) := by
  let t0 : Tp pr := .i (rfl : ((0 : Int) : Int) = (0 : Int))
  exact .tp [t0, .b (rfl : false = false)] (by kernel_rfl)
theorem heldIntN_ev (k : Int) : Ev pr (.call 20 [.t .nils, i64 k] []) (.val (i64 k) []) := by
  have := heldIntNL_ev k
  exact .tp [.a (this)] (by kernel_rfl)
theorem szIntS_ev (l : List Int) (n : Int) (h0 : 0 ≤ n) (h1 : n ≤ 1048576) (hl : l.length ≤ 9223372036854775807) : Ev pr (.call 50 [isq l, i64 n] []) (.val (i64 (szI l n)) []) := by
  let t0 : Tp pr := .i (show ((↑(List.map intt l).length : Int) : Int) = (↑l.length : Int) by simp)
  let t1 : Tp pr := .i (wrap_i64 (a := n - (↑l.length : Int)) (by omega) (by omega))
  by_cases hc2 : n - (↑l.length : Int) < (0 : Int)
  · let t2 : Tp pr := .b (show (decide (n - (↑l.length : Int) < (0 : Int))) = true by simpa using hc2)
    exact .tpe [t0, t1, t2] (Out.val (V.t (T.int IntKind.i64 (-1 : Int))) []) (by kernel_rfl) (congrArg (fun x => Out.val (V.t (T.int IntKind.i64 x)) []) (show ((-1 : Int)) = (szI l n) by grind [szI]))
  · let t2 : Tp pr := .b (show (decide (n - (↑l.length : Int) < (0 : Int))) = false by simpa using hc2)
    exact .tpe [t0, t1, t2] (Out.val (V.t (T.int IntKind.i64 (n - (↑l.length : Int)))) []) (by kernel_rfl) (congrArg (fun x => Out.val (V.t (T.int IntKind.i64 x)) []) (show (n - (↑l.length : Int)) = (szI l n) by grind [szI]))
theorem szObject_ev (x : Obj) (n : Int) (h0 : 0 ≤ n) (h1 : n ≤ 1048576) (hl : x.links.length ≤ 9223372036854775807) : Ev pr (.call 93 [vs x.ce, i64 n] []) (.val (i64 (if szI x.links n < 0 then -1 else szI x.links n)) []) := by
  have h := szIntS_ev x.links n h0 h1 hl
  by_cases hz : szI x.links n < 0
  · rw [if_pos hz]; (
    let t1 : Tp pr := .b (show (decide (szI x.links n < (0 : Int))) = true by (simp; omega))
    exact .tp [.a (h), t1] (by kernel_rfl))
  · rw [if_neg hz]; (
    let t1 : Tp pr := .b (show (decide (szI x.links n < (0 : Int))) = false by (simp; omega))
    exact .tp [.a (h), t1] (by kernel_rfl))
def szOut : Option Int → Out
  | some m => .exit 0 (at_ [(1, i64 m)] [] 0)
  | none => .ret (at_ [(4, i64 (-1))] [] 0)
theorem szObjectL_ev (l : List Obj) (hl : l.length ≤ 9223372036854775807) (hs : ∀ x ∈ l, x.links.length ≤ 9223372036854775807) : ∀ (rest done : List Obj) (n : Int), l = done ++ rest → 0 ≤ n → n ≤ 1048576 →
    Ev pr (.loop (lq pr 49 0) (at_ [(0, osq l), (1, i64 n), (5, i64 done.length)] [] 0)) (szOut (szOL rest n))
  | [], done, n, he, h0, h1 => by
    have hll : (l.length : Int) = done.length := by simp [he]
    rw [show szOL [] n = some n from rfl]
    let t0 : Tp pr := .i (show ((↑(List.map Obj.ce l).length : Int) : Int) = (↑l.length : Int) by simp)
    let t1 : Tp pr := .b (show (decide ((↑done.length : Int) < (↑l.length : Int))) = false by (simp; omega))
    exact .tp [t0, t1] (by kernel_rfl)
  | x :: rest, done, n, he, h0, h1 => by
    have hll : (l.length : Int) = done.length + 1 + rest.length := by simp [he]; omega
    have hg : lkp (l.map Obj.ce) (done.length : Int) = some x.ce := by subst he; simp
    have hx := szObject_ev x n h0 h1 (hs x (by simp [he]))
    have e : szOL (x :: rest) n = if szI x.links n < 0 then none else szOL rest (szI x.links n) := rfl
    rw [e]
    by_cases hz : szI x.links n < 0
    · rw [if_pos hz] at hx ⊢
      let t0 : Tp pr := .i (show ((↑(List.map Obj.ce l).length : Int) : Int) = (↑l.length : Int) by simp)
      let t1 : Tp pr := .b (show (decide ((↑done.length : Int) < (↑l.length : Int))) = true by (simp; omega))
      let t2 : Tp pr := .g .row (show (lkp (List.map Obj.ce l) (↑done.length : Int)) = some (x.ce) from hg)
      exact .tp [t0, t1, t2, .a (hx), .b (rfl : true = true)] (by kernel_rfl)
    · rw [if_neg hz] at hx ⊢
      have hle := szI_le hz
      have ih := szObjectL_ev l hl hs rest (done ++ [x]) (szI x.links n) (by simp [he]) hle.1 (by omega)
      cases hr : szOL rest (szI x.links n) with
      | none => rw [hr] at ih; (
        let t0 : Tp pr := .i (show ((↑(List.map Obj.ce l).length : Int) : Int) = (↑l.length : Int) by simp)
        let t1 : Tp pr := .b (show (decide ((↑done.length : Int) < (↑l.length : Int))) = true by (simp; omega))
        let t2 : Tp pr := .g .row (show (lkp (List.map Obj.ce l) (↑done.length : Int)) = some (x.ce) from hg)
        let t4 : Tp pr := .b (show (decide (szI x.links n < (0 : Int))) = false by (simp; omega))
        let t5 : Tp pr := .i (wrap_i64 (a := (↑done.length : Int) + (1 : Int)) (by omega) (by omega))
        let t6 : Tp pr := .a (Ev.castq (congrArg (fun x_1 => Q.loop (lq pr (49 : FuncId) (0 : Nat)) (at_ [((0 : Nat), osq l), ((1 : Nat), i64 (szI x.links n)), ((5 : Nat), i64 x_1)] [] (0 : Nat))) (show ((↑(done ++ [x]).length : Int)) = ((↑done.length : Int) + (1 : Int)) by simp)) (ih))
        exact .tp [t0, t1, t2, .a (hx), t4, t5, t6] (by kernel_rfl))
      | some m => rw [hr] at ih; (
        let t0 : Tp pr := .i (show ((↑(List.map Obj.ce l).length : Int) : Int) = (↑l.length : Int) by simp)
        let t1 : Tp pr := .b (show (decide ((↑done.length : Int) < (↑l.length : Int))) = true by (simp; omega))
        let t2 : Tp pr := .g .row (show (lkp (List.map Obj.ce l) (↑done.length : Int)) = some (x.ce) from hg)
        let t4 : Tp pr := .b (show (decide (szI x.links n < (0 : Int))) = false by (simp; omega))
        let t5 : Tp pr := .i (wrap_i64 (a := (↑done.length : Int) + (1 : Int)) (by omega) (by omega))
        let t6 : Tp pr := .a (Ev.castq (congrArg (fun x_1 => Q.loop (lq pr (49 : FuncId) (0 : Nat)) (at_ [((0 : Nat), osq l), ((1 : Nat), i64 (szI x.links n)), ((5 : Nat), i64 x_1)] [] (0 : Nat))) (show ((↑(done ++ [x]).length : Int)) = ((↑done.length : Int) + (1 : Int)) by simp)) (ih))
        exact .tp [t0, t1, t2, .a (hx), t4, t5, t6] (by kernel_rfl))
theorem szObjectS_ev (l : List Obj) (n : Int) (h0 : 0 ≤ n) (h1 : n ≤ 1048576) (hl : l.length ≤ 9223372036854775807) (hs : ∀ x ∈ l, x.links.length ≤ 9223372036854775807) : Ev pr (.call 49 [osq l, i64 n] []) (.val (i64 (szO l n)) []) := by
  unfold szO
  by_cases h : n - l.length < 0
  · rw [if_pos h]; (
    let t0 : Tp pr := .i (show ((↑(List.map Obj.ce l).length : Int) : Int) = (↑l.length : Int) by simp)
    let t1 : Tp pr := .i (wrap_i64 (a := n - (↑l.length : Int)) (by omega) (by omega))
    let t2 : Tp pr := .b (show (decide (n - (↑l.length : Int) < (0 : Int))) = true by (simp; omega))
    exact .tp [t0, t1, t2] (by kernel_rfl))
  · rw [if_neg h]
    have hL := szObjectL_ev l hl hs l [] (n - l.length) rfl (by omega) (by omega)
    cases hr : szOL l (n - l.length) with
    | none => rw [hr] at hL; unfold szOut at hL; (
      let t0 : Tp pr := .i (show ((↑(List.map Obj.ce l).length : Int) : Int) = (↑l.length : Int) by simp)
      let t1 : Tp pr := .i (wrap_i64 (a := n - (↑l.length : Int)) (by omega) (by omega))
      let t2 : Tp pr := .b (show (decide (n - (↑l.length : Int) < (0 : Int))) = false by (simp; omega))
      exact .tp [t0, t1, t2, .a (hL)] (by kernel_rfl))
    | some m => rw [hr] at hL; unfold szOut at hL; (
      let t0 : Tp pr := .i (show ((↑(List.map Obj.ce l).length : Int) : Int) = (↑l.length : Int) by simp)
      let t1 : Tp pr := .i (wrap_i64 (a := n - (↑l.length : Int)) (by omega) (by omega))
      let t2 : Tp pr := .b (show (decide (n - (↑l.length : Int) < (0 : Int))) = false by (simp; omega))
      exact .tpe [t0, t1, t2, .a (hL)] (Out.val (V.t (T.int IntKind.i64 m)) []) (by kernel_rfl) (rfl))
theorem szHeap_ev (h : Hp) (n : Int) (h0 : 0 ≤ n) (h1 : n ≤ 1048576) (hl : h.objects.length ≤ 9223372036854775807) (hs : ∀ x ∈ h.objects, x.links.length ≤ 9223372036854775807) (hr : h.roots.length ≤ 9223372036854775807) :
    Ev pr (.call 9 [vs h.ce, i64 n] []) (.val (i64 (if szO h.objects n < 0 then -1 else if szI h.roots (szO h.objects n) < 0 then -1 else szI h.roots (szO h.objects n))) []) := by
  have g1 := szObjectS_ev h.objects n h0 h1 hl hs
  by_cases hz : szO h.objects n < 0
  · rw [if_pos hz]; (
    let t1 : Tp pr := .b (show (decide (szO h.objects n < (0 : Int))) = true by (simp; omega))
    exact .tp [.a (g1), t1] (by kernel_rfl))
  · rw [if_neg hz]
    have hle : szO h.objects n ≤ 1048576 := by
      unfold szO at *
      split
      · omega
      · rename_i hh
        rw [if_neg hh] at hz
        cases hr : szOL h.objects (n - h.objects.length) with
        | none => rw [hr] at hz; simp at hz
        | some m =>
          have h2 := szOL_sum _ _ m hr (by omega)
          have h3 : (h.objects.length : Int) ≤ marksO h.objects := by
            generalize h.objects = l
            induction l with
            | nil => simp [marksO]
            | cons x l ih => simp only [marksO, List.length_cons]; omega
          simp only [Option.getD_some]
          omega
    have g2 := szIntS_ev h.roots (szO h.objects n) (by omega) hle hr
    by_cases hz2 : szI h.roots (szO h.objects n) < 0
    · rw [if_pos hz2]; (
      let t1 : Tp pr := .b (show (decide (szO h.objects n < (0 : Int))) = false by (simp; omega))
      let t3 : Tp pr := .b (show (decide (szI h.roots (szO h.objects n) < (0 : Int))) = true by (simp; omega))
      exact .tp [.a (g1), t1, .a (g2), t3] (by kernel_rfl))
    · rw [if_neg hz2]; (
      let t1 : Tp pr := .b (show (decide (szO h.objects n < (0 : Int))) = false by (simp; omega))
      let t3 : Tp pr := .b (show (decide (szI h.roots (szO h.objects n) < (0 : Int))) = false by (simp; omega))
      exact .tp [.a (g1), t1, .a (g2), t3] (by kernel_rfl))
end Go.Ev

/- Heaps with rows of their own: made, compared, marked. -/
namespace Go.Ev
set_option linter.unusedVariables false
set_option linter.unusedSimpArgs false
open Go.Proofs
set_option maxRecDepth 100000
set_option linter.unusedVariables false
set_option maxHeartbeats 2000000
theorem toObject_ev (x : Obj) (hl : x.links.length ≤ 1048576) : Ev pr (.call 95 [vs x.ce] []) (.val (.agg [i64 x.mark, .vec 0 x.links.length 1 0 x.links.length]) [.vec true 1 (ints x.links)]) := by
  have h := toIntS_ev x.links hl
  exact .tp [.a (h)] (by kernel_rfl)
theorem toObjectL_ev (l : List Obj) (hl : l.length ≤ 1048576) (hs : ∀ x ∈ l, x.links.length ≤ 1048576) : ∀ (rest m : List Obj) (fl : Bool), l = m ++ rest →
    Ev pr (.loop (lq pr 54 0) (at_ [(0, osq l), (3, .vec 0 l.length 2 0 l.length), (4, i64 m.length)] [.vec fl 2 (m.map Obj.cc ++ List.replicate rest.length oz)] 0))
      (.exit 0 (at_ [(3, .vec 0 l.length 2 0 l.length)] [.vec (fl && rest.isEmpty) 2 (l.map Obj.cc)] 0))
  | [], m, fl, he => by
    have hll : (l.length : Int) = m.length := by simp [he]
    have he2 : l = m := by simpa using he
    subst he2
    let t0 : Tp pr := .i (show ((↑(List.map Obj.ce l).length : Int) : Int) = (↑l.length : Int) by simp)
    let t1 : Tp pr := .b (show (decide ((↑l.length : Int) < (↑l.length : Int))) = false by simp)
    exact .tpe [t0, t1] (Out.exit (0 : Nat) (at_ [((3 : Nat), V.vec (0 : Nat) l.length (2 : Nat) (0 : Nat) l.length)] [Ob.vec fl (2 : Nat) ((List.map Obj.cc l).append [])] (0 : Nat))) (by kernel_rfl) ((congrArg (fun x => Out.exit (0 : Nat) (at_ [((3 : Nat), V.vec (0 : Nat) l.length (2 : Nat) (0 : Nat) l.length)] [Ob.vec x (2 : Nat) ((List.map Obj.cc l).append [])] (0 : Nat))) (show (fl) = (fl && true) by simp)).trans (congrArg (fun x => Out.exit (0 : Nat) (at_ [((3 : Nat), V.vec (0 : Nat) l.length (2 : Nat) (0 : Nat) l.length)] [Ob.vec (fl && true) (2 : Nat) x] (0 : Nat))) (show ((List.map Obj.cc l).append []) = (List.map Obj.cc l) by simp)))
  | x :: rest, m, fl, he => by
    have hll : (l.length : Int) = m.length + 1 + rest.length := by simp [he]; omega
    have hll2 : l.length = m.length + 1 + rest.length := by omega
    have hg : lkp (l.map Obj.ce) (m.length : Int) = some x.ce := by subst he; simp
    have ht := toObject_ev x (hs x (by simp [he]))
    have ih := toObjectL_ev l hl hs rest (m ++ [x]) false (by simp [he])
    rw [show (m ++ [x]).map Obj.cc ++ List.replicate rest.length oz = m.map Obj.cc ++ [C.t (.int .i64 x.mark), C.row 1 (x.links.map intt)] :: List.replicate rest.length oz by simp [Obj.cc]] at ih
    rw [show List.replicate (x :: rest).length oz = [C.t (.int .i64 0), C.t .nils] :: List.replicate rest.length oz from rfl]
    have hg2 : (m.map Obj.cc ++ [C.t (.int .i64 0), C.t .nils] :: List.replicate rest.length oz)[m.length]? = some [C.t (.int .i64 0), C.t .nils] := by
      have := get_mid (m.map Obj.cc) [C.t (.int .i64 0), C.t .nils] (List.replicate rest.length oz)
      rwa [List.length_map] at this
    let t0 : Tp pr := .i (show ((↑(List.map Obj.ce l).length : Int) : Int) = (↑l.length : Int) by simp)
    let t1 : Tp pr := .b (show (decide ((↑m.length : Int) < (↑l.length : Int))) = true by (simp; omega))
    let t2 : Tp pr := .g .row (show (lkp (List.map Obj.ce l) (↑m.length : Int)) = some (x.ce) from hg)
    let t4 : Tp pr := .m (show (decide ((0 : Int) ≤ (↑m.length : Int) ∧ (↑m.length : Int).toNat < l.length)) = true by simp [*])
    let t5 : Tp pr := .c (show ((0 : Nat) + (↑m.length : Int).toNat : Nat) = m.length by omega)
    let t6 : Tp pr := .m (show (decide (((List.map Obj.cc m).append ([C.t (T.int IntKind.i64 (0 : Int)), C.t T.nils] :: List.replicate rest.length [C.t (T.int IntKind.i64 (0 : Int)), C.t T.nils])).length = l.length)) = true by simp [*])
    let t7 : Tp pr := .g .crow (show (((List.map Obj.cc m).append ([C.t (T.int IntKind.i64 (0 : Int)), C.t T.nils] :: List.replicate rest.length [C.t (T.int IntKind.i64 (0 : Int)), C.t T.nils]))[m.length]?) = some ([C.t (T.int IntKind.i64 (0 : Int)), C.t T.nils]) from hg2)
    let t8 : Tp pr := .n .crows (show (((List.map Obj.cc m).append ([C.t (T.int IntKind.i64 (0 : Int)), C.t T.nils] :: List.replicate rest.length [C.t (T.int IntKind.i64 (0 : Int)), C.t T.nils])).set m.length [C.t (T.int IntKind.i64 x.mark), C.t T.nils]) = List.map Obj.cc m ++ [C.t (T.int IntKind.i64 x.mark), C.t T.nils] :: List.replicate rest.length [C.t (T.int IntKind.i64 (0 : Int)), C.t T.nils] by simp)
    let t9 : Tp pr := .m (show (decide ((ints x.links).length = x.links.length ∧ x.links.length ≤ x.links.length)) = true by simp)
    let t10 : Tp pr := .m (show (decide (((List.map Obj.cc m).append ([C.t (T.int IntKind.i64 x.mark), C.t T.nils] :: List.replicate rest.length [C.t (T.int IntKind.i64 (0 : Int)), C.t T.nils])).length = l.length)) = true by simp [*])
    let t11 : Tp pr := .g .crow (show (((List.map Obj.cc m).append ([C.t (T.int IntKind.i64 x.mark), C.t T.nils] :: List.replicate rest.length [C.t (T.int IntKind.i64 (0 : Int)), C.t T.nils]))[m.length]?) = some ([C.t (T.int IntKind.i64 x.mark), C.t T.nils]) by simp)
    let t12 : Tp pr := .n .rows (show (List.map (fun x => List.map C.fz x) (List.take x.links.length (ints x.links))) = List.map intt x.links by simp)
    let t13 : Tp pr := .n .crows (show (((List.map Obj.cc m).append ([C.t (T.int IntKind.i64 x.mark), C.t T.nils] :: List.replicate rest.length [C.t (T.int IntKind.i64 (0 : Int)), C.t T.nils])).set m.length [C.t (T.int IntKind.i64 x.mark), C.row (1 : Nat) (List.map intt x.links)]) = List.map Obj.cc m ++ [C.t (T.int IntKind.i64 x.mark), C.row (1 : Nat) (List.map intt x.links)] :: List.replicate rest.length [C.t (T.int IntKind.i64 (0 : Int)), C.t T.nils] by simp)
    let t14 : Tp pr := .i (wrap_i64 (a := (↑m.length : Int) + (1 : Int)) (by omega) (by omega))
    let t15 : Tp pr := .a (Ev.castq (congrArg (fun x_1 => Q.loop (lq pr (54 : FuncId) (0 : Nat)) (at_ [((0 : Nat), osq l), ((3 : Nat), V.vec (0 : Nat) l.length (2 : Nat) (0 : Nat) l.length), ((4 : Nat), i64 x_1)] [Ob.vec false (2 : Nat) (List.map Obj.cc m ++ [C.t (T.int IntKind.i64 x.mark), C.row (1 : Nat) (List.map intt x.links)] :: List.replicate rest.length oz)] (0 : Nat))) (show ((↑(m ++ [x]).length : Int)) = ((↑m.length : Int) + (1 : Int)) by simp)) (ih))
    exact .tpe [t0, t1, t2, .a (ht), t4, t5, t6, t7, t8, t9, t10, t11, t12, t13, t14, t15] (Out.exit (0 : Nat) (at_ [((3 : Nat), V.vec (0 : Nat) l.length (2 : Nat) (0 : Nat) l.length)] [Ob.vec false (2 : Nat) (List.map Obj.cc l)] (0 : Nat))) (by kernel_rfl) (congrArg (fun x => Out.exit (0 : Nat) (at_ [((3 : Nat), V.vec (0 : Nat) l.length (2 : Nat) (0 : Nat) l.length)] [Ob.vec x (2 : Nat) (List.map Obj.cc l)] (0 : Nat))) (show (false) = (fl && false) by simp))
theorem toObjectS_ev (l : List Obj) (hl : l.length ≤ 1048576) (hs : ∀ x ∈ l, x.links.length ≤ 1048576) : Ev pr (.call 54 [osq l] []) (.val (.vec 0 l.length 2 0 l.length) [.vec l.isEmpty 2 (l.map Obj.cc)]) := by
  have := toObjectL_ev l hl hs l [] true rfl
  rw [Bool.true_and] at this
  let t0 : Tp pr := .i (show ((↑(List.map Obj.ce l).length : Int) : Int) = (↑l.length : Int) by simp)
  let t1 : Tp pr := .m (show (decide ((0 : Int) ≤ (↑l.length : Int) ∧ (↑l.length : Int) ≤ (↑l.length : Int) ∧ (↑l.length : Int) ≤ (4294967296 : Int))) = true by (simp; omega))
  let t2 : Tp pr := .c (show ((↑l.length : Int).toNat : Nat) = l.length by omega)
  let t3 : Tp pr := .n .crows (rfl : (List.replicate l.length [C.t (T.int IntKind.i64 (0 : Int)), C.t T.nils]) = _)
  exact .tp [t0, t1, t2, t3, .a (this)] (by kernel_rfl)
theorem toHeap_ev (h : Hp) (h1 : h.objects.length ≤ 1048576) (h2 : ∀ x ∈ h.objects, x.links.length ≤ 1048576) (h3 : h.roots.length ≤ 1048576) :
    Ev pr (.call 11 [vs h.ce] []) (.val (.agg [.vec 0 h.objects.length 2 0 h.objects.length, .vec 1 h.roots.length 1 0 h.roots.length]) [.vec h.objects.isEmpty 2 (h.objects.map Obj.cc), .vec true 1 (ints h.roots)]) := by
  have g1 := toObjectS_ev h.objects h1 h2
  have g2 := toIntS_ev h.roots h3
  exact .tp [.a (g1), .a (g2)] (by kernel_rfl)
theorem eqObject_ev (x : Obj) (hl : x.links.length ≤ 1048576) : Ev pr (.call 98 [vs x.ce, vs x.ce] []) (.val (bl true) []) := by
  have h := eqIntS_ev x.links hl
  let t0 : Tp pr := .b (show (x.mark != x.mark) = false by simp)
  exact .tp [t0, .a (h), .b (rfl : false = false)] (by kernel_rfl)
theorem eqObjectL_ev : ∀ (rest m : List Obj), m.length + rest.length ≤ 1048576 → (∀ x ∈ rest, x.links.length ≤ 1048576) → Ev pr (.loop (lq pr 60 0) (at_ [(0, osq (m ++ rest)), (1, osq (m ++ rest)), (5, i64 m.length)] [] 0)) (.exit 0 (at_ [] [] 0))
  | [], m, h, hs => by
    let t0 : Tp pr := .i (show ((↑(List.map Obj.ce (m ++ [])).length : Int) : Int) = (↑m.length : Int) by simp)
    let t1 : Tp pr := .b (show (decide ((↑m.length : Int) < (↑m.length : Int))) = false by simp)
    exact .tp [t0, t1] (by kernel_rfl)
  | x :: rest, m, h, hs => by
    simp at h
    have ih := eqObjectL_ev rest (m ++ [x]) (by simp; omega) (fun y hy => hs y (by simp [hy]))
    have hx := eqObject_ev x (hs x (by simp))
    have hg : lkp ((m ++ x :: rest).map Obj.ce) (m.length : Int) = some x.ce := by simp
    let t0 : Tp pr := .i (show ((↑(List.map Obj.ce (m ++ x :: rest)).length : Int) : Int) = (↑m.length : Int) + ((↑rest.length : Int) + (1 : Int)) by simp)
    let t1 : Tp pr := .b (show (decide ((↑m.length : Int) < (↑m.length : Int) + ((↑rest.length : Int) + (1 : Int)))) = true by (simp; omega))
    let t4 : Tp pr := .g .row (show (lkp (List.map Obj.ce (m ++ x :: rest)) (↑m.length : Int)) = some (x.ce) from hg)
    let t9 : Tp pr := .g .row (show (lkp (List.map Obj.ce (m ++ x :: rest)) (↑m.length : Int)) = some (x.ce) from hg)
    let t16 : Tp pr := .i (wrap_i64 (a := (↑m.length : Int) + (1 : Int)) (by omega) (by omega))
    let t17 : Tp pr := .a (Ev.castq ((congrArg (fun x_1 => Q.loop (lq pr (60 : FuncId) (0 : Nat)) (at_ [((0 : Nat), V.t (T.seq (2 : Nat) x_1)), ((1 : Nat), V.t (T.seq (2 : Nat) x_1)), ((5 : Nat), V.t (T.int IntKind.i64 (↑(m ++ [x]).length : Int)))] [] (0 : Nat))) (show (List.map Obj.ce (m ++ [x] ++ rest)) = (List.map Obj.ce (m ++ x :: rest)) by simp)).trans (congrArg (fun x_1 => Q.loop (lq pr (60 : FuncId) (0 : Nat)) (at_ [((0 : Nat), V.t (T.seq (2 : Nat) (List.map Obj.ce (m ++ x :: rest)))), ((1 : Nat), V.t (T.seq (2 : Nat) (List.map Obj.ce (m ++ x :: rest)))), ((5 : Nat), V.t (T.int IntKind.i64 x_1))] [] (0 : Nat))) (show ((↑(m ++ [x]).length : Int)) = ((↑m.length : Int) + (1 : Int)) by simp))) (ih))
    exact .tp [t0, t1, .m (rfl : true = true), .m (rfl : true = true), t4, .m (rfl : true = true), .m (rfl : true = true), .m (rfl : true = true), .m (rfl : true = true), t9, .m (rfl : true = true), .m (rfl : true = true), .a (hx), .m (rfl : true = true), .m (rfl : true = true), .b (rfl : false = false), t16, t17] (by kernel_rfl)
theorem eqObjectS_ev (l : List Obj) (h : l.length ≤ 1048576) (hs : ∀ x ∈ l, x.links.length ≤ 1048576) : Ev pr (.call 60 [osq l, osq l] []) (.val (bl true) []) := by
  have := eqObjectL_ev l [] (by simpa using h) hs
  let t0 : Tp pr := .i (show ((↑(List.map Obj.ce l).length : Int) : Int) = (↑l.length : Int) by simp)
  let t1 : Tp pr := .i (show ((↑(List.map Obj.ce l).length : Int) : Int) = (↑l.length : Int) by simp)
  let t2 : Tp pr := .b (show ((↑l.length : Int) != (↑l.length : Int)) = false by simp)
  exact .tp [t0, t1, t2, .a (this)] (by kernel_rfl)
theorem eqHeap_ev (h : Hp) (h1 : h.objects.length ≤ 1048576) (h2 : ∀ x ∈ h.objects, x.links.length ≤ 1048576) (h3 : h.roots.length ≤ 1048576) : Ev pr (.call 13 [vs h.ce, vs h.ce] []) (.val (bl true) []) := by
  have g1 := eqObjectS_ev h.objects h1 h2
  have g2 := eqIntS_ev h.roots h3
  exact .tp [.a (g1), .b (rfl : false = false), .a (g2), .b (rfl : false = false)] (by kernel_rfl)
theorem markLinksL_ev (fl : Bool) (P Q : List Obj) (a : Int) (N len : Nat) (hN : N = P.length + 1 + Q.length) (hlen : len ≤ 1048576) :
    ∀ (rest m : List Int) (k : Int), 0 ≤ k → k + rest.length ≤ 9000000 → len = m.length + rest.length →
    Ev pr (.loop (lq pr 18 0) (at_ [(0, .row 0 N P.length 1 1 len), (1, i64 k), (5, i64 m.length)] [.vec fl 2 ((P ++ ⟨a, m ++ rest⟩ :: Q).map Obj.cc)] 1))
      (.exit 0 (at_ [(1, i64 (k + rest.length))] [.vec fl 2 ((P ++ ⟨a, m ++ markI k rest.length⟩ :: Q).map Obj.cc)] 1))
  | [], m, k, h0, h1, h2 => by
    let t1 : Tp pr := .b (show (decide ((↑m.length : Int) < (↑len : Int))) = false by simp [*])
    exact .tpe [.i (rfl : ((↑len : Int)) = _), t1] (Out.exit (0 : Nat) (at_ [((1 : Nat), V.t (T.int IntKind.i64 k))] [Ob.vec fl (2 : Nat) (List.map Obj.cc (P ++ Obj.mk a (m ++ []) :: Q))] (1 : Nat))) (by kernel_rfl) ((congrArg (fun x => Out.exit (0 : Nat) (at_ [((1 : Nat), V.t (T.int IntKind.i64 x))] [Ob.vec fl (2 : Nat) (List.map Obj.cc (P ++ Obj.mk a (m ++ []) :: Q))] (1 : Nat))) (show (k) = (k + (0 : Int)) by simp [markI])).trans (congrArg (fun x => Out.exit (0 : Nat) (at_ [((1 : Nat), V.t (T.int IntKind.i64 (k + (0 : Int))))] [Ob.vec fl (2 : Nat) x] (1 : Nat))) (show (List.map Obj.cc (P ++ Obj.mk a (m ++ []) :: Q)) = (List.map Obj.cc (P ++ Obj.mk a (m ++ markI k (0 : Nat)) :: Q)) by simp [markI])))
  | x :: rest, m, k, h0, h1, h2 => by
    simp at h1 h2
    have ih := markLinksL_ev fl P Q a N len hN hlen rest (m ++ [k]) (k + 1) (by omega) (by omega) (by simp; omega)
    rw [show ((P ++ ⟨a, (m ++ [k]) ++ rest⟩ :: Q).map Obj.cc) = P.map Obj.cc ++ [C.t (.int .i64 a), C.row 1 (m.map intt ++ [T.int .i64 k] :: rest.map intt)] :: Q.map Obj.cc by simp [Obj.cc, intt]] at ih
    let t1 : Tp pr := .b (show (decide ((↑m.length : Int) < (↑len : Int))) = true by (simp; omega))
    let t2 : Tp pr := .m (show (decide ((0 : Int) ≤ (↑m.length : Int) ∧ (↑m.length : Int).toNat < len)) = true by simp [*])
    let t3 : Tp pr := .c (show ((↑m.length : Int).toNat : Nat) = m.length by omega)
    let t4 : Tp pr := .m (show (decide ((List.map Obj.cc (P ++ Obj.mk a (m ++ x :: rest) :: Q)).length = N)) = true by (simp; omega))
    let t5 : Tp pr := .g .crow (show ((List.map Obj.cc (P ++ Obj.mk a (m ++ x :: rest) :: Q))[P.length]?) = some ((Obj.mk a (m ++ x :: rest)).cc) by simp)
    let t6 : Tp pr := .g .row (show ((List.map intt (Obj.mk a (m ++ x :: rest)).links)[m.length]?) = some (intt x) by simp)
    let t8 : Tp pr := .n .crows (show ((List.map Obj.cc (P ++ Obj.mk a (m ++ x :: rest) :: Q)).set P.length [C.t (T.int IntKind.i64 a), C.row (1 : Nat) ((List.map intt (Obj.mk a (m ++ x :: rest)).links).set m.length [T.int IntKind.i64 k])]) = List.map Obj.cc P ++ [C.t (T.int IntKind.i64 a), C.row (1 : Nat) (List.map intt m ++ [T.int IntKind.i64 k] :: List.map intt rest)] :: List.map Obj.cc Q by simp)
    let t9 : Tp pr := .i (wrap_i64 (a := k + (1 : Int)) (by omega) (by omega))
    let t10 : Tp pr := .i (wrap_i64 (a := (↑m.length : Int) + (1 : Int)) (by omega) (by omega))
    let t11 : Tp pr := .a (Ev.castq (congrArg (fun x => Ev.Q.loop (lq pr (18 : FuncId) (0 : Nat)) (at_ [((0 : Nat), V.row (0 : Nat) N P.length (1 : Nat) (1 : Nat) len), ((1 : Nat), i64 (k + (1 : Int))), ((5 : Nat), i64 x)] [Ob.vec fl (2 : Nat) (List.map Obj.cc P ++ [C.t (T.int IntKind.i64 a), C.row (1 : Nat) (List.map intt m ++ [T.int IntKind.i64 k] :: List.map intt rest)] :: List.map Obj.cc Q)] (1 : Nat))) (show ((↑(m ++ [k]).length : Int)) = ((↑m.length : Int) + (1 : Int)) by (simp [markI] <;> omega))) (ih))
    exact .tpe [.i (rfl : ((↑len : Int)) = _), t1, t2, t3, t4, t5, t6, .m (rfl : true = true), t8, t9, t10, t11] (Out.exit (0 : Nat) (at_ [((1 : Nat), V.t (T.int IntKind.i64 (k + (1 : Int) + (↑rest.length : Int))))] [Ob.vec fl (2 : Nat) (List.map Obj.cc (P ++ Obj.mk a (m ++ [k] ++ markI (k + (1 : Int)) rest.length) :: Q))] (1 : Nat))) (by kernel_rfl) ((congrArg (fun x => Out.exit (0 : Nat) (at_ [((1 : Nat), V.t (T.int IntKind.i64 x))] [Ob.vec fl (2 : Nat) (List.map Obj.cc (P ++ Obj.mk a (m ++ [k] ++ markI (k + (1 : Int)) rest.length) :: Q))] (1 : Nat))) (show (k + (1 : Int) + (↑rest.length : Int)) = (k + (↑(x :: rest).length : Int)) by (simp [markI] <;> omega))).trans (congrArg (fun x_1 => Out.exit (0 : Nat) (at_ [((1 : Nat), V.t (T.int IntKind.i64 (k + (↑(x :: rest).length : Int))))] [Ob.vec fl (2 : Nat) x_1] (1 : Nat))) (show (List.map Obj.cc (P ++ Obj.mk a (m ++ [k] ++ markI (k + (1 : Int)) rest.length) :: Q)) = (List.map Obj.cc (P ++ Obj.mk a (m ++ markI k (x :: rest).length) :: Q)) by (simp [markI] <;> omega))))
theorem markLinks_ev (fl : Bool) (P Q : List Obj) (x : Obj) (N : Nat) (hN : N = P.length + 1 + Q.length) (k : Int) (h0 : 0 ≤ k) (h1 : k + x.links.length ≤ 9000000) (h2 : x.links.length ≤ 1048576) :
    Ev pr (.call 18 [.row 0 N P.length 1 1 x.links.length, i64 k] [.vec fl 2 ((P ++ x :: Q).map Obj.cc)]) (.val (i64 (k + x.links.length)) [.vec fl 2 ((P ++ ⟨x.mark, markI k x.links.length⟩ :: Q).map Obj.cc)]) := by
  have := markLinksL_ev fl P Q x.mark N x.links.length hN h2 x.links [] k h0 h1 (by simp)
  exact .tp [.a (this)] (by kernel_rfl)
theorem markObjectL_ev (N : Nat) (hNs : N ≤ 1048576) : ∀ (rest P : List Obj) (fl : Bool) (k : Int), N = P.length + rest.length → (∀ x ∈ rest, x.links.length ≤ 1048576) → 0 ≤ k → k + marksO rest ≤ 9000000 →
    Ev pr (.loop (lq pr 63 0) (at_ [(0, .vec 0 N 2 0 N), (1, i64 k), (5, i64 P.length)] [.vec fl 2 ((P ++ rest).map Obj.cc)] 1))
      (.exit 0 (at_ [(1, i64 (k + marksO rest))] [.vec fl 2 ((P ++ markedO k rest).map Obj.cc)] 1))
  | [], P, fl, k, hN, hx, h0, h1 => by
    let t1 : Tp pr := .b (show (decide ((↑P.length : Int) < (↑N : Int))) = false by simp [*])
    exact .tpe [.i (rfl : ((↑N : Int)) = _), t1] (Out.exit (0 : Nat) (at_ [((1 : Nat), V.t (T.int IntKind.i64 k))] [Ob.vec fl (2 : Nat) (List.map Obj.cc (P ++ []))] (1 : Nat))) (by kernel_rfl) ((congrArg (fun x => Out.exit (0 : Nat) (at_ [((1 : Nat), V.t (T.int IntKind.i64 x))] [Ob.vec fl (2 : Nat) (List.map Obj.cc (P ++ []))] (1 : Nat))) (show (k) = (k + (0 : Int)) by simp [markedO, marksO])).trans (congrArg (fun x => Out.exit (0 : Nat) (at_ [((1 : Nat), V.t (T.int IntKind.i64 (k + (0 : Int))))] [Ob.vec fl (2 : Nat) x] (1 : Nat))) (show (List.map Obj.cc (P ++ [])) = (List.map Obj.cc (P ++ markedO k [])) by simp [markedO, marksO])))
  | x :: rest, P, fl, k, hN, hx, h0, h1 => by
    have hm := marksO_nonneg rest
    simp [marksO] at h1 hN
    have hr := markLinks_ev fl P rest ⟨k, x.links⟩ N (by omega) (k + 1) (by omega) (by simp; omega) (hx x (by simp))
    have ih := markObjectL_ev N hNs rest (P ++ [⟨k, markI (k + 1) x.links.length⟩]) fl (k + 1 + x.links.length) (by simp; omega) (fun y hy => hx y (by simp [hy])) (by omega) (by omega)
    let t1 : Tp pr := .b (show (decide ((↑P.length : Int) < (↑N : Int))) = true by (simp; omega))
    let t2 : Tp pr := .m (show (decide ((0 : Int) ≤ (↑P.length : Int) ∧ (↑P.length : Int).toNat < N)) = true by simp [*])
    let t3 : Tp pr := .c (show ((0 : Nat) + (↑P.length : Int).toNat : Nat) = P.length by omega)
    let t4 : Tp pr := .m (show (decide ((List.map Obj.cc (P ++ x :: rest)).length = N)) = true by simp [*])
    let t5 : Tp pr := .g .crow (show ((List.map Obj.cc (P ++ x :: rest))[P.length]?) = some (x.cc) by simp)
    let t6 : Tp pr := .m (show (decide ((List.map Obj.cc (P ++ x :: rest)).length = N)) = true by simp [*])
    let t7 : Tp pr := .g .crow (show ((List.map Obj.cc (P ++ x :: rest))[P.length]?) = some (x.cc) by simp)
    let t8 : Tp pr := .n .crows (show ((List.map Obj.cc (P ++ x :: rest)).set P.length [C.t (T.int IntKind.i64 k), C.row (1 : Nat) (List.map intt x.links)]) = List.map Obj.cc P ++ [C.t (T.int IntKind.i64 k), C.row (1 : Nat) (List.map intt x.links)] :: List.map Obj.cc rest by simp)
    let t9 : Tp pr := .i (wrap_i64 (a := k + (1 : Int)) (by omega) (by omega))
    let t10 : Tp pr := .m (show (decide ((0 : Int) ≤ (↑P.length : Int) ∧ (↑P.length : Int).toNat < N)) = true by simp [*])
    let t11 : Tp pr := .c (show ((0 : Nat) + (↑P.length : Int).toNat : Nat) = P.length by omega)
    let t12 : Tp pr := .m (show (decide (((List.map Obj.cc P).append ([C.t (T.int IntKind.i64 k), C.row (1 : Nat) (List.map intt x.links)] :: List.map Obj.cc rest)).length = N)) = true by simp [*])
    let t13 : Tp pr := .g .crow (show (((List.map Obj.cc P).append ([C.t (T.int IntKind.i64 k), C.row (1 : Nat) (List.map intt x.links)] :: List.map Obj.cc rest))[P.length]?) = some ([C.t (T.int IntKind.i64 k), C.row (1 : Nat) (List.map intt x.links)]) by simp)
    let t14 : Tp pr := .a (Ev.castq (((congrArg (fun x_1 => Q.call (18 : FuncId) [V.row (0 : Nat) N P.length (1 : Nat) (1 : Nat) x_1, i64 (k + (1 : Int))] [Ob.vec fl (2 : Nat) (List.map Obj.cc (P ++ Obj.mk k x.links :: rest))]) (show ((Obj.mk k x.links).links.length) = ((List.map intt x.links).length) by (simp [markedO, marksO, Obj.cc] <;> omega))).trans (congrArg (fun x_1 => Q.call (18 : FuncId) [V.row (0 : Nat) N P.length (1 : Nat) (1 : Nat) (List.map intt x.links).length, i64 (k + (1 : Int))] [Ob.vec x_1 (2 : Nat) (List.map Obj.cc (P ++ Obj.mk k x.links :: rest))]) (show (fl) = (fl && true) by (simp [markedO, marksO, Obj.cc] <;> omega)))).trans (congrArg (fun x_1 => Q.call (18 : FuncId) [V.row (0 : Nat) N P.length (1 : Nat) (1 : Nat) (List.map intt x.links).length, i64 (k + (1 : Int))] [Ob.vec (fl && true) (2 : Nat) x_1]) (show (List.map Obj.cc (P ++ Obj.mk k x.links :: rest)) = ((List.map Obj.cc P).append ([C.t (T.int IntKind.i64 k), C.row (1 : Nat) (List.map intt x.links)] :: List.map Obj.cc rest)) by (simp [markedO, marksO, Obj.cc] <;> omega)))) (hr))
    let t15 : Tp pr := .i (wrap_i64 (a := (↑P.length : Int) + (1 : Int)) (by omega) (by omega))
    let t16 : Tp pr := .a (Ev.castq ((congrArg (fun x_1 => Q.loop (lq pr (63 : FuncId) (0 : Nat)) (at_ [((0 : Nat), V.vec (0 : Nat) N (2 : Nat) (0 : Nat) N), ((1 : Nat), i64 (k + (1 : Int) + (↑x.links.length : Int))), ((5 : Nat), i64 x_1)] [Ob.vec fl (2 : Nat) (List.map Obj.cc (P ++ [Obj.mk k (markI (k + (1 : Int)) x.links.length)] ++ rest))] (1 : Nat))) (show ((↑(P ++ [Obj.mk k (markI (k + (1 : Int)) x.links.length)]).length : Int)) = ((↑P.length : Int) + (1 : Int)) by (simp [markedO, marksO, Obj.cc] <;> omega))).trans (congrArg (fun x_1 => Q.loop (lq pr (63 : FuncId) (0 : Nat)) (at_ [((0 : Nat), V.vec (0 : Nat) N (2 : Nat) (0 : Nat) N), ((1 : Nat), i64 (k + (1 : Int) + (↑x.links.length : Int))), ((5 : Nat), i64 ((↑P.length : Int) + (1 : Int)))] [Ob.vec fl (2 : Nat) x_1] (1 : Nat))) (show (List.map Obj.cc (P ++ [Obj.mk k (markI (k + (1 : Int)) x.links.length)] ++ rest)) = (List.map Obj.cc (P ++ Obj.mk (Obj.mk k x.links).mark (markI (k + (1 : Int)) (Obj.mk k x.links).links.length) :: rest)) by (simp [markedO, marksO, Obj.cc] <;> omega)))) (ih))
    exact .tpe [.i (rfl : ((↑N : Int)) = _), t1, t2, t3, t4, t5, t6, t7, t8, t9, t10, t11, t12, t13, t14, t15, t16] (Out.exit (0 : Nat) (at_ [((1 : Nat), V.t (T.int IntKind.i64 (k + (1 : Int) + (↑x.links.length : Int) + marksO rest)))] [Ob.vec fl (2 : Nat) (List.map Obj.cc (P ++ [Obj.mk k (markI (k + (1 : Int)) x.links.length)] ++ markedO (k + (1 : Int) + (↑x.links.length : Int)) rest))] (1 : Nat))) (by kernel_rfl) ((congrArg (fun x_1 => Out.exit (0 : Nat) (at_ [((1 : Nat), V.t (T.int IntKind.i64 x_1))] [Ob.vec fl (2 : Nat) (List.map Obj.cc (P ++ [Obj.mk k (markI (k + (1 : Int)) x.links.length)] ++ markedO (k + (1 : Int) + (↑x.links.length : Int)) rest))] (1 : Nat))) (show (k + (1 : Int) + (↑x.links.length : Int) + marksO rest) = (k + marksO (x :: rest)) by (simp [markedO, marksO, Obj.cc] <;> omega))).trans (congrArg (fun x_1 => Out.exit (0 : Nat) (at_ [((1 : Nat), V.t (T.int IntKind.i64 (k + marksO (x :: rest))))] [Ob.vec fl (2 : Nat) x_1] (1 : Nat))) (show (List.map Obj.cc (P ++ [Obj.mk k (markI (k + (1 : Int)) x.links.length)] ++ markedO (k + (1 : Int) + (↑x.links.length : Int)) rest)) = (List.map Obj.cc (P ++ markedO k (x :: rest))) by (simp [markedO, marksO, Obj.cc] <;> omega))))
theorem markObjectS_ev (l : List Obj) (fl : Bool) (h : l.length ≤ 1048576) (hx : ∀ x ∈ l, x.links.length ≤ 1048576) (k : Int) (h0 : 0 ≤ k) (h1 : k + marksO l ≤ 9000000) :
    Ev pr (.call 63 [.vec 0 l.length 2 0 l.length, i64 k] [.vec fl 2 (l.map Obj.cc)]) (.val (i64 (k + marksO l)) [.vec fl 2 ((markedO k l).map Obj.cc)]) := by
  have := markObjectL_ev l.length h l [] fl k (by simp) hx h0 h1
  exact .tp [.a (this)] (by kernel_rfl)
theorem markHeap_ev (h : Hp) (fl : Bool) (g1 : h.objects.length ≤ 1048576) (g2 : ∀ x ∈ h.objects, x.links.length ≤ 1048576) (g3 : h.roots.length ≤ 1048576) (k : Int) (h0 : 0 ≤ k) (h1 : k ≤ 10) (hm : marksO h.objects ≤ 1048576) :
    Ev pr (.call 17 [.agg [.vec 0 h.objects.length 2 0 h.objects.length, .vec 1 h.roots.length 1 0 h.roots.length], i64 k] [.vec fl 2 (h.objects.map Obj.cc), .vec true 1 (ints h.roots)])
      (.val (i64 (k + marksO h.objects + h.roots.length)) [.vec fl 2 ((markedO k h.objects).map Obj.cc), .vec true 1 (ints (markI (k + marksO h.objects) h.roots.length))]) := by
  have hmn := marksO_nonneg h.objects
  have e1 := markObjectS_ev h.objects fl g1 g2 k h0 (by omega)
  have e2 := markIntS_ev h.roots (k + marksO h.objects) (by omega) (by omega) g3
  exact .tp [.a (e1), .a (e2)] (by kernel_rfl)
end Go.Ev

/- Heaps: which are good. -/
namespace Go.Ev
set_option linter.unusedVariables false
set_option linter.unusedSimpArgs false
open Go.Proofs
set_option maxRecDepth 100000
set_option linter.unusedVariables false
set_option maxHeartbeats 2000000
theorem within_ev (x lo hi : Int) : Ev pr (.call 67 [i64 x, i64 lo, i64 hi] []) (.val (bl (decide (x ≥ lo) && decide (x ≤ hi))) []) := by
  by_cases hc0 : lo ≤ x
  · let t0 : Tp pr := .b (show (decide (x ≥ lo)) = true by simpa using hc0)
    exact .tpe [t0] (Out.val (V.t (T.bool (decide (x ≤ hi)))) []) (by kernel_rfl) (congrArg (fun x => Out.val (V.t (T.bool x)) []) (show (decide (x ≤ hi)) = (decide (x ≥ lo) && decide (x ≤ hi)) by simp [*]))
  · let t0 : Tp pr := .b (show (decide (x ≥ lo)) = false by simpa using hc0)
    exact .tpe [t0] (Out.val (V.t (T.bool false)) []) (by kernel_rfl) (congrArg (fun x => Out.val (V.t (T.bool x)) []) (show (false) = (decide (x ≥ lo) && decide (x ≤ hi)) by simp [*]))
theorem l1In_ev (x lo hi : Int) : Ev pr (.call 91 [i64 x, i64 lo, i64 hi] []) (.val (bl (decide (x ≥ lo) && decide (x ≤ hi))) []) := by
  by_cases hc0 : lo ≤ x
  · let t0 : Tp pr := .b (show (decide (x ≥ lo)) = true by simpa using hc0)
    exact .tpe [t0] (Out.val (V.t (T.bool (decide (x ≤ hi)))) []) (by kernel_rfl) (congrArg (fun x => Out.val (V.t (T.bool x)) []) (show (decide (x ≤ hi)) = (decide (x ≥ lo) && decide (x ≤ hi)) by simp [*]))
  · let t0 : Tp pr := .b (show (decide (x ≥ lo)) = false by simpa using hc0)
    exact .tpe [t0] (Out.val (V.t (T.bool false)) []) (by kernel_rfl) (congrArg (fun x => Out.val (V.t (T.bool x)) []) (show (false) = (decide (x ≥ lo) && decide (x ≤ hi)) by simp [*]))
abbrev mnT (many : Nat) : T := .ptr [.int .i64 many] 0
theorem linkF_ev (k : Int) (many : Nat) (h : many ≤ 1048576) : Ev pr (.call 102 [i64 k, .t (mnT many)] []) (.val (bl (!linkOk many k)) []) := by
  let t0 : Tp pr := .i (wrap_i64 (a := (↑many : Int) - (1 : Int)) (by omega) (by omega))
  let t1 : Tp pr := .a (within_ev (k) ((-1 : Int)) ((↑many : Int) - (1 : Int)))
  exact .tp [t0, t1] (by kernel_rfl)
theorem idxLk_ev (l : List Int) (many : Nat) (hm : many ≤ 1048576) (hl : l.length ≤ 1048576) : ∀ (rest done : List Int) (i : Int), l = done ++ rest → i = done.length →
    Ev pr (.loop (lq pr 111 0) (at_ [(0, isq l), (1, .t (.clo 102 [mnT many])), (7, i64 l.length), (8, i64 i)] [] 0))
      (if 0 ≤ idxFrom (fun x => !linkOk many x) i rest then .ret (at_ [(4, i64 (idxFrom (fun x => !linkOk many x) i rest))] [] 0) else .exit 0 (at_ [] [] 0))
  | [], done, i, h, hi => by
    have hll : (l.length : Int) = done.length := by simp [h]
    let t0 : Tp pr := .b (show (decide (i < (↑l.length : Int))) = false by (simp; omega))
    exact .tp [t0] (by kernel_rfl)
  | x :: rest, done, i, h, hi => by
    have hll : (l.length : Int) = done.length + 1 + rest.length := by simp [h]; omega
    have hg : lkp (l.map intt) i = some [T.int .i64 x] := by subst hi; subst h; simp [intt]
    have ih := idxLk_ev l many hm hl rest (done ++ [x]) (i + 1) (by simp [h]) (by simp [hi])
    have hi0 : 0 ≤ i := by omega
    have hx := linkF_ev x many hm
    cases hb : linkOk many x with
    | false => rw [hb] at hx; (
      let t0 : Tp pr := .b (show (decide (i < (↑l.length : Int))) = true by (simp; omega))
      let t1 : Tp pr := .g .row (show (lkp (List.map intt l) i) = some ([T.int IntKind.i64 x]) from hg)
      exact .tpe [t0, t1, .a (hx), .b (rfl : true = true)] (Out.ret (at_ [((4 : Nat), V.t (T.int IntKind.i64 i))] [] (0 : Nat))) (by kernel_rfl) ((rfl).trans (show (Out.ret (at_ [((4 : Nat), V.t (T.int IntKind.i64 i))] [] (0 : Nat))) = if (0 : Int) ≤ idxFrom (fun x => !linkOk many x) i (x :: rest) then Out.ret (at_ [((4 : Nat), i64 (idxFrom (fun x => !linkOk many x) i (x :: rest)))] [] (0 : Nat)) else Out.exit (0 : Nat) (at_ [] [] (0 : Nat)) by simp [idxFrom, hb, hi0])))
    | true =>
      rw [hb] at hx
      have hI : idxFrom (fun x => !linkOk many x) i (x :: rest) = idxFrom (fun x => !linkOk many x) (i + 1) rest := by simp [idxFrom, hb]
      rw [hI]
      by_cases h0 : 0 ≤ idxFrom (fun x => !linkOk many x) (i + 1) rest
      · rw [if_pos h0] at ih ⊢; (
        let t0 : Tp pr := .b (show (decide (i < (↑l.length : Int))) = true by (simp; omega))
        let t1 : Tp pr := .g .row (show (lkp (List.map intt l) i) = some ([T.int IntKind.i64 x]) from hg)
        let t4 : Tp pr := .i (wrap_i64 (a := i + (1 : Int)) (by omega) (by omega))
        exact .tp [t0, t1, .a (hx), .b (rfl : false = false), t4, .a (ih)] (by kernel_rfl))
      · rw [if_neg h0] at ih ⊢; (
        let t0 : Tp pr := .b (show (decide (i < (↑l.length : Int))) = true by (simp; omega))
        let t1 : Tp pr := .g .row (show (lkp (List.map intt l) i) = some ([T.int IntKind.i64 x]) from hg)
        let t4 : Tp pr := .i (wrap_i64 (a := i + (1 : Int)) (by omega) (by omega))
        exact .tp [t0, t1, .a (hx), .b (rfl : false = false), t4, .a (ih)] (by kernel_rfl))
theorem idxLks_ev (l : List Int) (many : Nat) (hm : many ≤ 1048576) (hl : l.length ≤ 1048576) : Ev pr (.call 111 [isq l, .t (.clo 102 [mnT many])] []) (.val (i64 (idxFrom (fun x => !linkOk many x) 0 l)) []) := by
  have h := idxLk_ev l many hm hl l [] 0 rfl rfl
  have h2 := idxFrom_neg (fun x => !linkOk many x) l 0 (Int.le_refl _)
  by_cases h0 : 0 ≤ idxFrom (fun x => !linkOk many x) 0 l
  · rw [if_pos h0] at h; (
    let t0 : Tp pr := .i (show ((↑(List.map intt l).length : Int) : Int) = (↑l.length : Int) by simp)
    exact .tp [t0, .a (h)] (by kernel_rfl))
  · rw [if_neg h0] at h; rw [h2 h0]; (
    let t0 : Tp pr := .i (show ((↑(List.map intt l).length : Int) : Int) = (↑l.length : Int) by simp)
    exact .tp [t0, .a (h)] (by kernel_rfl))
theorem anyLk_ev (l : List Int) (many : Nat) (hm : many ≤ 1048576) (hl : l.length ≤ 1048576) : Ev pr (.call 101 [isq l, .t (.clo 102 [mnT many])] []) (.val (bl (!l.all (linkOk many))) []) := by
  have e : (l.any fun x => !linkOk many x) = !l.all (linkOk many) := by simp [List.any_eq_not_all_not]
  rw [← e, ← idxFrom_any (fun x => !linkOk many x) l 0 (by omega)]
  let t0 : Tp pr := .a (idxLks_ev (l) (many) (by assumption) (by assumption))
  exact .tp [t0] (by kernel_rfl)
theorem linksOk_ev (l : List Int) (many most : Nat) (hm : many ≤ 1048576) (hm2 : most ≤ 100) (hl : l.length ≤ 1048576) : Ev pr (.call 72 [isq l, i64 many, i64 most] []) (.val (bl (decide (l.length ≤ most) && l.all (linkOk many))) []) := by
  have h := anyLk_ev l many hm hl
  let t0 : Tp pr := .i (show ((↑(List.map intt l).length : Int) : Int) = (↑l.length : Int) by simp)
  by_cases hc1 : l.length ≤ most
  · let t1 : Tp pr := .b (show (decide ((↑l.length : Int) ≤ (↑most : Int))) = true by simpa using hc1)
    exact .tpe [t0, t1, .a (h), .m (rfl : true = true)] (Out.val (V.t (T.bool !!l.all (linkOk many))) []) (by kernel_rfl) (congrArg (fun x => Out.val (V.t (T.bool x)) []) (show (!!l.all (linkOk many)) = (decide (l.length ≤ most) && l.all (linkOk many)) by (simp [*] <;> omega)))
  · let t1 : Tp pr := .b (show (decide ((↑l.length : Int) ≤ (↑most : Int))) = false by simpa using hc1)
    exact .tpe [t0, t1] (Out.val (V.t (T.bool false)) []) (by kernel_rfl) (congrArg (fun x => Out.val (V.t (T.bool x)) []) (show (false) = (decide (l.length ≤ most) && l.all (linkOk many)) by (simp [*] <;> omega)))
theorem goodF_ev (o : Obj) (many : Nat) (hm : many ≤ 1048576) (hl : o.links.length ≤ 1048576) : Ev pr (.call 74 [vs o.ce, .t (mnT many)] []) (.val (bl (!objOk many o)) []) := by
  have h := linksOk_ev o.links many 4 hm (by omega) hl
  unfold objOk
  let t0 : Tp pr := .a (within_ev (o.mark) ((0 : Int)) ((1000 : Int)))
  by_cases hc1 : o.mark < (0 : Int) ∨ (1000 : Int) < o.mark
  · let t1 : Tp pr := .b (show (!(decide (o.mark ≥ (0 : Int)) && decide (o.mark ≤ (1000 : Int)))) = true by simpa using hc1)
    exact .tpe [t0, t1] (Out.val (V.t (T.bool true)) []) (by kernel_rfl) (congrArg (fun x => Out.val (V.t (T.bool x)) []) (show (true) = (!(decide (o.mark ≥ (0 : Int)) && decide (o.mark ≤ (1000 : Int)) && (decide (o.links.length ≤ (4 : Nat)) && o.links.all (linkOk many)))) by simp [*]))
  · let t1 : Tp pr := .b (show (!(decide (o.mark ≥ (0 : Int)) && decide (o.mark ≤ (1000 : Int)))) = false by simpa using hc1)
    exact .tpe [t0, t1, .a (h)] (Out.val (V.t (T.bool !(decide (o.links.length ≤ (4 : Nat)) && o.links.all (linkOk many)))) []) (by kernel_rfl) (congrArg (fun x => Out.val (V.t (T.bool x)) []) (show (!(decide (o.links.length ≤ (4 : Nat)) && o.links.all (linkOk many))) = (!(decide (o.mark ≥ (0 : Int)) && decide (o.mark ≤ (1000 : Int)) && (decide (o.links.length ≤ (4 : Nat)) && o.links.all (linkOk many)))) by simp [*]))
theorem idxOb_ev (l : List Obj) (many : Nat) (hm : many ≤ 1048576) (hl : l.length ≤ 1048576) (hs : ∀ x ∈ l, x.links.length ≤ 1048576) : ∀ (rest done : List Obj) (i : Int), l = done ++ rest → i = done.length →
    Ev pr (.loop (lq pr 103 0) (at_ [(0, osq l), (1, .t (.clo 74 [mnT many])), (7, i64 l.length), (8, i64 i)] [] 0))
      (if 0 ≤ idxFrom (fun x => !objOk many x) i rest then .ret (at_ [(4, i64 (idxFrom (fun x => !objOk many x) i rest))] [] 0) else .exit 0 (at_ [] [] 0))
  | [], done, i, h, hi => by
    have hll : (l.length : Int) = done.length := by simp [h]
    let t0 : Tp pr := .b (show (decide (i < (↑l.length : Int))) = false by (simp; omega))
    exact .tp [t0] (by kernel_rfl)
  | x :: rest, done, i, h, hi => by
    have hll : (l.length : Int) = done.length + 1 + rest.length := by simp [h]; omega
    have hg : lkp (l.map Obj.ce) i = some x.ce := by subst hi; subst h; simp
    have ih := idxOb_ev l many hm hl hs rest (done ++ [x]) (i + 1) (by simp [h]) (by simp [hi])
    have hi0 : 0 ≤ i := by omega
    have hx := goodF_ev x many hm (hs x (by simp [h]))
    cases hb : objOk many x with
    | false => rw [hb] at hx; (
      let t0 : Tp pr := .b (show (decide (i < (↑l.length : Int))) = true by (simp; omega))
      let t1 : Tp pr := .g .row (show (lkp (List.map Obj.ce l) i) = some (x.ce) from hg)
      exact .tpe [t0, t1, .a (hx), .b (rfl : true = true)] (Out.ret (at_ [((4 : Nat), V.t (T.int IntKind.i64 i))] [] (0 : Nat))) (by kernel_rfl) ((rfl).trans (show (Out.ret (at_ [((4 : Nat), V.t (T.int IntKind.i64 i))] [] (0 : Nat))) = if (0 : Int) ≤ idxFrom (fun x => !objOk many x) i (x :: rest) then Out.ret (at_ [((4 : Nat), i64 (idxFrom (fun x => !objOk many x) i (x :: rest)))] [] (0 : Nat)) else Out.exit (0 : Nat) (at_ [] [] (0 : Nat)) by simp [idxFrom, hb, hi0])))
    | true =>
      rw [hb] at hx
      have hI : idxFrom (fun x => !objOk many x) i (x :: rest) = idxFrom (fun x => !objOk many x) (i + 1) rest := by simp [idxFrom, hb]
      rw [hI]
      by_cases h0 : 0 ≤ idxFrom (fun x => !objOk many x) (i + 1) rest
      · rw [if_pos h0] at ih ⊢; (
        let t0 : Tp pr := .b (show (decide (i < (↑l.length : Int))) = true by (simp; omega))
        let t1 : Tp pr := .g .row (show (lkp (List.map Obj.ce l) i) = some (x.ce) from hg)
        let t4 : Tp pr := .i (wrap_i64 (a := i + (1 : Int)) (by omega) (by omega))
        exact .tp [t0, t1, .a (hx), .b (rfl : false = false), t4, .a (ih)] (by kernel_rfl))
      · rw [if_neg h0] at ih ⊢; (
        let t0 : Tp pr := .b (show (decide (i < (↑l.length : Int))) = true by (simp; omega))
        let t1 : Tp pr := .g .row (show (lkp (List.map Obj.ce l) i) = some (x.ce) from hg)
        let t4 : Tp pr := .i (wrap_i64 (a := i + (1 : Int)) (by omega) (by omega))
        exact .tp [t0, t1, .a (hx), .b (rfl : false = false), t4, .a (ih)] (by kernel_rfl))
theorem idxObs_ev (l : List Obj) (many : Nat) (hm : many ≤ 1048576) (hl : l.length ≤ 1048576) (hs : ∀ x ∈ l, x.links.length ≤ 1048576) : Ev pr (.call 103 [osq l, .t (.clo 74 [mnT many])] []) (.val (i64 (idxFrom (fun x => !objOk many x) 0 l)) []) := by
  have h := idxOb_ev l many hm hl hs l [] 0 rfl rfl
  have h2 := idxFrom_neg (fun x => !objOk many x) l 0 (Int.le_refl _)
  by_cases h0 : 0 ≤ idxFrom (fun x => !objOk many x) 0 l
  · rw [if_pos h0] at h; (
    let t0 : Tp pr := .i (show ((↑(List.map Obj.ce l).length : Int) : Int) = (↑l.length : Int) by simp)
    exact .tp [t0, .a (h)] (by kernel_rfl))
  · rw [if_neg h0] at h; rw [h2 h0]; (
    let t0 : Tp pr := .i (show ((↑(List.map Obj.ce l).length : Int) : Int) = (↑l.length : Int) by simp)
    exact .tp [t0, .a (h)] (by kernel_rfl))
theorem anyOb_ev (l : List Obj) (many : Nat) (hm : many ≤ 1048576) (hl : l.length ≤ 1048576) (hs : ∀ x ∈ l, x.links.length ≤ 1048576) : Ev pr (.call 73 [osq l, .t (.clo 74 [mnT many])] []) (.val (bl (!l.all (objOk many))) []) := by
  have e : (l.any fun x => !objOk many x) = !l.all (objOk many) := by simp [List.any_eq_not_all_not]
  rw [← e, ← idxFrom_any (fun x => !objOk many x) l 0 (by omega)]
  let t0 : Tp pr := .a (idxObs_ev (l) (many) (by assumption) (by assumption) (by assumption))
  exact .tp [t0] (by kernel_rfl)
theorem GoodHeapI_ev (h : Hp) (h1 : h.objects.length ≤ 1048576) (h2 : ∀ x ∈ h.objects, x.links.length ≤ 1048576) (h3 : h.roots.length ≤ 1048576) : Ev pr (.call 25 [vs h.ce] []) (.val (bl (goodHeap h)) []) := by
  have g1 := anyOb_ev h.objects h.objects.length h1 h1 h2
  have g2 := linksOk_ev h.roots h.objects.length 10 h1 (by omega) h3
  unfold goodHeap
  cases hr : (decide (h.roots.length ≤ 10) && h.roots.all (linkOk h.objects.length)) with
  | false => rw [hr] at g2; (
    let t0 : Tp pr := .i (show ((↑(List.map Obj.ce h.objects).length : Int) : Int) = (↑h.objects.length : Int) by simp)
    by_cases hc1 : (40 : Int) < (↑h.objects.length : Int)
    · let t1 : Tp pr := .b (show (decide ((↑h.objects.length : Int) > (40 : Int))) = true by simpa using hc1)
      exact .tpe [t0, t1, .b (rfl : true = true)] (Out.val (V.t (T.bool false)) []) (by kernel_rfl) (congrArg (fun x => Out.val (V.t (T.bool x)) []) (show (false) = (decide (h.objects.length ≤ (40 : Nat)) && false && h.objects.all (objOk h.objects.length)) by simp))
    · let t1 : Tp pr := .b (show (decide ((↑h.objects.length : Int) > (40 : Int))) = false by simpa using hc1)
      exact .tpe [t0, t1, .a (g2), .b (rfl : true = true)] (Out.val (V.t (T.bool false)) []) (by kernel_rfl) (congrArg (fun x => Out.val (V.t (T.bool x)) []) (show (false) = (decide (h.objects.length ≤ (40 : Nat)) && false && h.objects.all (objOk h.objects.length)) by simp)))
  | true => rw [hr] at g2; (
    let t0 : Tp pr := .i (show ((↑(List.map Obj.ce h.objects).length : Int) : Int) = (↑h.objects.length : Int) by simp)
    by_cases hc1 : (40 : Int) < (↑h.objects.length : Int)
    · let t1 : Tp pr := .b (show (decide ((↑h.objects.length : Int) > (40 : Int))) = true by simpa using hc1)
      exact .tpe [t0, t1, .b (rfl : true = true)] (Out.val (V.t (T.bool false)) []) (by kernel_rfl) (congrArg (fun x => Out.val (V.t (T.bool x)) []) (show (false) = (decide (h.objects.length ≤ (40 : Nat)) && true && h.objects.all (objOk h.objects.length)) by (simp <;> omega)))
    · let t1 : Tp pr := .b (show (decide ((↑h.objects.length : Int) > (40 : Int))) = false by simpa using hc1)
      exact .tpe [t0, t1, .a (g2), .b (rfl : false = false), .a (g1), .m (rfl : true = true)] (Out.val (V.t (T.bool !!h.objects.all (objOk h.objects.length))) []) (by kernel_rfl) (congrArg (fun x => Out.val (V.t (T.bool x)) []) (show (!!h.objects.all (objOk h.objects.length)) = (decide (h.objects.length ≤ (40 : Nat)) && true && h.objects.all (objOk h.objects.length)) by (simp <;> omega))))
theorem l15Object_ev (k : Int) (many : Nat) (h : many ≤ 1048576) : Ev pr (.call 94 [i64 k, i64 many] []) (.val (bl (linkOk many k)) []) := by
  by_cases hc0 : (-1 : Int) ≤ k
  · let t0 : Tp pr := .b (show (decide (k ≥ (-1 : Int))) = true by simpa using hc0)
    exact .tpe [t0] (Out.val (V.t (T.bool (decide (k < (↑many : Int))))) []) (by kernel_rfl) (congrArg (fun x => Out.val (V.t (T.bool x)) []) (show (decide (k < (↑many : Int))) = (linkOk many k) by grind [linkOk]))
  · let t0 : Tp pr := .b (show (decide (k ≥ (-1 : Int))) = false by simpa using hc0)
    exact .tpe [t0] (Out.val (V.t (T.bool false)) []) (by kernel_rfl) (congrArg (fun x => Out.val (V.t (T.bool x)) []) (show (false) = (linkOk many k) by grind [linkOk]))
def gB (h : Hp) : List Ob := [.box [osq h.objects, isq h.roots]]
theorem goodSL_ev (h : Hp) (d : Int) (l : List Int) (h1 : h.objects.length ≤ 1048576) (hl : l.length ≤ 1048576) : ∀ (rest done : List Int), l = done ++ rest →
    Ev pr (.loop (lq pr 51 1) (at_ [(1, .ptr 0 1 0 0), (10, osq h.objects), (11, i64 h.objects.length), (12, i64 d), (27, isq l), (28, i64 l.length), (29, i64 done.length)] (gB h) 0))
      (bif rest.all (linkOk h.objects.length) then .exit 2 (at_ [(1, .ptr 0 1 0 0), (10, osq h.objects), (11, i64 h.objects.length), (12, i64 d)] (gB h) 0) else .ret (at_ [(2, bl false)] [] 0))
  | [], done, he => by
    have hll : (l.length : Int) = done.length := by simp [he]
    let t0 : Tp pr := .b (show (decide ((↑done.length : Int) < (↑l.length : Int))) = false by (simp; omega))
    exact .tp [t0] (by kernel_rfl)
  | x :: rest, done, he => by
    have hll : (l.length : Int) = done.length + 1 + rest.length := by simp [he]; omega
    have hg : lkp (l.map intt) (done.length : Int) = some [T.int .i64 x] := by subst he; simp [intt]
    have ih := goodSL_ev h d l h1 hl rest (done ++ [x]) (by simp [he])
    have hx := l15Object_ev x h.objects.length h1
    cases hb : linkOk h.objects.length x with
    | false =>
      rw [hb] at hx
      simp only [List.all_cons, hb, Bool.false_and]
      let t0 : Tp pr := .b (show (decide ((↑done.length : Int) < (↑l.length : Int))) = true by (simp; omega))
      let t1 : Tp pr := .g .row (show (lkp (List.map intt l) (↑done.length : Int)) = some ([T.int IntKind.i64 x]) from hg)
      let t2 : Tp pr := .i (show ((↑(List.map Obj.ce h.objects).length : Int) : Int) = (↑h.objects.length : Int) by simp)
      exact .tp [t0, t1, t2, .a (hx), .b (rfl : true = true)] (by kernel_rfl)
    | true =>
      rw [hb] at hx
      simp only [List.all_cons, hb, Bool.true_and]
      cases hr : rest.all (linkOk h.objects.length) with
      | true => rw [hr] at ih; (
        let t0 : Tp pr := .b (show (decide ((↑done.length : Int) < (↑l.length : Int))) = true by (simp; omega))
        let t1 : Tp pr := .g .row (show (lkp (List.map intt l) (↑done.length : Int)) = some ([T.int IntKind.i64 x]) from hg)
        let t2 : Tp pr := .i (show ((↑(List.map Obj.ce h.objects).length : Int) : Int) = (↑h.objects.length : Int) by simp)
        let t5 : Tp pr := .i (wrap_i64 (a := (↑done.length : Int) + (1 : Int)) (by omega) (by omega))
        let t6 : Tp pr := .a (Ev.castq (congrArg (fun x => Q.loop (lq pr (51 : FuncId) (1 : Nat)) (at_ [((1 : Nat), V.ptr (0 : Nat) (1 : Nat) (0 : Nat) (0 : Nat)), ((10 : Nat), osq h.objects), ((11 : Nat), i64 (↑h.objects.length : Int)), ((12 : Nat), i64 d), ((27 : Nat), isq l), ((28 : Nat), i64 (↑l.length : Int)), ((29 : Nat), i64 x)] (gB h) (0 : Nat))) (show ((↑(done ++ [x]).length : Int)) = ((↑done.length : Int) + (1 : Int)) by simp)) (ih))
        exact .tp [t0, t1, t2, .a (hx), .b (rfl : false = false), t5, t6] (by kernel_rfl))
      | false => rw [hr] at ih; (
        let t0 : Tp pr := .b (show (decide ((↑done.length : Int) < (↑l.length : Int))) = true by (simp; omega))
        let t1 : Tp pr := .g .row (show (lkp (List.map intt l) (↑done.length : Int)) = some ([T.int IntKind.i64 x]) from hg)
        let t2 : Tp pr := .i (show ((↑(List.map Obj.ce h.objects).length : Int) : Int) = (↑h.objects.length : Int) by simp)
        let t5 : Tp pr := .i (wrap_i64 (a := (↑done.length : Int) + (1 : Int)) (by omega) (by omega))
        let t6 : Tp pr := .a (Ev.castq (congrArg (fun x => Q.loop (lq pr (51 : FuncId) (1 : Nat)) (at_ [((1 : Nat), V.ptr (0 : Nat) (1 : Nat) (0 : Nat) (0 : Nat)), ((10 : Nat), osq h.objects), ((11 : Nat), i64 (↑h.objects.length : Int)), ((12 : Nat), i64 d), ((27 : Nat), isq l), ((28 : Nat), i64 (↑l.length : Int)), ((29 : Nat), i64 x)] (gB h) (0 : Nat))) (show ((↑(done ++ [x]).length : Int)) = ((↑done.length : Int) + (1 : Int)) by simp)) (ih))
        exact .tp [t0, t1, t2, .a (hx), .b (rfl : false = false), t5, t6] (by kernel_rfl))
theorem goodSO_ev (h : Hp) (h1 : h.objects.length ≤ 1048576) (h2 : ∀ x ∈ h.objects, x.links.length ≤ 1048576) : ∀ (rest done : List Obj), h.objects = done ++ rest →
    Ev pr (.loop (lq pr 51 0) (at_ [(1, .ptr 0 1 0 0), (10, osq h.objects), (11, i64 h.objects.length), (12, i64 done.length)] (gB h) 0))
      (bif rest.all (objOk h.objects.length) then .exit 0 (at_ [(1, .ptr 0 1 0 0)] (gB h) 0) else .ret (at_ [(2, bl false)] [] 0))
  | [], done, he => by
    have hll : (h.objects.length : Int) = done.length := by simp [he]
    let t0 : Tp pr := .b (show (decide ((↑done.length : Int) < (↑h.objects.length : Int))) = false by (simp; omega))
    exact .tp [t0] (by kernel_rfl)
  | x :: rest, done, he => by
    have hll : (h.objects.length : Int) = done.length + 1 + rest.length := by simp [he]; omega
    have hg : lkp (h.objects.map Obj.ce) (done.length : Int) = some x.ce := by rw [he]; simp
    have ih := goodSO_ev h h1 h2 rest (done ++ [x]) (by simp [he])
    have hxl := h2 x (by simp [he])
    have hx := goodSL_ev h done.length x.links h1 hxl x.links [] rfl
    have e : objOk h.objects.length x = ((decide (x.mark ≥ 0) && decide (x.mark ≤ 1000)) && (decide (x.links.length ≤ 4) && x.links.all (linkOk h.objects.length))) := rfl
    simp only [List.all_cons]
    by_cases hm : (decide (x.mark ≥ 0) && decide (x.mark ≤ 1000)) = true
    · by_cases hn : x.links.length ≤ 4
      · cases hk : x.links.all (linkOk h.objects.length) with
        | false =>
          rw [hk] at hx
          rw [show objOk h.objects.length x = false by rw [e, hk]; simp, Bool.false_and]
          let t0 : Tp pr := .b (show (decide ((↑done.length : Int) < (↑h.objects.length : Int))) = true by (simp; omega))
          let t1 : Tp pr := .g .row (show (lkp (List.map Obj.ce h.objects) (↑done.length : Int)) = some (x.ce) from hg)
          let t2 : Tp pr := .a (l1In_ev (x.mark) ((0 : Int)) ((1000 : Int)))
          let t3 : Tp pr := .b (show (!(decide (x.mark ≥ (0 : Int)) && decide (x.mark ≤ (1000 : Int)))) = false by simp [*])
          let t4 : Tp pr := .i (show ((↑(List.map intt x.links).length : Int) : Int) = (↑x.links.length : Int) by simp)
          let t5 : Tp pr := .b (show (decide ((↑x.links.length : Int) > (4 : Int))) = false by (simp; omega))
          let t6 : Tp pr := .i (show ((↑(List.map intt x.links).length : Int) : Int) = (↑x.links.length : Int) by simp)
          exact .tp [t0, t1, t2, t3, t4, t5, t6, .a (hx)] (by kernel_rfl)
        | true =>
          rw [hk] at hx
          rw [show objOk h.objects.length x = true by rw [e, hk, hm]; simp [hn], Bool.true_and]
          cases hr : rest.all (objOk h.objects.length) with
          | true => rw [hr] at ih; (
            let t0 : Tp pr := .b (show (decide ((↑done.length : Int) < (↑h.objects.length : Int))) = true by (simp; omega))
            let t1 : Tp pr := .g .row (show (lkp (List.map Obj.ce h.objects) (↑done.length : Int)) = some (x.ce) from hg)
            let t2 : Tp pr := .a (l1In_ev (x.mark) ((0 : Int)) ((1000 : Int)))
            let t3 : Tp pr := .b (show (!(decide (x.mark ≥ (0 : Int)) && decide (x.mark ≤ (1000 : Int)))) = false by simp [*])
            let t4 : Tp pr := .i (show ((↑(List.map intt x.links).length : Int) : Int) = (↑x.links.length : Int) by simp)
            let t5 : Tp pr := .b (show (decide ((↑x.links.length : Int) > (4 : Int))) = false by (simp; omega))
            let t6 : Tp pr := .i (show ((↑(List.map intt x.links).length : Int) : Int) = (↑x.links.length : Int) by simp)
            let t8 : Tp pr := .i (wrap_i64 (a := (↑done.length : Int) + (1 : Int)) (by omega) (by omega))
            let t9 : Tp pr := .a (Ev.castq (congrArg (fun x => Q.loop (lq pr (51 : FuncId) (0 : Nat)) (at_ [((1 : Nat), V.ptr (0 : Nat) (1 : Nat) (0 : Nat) (0 : Nat)), ((10 : Nat), osq h.objects), ((11 : Nat), i64 (↑h.objects.length : Int)), ((12 : Nat), i64 x)] (gB h) (0 : Nat))) (show ((↑(done ++ [x]).length : Int)) = ((↑done.length : Int) + (1 : Int)) by simp)) (ih))
            exact .tp [t0, t1, t2, t3, t4, t5, t6, .a (hx), t8, t9] (by kernel_rfl))
          | false => rw [hr] at ih; (
            let t0 : Tp pr := .b (show (decide ((↑done.length : Int) < (↑h.objects.length : Int))) = true by (simp; omega))
            let t1 : Tp pr := .g .row (show (lkp (List.map Obj.ce h.objects) (↑done.length : Int)) = some (x.ce) from hg)
            let t2 : Tp pr := .a (l1In_ev (x.mark) ((0 : Int)) ((1000 : Int)))
            let t3 : Tp pr := .b (show (!(decide (x.mark ≥ (0 : Int)) && decide (x.mark ≤ (1000 : Int)))) = false by simp [*])
            let t4 : Tp pr := .i (show ((↑(List.map intt x.links).length : Int) : Int) = (↑x.links.length : Int) by simp)
            let t5 : Tp pr := .b (show (decide ((↑x.links.length : Int) > (4 : Int))) = false by (simp; omega))
            let t6 : Tp pr := .i (show ((↑(List.map intt x.links).length : Int) : Int) = (↑x.links.length : Int) by simp)
            let t8 : Tp pr := .i (wrap_i64 (a := (↑done.length : Int) + (1 : Int)) (by omega) (by omega))
            let t9 : Tp pr := .a (Ev.castq (congrArg (fun x => Q.loop (lq pr (51 : FuncId) (0 : Nat)) (at_ [((1 : Nat), V.ptr (0 : Nat) (1 : Nat) (0 : Nat) (0 : Nat)), ((10 : Nat), osq h.objects), ((11 : Nat), i64 (↑h.objects.length : Int)), ((12 : Nat), i64 x)] (gB h) (0 : Nat))) (show ((↑(done ++ [x]).length : Int)) = ((↑done.length : Int) + (1 : Int)) by simp)) (ih))
            exact .tp [t0, t1, t2, t3, t4, t5, t6, .a (hx), t8, t9] (by kernel_rfl))
      · rw [show objOk h.objects.length x = false by rw [e]; simp [hn], Bool.false_and]
        let t0 : Tp pr := .b (show (decide ((↑done.length : Int) < (↑h.objects.length : Int))) = true by (simp; omega))
        let t1 : Tp pr := .g .row (show (lkp (List.map Obj.ce h.objects) (↑done.length : Int)) = some (x.ce) from hg)
        let t2 : Tp pr := .a (l1In_ev (x.mark) ((0 : Int)) ((1000 : Int)))
        let t3 : Tp pr := .b (show (!(decide (x.mark ≥ (0 : Int)) && decide (x.mark ≤ (1000 : Int)))) = false by simp [*])
        let t4 : Tp pr := .i (show ((↑(List.map intt x.links).length : Int) : Int) = (↑x.links.length : Int) by simp)
        let t5 : Tp pr := .b (show (decide ((↑x.links.length : Int) > (4 : Int))) = true by (simp; omega))
        exact .tp [t0, t1, t2, t3, t4, t5] (by kernel_rfl)
    · have hm2 : (decide (x.mark ≥ 0) && decide (x.mark ≤ 1000)) = false := by simpa using hm
      rw [show objOk h.objects.length x = false by rw [e, hm2]; simp, Bool.false_and]
      let t0 : Tp pr := .b (show (decide ((↑done.length : Int) < (↑h.objects.length : Int))) = true by (simp; omega))
      let t1 : Tp pr := .g .row (show (lkp (List.map Obj.ce h.objects) (↑done.length : Int)) = some (x.ce) from hg)
      let t2 : Tp pr := .a (l1In_ev (x.mark) ((0 : Int)) ((1000 : Int)))
      let t3 : Tp pr := .b (show (!(decide (x.mark ≥ (0 : Int)) && decide (x.mark ≤ (1000 : Int)))) = true by simp [*])
      exact .tp [t0, t1, t2, t3, .b (rfl : true = true)] (by kernel_rfl)
end Go.Ev

/- Heaps: which are good, what is reached, by the reference. -/
namespace Go.Ev
set_option linter.unusedVariables false
set_option linter.unusedSimpArgs false
open Go.Proofs
set_option maxRecDepth 100000
set_option linter.unusedVariables false
set_option maxHeartbeats 2000000
@[local simp] theorem ints_takeL (l : List Int) : List.take l.length (ints l) = ints l := List.take_of_length_le (by simp)
theorem goodSR_ev (h : Hp) (h1 : h.objects.length ≤ 1048576) (h3 : h.roots.length ≤ 1048576) : ∀ (rest done : List Int), h.roots = done ++ rest →
    Ev pr (.loop (lq pr 51 2) (at_ [(1, .ptr 0 1 0 0), (42, isq h.roots), (43, i64 h.roots.length), (44, i64 done.length)] (gB h) 0))
      (bif rest.all (linkOk h.objects.length) then .exit 4 (at_ [(1, .ptr 0 1 0 0)] (gB h) 0) else .ret (at_ [(2, bl false)] [] 0))
  | [], done, he => by
    have hll : (h.roots.length : Int) = done.length := by simp [he]
    let t0 : Tp pr := .b (show (decide ((↑done.length : Int) < (↑h.roots.length : Int))) = false by (simp; omega))
    exact .tp [t0] (by kernel_rfl)
  | x :: rest, done, he => by
    have hll : (h.roots.length : Int) = done.length + 1 + rest.length := by simp [he]; omega
    have hg : lkp (h.roots.map intt) (done.length : Int) = some [T.int .i64 x] := by rw [he]; simp [intt]
    have ih := goodSR_ev h h1 h3 rest (done ++ [x]) (by simp [he])
    have hx := l15Object_ev x h.objects.length h1
    cases hb : linkOk h.objects.length x with
    | false =>
      rw [hb] at hx
      simp only [List.all_cons, hb, Bool.false_and]
      let t0 : Tp pr := .b (show (decide ((↑done.length : Int) < (↑h.roots.length : Int))) = true by (simp; omega))
      let t1 : Tp pr := .g .row (show (lkp (List.map intt h.roots) (↑done.length : Int)) = some ([T.int IntKind.i64 x]) from hg)
      let t2 : Tp pr := .i (show ((↑(List.map Obj.ce h.objects).length : Int) : Int) = (↑h.objects.length : Int) by simp)
      exact .tp [t0, t1, t2, .a (hx), .b (rfl : true = true)] (by kernel_rfl)
    | true =>
      rw [hb] at hx
      simp only [List.all_cons, hb, Bool.true_and]
      cases hr : rest.all (linkOk h.objects.length) with
      | true => rw [hr] at ih; (
        let t0 : Tp pr := .b (show (decide ((↑done.length : Int) < (↑h.roots.length : Int))) = true by (simp; omega))
        let t1 : Tp pr := .g .row (show (lkp (List.map intt h.roots) (↑done.length : Int)) = some ([T.int IntKind.i64 x]) from hg)
        let t2 : Tp pr := .i (show ((↑(List.map Obj.ce h.objects).length : Int) : Int) = (↑h.objects.length : Int) by simp)
        let t5 : Tp pr := .i (wrap_i64 (a := (↑done.length : Int) + (1 : Int)) (by omega) (by omega))
        let t6 : Tp pr := .a (Ev.castq (congrArg (fun x => Q.loop (lq pr (51 : FuncId) (2 : Nat)) (at_ [((1 : Nat), V.ptr (0 : Nat) (1 : Nat) (0 : Nat) (0 : Nat)), ((42 : Nat), isq h.roots), ((43 : Nat), i64 (↑h.roots.length : Int)), ((44 : Nat), i64 x)] (gB h) (0 : Nat))) (show ((↑(done ++ [x]).length : Int)) = ((↑done.length : Int) + (1 : Int)) by simp)) (ih))
        exact .tp [t0, t1, t2, .a (hx), .b (rfl : false = false), t5, t6] (by kernel_rfl))
      | false => rw [hr] at ih; (
        let t0 : Tp pr := .b (show (decide ((↑done.length : Int) < (↑h.roots.length : Int))) = true by (simp; omega))
        let t1 : Tp pr := .g .row (show (lkp (List.map intt h.roots) (↑done.length : Int)) = some ([T.int IntKind.i64 x]) from hg)
        let t2 : Tp pr := .i (show ((↑(List.map Obj.ce h.objects).length : Int) : Int) = (↑h.objects.length : Int) by simp)
        let t5 : Tp pr := .i (wrap_i64 (a := (↑done.length : Int) + (1 : Int)) (by omega) (by omega))
        let t6 : Tp pr := .a (Ev.castq (congrArg (fun x => Q.loop (lq pr (51 : FuncId) (2 : Nat)) (at_ [((1 : Nat), V.ptr (0 : Nat) (1 : Nat) (0 : Nat) (0 : Nat)), ((42 : Nat), isq h.roots), ((43 : Nat), i64 (↑h.roots.length : Int)), ((44 : Nat), i64 x)] (gB h) (0 : Nat))) (show ((↑(done ++ [x]).length : Int)) = ((↑done.length : Int) + (1 : Int)) by simp)) (ih))
        exact .tp [t0, t1, t2, .a (hx), .b (rfl : false = false), t5, t6] (by kernel_rfl))
theorem GoodHeapS_ev (h : Hp) (h1 : h.objects.length ≤ 1048576) (h2 : ∀ x ∈ h.objects, x.links.length ≤ 1048576) (h3 : h.roots.length ≤ 1048576) : Ev pr (.call 51 [vs h.ce] []) (.val (bl (goodHeap h)) []) := by
  have g1 := goodSO_ev h h1 h2 h.objects [] rfl
  have g2 := goodSR_ev h h1 h3 h.roots [] rfl
  unfold goodHeap
  cases ho : h.objects.all (objOk h.objects.length) with
  | false => rw [ho] at g1; (
    let t0 : Tp pr := .i (show ((↑(List.map Obj.ce h.objects).length : Int) : Int) = (↑h.objects.length : Int) by simp)
    exact .tpe [t0, .a (g1)] (Out.val (V.t (T.bool false)) []) (by kernel_rfl) (congrArg (fun x => Out.val (V.t (T.bool x)) []) (show (false) = (decide (h.objects.length ≤ (40 : Nat)) && (decide (h.roots.length ≤ (10 : Nat)) && h.roots.all (linkOk h.objects.length)) && false) by simp)))
  | true =>
    rw [ho] at g1
    cases hr : h.roots.all (linkOk h.objects.length) with
    | false => rw [hr] at g2; (
      let t0 : Tp pr := .i (show ((↑(List.map Obj.ce h.objects).length : Int) : Int) = (↑h.objects.length : Int) by simp)
      let t2 : Tp pr := .i (show ((↑(List.map intt h.roots).length : Int) : Int) = (↑h.roots.length : Int) by simp)
      exact .tpe [t0, .a (g1), t2, .a (g2)] (Out.val (V.t (T.bool false)) []) (by kernel_rfl) (congrArg (fun x => Out.val (V.t (T.bool x)) []) (show (false) = (decide (h.objects.length ≤ (40 : Nat)) && (decide (h.roots.length ≤ (10 : Nat)) && false) && true) by simp)))
    | true =>
      rw [hr] at g2
      by_cases h40 : h.objects.length ≤ 40
      · have h40' : (h.objects.length : Int) ≤ 40 := by omega
        by_cases h10 : h.roots.length ≤ 10
        · have h10' : (h.roots.length : Int) ≤ 10 := by omega
          let t0 : Tp pr := .i (show ((↑(List.map Obj.ce h.objects).length : Int) : Int) = (↑h.objects.length : Int) by simp)
          let t2 : Tp pr := .i (show ((↑(List.map intt h.roots).length : Int) : Int) = (↑h.roots.length : Int) by simp)
          let t4 : Tp pr := .i (show ((↑(List.map Obj.ce h.objects).length : Int) : Int) = (↑h.objects.length : Int) by simp)
          let t5 : Tp pr := .b (show (decide ((↑h.objects.length : Int) ≤ (40 : Int))) = true by (simp; omega))
          let t6 : Tp pr := .i (show ((↑(List.map intt h.roots).length : Int) : Int) = (↑h.roots.length : Int) by simp)
          exact .tpe [t0, .a (g1), t2, .a (g2), t4, t5, t6] (Out.val (V.t (T.bool (decide ((↑h.roots.length : Int) ≤ (10 : Int))))) []) (by kernel_rfl) (congrArg (fun x => Out.val (V.t (T.bool x)) []) (show (decide ((↑h.roots.length : Int) ≤ (10 : Int))) = (decide (h.objects.length ≤ (40 : Nat)) && (decide (h.roots.length ≤ (10 : Nat)) && true) && true) by simp [*]))
        · have h10' : ¬ (h.roots.length : Int) ≤ 10 := by omega
          let t0 : Tp pr := .i (show ((↑(List.map Obj.ce h.objects).length : Int) : Int) = (↑h.objects.length : Int) by simp)
          let t2 : Tp pr := .i (show ((↑(List.map intt h.roots).length : Int) : Int) = (↑h.roots.length : Int) by simp)
          let t4 : Tp pr := .i (show ((↑(List.map Obj.ce h.objects).length : Int) : Int) = (↑h.objects.length : Int) by simp)
          let t5 : Tp pr := .b (show (decide ((↑h.objects.length : Int) ≤ (40 : Int))) = true by (simp; omega))
          let t6 : Tp pr := .i (show ((↑(List.map intt h.roots).length : Int) : Int) = (↑h.roots.length : Int) by simp)
          exact .tpe [t0, .a (g1), t2, .a (g2), t4, t5, t6] (Out.val (V.t (T.bool (decide ((↑h.roots.length : Int) ≤ (10 : Int))))) []) (by kernel_rfl) (congrArg (fun x => Out.val (V.t (T.bool x)) []) (show (decide ((↑h.roots.length : Int) ≤ (10 : Int))) = (decide (h.objects.length ≤ (40 : Nat)) && (decide (h.roots.length ≤ (10 : Nat)) && true) && true) by simp [*]))
      · have h40' : ¬ (h.objects.length : Int) ≤ 40 := by omega
        let t0 : Tp pr := .i (show ((↑(List.map Obj.ce h.objects).length : Int) : Int) = (↑h.objects.length : Int) by simp)
        let t2 : Tp pr := .i (show ((↑(List.map intt h.roots).length : Int) : Int) = (↑h.roots.length : Int) by simp)
        let t4 : Tp pr := .i (show ((↑(List.map Obj.ce h.objects).length : Int) : Int) = (↑h.objects.length : Int) by simp)
        let t5 : Tp pr := .b (show (decide ((↑h.objects.length : Int) ≤ (40 : Int))) = false by (simp; omega))
        exact .tpe [t0, .a (g1), t2, .a (g2), t4, t5] (Out.val (V.t (T.bool false)) []) (by kernel_rfl) (congrArg (fun x => Out.val (V.t (T.bool x)) []) (show (false) = (decide (h.objects.length ≤ (40 : Nat)) && (decide (h.roots.length ≤ (10 : Nat)) && true) && true) by simp [*]))
theorem l1HasL_ev (l : List Int) (n : Int) (hl : l.length ≤ 1048576) : ∀ (rest done : List Int), l = done ++ rest →
    Ev pr (.loop (lq pr 99 0) (at_ [(1, i64 n), (7, isq l), (8, i64 l.length), (9, i64 done.length)] [] 0))
      (bif rest.contains n then .ret (at_ [(4, bl true)] [] 0) else .exit 0 (at_ [] [] 0))
  | [], done, he => by
    have hll : (l.length : Int) = done.length := by simp [he]
    let t0 : Tp pr := .b (show (decide ((↑done.length : Int) < (↑l.length : Int))) = false by (simp; omega))
    exact .tp [t0] (by kernel_rfl)
  | x :: rest, done, he => by
    have hll : (l.length : Int) = done.length + 1 + rest.length := by simp [he]; omega
    have hg : lkp (l.map intt) (done.length : Int) = some [T.int .i64 x] := by subst he; simp [intt]
    have ih := l1HasL_ev l n hl rest (done ++ [x]) (by simp [he])
    by_cases hx : x = n
    · subst hx
      rw [show (x :: rest).contains x = true by simp]
      let t0 : Tp pr := .b (show (decide ((↑done.length : Int) < (↑l.length : Int))) = true by (simp; omega))
      let t1 : Tp pr := .g .row (show (lkp (List.map intt l) (↑done.length : Int)) = some ([T.int IntKind.i64 x]) from hg)
      let t2 : Tp pr := .b (show (decide (x = x)) = true by simp)
      exact .tp [t0, t1, t2] (by kernel_rfl)
    · have hx2 : ¬ n = x := fun e => hx e.symm
      rw [show (x :: rest).contains n = rest.contains n by simp [hx2]]
      cases hr : rest.contains n with
      | true => rw [hr] at ih; (
        let t0 : Tp pr := .b (show (decide ((↑done.length : Int) < (↑l.length : Int))) = true by (simp; omega))
        let t1 : Tp pr := .g .row (show (lkp (List.map intt l) (↑done.length : Int)) = some ([T.int IntKind.i64 x]) from hg)
        let t2 : Tp pr := .b (show (decide (x = n)) = false by (simp; omega))
        let t3 : Tp pr := .i (wrap_i64 (a := (↑done.length : Int) + (1 : Int)) (by omega) (by omega))
        let t4 : Tp pr := .a (Ev.castq (congrArg (fun x => Q.loop (lq pr (99 : FuncId) (0 : Nat)) (at_ [((1 : Nat), i64 n), ((7 : Nat), isq l), ((8 : Nat), i64 (↑l.length : Int)), ((9 : Nat), i64 x)] [] (0 : Nat))) (show ((↑(done ++ [x]).length : Int)) = ((↑done.length : Int) + (1 : Int)) by simp)) (ih))
        exact .tp [t0, t1, t2, t3, t4] (by kernel_rfl))
      | false => rw [hr] at ih; (
        let t0 : Tp pr := .b (show (decide ((↑done.length : Int) < (↑l.length : Int))) = true by (simp; omega))
        let t1 : Tp pr := .g .row (show (lkp (List.map intt l) (↑done.length : Int)) = some ([T.int IntKind.i64 x]) from hg)
        let t2 : Tp pr := .b (show (decide (x = n)) = false by (simp; omega))
        let t3 : Tp pr := .i (wrap_i64 (a := (↑done.length : Int) + (1 : Int)) (by omega) (by omega))
        let t4 : Tp pr := .a (Ev.castq (congrArg (fun x => Q.loop (lq pr (99 : FuncId) (0 : Nat)) (at_ [((1 : Nat), i64 n), ((7 : Nat), isq l), ((8 : Nat), i64 (↑l.length : Int)), ((9 : Nat), i64 x)] [] (0 : Nat))) (show ((↑(done ++ [x]).length : Int)) = ((↑done.length : Int) + (1 : Int)) by simp)) (ih))
        exact .tp [t0, t1, t2, t3, t4] (by kernel_rfl))
theorem l1Has_ev (l : List Int) (n : Int) (hl : l.length ≤ 1048576) : Ev pr (.call 99 [isq l, i64 n] []) (.val (bl (l.contains n)) []) := by
  have h := l1HasL_ev l n hl l [] rfl
  cases hr : l.contains n with
  | true => rw [hr] at h; (
    let t0 : Tp pr := .i (show ((↑(List.map intt l).length : Int) : Int) = (↑l.length : Int) by simp)
    exact .tp [t0, .a (h)] (by kernel_rfl))
  | false => rw [hr] at h; (
    let t0 : Tp pr := .i (show ((↑(List.map intt l).length : Int) : Int) = (↑l.length : Int) by simp)
    exact .tp [t0, .a (h)] (by kernel_rfl))
def oB (h : Hp) (out : List Int) : List Ob := [.box [osq h.objects, isq h.roots], .vec true 1 (ints out)]
theorem orderRL_ev (h : Hp) (h3 : h.roots.length ≤ 1048576) : ∀ (rest done out : List Int), h.roots = done ++ rest → out.length ≤ done.length →
    Ev pr (.loop (lq pr 61 0) (at_ [(1, .ptr 0 1 0 0), (3, .vec 1 out.length 1 0 out.length), (10, isq h.roots), (11, i64 h.roots.length), (12, i64 done.length)] (oB h out) 0))
      (.exit 0 (at_ [(1, .ptr 0 1 0 0), (3, .vec 1 (pushAll out rest).length 1 0 (pushAll out rest).length)] (oB h (pushAll out rest)) 0))
  | [], done, out, he, ho => by
    have hll : (h.roots.length : Int) = done.length := by simp [he]
    rw [show pushAll out [] = out from rfl]
    let t0 : Tp pr := .b (show (decide ((↑done.length : Int) < (↑h.roots.length : Int))) = false by (simp; omega))
    exact .tp [t0] (by kernel_rfl)
  | x :: rest, done, out, he, ho => by
    have hll : (h.roots.length : Int) = done.length + 1 + rest.length := by simp [he]; omega
    have hg : lkp (h.roots.map intt) (done.length : Int) = some [T.int .i64 x] := by rw [he]; simp [intt]
    have hh := l1Has_ev out x (by omega)
    rw [show pushAll out (x :: rest) = pushAll (push out x) rest from rfl]
    unfold push
    by_cases hx : x < 0
    · rw [if_pos hx]
      have ih := orderRL_ev h h3 rest (done ++ [x]) out (by simp [he]) (by simp; omega)
      let t0 : Tp pr := .b (show (decide ((↑done.length : Int) < (↑h.roots.length : Int))) = true by (simp; omega))
      let t1 : Tp pr := .g .row (show (lkp (List.map intt h.roots) (↑done.length : Int)) = some ([T.int IntKind.i64 x]) from hg)
      let t2 : Tp pr := .b (show (decide (x ≥ (0 : Int))) = false by (simp; omega))
      let t4 : Tp pr := .i (wrap_i64 (a := (↑done.length : Int) + (1 : Int)) (by omega) (by omega))
      let t5 : Tp pr := .a (Ev.castq (congrArg (fun x => Q.loop (lq pr (61 : FuncId) (0 : Nat)) (at_ [((1 : Nat), V.ptr (0 : Nat) (1 : Nat) (0 : Nat) (0 : Nat)), ((3 : Nat), V.vec (1 : Nat) out.length (1 : Nat) (0 : Nat) out.length), ((10 : Nat), isq h.roots), ((11 : Nat), i64 (↑h.roots.length : Int)), ((12 : Nat), i64 x)] (oB h out) (0 : Nat))) (show ((↑(done ++ [x]).length : Int)) = ((↑done.length : Int) + (1 : Int)) by simp)) (ih))
      exact .tp [t0, t1, t2, .b (rfl : false = false), t4, t5] (by kernel_rfl)
    · rw [if_neg hx]
      cases hc : out.contains x with
      | true =>
        rw [hc] at hh
        rw [if_pos rfl]
        have ih := orderRL_ev h h3 rest (done ++ [x]) out (by simp [he]) (by simp; omega)
        let t0 : Tp pr := .b (show (decide ((↑done.length : Int) < (↑h.roots.length : Int))) = true by (simp; omega))
        let t1 : Tp pr := .g .row (show (lkp (List.map intt h.roots) (↑done.length : Int)) = some ([T.int IntKind.i64 x]) from hg)
        let t2 : Tp pr := .b (show (decide (x ≥ (0 : Int))) = true by (simp; omega))
        let t3 : Tp pr := .m (show (decide ((ints out).length = out.length ∧ (0 : Nat) + out.length ≤ out.length)) = true by simp)
        let t4 : Tp pr := .n .rows (show (List.map (fun x => List.map C.fz x) (List.take out.length (List.drop (0 : Nat) (ints out)))) = List.map intt out by simp)
        let t8 : Tp pr := .i (wrap_i64 (a := (↑done.length : Int) + (1 : Int)) (by omega) (by omega))
        let t9 : Tp pr := .a (Ev.castq (congrArg (fun x => Q.loop (lq pr (61 : FuncId) (0 : Nat)) (at_ [((1 : Nat), V.ptr (0 : Nat) (1 : Nat) (0 : Nat) (0 : Nat)), ((3 : Nat), V.vec (1 : Nat) out.length (1 : Nat) (0 : Nat) out.length), ((10 : Nat), isq h.roots), ((11 : Nat), i64 (↑h.roots.length : Int)), ((12 : Nat), i64 x)] (oB h out) (0 : Nat))) (show ((↑(done ++ [x]).length : Int)) = ((↑done.length : Int) + (1 : Int)) by simp)) (ih))
        exact .tp [t0, t1, t2, t3, t4, .a (hh), .m (rfl : true = true), .b (rfl : false = false), t8, t9] (by kernel_rfl)
      | false =>
        rw [hc] at hh
        rw [if_neg (by simp)]
        have ih := orderRL_ev h h3 rest (done ++ [x]) (out ++ [x]) (by simp [he]) (by simp; omega)
        let t0 : Tp pr := .b (show (decide ((↑done.length : Int) < (↑h.roots.length : Int))) = true by (simp; omega))
        let t1 : Tp pr := .g .row (show (lkp (List.map intt h.roots) (↑done.length : Int)) = some ([T.int IntKind.i64 x]) from hg)
        let t2 : Tp pr := .b (show (decide (x ≥ (0 : Int))) = true by (simp; omega))
        let t3 : Tp pr := .m (show (decide ((ints out).length = out.length ∧ (0 : Nat) + out.length ≤ out.length)) = true by simp)
        let t4 : Tp pr := .n .rows (show (List.map (fun x => List.map C.fz x) (List.take out.length (List.drop (0 : Nat) (ints out)))) = List.map intt out by simp)
        let t9 : Tp pr := .m (show (decide ((ints out).length = out.length ∧ (0 : Nat) + out.length ≤ out.length ∧ out.length + (1 : Nat) ≤ (4294967296 : Nat))) = true by (simp; omega))
        let t10 : Tp pr := .b (show (decide (out.length + (1 : Nat) ≤ out.length)) = false by simp)
        let t12 : Tp pr := .n .crows (show ((List.take out.length (ints out)).append (List.take (1 : Nat) (List.drop (0 : Nat) [[C.t (T.int IntKind.i64 x)]]))) = ints out ++ [[C.t (T.int IntKind.i64 x)]] by simp)
        let t13 : Tp pr := .i (wrap_i64 (a := (↑done.length : Int) + (1 : Int)) (by omega) (by omega))
        let t14 : Tp pr := .a (Ev.castq (((congrArg (fun x_1 => Q.loop (lq pr (61 : FuncId) (0 : Nat)) (at_ [((1 : Nat), V.ptr (0 : Nat) (1 : Nat) (0 : Nat) (0 : Nat)), ((3 : Nat), V.vec (1 : Nat) x_1 (1 : Nat) (0 : Nat) x_1), ((10 : Nat), isq h.roots), ((11 : Nat), i64 (↑h.roots.length : Int)), ((12 : Nat), i64 (↑(done ++ [x]).length : Int))] (oB h (out ++ [x])) (0 : Nat))) (show ((out ++ [x]).length) = (out.length + (1 : Nat)) by simp [ints_app, ints_cons, intc])).trans (congrArg (fun x_1 => Q.loop (lq pr (61 : FuncId) (0 : Nat)) (at_ [((1 : Nat), V.ptr (0 : Nat) (1 : Nat) (0 : Nat) (0 : Nat)), ((3 : Nat), V.vec (1 : Nat) (out.length + (1 : Nat)) (1 : Nat) (0 : Nat) (out.length + (1 : Nat))), ((10 : Nat), isq h.roots), ((11 : Nat), i64 (↑h.roots.length : Int)), ((12 : Nat), i64 x_1)] (oB h (out ++ [x])) (0 : Nat))) (show ((↑(done ++ [x]).length : Int)) = ((↑done.length : Int) + (1 : Int)) by simp [ints_app, ints_cons, intc]))).trans (congrArg (fun x => Q.loop (lq pr (61 : FuncId) (0 : Nat)) (at_ [((1 : Nat), V.ptr (0 : Nat) (1 : Nat) (0 : Nat) (0 : Nat)), ((3 : Nat), V.vec (1 : Nat) (out.length + (1 : Nat)) (1 : Nat) (0 : Nat) (out.length + (1 : Nat))), ((10 : Nat), V.t (T.seq (1 : Nat) (List.map intt h.roots))), ((11 : Nat), V.t (T.int IntKind.i64 (↑h.roots.length : Int))), ((12 : Nat), V.t (T.int IntKind.i64 ((↑done.length : Int) + (1 : Int))))] [Ob.box [V.t (T.seq (2 : Nat) (List.map Obj.ce h.objects)), V.t (T.seq (1 : Nat) (List.map intt h.roots))], Ob.vec true (1 : Nat) x] (0 : Nat))) (show (ints (out ++ [x])) = ((ints out).append [[C.t (T.int IntKind.i64 x)]]) by simp [ints_app, ints_cons, intc]))) (ih))
        exact .tp [t0, t1, t2, t3, t4, .a (hh), .m (rfl : true = true), .b (rfl : true = true), .m (rfl : true = true), t9, t10, .c (rfl : (out.length + (1 : Nat)) = _), t12, t13, t14] (by kernel_rfl)
theorem orderKL_ev (h : Hp) (l : List Int) (i : Int) (hl : l.length ≤ 4) : ∀ (rest dn out : List Int), l = dn ++ rest → out.length ≤ 100 + dn.length →
    Ev pr (.loop (lq pr 61 2) (at_ [(1, .ptr 0 1 0 0), (3, .vec 1 out.length 1 0 out.length), (6, i64 i), (43, isq l), (44, i64 l.length), (45, i64 dn.length)] (oB h out) 0))
      (.exit 4 (at_ [(1, .ptr 0 1 0 0), (3, .vec 1 (pushAll out rest).length 1 0 (pushAll out rest).length), (6, i64 i)] (oB h (pushAll out rest)) 0))
  | [], dn, out, he, ho => by
    have hll : (l.length : Int) = dn.length := by simp [he]
    rw [show pushAll out [] = out from rfl]
    let t0 : Tp pr := .b (show (decide ((↑dn.length : Int) < (↑l.length : Int))) = false by (simp; omega))
    exact .tp [t0] (by kernel_rfl)
  | x :: rest, dn, out, he, ho => by
    have hll : (l.length : Int) = dn.length + 1 + rest.length := by simp [he]; omega
    have hg : lkp (l.map intt) (dn.length : Int) = some [T.int .i64 x] := by rw [he]; simp [intt]
    have hh := l1Has_ev out x (by omega)
    rw [show pushAll out (x :: rest) = pushAll (push out x) rest from rfl]
    unfold push
    by_cases hx : x < 0
    · rw [if_pos hx]
      have ih := orderKL_ev h l i hl rest (dn ++ [x]) out (by simp [he]) (by simp; omega)
      let t0 : Tp pr := .b (show (decide ((↑dn.length : Int) < (↑l.length : Int))) = true by (simp; omega))
      let t1 : Tp pr := .g .row (show (lkp (List.map intt l) (↑dn.length : Int)) = some ([T.int IntKind.i64 x]) from hg)
      let t2 : Tp pr := .b (show (decide (x ≥ (0 : Int))) = false by (simp; omega))
      let t4 : Tp pr := .i (wrap_i64 (a := (↑dn.length : Int) + (1 : Int)) (by omega) (by omega))
      let t5 : Tp pr := .a (Ev.castq (congrArg (fun x => Q.loop (lq pr (61 : FuncId) (2 : Nat)) (at_ [((1 : Nat), V.ptr (0 : Nat) (1 : Nat) (0 : Nat) (0 : Nat)), ((3 : Nat), V.vec (1 : Nat) out.length (1 : Nat) (0 : Nat) out.length), ((6 : Nat), i64 i), ((43 : Nat), isq l), ((44 : Nat), i64 (↑l.length : Int)), ((45 : Nat), i64 x)] (oB h out) (0 : Nat))) (show ((↑(dn ++ [x]).length : Int)) = ((↑dn.length : Int) + (1 : Int)) by simp)) (ih))
      exact .tp [t0, t1, t2, .b (rfl : false = false), t4, t5] (by kernel_rfl)
    · rw [if_neg hx]
      cases hc : out.contains x with
      | true =>
        rw [hc] at hh
        rw [if_pos rfl]
        have ih := orderKL_ev h l i hl rest (dn ++ [x]) out (by simp [he]) (by simp; omega)
        let t0 : Tp pr := .b (show (decide ((↑dn.length : Int) < (↑l.length : Int))) = true by (simp; omega))
        let t1 : Tp pr := .g .row (show (lkp (List.map intt l) (↑dn.length : Int)) = some ([T.int IntKind.i64 x]) from hg)
        let t2 : Tp pr := .b (show (decide (x ≥ (0 : Int))) = true by (simp; omega))
        let t3 : Tp pr := .m (show (decide ((ints out).length = out.length ∧ (0 : Nat) + out.length ≤ out.length)) = true by simp)
        let t4 : Tp pr := .n .rows (show (List.map (fun x => List.map C.fz x) (List.take out.length (List.drop (0 : Nat) (ints out)))) = List.map intt out by simp)
        let t8 : Tp pr := .i (wrap_i64 (a := (↑dn.length : Int) + (1 : Int)) (by omega) (by omega))
        let t9 : Tp pr := .a (Ev.castq (congrArg (fun x => Q.loop (lq pr (61 : FuncId) (2 : Nat)) (at_ [((1 : Nat), V.ptr (0 : Nat) (1 : Nat) (0 : Nat) (0 : Nat)), ((3 : Nat), V.vec (1 : Nat) out.length (1 : Nat) (0 : Nat) out.length), ((6 : Nat), i64 i), ((43 : Nat), isq l), ((44 : Nat), i64 (↑l.length : Int)), ((45 : Nat), i64 x)] (oB h out) (0 : Nat))) (show ((↑(dn ++ [x]).length : Int)) = ((↑dn.length : Int) + (1 : Int)) by simp)) (ih))
        exact .tp [t0, t1, t2, t3, t4, .a (hh), .m (rfl : true = true), .b (rfl : false = false), t8, t9] (by kernel_rfl)
      | false =>
        rw [hc] at hh
        rw [if_neg (by simp)]
        have ih := orderKL_ev h l i hl rest (dn ++ [x]) (out ++ [x]) (by simp [he]) (by simp; omega)
        let t0 : Tp pr := .b (show (decide ((↑dn.length : Int) < (↑l.length : Int))) = true by (simp; omega))
        let t1 : Tp pr := .g .row (show (lkp (List.map intt l) (↑dn.length : Int)) = some ([T.int IntKind.i64 x]) from hg)
        let t2 : Tp pr := .b (show (decide (x ≥ (0 : Int))) = true by (simp; omega))
        let t3 : Tp pr := .m (show (decide ((ints out).length = out.length ∧ (0 : Nat) + out.length ≤ out.length)) = true by simp)
        let t4 : Tp pr := .n .rows (show (List.map (fun x => List.map C.fz x) (List.take out.length (List.drop (0 : Nat) (ints out)))) = List.map intt out by simp)
        let t9 : Tp pr := .m (show (decide ((ints out).length = out.length ∧ (0 : Nat) + out.length ≤ out.length ∧ out.length + (1 : Nat) ≤ (4294967296 : Nat))) = true by (simp; omega))
        let t10 : Tp pr := .b (show (decide (out.length + (1 : Nat) ≤ out.length)) = false by simp)
        let t12 : Tp pr := .n .crows (show ((List.take out.length (ints out)).append (List.take (1 : Nat) (List.drop (0 : Nat) [[C.t (T.int IntKind.i64 x)]]))) = ints out ++ [[C.t (T.int IntKind.i64 x)]] by simp)
        let t13 : Tp pr := .i (wrap_i64 (a := (↑dn.length : Int) + (1 : Int)) (by omega) (by omega))
        let t14 : Tp pr := .a (Ev.castq (((congrArg (fun x_1 => Q.loop (lq pr (61 : FuncId) (2 : Nat)) (at_ [((1 : Nat), V.ptr (0 : Nat) (1 : Nat) (0 : Nat) (0 : Nat)), ((3 : Nat), V.vec (1 : Nat) x_1 (1 : Nat) (0 : Nat) x_1), ((6 : Nat), i64 i), ((43 : Nat), isq l), ((44 : Nat), i64 (↑l.length : Int)), ((45 : Nat), i64 (↑(dn ++ [x]).length : Int))] (oB h (out ++ [x])) (0 : Nat))) (show ((out ++ [x]).length) = (out.length + (1 : Nat)) by simp [ints_app, ints_cons, intc])).trans (congrArg (fun x_1 => Q.loop (lq pr (61 : FuncId) (2 : Nat)) (at_ [((1 : Nat), V.ptr (0 : Nat) (1 : Nat) (0 : Nat) (0 : Nat)), ((3 : Nat), V.vec (1 : Nat) (out.length + (1 : Nat)) (1 : Nat) (0 : Nat) (out.length + (1 : Nat))), ((6 : Nat), i64 i), ((43 : Nat), isq l), ((44 : Nat), i64 (↑l.length : Int)), ((45 : Nat), i64 x_1)] (oB h (out ++ [x])) (0 : Nat))) (show ((↑(dn ++ [x]).length : Int)) = ((↑dn.length : Int) + (1 : Int)) by simp [ints_app, ints_cons, intc]))).trans (congrArg (fun x => Q.loop (lq pr (61 : FuncId) (2 : Nat)) (at_ [((1 : Nat), V.ptr (0 : Nat) (1 : Nat) (0 : Nat) (0 : Nat)), ((3 : Nat), V.vec (1 : Nat) (out.length + (1 : Nat)) (1 : Nat) (0 : Nat) (out.length + (1 : Nat))), ((6 : Nat), V.t (T.int IntKind.i64 i)), ((43 : Nat), V.t (T.seq (1 : Nat) (List.map intt l))), ((44 : Nat), V.t (T.int IntKind.i64 (↑l.length : Int))), ((45 : Nat), V.t (T.int IntKind.i64 ((↑dn.length : Int) + (1 : Int))))] [Ob.box [V.t (T.seq (2 : Nat) (List.map Obj.ce h.objects)), V.t (T.seq (1 : Nat) (List.map intt h.roots))], Ob.vec true (1 : Nat) x] (0 : Nat))) (show (ints (out ++ [x])) = ((ints out).append [[C.t (T.int IntKind.i64 x)]]) by simp [ints_app, ints_cons, intc]))) (ih))
        exact .tp [t0, t1, t2, t3, t4, .a (hh), .m (rfl : true = true), .b (rfl : true = true), .m (rfl : true = true), t9, t10, .c (rfl : (out.length + (1 : Nat)) = _), t12, t13, t14] (by kernel_rfl)
theorem objAt_lkp {h : Hp} {k : Int} (h0 : 0 ≤ k) (h1 : k < h.objects.length) : lkp (h.objects.map Obj.ce) k = some (objAt h k).ce := by
  rw [lkp, if_pos h0]
  simp [objAt, List.getD_eq_getElem?_getD, show k.toNat < h.objects.length by omega]
theorem orderL_ev (h : Hp) (hg : GoodH h) : ∀ (n i : Nat) (l : List Int), l.Nodup → (∀ x ∈ l, 0 ≤ x ∧ x < h.objects.length) → done h n i l → i ≤ l.length →
    Ev pr (.loop (lq pr 61 1) (at_ [(1, .ptr 0 1 0 0), (3, .vec 1 l.length 1 0 l.length), (6, i64 i)] (oB h l) 0))
      (.exit 2 (at_ [(3, .vec 0 (orderGo h n i l).length 1 0 (orderGo h n i l).length)] [.vec true 1 (ints (orderGo h n i l))] 0))
  | 0, i, l, hn, hb, hd, hi => by
    have hd : l.length ≤ i := hd
    have e : i = l.length := by omega
    subst e
    rw [show orderGo h 0 l.length l = l from rfl]
    let t1 : Tp pr := .b (show (decide ((↑l.length : Int) < (↑l.length : Int))) = false by simp)
    exact .tp [.i (rfl : ((↑l.length : Int)) = _), t1] (by kernel_rfl)
  | n + 1, i, l, hn, hb, hd, hi => by
    have hl := nodup_len _ l hn hb
    have hob := hg.objs
    unfold orderGo
    unfold done at hd
    cases hk : l[i]? with
    | none =>
      have e : i = l.length := by have := List.getElem?_eq_none_iff.1 hk; omega
      subst e
      let t1 : Tp pr := .b (show (decide ((↑l.length : Int) < (↑l.length : Int))) = false by simp)
      exact .tp [.i (rfl : ((↑l.length : Int)) = _), t1] (by kernel_rfl)
    | some k =>
      rw [hk] at hd
      dsimp only at hd ⊢
      have hlt := (List.getElem?_eq_some_iff.1 hk).1
      have hkb := hb k (List.mem_of_getElem? hk)
      have hgi : (ints l)[i]? = some (intc k) := by simp [ints, hk]
      have hlk := objAt_lkp hkb.1 hkb.2
      have hmem := objAt_mem hkb.1 hkb.2
      have hin := orderKL_ev h (objAt h k).links i (hg.llen _ hmem) (objAt h k).links [] l rfl (by simp; omega)
      obtain ⟨r, hr⟩ := pushAll_ext (objAt h k).links l
      have hlen2 : l.length ≤ (pushAll l (objAt h k).links).length := by rw [hr]; simp
      have hb2 := pushAll_bd (N := h.objects.length) (objAt h k).links l hb (fun x hx => (hg.links _ hmem x hx).2)
      have ih := orderL_ev h hg n (i + 1) (pushAll l (objAt h k).links) (pushAll_nodup _ _ hn) hb2 hd (by omega)
      let t1 : Tp pr := .b (show (decide ((↑i : Int) < (↑l.length : Int))) = true by (simp; omega))
      let t6 : Tp pr := .m (show (decide ((0 : Int) ≤ (↑i : Int) ∧ (↑i : Int).toNat < l.length)) = true by simp [*])
      let t7 : Tp pr := .c (show ((0 : Nat) + (↑i : Int).toNat : Nat) = i by omega)
      let t9 : Tp pr := .m (show (decide ((ints l).length = l.length)) = true by simp)
      let t10 : Tp pr := .g .crow (show ((ints l)[i]?) = some (intc k) from hgi)
      let t12 : Tp pr := .g .row (show (lkp (List.map Obj.ce h.objects) k) = some ((objAt h k).ce) from hlk)
      let t16 : Tp pr := .i (show ((↑(List.map intt (objAt h k).links).length : Int) : Int) = (↑(objAt h k).links.length : Int) by simp)
      let t20 : Tp pr := .i (wrap_i64 (a := (↑i : Int) + (1 : Int)) (by omega) (by omega))
      exact .tp [.i (rfl : ((↑l.length : Int)) = _), t1, .m (rfl : true = true), .m (rfl : true = true), .m (rfl : true = true), .m (rfl : true = true), t6, t7, .m (rfl : true = true), t9, t10, .m (rfl : true = true), t12, .m (rfl : true = true), .m (rfl : true = true), .m (rfl : true = true), t16, .m (rfl : true = true), .m (rfl : true = true), .a (hin), t20, .a (ih)] (by kernel_rfl)
theorem l15Order_ev (h : Hp) (hg : GoodH h) : Ev pr (.call 61 [vs h.ce] []) (.val (isq (order h)) []) := by
  have h3 := hg.rlen
  have g1 := orderRL_ev h (by omega) h.roots [] [] rfl (by simp)
  have hb := pushAll_bd (N := h.objects.length) h.roots [] (by simp) (fun k hk => (hg.roots k hk).2)
  have g2 := orderL_ev h hg (h.objects.length + 1) 0 (pushAll [] h.roots) (pushAll_nodup _ _ (by simp)) hb (done_ok hg _ _ _ (pushAll_nodup _ _ (by simp)) hb (by omega)) (Nat.zero_le _)
  rw [show orderGo h (h.objects.length + 1) 0 (pushAll [] h.roots) = order h from rfl] at g2
  let t0 : Tp pr := .i (show ((↑(List.map intt h.roots).length : Int) : Int) = (↑h.roots.length : Int) by simp)
  let t3 : Tp pr := .m (show (decide ((ints (order h)).length = (order h).length ∧ (0 : Nat) + (order h).length ≤ (order h).length)) = true by simp)
  let t4 : Tp pr := .n .rows (show (List.map (fun x => List.map C.fz x) (List.take (order h).length (List.drop (0 : Nat) (ints (order h))))) = List.map intt (order h) by simp)
  exact .tp [t0, .a (g1), .a (g2), t3, t4] (by kernel_rfl)
end Go.Ev

/- slices.Clone: what it makes, by the machine itself and by its contract. -/
namespace Go.Ev
set_option linter.unusedVariables false
set_option linter.unusedSimpArgs false
open Go.Proofs
set_option maxRecDepth 100000
set_option linter.unusedVariables false
set_option maxHeartbeats 1000000
theorem cloneN_ev : Ev pr0 (.call 76 [.t (.sn true)] []) (.val (.t .nils) []) := by
  exact .tp [.b (rfl : true = true)] (by kernel_rfl)
theorem cloneE_ev : Ev pr0 (.call 76 [.t (.sn false)] []) (.val (.vec 0 0 1 0 0) [.vec true 1 []]) := by
  exact .tp [.b (rfl : false = false), .m (rfl : true = true), .b (rfl : true = true), .c (rfl : ((0 : Nat)) = _), .n .crows (rfl : ([]) = _)] (by kernel_rfl)
theorem cloneL_ev (e : List T) (es : List (List T)) (h : es.length + 1 ≤ 1048576) : Ev pr0 (.call 76 [.t (.seq 1 (e :: es))] []) (.val (.vec 0 (es.length + 1) 1 0 (es.length + 1)) [.vec true 1 ((e :: es).map (List.map C.t))]) := by
  let t2 : Tp pr0 := .m (show (decide ((0 : Nat) = (0 : Nat) ∧ (0 : Nat) ≤ (0 : Nat) ∧ (0 : Nat) + (List.map (fun x => List.map C.t x) (e :: es)).length ≤ (4294967296 : Nat))) = true by (simp; omega))
  let t4 : Tp pr0 := .c (show ((0 : Nat) + (List.map (fun x => List.map C.t x) (e :: es)).length : Nat) = es.length + (1 : Nat) by simp)
  let t5 : Tp pr0 := .n .crows (show ([].append (List.map (fun x => List.map C.t x) (e :: es))) = List.map C.t e :: List.map (fun x => List.map C.t x) es by simp)
  exact .tp [.m (rfl : true = true), .b (rfl : false = false), t2, .b (rfl : false = false), t4, t5] (by kernel_rfl)
theorem follows_ok : pr0.P.follows .mixedOrders = true := by kernel_rfl
theorem prim_none : PrimOk pr := by
  intro f p hf
  have hf' : (if f = 76 then some clonePrim else none) = some p := hf
  split at hf'
  · rename_i e
    subst e
    obtain rfl := Option.some.inj hf'
    exact clone_ok (pr0 := pr0) follows_ok (fun _ _ h => by cases h) cloneN_ev cloneE_ev cloneL_ev
  · cases hf'
theorem clone_ev (l : List Int) (h : l.length ≤ 1048576) : Ev pr (.call 76 [isq l] []) (.val (.vec 0 l.length 1 0 l.length) [.vec true 1 (ints l)]) := by
  have h2 : clonePrim [isq l] [] = some (.vec 0 l.length 1 0 l.length, [.vec true 1 (ints l)]) := by
    simp only [clonePrim]
    rw [if_pos (by simpa using h)]
    simp [ints, intt, intc, Function.comp_def]
  exact Ev.prim (p := clonePrim) (by kernel_rfl) rfl h2
end Go.Ev

/- Heaps: marks that are held; heaps that are nothing; heaps that are checked. -/
namespace Go.Ev
set_option linter.unusedVariables false
set_option linter.unusedSimpArgs false
open Go.Proofs
set_option maxRecDepth 100000
set_option linter.unusedVariables false
set_option maxHeartbeats 2000000
@[simp] theorem markedO_len : ∀ (k : Int) (l : List Obj), (markedO k l).length = l.length
  | _, [] => rfl
  | k, x :: l => by simp [markedO, markedO_len _ l]
attribute [local simp] markI_len
theorem heldObjL_ev : ∀ (l m : List Obj) (k : Int), 0 ≤ k → k + marksO l ≤ 9000000 → m.length + l.length ≤ 1048576 → (∀ x ∈ l, x.links.length ≤ 1048576) →
    Ev pr (.loop (lq pr 64 0) (at_ [(0, osq (m ++ markedO k l)), (1, i64 k), (5, i64 m.length)] [] 0)) (.exit 0 (at_ [(1, i64 (k + marksO l))] [] 0))
  | [], m, k, h0, h1, h2, hx => by
    let t0 : Tp pr := .i (show ((↑(List.map Obj.ce (m ++ markedO k [])).length : Int) : Int) = (↑m.length : Int) by simp)
    let t1 : Tp pr := .b (show (decide ((↑m.length : Int) < (↑m.length : Int))) = false by simp)
    exact .tpe [t0, t1] (Out.exit (0 : Nat) (at_ [((1 : Nat), V.t (T.int IntKind.i64 k))] [] (0 : Nat))) (by kernel_rfl) (congrArg (fun x => Out.exit (0 : Nat) (at_ [((1 : Nat), V.t (T.int IntKind.i64 x))] [] (0 : Nat))) (show (k) = (k + (0 : Int)) by simp [markedO, marksO]))
  | x :: l, m, k, h0, h1, h2, hx => by
    have hm := marksO_nonneg l
    simp [marksO] at h1 h2
    have hr := heldIntS_ev x.links.length (k + 1) (by omega) (by omega) (hx x (by simp))
    have ih := heldObjL_ev l (m ++ [⟨k, markI (k + 1) x.links.length⟩]) (k + 1 + x.links.length) (by omega) (by omega) (by simp; omega) (fun y hy => hx y (by simp [hy]))
    rw [show markedO k (x :: l) = ⟨k, markI (k + 1) x.links.length⟩ :: markedO (k + 1 + x.links.length) l from rfl, show marksO (x :: l) = 1 + x.links.length + marksO l from rfl]
    have hg : lkp ((m ++ ⟨k, markI (k + 1) x.links.length⟩ :: markedO (k + 1 + x.links.length) l).map Obj.ce) (m.length : Int) = some [T.int .i64 k, T.seq 1 ((markI (k + 1) x.links.length).map intt)] := by simp [Obj.ce]
    let t0 : Tp pr := .i (show ((↑(List.map Obj.ce (m ++ Obj.mk k (markI (k + (1 : Int)) x.links.length) :: markedO (k + (1 : Int) + (↑x.links.length : Int)) l)).length : Int) : Int) = (↑m.length : Int) + ((↑l.length : Int) + (1 : Int)) by simp)
    let t1 : Tp pr := .b (show (decide ((↑m.length : Int) < (↑m.length : Int) + ((↑l.length : Int) + (1 : Int)))) = true by (simp; omega))
    let t2 : Tp pr := .g .row (show (lkp (List.map Obj.ce (m ++ Obj.mk k (markI (k + (1 : Int)) x.links.length) :: markedO (k + (1 : Int) + (↑x.links.length : Int)) l)) (↑m.length : Int)) = some ([T.int IntKind.i64 k, T.seq (1 : Nat) (List.map intt (markI (k + (1 : Int)) x.links.length))]) from hg)
    let t4 : Tp pr := .i (wrap_i64 (a := k + (1 : Int)) (by omega) (by omega))
    let t5 : Tp pr := .g .row (show (lkp (List.map Obj.ce (m ++ Obj.mk k (markI (k + (1 : Int)) x.links.length) :: markedO (k + (1 : Int) + (↑x.links.length : Int)) l)) (↑m.length : Int)) = some ([T.int IntKind.i64 k, T.seq (1 : Nat) (List.map intt (markI (k + (1 : Int)) x.links.length))]) from hg)
    let t7 : Tp pr := .b (show (decide (k + (1 : Int) + (↑x.links.length : Int) < (0 : Int))) = false by (simp; omega))
    let t8 : Tp pr := .i (wrap_i64 (a := (↑m.length : Int) + (1 : Int)) (by omega) (by omega))
    let t9 : Tp pr := .a (Ev.castq ((congrArg (fun x_1 => Q.loop (lq pr (64 : FuncId) (0 : Nat)) (at_ [((0 : Nat), V.t (T.seq (2 : Nat) x_1)), ((1 : Nat), V.t (T.int IntKind.i64 (k + (1 : Int) + (↑x.links.length : Int)))), ((5 : Nat), V.t (T.int IntKind.i64 (↑(m ++ [Obj.mk k (markI (k + (1 : Int)) x.links.length)]).length : Int)))] [] (0 : Nat))) (show (List.map Obj.ce (m ++ [Obj.mk k (markI (k + (1 : Int)) x.links.length)] ++ markedO (k + (1 : Int) + (↑x.links.length : Int)) l)) = (List.map Obj.ce (m ++ Obj.mk k (markI (k + (1 : Int)) x.links.length) :: markedO (k + (1 : Int) + (↑x.links.length : Int)) l)) by (simp <;> omega))).trans (congrArg (fun x_1 => Q.loop (lq pr (64 : FuncId) (0 : Nat)) (at_ [((0 : Nat), V.t (T.seq (2 : Nat) (List.map Obj.ce (m ++ Obj.mk k (markI (k + (1 : Int)) x.links.length) :: markedO (k + (1 : Int) + (↑x.links.length : Int)) l)))), ((1 : Nat), V.t (T.int IntKind.i64 (k + (1 : Int) + (↑x.links.length : Int)))), ((5 : Nat), V.t (T.int IntKind.i64 x_1))] [] (0 : Nat))) (show ((↑(m ++ [Obj.mk k (markI (k + (1 : Int)) x.links.length)]).length : Int)) = ((↑m.length : Int) + (1 : Int)) by (simp <;> omega)))) (ih))
    exact .tpe [t0, t1, t2, .b (show (k != k) = false by simp), t4, t5, .a (hr), t7, t8, t9] (Out.exit (0 : Nat) (at_ [((1 : Nat), V.t (T.int IntKind.i64 (k + (1 : Int) + (↑x.links.length : Int) + marksO l)))] [] (0 : Nat))) (by kernel_rfl) (congrArg (fun x => Out.exit (0 : Nat) (at_ [((1 : Nat), V.t (T.int IntKind.i64 x))] [] (0 : Nat))) (show (k + (1 : Int) + (↑x.links.length : Int) + marksO l) = (k + ((1 : Int) + (↑x.links.length : Int) + marksO l)) by omega))
theorem heldObjectS_ev (l : List Obj) (k : Int) (h0 : 0 ≤ k) (h1 : k + marksO l ≤ 9000000) (h2 : l.length ≤ 1048576) (hx : ∀ x ∈ l, x.links.length ≤ 1048576) :
    Ev pr (.call 64 [osq (markedO k l), i64 k] []) (.val (i64 (k + marksO l)) []) := by
  have := heldObjL_ev l [] k h0 h1 (by simpa using h2) hx
  exact .tp [.a (this)] (by kernel_rfl)
def markedH (k : Int) (h : Hp) : Hp := ⟨markedO k h.objects, markI (k + marksO h.objects) h.roots.length⟩
theorem heldHeap_ev (h : Hp) (k : Int) (h0 : 0 ≤ k) (hk : k ≤ 10) (h1 : h.objects.length ≤ 1048576) (h2 : ∀ x ∈ h.objects, x.links.length ≤ 1048576) (h3 : h.roots.length ≤ 1048576) (hm : marksO h.objects ≤ 1048576) :
    Ev pr (.call 19 [vs (markedH k h).ce, i64 k] []) (.val (i64 (k + marksO h.objects + h.roots.length)) []) := by
  have hn := marksO_nonneg h.objects
  have e1 := heldObjectS_ev h.objects k h0 (by omega) h1 h2
  have e2 := heldIntS_ev h.roots.length (k + marksO h.objects) (by omega) (by omega) h3
  unfold markedH
  let t1 : Tp pr := .b (show (decide (k + marksO h.objects < (0 : Int))) = false by (simp; omega))
  let t3 : Tp pr := .b (show (decide (k + marksO h.objects + (↑h.roots.length : Int) < (0 : Int))) = false by (simp; omega))
  exact .tp [.a (e1), t1, .a (e2), t3] (by kernel_rfl)
def nilHp : List V := [.t .nils, .t .nils]
theorem eqObjNL_ev : Ev pr (.loop (lq pr 60 0) (at_ [(0, .t .nils), (1, .t (.seq 2 [])), (5, i64 0)] [] 0)) (.exit 0 (at_ [] [] 0)) := by
  let t0 : Tp pr := .i (rfl : ((0 : Int) : Int) = (0 : Int))
  exact .tp [t0, .b (rfl : false = false)] (by kernel_rfl)
theorem eqObjN_ev : Ev pr (.call 60 [.t .nils, .t (.seq 2 [])] []) (.val (bl true) []) := by
  let t0 : Tp pr := .i (rfl : ((0 : Int) : Int) = (0 : Int))
  let t1 : Tp pr := .i (rfl : ((0 : Int) : Int) = (0 : Int))
  exact .tp [t0, t1, .b (rfl : false = false), .a (eqObjNL_ev)] (by kernel_rfl)
theorem eqHeapN_ev : Ev pr (.call 13 [.agg [.t .nils, .t .nils], vs (Hp.mk [] []).ce] []) (.val (bl true) []) := by
  have e1 := eqObjN_ev
  have e2 := eqIntN_ev
  exact .tp [.a (e1), .b (rfl : false = false), .a (e2), .b (rfl : false = false)] (by kernel_rfl)
theorem markObjNL_ev (k : Int) : Ev pr (.loop (lq pr 63 0) (at_ [(0, .t .nils), (1, i64 k), (5, i64 0)] [] 0)) (.exit 0 (at_ [(1, i64 k)] [] 0)) := by
  let t0 : Tp pr := .i (rfl : ((0 : Int) : Int) = (0 : Int))
  exact .tp [t0, .b (rfl : false = false)] (by kernel_rfl)
theorem markObjN_ev (k : Int) : Ev pr (.call 63 [.t .nils, i64 k] []) (.val (i64 k) []) := by
  have := markObjNL_ev k
  exact .tp [.a (this)] (by kernel_rfl)
theorem markHeapN_ev (k : Int) : Ev pr (.call 17 [.agg [.t .nils, .t .nils], i64 k] []) (.val (i64 k) []) := by
  have e1 := markObjN_ev k
  have e2 := markIntN_ev k
  exact .tp [.a (e1), .a (e2)] (by kernel_rfl)
theorem heldObjNL_ev (k : Int) : Ev pr (.loop (lq pr 64 0) (at_ [(0, .t .nils), (1, i64 k), (5, i64 0)] [] 0)) (.exit 0 (at_ [(1, i64 k)] [] 0)) := by
  let t0 : Tp pr := .i (rfl : ((0 : Int) : Int) = (0 : Int))
  exact .tp [t0, .b (rfl : false = false)] (by kernel_rfl)
theorem heldObjN_ev (k : Int) : Ev pr (.call 64 [.t .nils, i64 k] []) (.val (i64 k) []) := by
  have := heldObjNL_ev k
  exact .tp [.a (this)] (by kernel_rfl)
theorem heldHeapN_ev (k : Int) (h0 : 0 ≤ k) : Ev pr (.call 19 [.agg [.t .nils, .t .nils], i64 k] []) (.val (i64 k) []) := by
  have e1 := heldObjN_ev k
  have e2 := heldIntN_ev k
  let t1 : Tp pr := .b (show (decide (k < (0 : Int))) = false by (simp; omega))
  let t3 : Tp pr := .b (show (decide (k < (0 : Int))) = false by (simp; omega))
  exact .tp [.a (e1), t1, .a (e2), t3] (by kernel_rfl)
@[local simp] theorem obcc_take3 (l : List Obj) : List.take l.length (l.map Obj.cc) = l.map Obj.cc := List.take_of_length_le (by simp)
@[local simp] theorem ints_take3 (l : List Int) : List.take l.length (l.map intt) = l.map intt := List.take_of_length_le (by simp)
@[local simp] theorem obcc_flat3 (fl : Bool) (l : List Obj) : Ob.flat (.vec fl 2 (l.map Obj.cc)) = true := by simp [Ob.flat, Obj.cc, C.flat, T.flat, intt]
@[local simp] theorem ints_flat3 (fl : Bool) (l : List Int) : Ob.flat (.vec fl 1 (ints l)) = true := by simp [Ob.flat, ints, intc, C.flat, T.flat]
abbrev hpV (h : Hp) : V := .agg [.vec 0 h.objects.length 2 0 h.objects.length, .vec 1 h.roots.length 1 0 h.roots.length]
theorem checkedT_ev (h : Hp) (fl : Bool) (h1 : h.objects.length ≤ 1048576) (h2 : ∀ x ∈ h.objects, x.links.length ≤ 1048576) (h3 : h.roots.length ≤ 1048576) (hg : goodHeap h = true) :
    Ev pr (.call 69 [.agg [.vec 0 h.objects.length 2 0 h.objects.length, .vec 1 h.roots.length 1 0 h.roots.length]] [.vec fl 2 (h.objects.map Obj.cc), .vec true 1 (ints h.roots)])
      (.val (.tup [.agg [.vec 0 h.objects.length 2 0 h.objects.length, .vec 1 h.roots.length 1 0 h.roots.length], bl true]) [.vec fl 2 (h.objects.map Obj.cc), .vec true 1 (ints h.roots)]) := by
  have e := GoodHeapI_ev h h1 h2 h3
  rw [hg] at e
  let t0 : Tp pr := .m (show (decide ((List.map Obj.cc h.objects).length = h.objects.length ∧ (0 : Nat) + h.objects.length ≤ h.objects.length)) = true by simp)
  let t1 : Tp pr := .n .rows (show (List.map (fun x => List.map C.fz x) (List.take h.objects.length (List.drop (0 : Nat) (List.map Obj.cc h.objects)))) = List.map Obj.ce h.objects by simp)
  let t2 : Tp pr := .m (show (decide ((ints h.roots).length = h.roots.length ∧ (0 : Nat) + h.roots.length ≤ h.roots.length)) = true by simp)
  let t3 : Tp pr := .n .rows (show (List.map (fun x => List.map C.fz x) (List.take h.roots.length (List.drop (0 : Nat) (ints h.roots)))) = List.map intt h.roots by simp)
  exact .tp [t0, t1, t2, t3, .a (e), .m (rfl : true = true), .b (rfl : false = false)] (by kernel_rfl)
theorem checkedF_ev (h : Hp) (fl : Bool) (h1 : h.objects.length ≤ 1048576) (h2 : ∀ x ∈ h.objects, x.links.length ≤ 1048576) (h3 : h.roots.length ≤ 1048576) (hg : goodHeap h = false) :
    Ev pr (.call 69 [.agg [.vec 0 h.objects.length 2 0 h.objects.length, .vec 1 h.roots.length 1 0 h.roots.length]] [.vec fl 2 (h.objects.map Obj.cc), .vec true 1 (ints h.roots)])
      (.val (.tup [.agg [.t .nils, .t .nils], bl false]) [.vec fl 2 (h.objects.map Obj.cc), .vec true 1 (ints h.roots)]) := by
  have e := GoodHeapI_ev h h1 h2 h3
  rw [hg] at e
  let t0 : Tp pr := .m (show (decide ((List.map Obj.cc h.objects).length = h.objects.length ∧ (0 : Nat) + h.objects.length ≤ h.objects.length)) = true by simp)
  let t1 : Tp pr := .n .rows (show (List.map (fun x => List.map C.fz x) (List.take h.objects.length (List.drop (0 : Nat) (List.map Obj.cc h.objects)))) = List.map Obj.ce h.objects by simp)
  let t2 : Tp pr := .m (show (decide ((ints h.roots).length = h.roots.length ∧ (0 : Nat) + h.roots.length ≤ h.roots.length)) = true by simp)
  let t3 : Tp pr := .n .rows (show (List.map (fun x => List.map C.fz x) (List.take h.roots.length (List.drop (0 : Nat) (ints h.roots)))) = List.map intt h.roots by simp)
  exact .tp [t0, t1, t2, t3, .a (e), .m (rfl : true = true), .b (rfl : true = true)] (by kernel_rfl)
theorem tellT_ev (h : Hp) (fl : Bool) (h1 : h.objects.length ≤ 1048576) (h2 : ∀ x ∈ h.objects, x.links.length ≤ 1048576) (h3 : h.roots.length ≤ 1048576) (hg : goodHeap h = true) :
    Ev pr (.call 71 [.agg [.vec 0 h.objects.length 2 0 h.objects.length, .vec 1 h.roots.length 1 0 h.roots.length]] [.vec fl 2 (h.objects.map Obj.cc), .vec true 1 (ints h.roots)])
      (.val (.tup [.agg [.vec 0 h.objects.length 2 0 h.objects.length, .vec 1 h.roots.length 1 0 h.roots.length], bl true]) [.vec fl 2 (h.objects.map Obj.cc), .vec true 1 (ints h.roots)]) := by
  have e := GoodHeapS_ev h h1 h2 h3
  rw [hg] at e
  let t0 : Tp pr := .m (show (decide ((List.map Obj.cc h.objects).length = h.objects.length ∧ (0 : Nat) + h.objects.length ≤ h.objects.length)) = true by simp)
  let t1 : Tp pr := .n .rows (show (List.map (fun x => List.map C.fz x) (List.take h.objects.length (List.drop (0 : Nat) (List.map Obj.cc h.objects)))) = List.map Obj.ce h.objects by simp)
  let t2 : Tp pr := .m (show (decide ((ints h.roots).length = h.roots.length ∧ (0 : Nat) + h.roots.length ≤ h.roots.length)) = true by simp)
  let t3 : Tp pr := .n .rows (show (List.map (fun x => List.map C.fz x) (List.take h.roots.length (List.drop (0 : Nat) (ints h.roots)))) = List.map intt h.roots by simp)
  exact .tp [t0, t1, t2, t3, .a (e), .m (rfl : true = true), .b (rfl : false = false)] (by kernel_rfl)
theorem tellF_ev (h : Hp) (fl : Bool) (h1 : h.objects.length ≤ 1048576) (h2 : ∀ x ∈ h.objects, x.links.length ≤ 1048576) (h3 : h.roots.length ≤ 1048576) (hg : goodHeap h = false) :
    Ev pr (.call 71 [.agg [.vec 0 h.objects.length 2 0 h.objects.length, .vec 1 h.roots.length 1 0 h.roots.length]] [.vec fl 2 (h.objects.map Obj.cc), .vec true 1 (ints h.roots)])
      (.val (.tup [.agg [.t .nils, .t .nils], bl false]) [.vec fl 2 (h.objects.map Obj.cc), .vec true 1 (ints h.roots)]) := by
  have e := GoodHeapS_ev h h1 h2 h3
  rw [hg] at e
  let t0 : Tp pr := .m (show (decide ((List.map Obj.cc h.objects).length = h.objects.length ∧ (0 : Nat) + h.objects.length ≤ h.objects.length)) = true by simp)
  let t1 : Tp pr := .n .rows (show (List.map (fun x => List.map C.fz x) (List.take h.objects.length (List.drop (0 : Nat) (List.map Obj.cc h.objects)))) = List.map Obj.ce h.objects by simp)
  let t2 : Tp pr := .m (show (decide ((ints h.roots).length = h.roots.length ∧ (0 : Nat) + h.roots.length ≤ h.roots.length)) = true by simp)
  let t3 : Tp pr := .n .rows (show (List.map (fun x => List.map C.fz x) (List.take h.roots.length (List.drop (0 : Nat) (ints h.roots)))) = List.map intt h.roots by simp)
  exact .tp [t0, t1, t2, t3, .a (e), .m (rfl : true = true), .b (rfl : true = true)] (by kernel_rfl)
end Go.Ev

/- Copies of heaps: rows repeated. -/
namespace Go.Ev
set_option linter.unusedVariables false
set_option linter.unusedSimpArgs false
open Go.Proofs
set_option maxRecDepth 100000
set_option linter.unusedVariables false
set_option maxHeartbeats 4000000
theorem mul64_ev : ∀ (n : Nat), n ≤ 40 → Ev pr (.call 116 [.t (.int .u64 1), .t (.int .u64 n)] []) (.val (.tup [.t (.int .u64 0), .t (.int .u64 n)]) [])
  | 0, _ => by (
    let t0 : Tp pr := .i (rfl : ((1 : Int) : Int) = (1 : Int))
    let t2 : Tp pr := .i (rfl : ((0 : Int) : Int) = (0 : Int))
    let t3 : Tp pr := .i (rfl : ((0 : Int) : Int) = (0 : Int))
    let t5 : Tp pr := .i (rfl : ((0 : Int) : Int) = (0 : Int))
    let t6 : Tp pr := .i (rfl : ((0 : Int) : Int) = (0 : Int))
    let t7 : Tp pr := .i (rfl : ((0 : Int) : Int) = (0 : Int))
    let t9 : Tp pr := .i (rfl : ((0 : Int) : Int) = (0 : Int))
    let t10 : Tp pr := .i (rfl : ((0 : Int) : Int) = (0 : Int))
    let t11 : Tp pr := .i (rfl : ((0 : Int) : Int) = (0 : Int))
    let t13 : Tp pr := .i (rfl : ((0 : Int) : Int) = (0 : Int))
    let t14 : Tp pr := .i (rfl : ((0 : Int) : Int) = (0 : Int))
    let t15 : Tp pr := .i (rfl : ((0 : Int) : Int) = (0 : Int))
    let t16 : Tp pr := .i (rfl : ((0 : Int) : Int) = (0 : Int))
    let t17 : Tp pr := .i (rfl : ((0 : Int) : Int) = (0 : Int))
    let t19 : Tp pr := .i (rfl : ((0 : Int) : Int) = (0 : Int))
    let t20 : Tp pr := .i (rfl : ((0 : Int) : Int) = (0 : Int))
    let t21 : Tp pr := .i (rfl : ((0 : Int) : Int) = (0 : Int))
    exact .tp [t0, .m (rfl : true = true), t2, t3, .m (rfl : true = true), t5, t6, t7, .m (rfl : true = true), t9, t10, t11, .m (rfl : true = true), t13, t14, t15, t16, t17, .m (rfl : true = true), t19, t20, t21] (by kernel_rfl))
  | 1, _ => by (
    let t0 : Tp pr := .i (rfl : ((1 : Int) : Int) = (1 : Int))
    let t2 : Tp pr := .i (rfl : ((0 : Int) : Int) = (0 : Int))
    let t3 : Tp pr := .i (rfl : ((1 : Int) : Int) = (1 : Int))
    let t5 : Tp pr := .i (rfl : ((0 : Int) : Int) = (0 : Int))
    let t6 : Tp pr := .i (rfl : ((1 : Int) : Int) = (1 : Int))
    let t7 : Tp pr := .i (rfl : ((0 : Int) : Int) = (0 : Int))
    let t9 : Tp pr := .i (rfl : ((0 : Int) : Int) = (0 : Int))
    let t10 : Tp pr := .i (rfl : ((0 : Int) : Int) = (0 : Int))
    let t11 : Tp pr := .i (rfl : ((0 : Int) : Int) = (0 : Int))
    let t13 : Tp pr := .i (rfl : ((0 : Int) : Int) = (0 : Int))
    let t14 : Tp pr := .i (rfl : ((0 : Int) : Int) = (0 : Int))
    let t15 : Tp pr := .i (rfl : ((0 : Int) : Int) = (0 : Int))
    let t16 : Tp pr := .i (rfl : ((0 : Int) : Int) = (0 : Int))
    let t17 : Tp pr := .i (rfl : ((0 : Int) : Int) = (0 : Int))
    let t19 : Tp pr := .i (rfl : ((0 : Int) : Int) = (0 : Int))
    let t20 : Tp pr := .i (rfl : ((0 : Int) : Int) = (0 : Int))
    let t21 : Tp pr := .i (rfl : ((1 : Int) : Int) = (1 : Int))
    exact .tp [t0, .m (rfl : true = true), t2, t3, .m (rfl : true = true), t5, t6, t7, .m (rfl : true = true), t9, t10, t11, .m (rfl : true = true), t13, t14, t15, t16, t17, .m (rfl : true = true), t19, t20, t21] (by kernel_rfl))
  | 2, _ => by (
    let t0 : Tp pr := .i (rfl : ((1 : Int) : Int) = (1 : Int))
    let t2 : Tp pr := .i (rfl : ((0 : Int) : Int) = (0 : Int))
    let t3 : Tp pr := .i (rfl : ((2 : Int) : Int) = (2 : Int))
    let t5 : Tp pr := .i (rfl : ((0 : Int) : Int) = (0 : Int))
    let t6 : Tp pr := .i (rfl : ((2 : Int) : Int) = (2 : Int))
    let t7 : Tp pr := .i (rfl : ((0 : Int) : Int) = (0 : Int))
    let t9 : Tp pr := .i (rfl : ((0 : Int) : Int) = (0 : Int))
    let t10 : Tp pr := .i (rfl : ((0 : Int) : Int) = (0 : Int))
    let t11 : Tp pr := .i (rfl : ((0 : Int) : Int) = (0 : Int))
    let t13 : Tp pr := .i (rfl : ((0 : Int) : Int) = (0 : Int))
    let t14 : Tp pr := .i (rfl : ((0 : Int) : Int) = (0 : Int))
    let t15 : Tp pr := .i (rfl : ((0 : Int) : Int) = (0 : Int))
    let t16 : Tp pr := .i (rfl : ((0 : Int) : Int) = (0 : Int))
    let t17 : Tp pr := .i (rfl : ((0 : Int) : Int) = (0 : Int))
    let t19 : Tp pr := .i (rfl : ((0 : Int) : Int) = (0 : Int))
    let t20 : Tp pr := .i (rfl : ((0 : Int) : Int) = (0 : Int))
    let t21 : Tp pr := .i (rfl : ((2 : Int) : Int) = (2 : Int))
    exact .tp [t0, .m (rfl : true = true), t2, t3, .m (rfl : true = true), t5, t6, t7, .m (rfl : true = true), t9, t10, t11, .m (rfl : true = true), t13, t14, t15, t16, t17, .m (rfl : true = true), t19, t20, t21] (by kernel_rfl))
  | 3, _ => by (
    let t0 : Tp pr := .i (rfl : ((1 : Int) : Int) = (1 : Int))
    let t2 : Tp pr := .i (rfl : ((0 : Int) : Int) = (0 : Int))
    let t3 : Tp pr := .i (rfl : ((3 : Int) : Int) = (3 : Int))
    let t5 : Tp pr := .i (rfl : ((0 : Int) : Int) = (0 : Int))
    let t6 : Tp pr := .i (rfl : ((3 : Int) : Int) = (3 : Int))
    let t7 : Tp pr := .i (rfl : ((0 : Int) : Int) = (0 : Int))
    let t9 : Tp pr := .i (rfl : ((0 : Int) : Int) = (0 : Int))
    let t10 : Tp pr := .i (rfl : ((0 : Int) : Int) = (0 : Int))
    let t11 : Tp pr := .i (rfl : ((0 : Int) : Int) = (0 : Int))
    let t13 : Tp pr := .i (rfl : ((0 : Int) : Int) = (0 : Int))
    let t14 : Tp pr := .i (rfl : ((0 : Int) : Int) = (0 : Int))
    let t15 : Tp pr := .i (rfl : ((0 : Int) : Int) = (0 : Int))
    let t16 : Tp pr := .i (rfl : ((0 : Int) : Int) = (0 : Int))
    let t17 : Tp pr := .i (rfl : ((0 : Int) : Int) = (0 : Int))
    let t19 : Tp pr := .i (rfl : ((0 : Int) : Int) = (0 : Int))
    let t20 : Tp pr := .i (rfl : ((0 : Int) : Int) = (0 : Int))
    let t21 : Tp pr := .i (rfl : ((3 : Int) : Int) = (3 : Int))
    exact .tp [t0, .m (rfl : true = true), t2, t3, .m (rfl : true = true), t5, t6, t7, .m (rfl : true = true), t9, t10, t11, .m (rfl : true = true), t13, t14, t15, t16, t17, .m (rfl : true = true), t19, t20, t21] (by kernel_rfl))
  | 4, _ => by (
    let t0 : Tp pr := .i (rfl : ((1 : Int) : Int) = (1 : Int))
    let t2 : Tp pr := .i (rfl : ((0 : Int) : Int) = (0 : Int))
    let t3 : Tp pr := .i (rfl : ((4 : Int) : Int) = (4 : Int))
    let t5 : Tp pr := .i (rfl : ((0 : Int) : Int) = (0 : Int))
    let t6 : Tp pr := .i (rfl : ((4 : Int) : Int) = (4 : Int))
    let t7 : Tp pr := .i (rfl : ((0 : Int) : Int) = (0 : Int))
    let t9 : Tp pr := .i (rfl : ((0 : Int) : Int) = (0 : Int))
    let t10 : Tp pr := .i (rfl : ((0 : Int) : Int) = (0 : Int))
    let t11 : Tp pr := .i (rfl : ((0 : Int) : Int) = (0 : Int))
    let t13 : Tp pr := .i (rfl : ((0 : Int) : Int) = (0 : Int))
    let t14 : Tp pr := .i (rfl : ((0 : Int) : Int) = (0 : Int))
    let t15 : Tp pr := .i (rfl : ((0 : Int) : Int) = (0 : Int))
    let t16 : Tp pr := .i (rfl : ((0 : Int) : Int) = (0 : Int))
    let t17 : Tp pr := .i (rfl : ((0 : Int) : Int) = (0 : Int))
    let t19 : Tp pr := .i (rfl : ((0 : Int) : Int) = (0 : Int))
    let t20 : Tp pr := .i (rfl : ((0 : Int) : Int) = (0 : Int))
    let t21 : Tp pr := .i (rfl : ((4 : Int) : Int) = (4 : Int))
    exact .tp [t0, .m (rfl : true = true), t2, t3, .m (rfl : true = true), t5, t6, t7, .m (rfl : true = true), t9, t10, t11, .m (rfl : true = true), t13, t14, t15, t16, t17, .m (rfl : true = true), t19, t20, t21] (by kernel_rfl))
  | 5, _ => by (
    let t0 : Tp pr := .i (rfl : ((1 : Int) : Int) = (1 : Int))
    let t2 : Tp pr := .i (rfl : ((0 : Int) : Int) = (0 : Int))
    let t3 : Tp pr := .i (rfl : ((5 : Int) : Int) = (5 : Int))
    let t5 : Tp pr := .i (rfl : ((0 : Int) : Int) = (0 : Int))
    let t6 : Tp pr := .i (rfl : ((5 : Int) : Int) = (5 : Int))
    let t7 : Tp pr := .i (rfl : ((0 : Int) : Int) = (0 : Int))
    let t9 : Tp pr := .i (rfl : ((0 : Int) : Int) = (0 : Int))
    let t10 : Tp pr := .i (rfl : ((0 : Int) : Int) = (0 : Int))
    let t11 : Tp pr := .i (rfl : ((0 : Int) : Int) = (0 : Int))
    let t13 : Tp pr := .i (rfl : ((0 : Int) : Int) = (0 : Int))
    let t14 : Tp pr := .i (rfl : ((0 : Int) : Int) = (0 : Int))
    let t15 : Tp pr := .i (rfl : ((0 : Int) : Int) = (0 : Int))
    let t16 : Tp pr := .i (rfl : ((0 : Int) : Int) = (0 : Int))
    let t17 : Tp pr := .i (rfl : ((0 : Int) : Int) = (0 : Int))
    let t19 : Tp pr := .i (rfl : ((0 : Int) : Int) = (0 : Int))
    let t20 : Tp pr := .i (rfl : ((0 : Int) : Int) = (0 : Int))
    let t21 : Tp pr := .i (rfl : ((5 : Int) : Int) = (5 : Int))
    exact .tp [t0, .m (rfl : true = true), t2, t3, .m (rfl : true = true), t5, t6, t7, .m (rfl : true = true), t9, t10, t11, .m (rfl : true = true), t13, t14, t15, t16, t17, .m (rfl : true = true), t19, t20, t21] (by kernel_rfl))
  | 6, _ => by (
    let t0 : Tp pr := .i (rfl : ((1 : Int) : Int) = (1 : Int))
    let t2 : Tp pr := .i (rfl : ((0 : Int) : Int) = (0 : Int))
    let t3 : Tp pr := .i (rfl : ((6 : Int) : Int) = (6 : Int))
    let t5 : Tp pr := .i (rfl : ((0 : Int) : Int) = (0 : Int))
    let t6 : Tp pr := .i (rfl : ((6 : Int) : Int) = (6 : Int))
    let t7 : Tp pr := .i (rfl : ((0 : Int) : Int) = (0 : Int))
    let t9 : Tp pr := .i (rfl : ((0 : Int) : Int) = (0 : Int))
    let t10 : Tp pr := .i (rfl : ((0 : Int) : Int) = (0 : Int))
    let t11 : Tp pr := .i (rfl : ((0 : Int) : Int) = (0 : Int))
    let t13 : Tp pr := .i (rfl : ((0 : Int) : Int) = (0 : Int))
    let t14 : Tp pr := .i (rfl : ((0 : Int) : Int) = (0 : Int))
    let t15 : Tp pr := .i (rfl : ((0 : Int) : Int) = (0 : Int))
    let t16 : Tp pr := .i (rfl : ((0 : Int) : Int) = (0 : Int))
    let t17 : Tp pr := .i (rfl : ((0 : Int) : Int) = (0 : Int))
    let t19 : Tp pr := .i (rfl : ((0 : Int) : Int) = (0 : Int))
    let t20 : Tp pr := .i (rfl : ((0 : Int) : Int) = (0 : Int))
    let t21 : Tp pr := .i (rfl : ((6 : Int) : Int) = (6 : Int))
    exact .tp [t0, .m (rfl : true = true), t2, t3, .m (rfl : true = true), t5, t6, t7, .m (rfl : true = true), t9, t10, t11, .m (rfl : true = true), t13, t14, t15, t16, t17, .m (rfl : true = true), t19, t20, t21] (by kernel_rfl))
  | 7, _ => by (
    let t0 : Tp pr := .i (rfl : ((1 : Int) : Int) = (1 : Int))
    let t2 : Tp pr := .i (rfl : ((0 : Int) : Int) = (0 : Int))
    let t3 : Tp pr := .i (rfl : ((7 : Int) : Int) = (7 : Int))
    let t5 : Tp pr := .i (rfl : ((0 : Int) : Int) = (0 : Int))
    let t6 : Tp pr := .i (rfl : ((7 : Int) : Int) = (7 : Int))
    let t7 : Tp pr := .i (rfl : ((0 : Int) : Int) = (0 : Int))
    let t9 : Tp pr := .i (rfl : ((0 : Int) : Int) = (0 : Int))
    let t10 : Tp pr := .i (rfl : ((0 : Int) : Int) = (0 : Int))
    let t11 : Tp pr := .i (rfl : ((0 : Int) : Int) = (0 : Int))
    let t13 : Tp pr := .i (rfl : ((0 : Int) : Int) = (0 : Int))
    let t14 : Tp pr := .i (rfl : ((0 : Int) : Int) = (0 : Int))
    let t15 : Tp pr := .i (rfl : ((0 : Int) : Int) = (0 : Int))
    let t16 : Tp pr := .i (rfl : ((0 : Int) : Int) = (0 : Int))
    let t17 : Tp pr := .i (rfl : ((0 : Int) : Int) = (0 : Int))
    let t19 : Tp pr := .i (rfl : ((0 : Int) : Int) = (0 : Int))
    let t20 : Tp pr := .i (rfl : ((0 : Int) : Int) = (0 : Int))
    let t21 : Tp pr := .i (rfl : ((7 : Int) : Int) = (7 : Int))
    exact .tp [t0, .m (rfl : true = true), t2, t3, .m (rfl : true = true), t5, t6, t7, .m (rfl : true = true), t9, t10, t11, .m (rfl : true = true), t13, t14, t15, t16, t17, .m (rfl : true = true), t19, t20, t21] (by kernel_rfl))
  | 8, _ => by (
    let t0 : Tp pr := .i (rfl : ((1 : Int) : Int) = (1 : Int))
    let t2 : Tp pr := .i (rfl : ((0 : Int) : Int) = (0 : Int))
    let t3 : Tp pr := .i (rfl : ((8 : Int) : Int) = (8 : Int))
    let t5 : Tp pr := .i (rfl : ((0 : Int) : Int) = (0 : Int))
    let t6 : Tp pr := .i (rfl : ((8 : Int) : Int) = (8 : Int))
    let t7 : Tp pr := .i (rfl : ((0 : Int) : Int) = (0 : Int))
    let t9 : Tp pr := .i (rfl : ((0 : Int) : Int) = (0 : Int))
    let t10 : Tp pr := .i (rfl : ((0 : Int) : Int) = (0 : Int))
    let t11 : Tp pr := .i (rfl : ((0 : Int) : Int) = (0 : Int))
    let t13 : Tp pr := .i (rfl : ((0 : Int) : Int) = (0 : Int))
    let t14 : Tp pr := .i (rfl : ((0 : Int) : Int) = (0 : Int))
    let t15 : Tp pr := .i (rfl : ((0 : Int) : Int) = (0 : Int))
    let t16 : Tp pr := .i (rfl : ((0 : Int) : Int) = (0 : Int))
    let t17 : Tp pr := .i (rfl : ((0 : Int) : Int) = (0 : Int))
    let t19 : Tp pr := .i (rfl : ((0 : Int) : Int) = (0 : Int))
    let t20 : Tp pr := .i (rfl : ((0 : Int) : Int) = (0 : Int))
    let t21 : Tp pr := .i (rfl : ((8 : Int) : Int) = (8 : Int))
    exact .tp [t0, .m (rfl : true = true), t2, t3, .m (rfl : true = true), t5, t6, t7, .m (rfl : true = true), t9, t10, t11, .m (rfl : true = true), t13, t14, t15, t16, t17, .m (rfl : true = true), t19, t20, t21] (by kernel_rfl))
  | 9, _ => by (
    let t0 : Tp pr := .i (rfl : ((1 : Int) : Int) = (1 : Int))
    let t2 : Tp pr := .i (rfl : ((0 : Int) : Int) = (0 : Int))
    let t3 : Tp pr := .i (rfl : ((9 : Int) : Int) = (9 : Int))
    let t5 : Tp pr := .i (rfl : ((0 : Int) : Int) = (0 : Int))
    let t6 : Tp pr := .i (rfl : ((9 : Int) : Int) = (9 : Int))
    let t7 : Tp pr := .i (rfl : ((0 : Int) : Int) = (0 : Int))
    let t9 : Tp pr := .i (rfl : ((0 : Int) : Int) = (0 : Int))
    let t10 : Tp pr := .i (rfl : ((0 : Int) : Int) = (0 : Int))
    let t11 : Tp pr := .i (rfl : ((0 : Int) : Int) = (0 : Int))
    let t13 : Tp pr := .i (rfl : ((0 : Int) : Int) = (0 : Int))
    let t14 : Tp pr := .i (rfl : ((0 : Int) : Int) = (0 : Int))
    let t15 : Tp pr := .i (rfl : ((0 : Int) : Int) = (0 : Int))
    let t16 : Tp pr := .i (rfl : ((0 : Int) : Int) = (0 : Int))
    let t17 : Tp pr := .i (rfl : ((0 : Int) : Int) = (0 : Int))
    let t19 : Tp pr := .i (rfl : ((0 : Int) : Int) = (0 : Int))
    let t20 : Tp pr := .i (rfl : ((0 : Int) : Int) = (0 : Int))
    let t21 : Tp pr := .i (rfl : ((9 : Int) : Int) = (9 : Int))
    exact .tp [t0, .m (rfl : true = true), t2, t3, .m (rfl : true = true), t5, t6, t7, .m (rfl : true = true), t9, t10, t11, .m (rfl : true = true), t13, t14, t15, t16, t17, .m (rfl : true = true), t19, t20, t21] (by kernel_rfl))
  | 10, _ => by (
    let t0 : Tp pr := .i (rfl : ((1 : Int) : Int) = (1 : Int))
    let t2 : Tp pr := .i (rfl : ((0 : Int) : Int) = (0 : Int))
    let t3 : Tp pr := .i (rfl : ((10 : Int) : Int) = (10 : Int))
    let t5 : Tp pr := .i (rfl : ((0 : Int) : Int) = (0 : Int))
    let t6 : Tp pr := .i (rfl : ((10 : Int) : Int) = (10 : Int))
    let t7 : Tp pr := .i (rfl : ((0 : Int) : Int) = (0 : Int))
    let t9 : Tp pr := .i (rfl : ((0 : Int) : Int) = (0 : Int))
    let t10 : Tp pr := .i (rfl : ((0 : Int) : Int) = (0 : Int))
    let t11 : Tp pr := .i (rfl : ((0 : Int) : Int) = (0 : Int))
    let t13 : Tp pr := .i (rfl : ((0 : Int) : Int) = (0 : Int))
    let t14 : Tp pr := .i (rfl : ((0 : Int) : Int) = (0 : Int))
    let t15 : Tp pr := .i (rfl : ((0 : Int) : Int) = (0 : Int))
    let t16 : Tp pr := .i (rfl : ((0 : Int) : Int) = (0 : Int))
    let t17 : Tp pr := .i (rfl : ((0 : Int) : Int) = (0 : Int))
    let t19 : Tp pr := .i (rfl : ((0 : Int) : Int) = (0 : Int))
    let t20 : Tp pr := .i (rfl : ((0 : Int) : Int) = (0 : Int))
    let t21 : Tp pr := .i (rfl : ((10 : Int) : Int) = (10 : Int))
    exact .tp [t0, .m (rfl : true = true), t2, t3, .m (rfl : true = true), t5, t6, t7, .m (rfl : true = true), t9, t10, t11, .m (rfl : true = true), t13, t14, t15, t16, t17, .m (rfl : true = true), t19, t20, t21] (by kernel_rfl))
  | 11, _ => by (
    let t0 : Tp pr := .i (rfl : ((1 : Int) : Int) = (1 : Int))
    let t2 : Tp pr := .i (rfl : ((0 : Int) : Int) = (0 : Int))
    let t3 : Tp pr := .i (rfl : ((11 : Int) : Int) = (11 : Int))
    let t5 : Tp pr := .i (rfl : ((0 : Int) : Int) = (0 : Int))
    let t6 : Tp pr := .i (rfl : ((11 : Int) : Int) = (11 : Int))
    let t7 : Tp pr := .i (rfl : ((0 : Int) : Int) = (0 : Int))
    let t9 : Tp pr := .i (rfl : ((0 : Int) : Int) = (0 : Int))
    let t10 : Tp pr := .i (rfl : ((0 : Int) : Int) = (0 : Int))
    let t11 : Tp pr := .i (rfl : ((0 : Int) : Int) = (0 : Int))
    let t13 : Tp pr := .i (rfl : ((0 : Int) : Int) = (0 : Int))
    let t14 : Tp pr := .i (rfl : ((0 : Int) : Int) = (0 : Int))
    let t15 : Tp pr := .i (rfl : ((0 : Int) : Int) = (0 : Int))
    let t16 : Tp pr := .i (rfl : ((0 : Int) : Int) = (0 : Int))
    let t17 : Tp pr := .i (rfl : ((0 : Int) : Int) = (0 : Int))
    let t19 : Tp pr := .i (rfl : ((0 : Int) : Int) = (0 : Int))
    let t20 : Tp pr := .i (rfl : ((0 : Int) : Int) = (0 : Int))
    let t21 : Tp pr := .i (rfl : ((11 : Int) : Int) = (11 : Int))
    exact .tp [t0, .m (rfl : true = true), t2, t3, .m (rfl : true = true), t5, t6, t7, .m (rfl : true = true), t9, t10, t11, .m (rfl : true = true), t13, t14, t15, t16, t17, .m (rfl : true = true), t19, t20, t21] (by kernel_rfl))
  | 12, _ => by (
    let t0 : Tp pr := .i (rfl : ((1 : Int) : Int) = (1 : Int))
    let t2 : Tp pr := .i (rfl : ((0 : Int) : Int) = (0 : Int))
    let t3 : Tp pr := .i (rfl : ((12 : Int) : Int) = (12 : Int))
    let t5 : Tp pr := .i (rfl : ((0 : Int) : Int) = (0 : Int))
    let t6 : Tp pr := .i (rfl : ((12 : Int) : Int) = (12 : Int))
    let t7 : Tp pr := .i (rfl : ((0 : Int) : Int) = (0 : Int))
    let t9 : Tp pr := .i (rfl : ((0 : Int) : Int) = (0 : Int))
    let t10 : Tp pr := .i (rfl : ((0 : Int) : Int) = (0 : Int))
    let t11 : Tp pr := .i (rfl : ((0 : Int) : Int) = (0 : Int))
    let t13 : Tp pr := .i (rfl : ((0 : Int) : Int) = (0 : Int))
    let t14 : Tp pr := .i (rfl : ((0 : Int) : Int) = (0 : Int))
    let t15 : Tp pr := .i (rfl : ((0 : Int) : Int) = (0 : Int))
    let t16 : Tp pr := .i (rfl : ((0 : Int) : Int) = (0 : Int))
    let t17 : Tp pr := .i (rfl : ((0 : Int) : Int) = (0 : Int))
    let t19 : Tp pr := .i (rfl : ((0 : Int) : Int) = (0 : Int))
    let t20 : Tp pr := .i (rfl : ((0 : Int) : Int) = (0 : Int))
    let t21 : Tp pr := .i (rfl : ((12 : Int) : Int) = (12 : Int))
    exact .tp [t0, .m (rfl : true = true), t2, t3, .m (rfl : true = true), t5, t6, t7, .m (rfl : true = true), t9, t10, t11, .m (rfl : true = true), t13, t14, t15, t16, t17, .m (rfl : true = true), t19, t20, t21] (by kernel_rfl))
  | 13, _ => by (
    let t0 : Tp pr := .i (rfl : ((1 : Int) : Int) = (1 : Int))
    let t2 : Tp pr := .i (rfl : ((0 : Int) : Int) = (0 : Int))
    let t3 : Tp pr := .i (rfl : ((13 : Int) : Int) = (13 : Int))
    let t5 : Tp pr := .i (rfl : ((0 : Int) : Int) = (0 : Int))
    let t6 : Tp pr := .i (rfl : ((13 : Int) : Int) = (13 : Int))
    let t7 : Tp pr := .i (rfl : ((0 : Int) : Int) = (0 : Int))
    let t9 : Tp pr := .i (rfl : ((0 : Int) : Int) = (0 : Int))
    let t10 : Tp pr := .i (rfl : ((0 : Int) : Int) = (0 : Int))
    let t11 : Tp pr := .i (rfl : ((0 : Int) : Int) = (0 : Int))
    let t13 : Tp pr := .i (rfl : ((0 : Int) : Int) = (0 : Int))
    let t14 : Tp pr := .i (rfl : ((0 : Int) : Int) = (0 : Int))
    let t15 : Tp pr := .i (rfl : ((0 : Int) : Int) = (0 : Int))
    let t16 : Tp pr := .i (rfl : ((0 : Int) : Int) = (0 : Int))
    let t17 : Tp pr := .i (rfl : ((0 : Int) : Int) = (0 : Int))
    let t19 : Tp pr := .i (rfl : ((0 : Int) : Int) = (0 : Int))
    let t20 : Tp pr := .i (rfl : ((0 : Int) : Int) = (0 : Int))
    let t21 : Tp pr := .i (rfl : ((13 : Int) : Int) = (13 : Int))
    exact .tp [t0, .m (rfl : true = true), t2, t3, .m (rfl : true = true), t5, t6, t7, .m (rfl : true = true), t9, t10, t11, .m (rfl : true = true), t13, t14, t15, t16, t17, .m (rfl : true = true), t19, t20, t21] (by kernel_rfl))
  | 14, _ => by (
    let t0 : Tp pr := .i (rfl : ((1 : Int) : Int) = (1 : Int))
    let t2 : Tp pr := .i (rfl : ((0 : Int) : Int) = (0 : Int))
    let t3 : Tp pr := .i (rfl : ((14 : Int) : Int) = (14 : Int))
    let t5 : Tp pr := .i (rfl : ((0 : Int) : Int) = (0 : Int))
    let t6 : Tp pr := .i (rfl : ((14 : Int) : Int) = (14 : Int))
    let t7 : Tp pr := .i (rfl : ((0 : Int) : Int) = (0 : Int))
    let t9 : Tp pr := .i (rfl : ((0 : Int) : Int) = (0 : Int))
    let t10 : Tp pr := .i (rfl : ((0 : Int) : Int) = (0 : Int))
    let t11 : Tp pr := .i (rfl : ((0 : Int) : Int) = (0 : Int))
    let t13 : Tp pr := .i (rfl : ((0 : Int) : Int) = (0 : Int))
    let t14 : Tp pr := .i (rfl : ((0 : Int) : Int) = (0 : Int))
    let t15 : Tp pr := .i (rfl : ((0 : Int) : Int) = (0 : Int))
    let t16 : Tp pr := .i (rfl : ((0 : Int) : Int) = (0 : Int))
    let t17 : Tp pr := .i (rfl : ((0 : Int) : Int) = (0 : Int))
    let t19 : Tp pr := .i (rfl : ((0 : Int) : Int) = (0 : Int))
    let t20 : Tp pr := .i (rfl : ((0 : Int) : Int) = (0 : Int))
    let t21 : Tp pr := .i (rfl : ((14 : Int) : Int) = (14 : Int))
    exact .tp [t0, .m (rfl : true = true), t2, t3, .m (rfl : true = true), t5, t6, t7, .m (rfl : true = true), t9, t10, t11, .m (rfl : true = true), t13, t14, t15, t16, t17, .m (rfl : true = true), t19, t20, t21] (by kernel_rfl))
  | 15, _ => by (
    let t0 : Tp pr := .i (rfl : ((1 : Int) : Int) = (1 : Int))
    let t2 : Tp pr := .i (rfl : ((0 : Int) : Int) = (0 : Int))
    let t3 : Tp pr := .i (rfl : ((15 : Int) : Int) = (15 : Int))
    let t5 : Tp pr := .i (rfl : ((0 : Int) : Int) = (0 : Int))
    let t6 : Tp pr := .i (rfl : ((15 : Int) : Int) = (15 : Int))
    let t7 : Tp pr := .i (rfl : ((0 : Int) : Int) = (0 : Int))
    let t9 : Tp pr := .i (rfl : ((0 : Int) : Int) = (0 : Int))
    let t10 : Tp pr := .i (rfl : ((0 : Int) : Int) = (0 : Int))
    let t11 : Tp pr := .i (rfl : ((0 : Int) : Int) = (0 : Int))
    let t13 : Tp pr := .i (rfl : ((0 : Int) : Int) = (0 : Int))
    let t14 : Tp pr := .i (rfl : ((0 : Int) : Int) = (0 : Int))
    let t15 : Tp pr := .i (rfl : ((0 : Int) : Int) = (0 : Int))
    let t16 : Tp pr := .i (rfl : ((0 : Int) : Int) = (0 : Int))
    let t17 : Tp pr := .i (rfl : ((0 : Int) : Int) = (0 : Int))
    let t19 : Tp pr := .i (rfl : ((0 : Int) : Int) = (0 : Int))
    let t20 : Tp pr := .i (rfl : ((0 : Int) : Int) = (0 : Int))
    let t21 : Tp pr := .i (rfl : ((15 : Int) : Int) = (15 : Int))
    exact .tp [t0, .m (rfl : true = true), t2, t3, .m (rfl : true = true), t5, t6, t7, .m (rfl : true = true), t9, t10, t11, .m (rfl : true = true), t13, t14, t15, t16, t17, .m (rfl : true = true), t19, t20, t21] (by kernel_rfl))
  | 16, _ => by (
    let t0 : Tp pr := .i (rfl : ((1 : Int) : Int) = (1 : Int))
    let t2 : Tp pr := .i (rfl : ((0 : Int) : Int) = (0 : Int))
    let t3 : Tp pr := .i (rfl : ((16 : Int) : Int) = (16 : Int))
    let t5 : Tp pr := .i (rfl : ((0 : Int) : Int) = (0 : Int))
    let t6 : Tp pr := .i (rfl : ((16 : Int) : Int) = (16 : Int))
    let t7 : Tp pr := .i (rfl : ((0 : Int) : Int) = (0 : Int))
    let t9 : Tp pr := .i (rfl : ((0 : Int) : Int) = (0 : Int))
    let t10 : Tp pr := .i (rfl : ((0 : Int) : Int) = (0 : Int))
    let t11 : Tp pr := .i (rfl : ((0 : Int) : Int) = (0 : Int))
    let t13 : Tp pr := .i (rfl : ((0 : Int) : Int) = (0 : Int))
    let t14 : Tp pr := .i (rfl : ((0 : Int) : Int) = (0 : Int))
    let t15 : Tp pr := .i (rfl : ((0 : Int) : Int) = (0 : Int))
    let t16 : Tp pr := .i (rfl : ((0 : Int) : Int) = (0 : Int))
    let t17 : Tp pr := .i (rfl : ((0 : Int) : Int) = (0 : Int))
    let t19 : Tp pr := .i (rfl : ((0 : Int) : Int) = (0 : Int))
    let t20 : Tp pr := .i (rfl : ((0 : Int) : Int) = (0 : Int))
    let t21 : Tp pr := .i (rfl : ((16 : Int) : Int) = (16 : Int))
    exact .tp [t0, .m (rfl : true = true), t2, t3, .m (rfl : true = true), t5, t6, t7, .m (rfl : true = true), t9, t10, t11, .m (rfl : true = true), t13, t14, t15, t16, t17, .m (rfl : true = true), t19, t20, t21] (by kernel_rfl))
  | 17, _ => by (
    let t0 : Tp pr := .i (rfl : ((1 : Int) : Int) = (1 : Int))
    let t2 : Tp pr := .i (rfl : ((0 : Int) : Int) = (0 : Int))
    let t3 : Tp pr := .i (rfl : ((17 : Int) : Int) = (17 : Int))
    let t5 : Tp pr := .i (rfl : ((0 : Int) : Int) = (0 : Int))
    let t6 : Tp pr := .i (rfl : ((17 : Int) : Int) = (17 : Int))
    let t7 : Tp pr := .i (rfl : ((0 : Int) : Int) = (0 : Int))
    let t9 : Tp pr := .i (rfl : ((0 : Int) : Int) = (0 : Int))
    let t10 : Tp pr := .i (rfl : ((0 : Int) : Int) = (0 : Int))
    let t11 : Tp pr := .i (rfl : ((0 : Int) : Int) = (0 : Int))
    let t13 : Tp pr := .i (rfl : ((0 : Int) : Int) = (0 : Int))
    let t14 : Tp pr := .i (rfl : ((0 : Int) : Int) = (0 : Int))
    let t15 : Tp pr := .i (rfl : ((0 : Int) : Int) = (0 : Int))
    let t16 : Tp pr := .i (rfl : ((0 : Int) : Int) = (0 : Int))
    let t17 : Tp pr := .i (rfl : ((0 : Int) : Int) = (0 : Int))
    let t19 : Tp pr := .i (rfl : ((0 : Int) : Int) = (0 : Int))
    let t20 : Tp pr := .i (rfl : ((0 : Int) : Int) = (0 : Int))
    let t21 : Tp pr := .i (rfl : ((17 : Int) : Int) = (17 : Int))
    exact .tp [t0, .m (rfl : true = true), t2, t3, .m (rfl : true = true), t5, t6, t7, .m (rfl : true = true), t9, t10, t11, .m (rfl : true = true), t13, t14, t15, t16, t17, .m (rfl : true = true), t19, t20, t21] (by kernel_rfl))
  | 18, _ => by (
    let t0 : Tp pr := .i (rfl : ((1 : Int) : Int) = (1 : Int))
    let t2 : Tp pr := .i (rfl : ((0 : Int) : Int) = (0 : Int))
    let t3 : Tp pr := .i (rfl : ((18 : Int) : Int) = (18 : Int))
    let t5 : Tp pr := .i (rfl : ((0 : Int) : Int) = (0 : Int))
    let t6 : Tp pr := .i (rfl : ((18 : Int) : Int) = (18 : Int))
    let t7 : Tp pr := .i (rfl : ((0 : Int) : Int) = (0 : Int))
    let t9 : Tp pr := .i (rfl : ((0 : Int) : Int) = (0 : Int))
    let t10 : Tp pr := .i (rfl : ((0 : Int) : Int) = (0 : Int))
    let t11 : Tp pr := .i (rfl : ((0 : Int) : Int) = (0 : Int))
    let t13 : Tp pr := .i (rfl : ((0 : Int) : Int) = (0 : Int))
    let t14 : Tp pr := .i (rfl : ((0 : Int) : Int) = (0 : Int))
    let t15 : Tp pr := .i (rfl : ((0 : Int) : Int) = (0 : Int))
    let t16 : Tp pr := .i (rfl : ((0 : Int) : Int) = (0 : Int))
    let t17 : Tp pr := .i (rfl : ((0 : Int) : Int) = (0 : Int))
    let t19 : Tp pr := .i (rfl : ((0 : Int) : Int) = (0 : Int))
    let t20 : Tp pr := .i (rfl : ((0 : Int) : Int) = (0 : Int))
    let t21 : Tp pr := .i (rfl : ((18 : Int) : Int) = (18 : Int))
    exact .tp [t0, .m (rfl : true = true), t2, t3, .m (rfl : true = true), t5, t6, t7, .m (rfl : true = true), t9, t10, t11, .m (rfl : true = true), t13, t14, t15, t16, t17, .m (rfl : true = true), t19, t20, t21] (by kernel_rfl))
  | 19, _ => by (
    let t0 : Tp pr := .i (rfl : ((1 : Int) : Int) = (1 : Int))
    let t2 : Tp pr := .i (rfl : ((0 : Int) : Int) = (0 : Int))
    let t3 : Tp pr := .i (rfl : ((19 : Int) : Int) = (19 : Int))
    let t5 : Tp pr := .i (rfl : ((0 : Int) : Int) = (0 : Int))
    let t6 : Tp pr := .i (rfl : ((19 : Int) : Int) = (19 : Int))
    let t7 : Tp pr := .i (rfl : ((0 : Int) : Int) = (0 : Int))
    let t9 : Tp pr := .i (rfl : ((0 : Int) : Int) = (0 : Int))
    let t10 : Tp pr := .i (rfl : ((0 : Int) : Int) = (0 : Int))
    let t11 : Tp pr := .i (rfl : ((0 : Int) : Int) = (0 : Int))
    let t13 : Tp pr := .i (rfl : ((0 : Int) : Int) = (0 : Int))
    let t14 : Tp pr := .i (rfl : ((0 : Int) : Int) = (0 : Int))
    let t15 : Tp pr := .i (rfl : ((0 : Int) : Int) = (0 : Int))
    let t16 : Tp pr := .i (rfl : ((0 : Int) : Int) = (0 : Int))
    let t17 : Tp pr := .i (rfl : ((0 : Int) : Int) = (0 : Int))
    let t19 : Tp pr := .i (rfl : ((0 : Int) : Int) = (0 : Int))
    let t20 : Tp pr := .i (rfl : ((0 : Int) : Int) = (0 : Int))
    let t21 : Tp pr := .i (rfl : ((19 : Int) : Int) = (19 : Int))
    exact .tp [t0, .m (rfl : true = true), t2, t3, .m (rfl : true = true), t5, t6, t7, .m (rfl : true = true), t9, t10, t11, .m (rfl : true = true), t13, t14, t15, t16, t17, .m (rfl : true = true), t19, t20, t21] (by kernel_rfl))
  | 20, _ => by (
    let t0 : Tp pr := .i (rfl : ((1 : Int) : Int) = (1 : Int))
    let t2 : Tp pr := .i (rfl : ((0 : Int) : Int) = (0 : Int))
    let t3 : Tp pr := .i (rfl : ((20 : Int) : Int) = (20 : Int))
    let t5 : Tp pr := .i (rfl : ((0 : Int) : Int) = (0 : Int))
    let t6 : Tp pr := .i (rfl : ((20 : Int) : Int) = (20 : Int))
    let t7 : Tp pr := .i (rfl : ((0 : Int) : Int) = (0 : Int))
    let t9 : Tp pr := .i (rfl : ((0 : Int) : Int) = (0 : Int))
    let t10 : Tp pr := .i (rfl : ((0 : Int) : Int) = (0 : Int))
    let t11 : Tp pr := .i (rfl : ((0 : Int) : Int) = (0 : Int))
    let t13 : Tp pr := .i (rfl : ((0 : Int) : Int) = (0 : Int))
    let t14 : Tp pr := .i (rfl : ((0 : Int) : Int) = (0 : Int))
    let t15 : Tp pr := .i (rfl : ((0 : Int) : Int) = (0 : Int))
    let t16 : Tp pr := .i (rfl : ((0 : Int) : Int) = (0 : Int))
    let t17 : Tp pr := .i (rfl : ((0 : Int) : Int) = (0 : Int))
    let t19 : Tp pr := .i (rfl : ((0 : Int) : Int) = (0 : Int))
    let t20 : Tp pr := .i (rfl : ((0 : Int) : Int) = (0 : Int))
    let t21 : Tp pr := .i (rfl : ((20 : Int) : Int) = (20 : Int))
    exact .tp [t0, .m (rfl : true = true), t2, t3, .m (rfl : true = true), t5, t6, t7, .m (rfl : true = true), t9, t10, t11, .m (rfl : true = true), t13, t14, t15, t16, t17, .m (rfl : true = true), t19, t20, t21] (by kernel_rfl))
  | 21, _ => by (
    let t0 : Tp pr := .i (rfl : ((1 : Int) : Int) = (1 : Int))
    let t2 : Tp pr := .i (rfl : ((0 : Int) : Int) = (0 : Int))
    let t3 : Tp pr := .i (rfl : ((21 : Int) : Int) = (21 : Int))
    let t5 : Tp pr := .i (rfl : ((0 : Int) : Int) = (0 : Int))
    let t6 : Tp pr := .i (rfl : ((21 : Int) : Int) = (21 : Int))
    let t7 : Tp pr := .i (rfl : ((0 : Int) : Int) = (0 : Int))
    let t9 : Tp pr := .i (rfl : ((0 : Int) : Int) = (0 : Int))
    let t10 : Tp pr := .i (rfl : ((0 : Int) : Int) = (0 : Int))
    let t11 : Tp pr := .i (rfl : ((0 : Int) : Int) = (0 : Int))
    let t13 : Tp pr := .i (rfl : ((0 : Int) : Int) = (0 : Int))
    let t14 : Tp pr := .i (rfl : ((0 : Int) : Int) = (0 : Int))
    let t15 : Tp pr := .i (rfl : ((0 : Int) : Int) = (0 : Int))
    let t16 : Tp pr := .i (rfl : ((0 : Int) : Int) = (0 : Int))
    let t17 : Tp pr := .i (rfl : ((0 : Int) : Int) = (0 : Int))
    let t19 : Tp pr := .i (rfl : ((0 : Int) : Int) = (0 : Int))
    let t20 : Tp pr := .i (rfl : ((0 : Int) : Int) = (0 : Int))
    let t21 : Tp pr := .i (rfl : ((21 : Int) : Int) = (21 : Int))
    exact .tp [t0, .m (rfl : true = true), t2, t3, .m (rfl : true = true), t5, t6, t7, .m (rfl : true = true), t9, t10, t11, .m (rfl : true = true), t13, t14, t15, t16, t17, .m (rfl : true = true), t19, t20, t21] (by kernel_rfl))
  | 22, _ => by (
    let t0 : Tp pr := .i (rfl : ((1 : Int) : Int) = (1 : Int))
    let t2 : Tp pr := .i (rfl : ((0 : Int) : Int) = (0 : Int))
    let t3 : Tp pr := .i (rfl : ((22 : Int) : Int) = (22 : Int))
    let t5 : Tp pr := .i (rfl : ((0 : Int) : Int) = (0 : Int))
    let t6 : Tp pr := .i (rfl : ((22 : Int) : Int) = (22 : Int))
    let t7 : Tp pr := .i (rfl : ((0 : Int) : Int) = (0 : Int))
    let t9 : Tp pr := .i (rfl : ((0 : Int) : Int) = (0 : Int))
    let t10 : Tp pr := .i (rfl : ((0 : Int) : Int) = (0 : Int))
    let t11 : Tp pr := .i (rfl : ((0 : Int) : Int) = (0 : Int))
    let t13 : Tp pr := .i (rfl : ((0 : Int) : Int) = (0 : Int))
    let t14 : Tp pr := .i (rfl : ((0 : Int) : Int) = (0 : Int))
    let t15 : Tp pr := .i (rfl : ((0 : Int) : Int) = (0 : Int))
    let t16 : Tp pr := .i (rfl : ((0 : Int) : Int) = (0 : Int))
    let t17 : Tp pr := .i (rfl : ((0 : Int) : Int) = (0 : Int))
    let t19 : Tp pr := .i (rfl : ((0 : Int) : Int) = (0 : Int))
    let t20 : Tp pr := .i (rfl : ((0 : Int) : Int) = (0 : Int))
    let t21 : Tp pr := .i (rfl : ((22 : Int) : Int) = (22 : Int))
    exact .tp [t0, .m (rfl : true = true), t2, t3, .m (rfl : true = true), t5, t6, t7, .m (rfl : true = true), t9, t10, t11, .m (rfl : true = true), t13, t14, t15, t16, t17, .m (rfl : true = true), t19, t20, t21] (by kernel_rfl))
  | 23, _ => by (
    let t0 : Tp pr := .i (rfl : ((1 : Int) : Int) = (1 : Int))
    let t2 : Tp pr := .i (rfl : ((0 : Int) : Int) = (0 : Int))
    let t3 : Tp pr := .i (rfl : ((23 : Int) : Int) = (23 : Int))
    let t5 : Tp pr := .i (rfl : ((0 : Int) : Int) = (0 : Int))
    let t6 : Tp pr := .i (rfl : ((23 : Int) : Int) = (23 : Int))
    let t7 : Tp pr := .i (rfl : ((0 : Int) : Int) = (0 : Int))
    let t9 : Tp pr := .i (rfl : ((0 : Int) : Int) = (0 : Int))
    let t10 : Tp pr := .i (rfl : ((0 : Int) : Int) = (0 : Int))
    let t11 : Tp pr := .i (rfl : ((0 : Int) : Int) = (0 : Int))
    let t13 : Tp pr := .i (rfl : ((0 : Int) : Int) = (0 : Int))
    let t14 : Tp pr := .i (rfl : ((0 : Int) : Int) = (0 : Int))
    let t15 : Tp pr := .i (rfl : ((0 : Int) : Int) = (0 : Int))
    let t16 : Tp pr := .i (rfl : ((0 : Int) : Int) = (0 : Int))
    let t17 : Tp pr := .i (rfl : ((0 : Int) : Int) = (0 : Int))
    let t19 : Tp pr := .i (rfl : ((0 : Int) : Int) = (0 : Int))
    let t20 : Tp pr := .i (rfl : ((0 : Int) : Int) = (0 : Int))
    let t21 : Tp pr := .i (rfl : ((23 : Int) : Int) = (23 : Int))
    exact .tp [t0, .m (rfl : true = true), t2, t3, .m (rfl : true = true), t5, t6, t7, .m (rfl : true = true), t9, t10, t11, .m (rfl : true = true), t13, t14, t15, t16, t17, .m (rfl : true = true), t19, t20, t21] (by kernel_rfl))
  | 24, _ => by (
    let t0 : Tp pr := .i (rfl : ((1 : Int) : Int) = (1 : Int))
    let t2 : Tp pr := .i (rfl : ((0 : Int) : Int) = (0 : Int))
    let t3 : Tp pr := .i (rfl : ((24 : Int) : Int) = (24 : Int))
    let t5 : Tp pr := .i (rfl : ((0 : Int) : Int) = (0 : Int))
    let t6 : Tp pr := .i (rfl : ((24 : Int) : Int) = (24 : Int))
    let t7 : Tp pr := .i (rfl : ((0 : Int) : Int) = (0 : Int))
    let t9 : Tp pr := .i (rfl : ((0 : Int) : Int) = (0 : Int))
    let t10 : Tp pr := .i (rfl : ((0 : Int) : Int) = (0 : Int))
    let t11 : Tp pr := .i (rfl : ((0 : Int) : Int) = (0 : Int))
    let t13 : Tp pr := .i (rfl : ((0 : Int) : Int) = (0 : Int))
    let t14 : Tp pr := .i (rfl : ((0 : Int) : Int) = (0 : Int))
    let t15 : Tp pr := .i (rfl : ((0 : Int) : Int) = (0 : Int))
    let t16 : Tp pr := .i (rfl : ((0 : Int) : Int) = (0 : Int))
    let t17 : Tp pr := .i (rfl : ((0 : Int) : Int) = (0 : Int))
    let t19 : Tp pr := .i (rfl : ((0 : Int) : Int) = (0 : Int))
    let t20 : Tp pr := .i (rfl : ((0 : Int) : Int) = (0 : Int))
    let t21 : Tp pr := .i (rfl : ((24 : Int) : Int) = (24 : Int))
    exact .tp [t0, .m (rfl : true = true), t2, t3, .m (rfl : true = true), t5, t6, t7, .m (rfl : true = true), t9, t10, t11, .m (rfl : true = true), t13, t14, t15, t16, t17, .m (rfl : true = true), t19, t20, t21] (by kernel_rfl))
  | 25, _ => by (
    let t0 : Tp pr := .i (rfl : ((1 : Int) : Int) = (1 : Int))
    let t2 : Tp pr := .i (rfl : ((0 : Int) : Int) = (0 : Int))
    let t3 : Tp pr := .i (rfl : ((25 : Int) : Int) = (25 : Int))
    let t5 : Tp pr := .i (rfl : ((0 : Int) : Int) = (0 : Int))
    let t6 : Tp pr := .i (rfl : ((25 : Int) : Int) = (25 : Int))
    let t7 : Tp pr := .i (rfl : ((0 : Int) : Int) = (0 : Int))
    let t9 : Tp pr := .i (rfl : ((0 : Int) : Int) = (0 : Int))
    let t10 : Tp pr := .i (rfl : ((0 : Int) : Int) = (0 : Int))
    let t11 : Tp pr := .i (rfl : ((0 : Int) : Int) = (0 : Int))
    let t13 : Tp pr := .i (rfl : ((0 : Int) : Int) = (0 : Int))
    let t14 : Tp pr := .i (rfl : ((0 : Int) : Int) = (0 : Int))
    let t15 : Tp pr := .i (rfl : ((0 : Int) : Int) = (0 : Int))
    let t16 : Tp pr := .i (rfl : ((0 : Int) : Int) = (0 : Int))
    let t17 : Tp pr := .i (rfl : ((0 : Int) : Int) = (0 : Int))
    let t19 : Tp pr := .i (rfl : ((0 : Int) : Int) = (0 : Int))
    let t20 : Tp pr := .i (rfl : ((0 : Int) : Int) = (0 : Int))
    let t21 : Tp pr := .i (rfl : ((25 : Int) : Int) = (25 : Int))
    exact .tp [t0, .m (rfl : true = true), t2, t3, .m (rfl : true = true), t5, t6, t7, .m (rfl : true = true), t9, t10, t11, .m (rfl : true = true), t13, t14, t15, t16, t17, .m (rfl : true = true), t19, t20, t21] (by kernel_rfl))
  | 26, _ => by (
    let t0 : Tp pr := .i (rfl : ((1 : Int) : Int) = (1 : Int))
    let t2 : Tp pr := .i (rfl : ((0 : Int) : Int) = (0 : Int))
    let t3 : Tp pr := .i (rfl : ((26 : Int) : Int) = (26 : Int))
    let t5 : Tp pr := .i (rfl : ((0 : Int) : Int) = (0 : Int))
    let t6 : Tp pr := .i (rfl : ((26 : Int) : Int) = (26 : Int))
    let t7 : Tp pr := .i (rfl : ((0 : Int) : Int) = (0 : Int))
    let t9 : Tp pr := .i (rfl : ((0 : Int) : Int) = (0 : Int))
    let t10 : Tp pr := .i (rfl : ((0 : Int) : Int) = (0 : Int))
    let t11 : Tp pr := .i (rfl : ((0 : Int) : Int) = (0 : Int))
    let t13 : Tp pr := .i (rfl : ((0 : Int) : Int) = (0 : Int))
    let t14 : Tp pr := .i (rfl : ((0 : Int) : Int) = (0 : Int))
    let t15 : Tp pr := .i (rfl : ((0 : Int) : Int) = (0 : Int))
    let t16 : Tp pr := .i (rfl : ((0 : Int) : Int) = (0 : Int))
    let t17 : Tp pr := .i (rfl : ((0 : Int) : Int) = (0 : Int))
    let t19 : Tp pr := .i (rfl : ((0 : Int) : Int) = (0 : Int))
    let t20 : Tp pr := .i (rfl : ((0 : Int) : Int) = (0 : Int))
    let t21 : Tp pr := .i (rfl : ((26 : Int) : Int) = (26 : Int))
    exact .tp [t0, .m (rfl : true = true), t2, t3, .m (rfl : true = true), t5, t6, t7, .m (rfl : true = true), t9, t10, t11, .m (rfl : true = true), t13, t14, t15, t16, t17, .m (rfl : true = true), t19, t20, t21] (by kernel_rfl))
  | 27, _ => by (
    let t0 : Tp pr := .i (rfl : ((1 : Int) : Int) = (1 : Int))
    let t2 : Tp pr := .i (rfl : ((0 : Int) : Int) = (0 : Int))
    let t3 : Tp pr := .i (rfl : ((27 : Int) : Int) = (27 : Int))
    let t5 : Tp pr := .i (rfl : ((0 : Int) : Int) = (0 : Int))
    let t6 : Tp pr := .i (rfl : ((27 : Int) : Int) = (27 : Int))
    let t7 : Tp pr := .i (rfl : ((0 : Int) : Int) = (0 : Int))
    let t9 : Tp pr := .i (rfl : ((0 : Int) : Int) = (0 : Int))
    let t10 : Tp pr := .i (rfl : ((0 : Int) : Int) = (0 : Int))
    let t11 : Tp pr := .i (rfl : ((0 : Int) : Int) = (0 : Int))
    let t13 : Tp pr := .i (rfl : ((0 : Int) : Int) = (0 : Int))
    let t14 : Tp pr := .i (rfl : ((0 : Int) : Int) = (0 : Int))
    let t15 : Tp pr := .i (rfl : ((0 : Int) : Int) = (0 : Int))
    let t16 : Tp pr := .i (rfl : ((0 : Int) : Int) = (0 : Int))
    let t17 : Tp pr := .i (rfl : ((0 : Int) : Int) = (0 : Int))
    let t19 : Tp pr := .i (rfl : ((0 : Int) : Int) = (0 : Int))
    let t20 : Tp pr := .i (rfl : ((0 : Int) : Int) = (0 : Int))
    let t21 : Tp pr := .i (rfl : ((27 : Int) : Int) = (27 : Int))
    exact .tp [t0, .m (rfl : true = true), t2, t3, .m (rfl : true = true), t5, t6, t7, .m (rfl : true = true), t9, t10, t11, .m (rfl : true = true), t13, t14, t15, t16, t17, .m (rfl : true = true), t19, t20, t21] (by kernel_rfl))
  | 28, _ => by (
    let t0 : Tp pr := .i (rfl : ((1 : Int) : Int) = (1 : Int))
    let t2 : Tp pr := .i (rfl : ((0 : Int) : Int) = (0 : Int))
    let t3 : Tp pr := .i (rfl : ((28 : Int) : Int) = (28 : Int))
    let t5 : Tp pr := .i (rfl : ((0 : Int) : Int) = (0 : Int))
    let t6 : Tp pr := .i (rfl : ((28 : Int) : Int) = (28 : Int))
    let t7 : Tp pr := .i (rfl : ((0 : Int) : Int) = (0 : Int))
    let t9 : Tp pr := .i (rfl : ((0 : Int) : Int) = (0 : Int))
    let t10 : Tp pr := .i (rfl : ((0 : Int) : Int) = (0 : Int))
    let t11 : Tp pr := .i (rfl : ((0 : Int) : Int) = (0 : Int))
    let t13 : Tp pr := .i (rfl : ((0 : Int) : Int) = (0 : Int))
    let t14 : Tp pr := .i (rfl : ((0 : Int) : Int) = (0 : Int))
    let t15 : Tp pr := .i (rfl : ((0 : Int) : Int) = (0 : Int))
    let t16 : Tp pr := .i (rfl : ((0 : Int) : Int) = (0 : Int))
    let t17 : Tp pr := .i (rfl : ((0 : Int) : Int) = (0 : Int))
    let t19 : Tp pr := .i (rfl : ((0 : Int) : Int) = (0 : Int))
    let t20 : Tp pr := .i (rfl : ((0 : Int) : Int) = (0 : Int))
    let t21 : Tp pr := .i (rfl : ((28 : Int) : Int) = (28 : Int))
    exact .tp [t0, .m (rfl : true = true), t2, t3, .m (rfl : true = true), t5, t6, t7, .m (rfl : true = true), t9, t10, t11, .m (rfl : true = true), t13, t14, t15, t16, t17, .m (rfl : true = true), t19, t20, t21] (by kernel_rfl))
  | 29, _ => by (
    let t0 : Tp pr := .i (rfl : ((1 : Int) : Int) = (1 : Int))
    let t2 : Tp pr := .i (rfl : ((0 : Int) : Int) = (0 : Int))
    let t3 : Tp pr := .i (rfl : ((29 : Int) : Int) = (29 : Int))
    let t5 : Tp pr := .i (rfl : ((0 : Int) : Int) = (0 : Int))
    let t6 : Tp pr := .i (rfl : ((29 : Int) : Int) = (29 : Int))
    let t7 : Tp pr := .i (rfl : ((0 : Int) : Int) = (0 : Int))
    let t9 : Tp pr := .i (rfl : ((0 : Int) : Int) = (0 : Int))
    let t10 : Tp pr := .i (rfl : ((0 : Int) : Int) = (0 : Int))
    let t11 : Tp pr := .i (rfl : ((0 : Int) : Int) = (0 : Int))
    let t13 : Tp pr := .i (rfl : ((0 : Int) : Int) = (0 : Int))
    let t14 : Tp pr := .i (rfl : ((0 : Int) : Int) = (0 : Int))
    let t15 : Tp pr := .i (rfl : ((0 : Int) : Int) = (0 : Int))
    let t16 : Tp pr := .i (rfl : ((0 : Int) : Int) = (0 : Int))
    let t17 : Tp pr := .i (rfl : ((0 : Int) : Int) = (0 : Int))
    let t19 : Tp pr := .i (rfl : ((0 : Int) : Int) = (0 : Int))
    let t20 : Tp pr := .i (rfl : ((0 : Int) : Int) = (0 : Int))
    let t21 : Tp pr := .i (rfl : ((29 : Int) : Int) = (29 : Int))
    exact .tp [t0, .m (rfl : true = true), t2, t3, .m (rfl : true = true), t5, t6, t7, .m (rfl : true = true), t9, t10, t11, .m (rfl : true = true), t13, t14, t15, t16, t17, .m (rfl : true = true), t19, t20, t21] (by kernel_rfl))
  | 30, _ => by (
    let t0 : Tp pr := .i (rfl : ((1 : Int) : Int) = (1 : Int))
    let t2 : Tp pr := .i (rfl : ((0 : Int) : Int) = (0 : Int))
    let t3 : Tp pr := .i (rfl : ((30 : Int) : Int) = (30 : Int))
    let t5 : Tp pr := .i (rfl : ((0 : Int) : Int) = (0 : Int))
    let t6 : Tp pr := .i (rfl : ((30 : Int) : Int) = (30 : Int))
    let t7 : Tp pr := .i (rfl : ((0 : Int) : Int) = (0 : Int))
    let t9 : Tp pr := .i (rfl : ((0 : Int) : Int) = (0 : Int))
    let t10 : Tp pr := .i (rfl : ((0 : Int) : Int) = (0 : Int))
    let t11 : Tp pr := .i (rfl : ((0 : Int) : Int) = (0 : Int))
    let t13 : Tp pr := .i (rfl : ((0 : Int) : Int) = (0 : Int))
    let t14 : Tp pr := .i (rfl : ((0 : Int) : Int) = (0 : Int))
    let t15 : Tp pr := .i (rfl : ((0 : Int) : Int) = (0 : Int))
    let t16 : Tp pr := .i (rfl : ((0 : Int) : Int) = (0 : Int))
    let t17 : Tp pr := .i (rfl : ((0 : Int) : Int) = (0 : Int))
    let t19 : Tp pr := .i (rfl : ((0 : Int) : Int) = (0 : Int))
    let t20 : Tp pr := .i (rfl : ((0 : Int) : Int) = (0 : Int))
    let t21 : Tp pr := .i (rfl : ((30 : Int) : Int) = (30 : Int))
    exact .tp [t0, .m (rfl : true = true), t2, t3, .m (rfl : true = true), t5, t6, t7, .m (rfl : true = true), t9, t10, t11, .m (rfl : true = true), t13, t14, t15, t16, t17, .m (rfl : true = true), t19, t20, t21] (by kernel_rfl))
  | 31, _ => by (
    let t0 : Tp pr := .i (rfl : ((1 : Int) : Int) = (1 : Int))
    let t2 : Tp pr := .i (rfl : ((0 : Int) : Int) = (0 : Int))
    let t3 : Tp pr := .i (rfl : ((31 : Int) : Int) = (31 : Int))
    let t5 : Tp pr := .i (rfl : ((0 : Int) : Int) = (0 : Int))
    let t6 : Tp pr := .i (rfl : ((31 : Int) : Int) = (31 : Int))
    let t7 : Tp pr := .i (rfl : ((0 : Int) : Int) = (0 : Int))
    let t9 : Tp pr := .i (rfl : ((0 : Int) : Int) = (0 : Int))
    let t10 : Tp pr := .i (rfl : ((0 : Int) : Int) = (0 : Int))
    let t11 : Tp pr := .i (rfl : ((0 : Int) : Int) = (0 : Int))
    let t13 : Tp pr := .i (rfl : ((0 : Int) : Int) = (0 : Int))
    let t14 : Tp pr := .i (rfl : ((0 : Int) : Int) = (0 : Int))
    let t15 : Tp pr := .i (rfl : ((0 : Int) : Int) = (0 : Int))
    let t16 : Tp pr := .i (rfl : ((0 : Int) : Int) = (0 : Int))
    let t17 : Tp pr := .i (rfl : ((0 : Int) : Int) = (0 : Int))
    let t19 : Tp pr := .i (rfl : ((0 : Int) : Int) = (0 : Int))
    let t20 : Tp pr := .i (rfl : ((0 : Int) : Int) = (0 : Int))
    let t21 : Tp pr := .i (rfl : ((31 : Int) : Int) = (31 : Int))
    exact .tp [t0, .m (rfl : true = true), t2, t3, .m (rfl : true = true), t5, t6, t7, .m (rfl : true = true), t9, t10, t11, .m (rfl : true = true), t13, t14, t15, t16, t17, .m (rfl : true = true), t19, t20, t21] (by kernel_rfl))
  | 32, _ => by (
    let t0 : Tp pr := .i (rfl : ((1 : Int) : Int) = (1 : Int))
    let t2 : Tp pr := .i (rfl : ((0 : Int) : Int) = (0 : Int))
    let t3 : Tp pr := .i (rfl : ((32 : Int) : Int) = (32 : Int))
    let t5 : Tp pr := .i (rfl : ((0 : Int) : Int) = (0 : Int))
    let t6 : Tp pr := .i (rfl : ((32 : Int) : Int) = (32 : Int))
    let t7 : Tp pr := .i (rfl : ((0 : Int) : Int) = (0 : Int))
    let t9 : Tp pr := .i (rfl : ((0 : Int) : Int) = (0 : Int))
    let t10 : Tp pr := .i (rfl : ((0 : Int) : Int) = (0 : Int))
    let t11 : Tp pr := .i (rfl : ((0 : Int) : Int) = (0 : Int))
    let t13 : Tp pr := .i (rfl : ((0 : Int) : Int) = (0 : Int))
    let t14 : Tp pr := .i (rfl : ((0 : Int) : Int) = (0 : Int))
    let t15 : Tp pr := .i (rfl : ((0 : Int) : Int) = (0 : Int))
    let t16 : Tp pr := .i (rfl : ((0 : Int) : Int) = (0 : Int))
    let t17 : Tp pr := .i (rfl : ((0 : Int) : Int) = (0 : Int))
    let t19 : Tp pr := .i (rfl : ((0 : Int) : Int) = (0 : Int))
    let t20 : Tp pr := .i (rfl : ((0 : Int) : Int) = (0 : Int))
    let t21 : Tp pr := .i (rfl : ((32 : Int) : Int) = (32 : Int))
    exact .tp [t0, .m (rfl : true = true), t2, t3, .m (rfl : true = true), t5, t6, t7, .m (rfl : true = true), t9, t10, t11, .m (rfl : true = true), t13, t14, t15, t16, t17, .m (rfl : true = true), t19, t20, t21] (by kernel_rfl))
  | 33, _ => by (
    let t0 : Tp pr := .i (rfl : ((1 : Int) : Int) = (1 : Int))
    let t2 : Tp pr := .i (rfl : ((0 : Int) : Int) = (0 : Int))
    let t3 : Tp pr := .i (rfl : ((33 : Int) : Int) = (33 : Int))
    let t5 : Tp pr := .i (rfl : ((0 : Int) : Int) = (0 : Int))
    let t6 : Tp pr := .i (rfl : ((33 : Int) : Int) = (33 : Int))
    let t7 : Tp pr := .i (rfl : ((0 : Int) : Int) = (0 : Int))
    let t9 : Tp pr := .i (rfl : ((0 : Int) : Int) = (0 : Int))
    let t10 : Tp pr := .i (rfl : ((0 : Int) : Int) = (0 : Int))
    let t11 : Tp pr := .i (rfl : ((0 : Int) : Int) = (0 : Int))
    let t13 : Tp pr := .i (rfl : ((0 : Int) : Int) = (0 : Int))
    let t14 : Tp pr := .i (rfl : ((0 : Int) : Int) = (0 : Int))
    let t15 : Tp pr := .i (rfl : ((0 : Int) : Int) = (0 : Int))
    let t16 : Tp pr := .i (rfl : ((0 : Int) : Int) = (0 : Int))
    let t17 : Tp pr := .i (rfl : ((0 : Int) : Int) = (0 : Int))
    let t19 : Tp pr := .i (rfl : ((0 : Int) : Int) = (0 : Int))
    let t20 : Tp pr := .i (rfl : ((0 : Int) : Int) = (0 : Int))
    let t21 : Tp pr := .i (rfl : ((33 : Int) : Int) = (33 : Int))
    exact .tp [t0, .m (rfl : true = true), t2, t3, .m (rfl : true = true), t5, t6, t7, .m (rfl : true = true), t9, t10, t11, .m (rfl : true = true), t13, t14, t15, t16, t17, .m (rfl : true = true), t19, t20, t21] (by kernel_rfl))
  | 34, _ => by (
    let t0 : Tp pr := .i (rfl : ((1 : Int) : Int) = (1 : Int))
    let t2 : Tp pr := .i (rfl : ((0 : Int) : Int) = (0 : Int))
    let t3 : Tp pr := .i (rfl : ((34 : Int) : Int) = (34 : Int))
    let t5 : Tp pr := .i (rfl : ((0 : Int) : Int) = (0 : Int))
    let t6 : Tp pr := .i (rfl : ((34 : Int) : Int) = (34 : Int))
    let t7 : Tp pr := .i (rfl : ((0 : Int) : Int) = (0 : Int))
    let t9 : Tp pr := .i (rfl : ((0 : Int) : Int) = (0 : Int))
    let t10 : Tp pr := .i (rfl : ((0 : Int) : Int) = (0 : Int))
    let t11 : Tp pr := .i (rfl : ((0 : Int) : Int) = (0 : Int))
    let t13 : Tp pr := .i (rfl : ((0 : Int) : Int) = (0 : Int))
    let t14 : Tp pr := .i (rfl : ((0 : Int) : Int) = (0 : Int))
    let t15 : Tp pr := .i (rfl : ((0 : Int) : Int) = (0 : Int))
    let t16 : Tp pr := .i (rfl : ((0 : Int) : Int) = (0 : Int))
    let t17 : Tp pr := .i (rfl : ((0 : Int) : Int) = (0 : Int))
    let t19 : Tp pr := .i (rfl : ((0 : Int) : Int) = (0 : Int))
    let t20 : Tp pr := .i (rfl : ((0 : Int) : Int) = (0 : Int))
    let t21 : Tp pr := .i (rfl : ((34 : Int) : Int) = (34 : Int))
    exact .tp [t0, .m (rfl : true = true), t2, t3, .m (rfl : true = true), t5, t6, t7, .m (rfl : true = true), t9, t10, t11, .m (rfl : true = true), t13, t14, t15, t16, t17, .m (rfl : true = true), t19, t20, t21] (by kernel_rfl))
  | 35, _ => by (
    let t0 : Tp pr := .i (rfl : ((1 : Int) : Int) = (1 : Int))
    let t2 : Tp pr := .i (rfl : ((0 : Int) : Int) = (0 : Int))
    let t3 : Tp pr := .i (rfl : ((35 : Int) : Int) = (35 : Int))
    let t5 : Tp pr := .i (rfl : ((0 : Int) : Int) = (0 : Int))
    let t6 : Tp pr := .i (rfl : ((35 : Int) : Int) = (35 : Int))
    let t7 : Tp pr := .i (rfl : ((0 : Int) : Int) = (0 : Int))
    let t9 : Tp pr := .i (rfl : ((0 : Int) : Int) = (0 : Int))
    let t10 : Tp pr := .i (rfl : ((0 : Int) : Int) = (0 : Int))
    let t11 : Tp pr := .i (rfl : ((0 : Int) : Int) = (0 : Int))
    let t13 : Tp pr := .i (rfl : ((0 : Int) : Int) = (0 : Int))
    let t14 : Tp pr := .i (rfl : ((0 : Int) : Int) = (0 : Int))
    let t15 : Tp pr := .i (rfl : ((0 : Int) : Int) = (0 : Int))
    let t16 : Tp pr := .i (rfl : ((0 : Int) : Int) = (0 : Int))
    let t17 : Tp pr := .i (rfl : ((0 : Int) : Int) = (0 : Int))
    let t19 : Tp pr := .i (rfl : ((0 : Int) : Int) = (0 : Int))
    let t20 : Tp pr := .i (rfl : ((0 : Int) : Int) = (0 : Int))
    let t21 : Tp pr := .i (rfl : ((35 : Int) : Int) = (35 : Int))
    exact .tp [t0, .m (rfl : true = true), t2, t3, .m (rfl : true = true), t5, t6, t7, .m (rfl : true = true), t9, t10, t11, .m (rfl : true = true), t13, t14, t15, t16, t17, .m (rfl : true = true), t19, t20, t21] (by kernel_rfl))
  | 36, _ => by (
    let t0 : Tp pr := .i (rfl : ((1 : Int) : Int) = (1 : Int))
    let t2 : Tp pr := .i (rfl : ((0 : Int) : Int) = (0 : Int))
    let t3 : Tp pr := .i (rfl : ((36 : Int) : Int) = (36 : Int))
    let t5 : Tp pr := .i (rfl : ((0 : Int) : Int) = (0 : Int))
    let t6 : Tp pr := .i (rfl : ((36 : Int) : Int) = (36 : Int))
    let t7 : Tp pr := .i (rfl : ((0 : Int) : Int) = (0 : Int))
    let t9 : Tp pr := .i (rfl : ((0 : Int) : Int) = (0 : Int))
    let t10 : Tp pr := .i (rfl : ((0 : Int) : Int) = (0 : Int))
    let t11 : Tp pr := .i (rfl : ((0 : Int) : Int) = (0 : Int))
    let t13 : Tp pr := .i (rfl : ((0 : Int) : Int) = (0 : Int))
    let t14 : Tp pr := .i (rfl : ((0 : Int) : Int) = (0 : Int))
    let t15 : Tp pr := .i (rfl : ((0 : Int) : Int) = (0 : Int))
    let t16 : Tp pr := .i (rfl : ((0 : Int) : Int) = (0 : Int))
    let t17 : Tp pr := .i (rfl : ((0 : Int) : Int) = (0 : Int))
    let t19 : Tp pr := .i (rfl : ((0 : Int) : Int) = (0 : Int))
    let t20 : Tp pr := .i (rfl : ((0 : Int) : Int) = (0 : Int))
    let t21 : Tp pr := .i (rfl : ((36 : Int) : Int) = (36 : Int))
    exact .tp [t0, .m (rfl : true = true), t2, t3, .m (rfl : true = true), t5, t6, t7, .m (rfl : true = true), t9, t10, t11, .m (rfl : true = true), t13, t14, t15, t16, t17, .m (rfl : true = true), t19, t20, t21] (by kernel_rfl))
  | 37, _ => by (
    let t0 : Tp pr := .i (rfl : ((1 : Int) : Int) = (1 : Int))
    let t2 : Tp pr := .i (rfl : ((0 : Int) : Int) = (0 : Int))
    let t3 : Tp pr := .i (rfl : ((37 : Int) : Int) = (37 : Int))
    let t5 : Tp pr := .i (rfl : ((0 : Int) : Int) = (0 : Int))
    let t6 : Tp pr := .i (rfl : ((37 : Int) : Int) = (37 : Int))
    let t7 : Tp pr := .i (rfl : ((0 : Int) : Int) = (0 : Int))
    let t9 : Tp pr := .i (rfl : ((0 : Int) : Int) = (0 : Int))
    let t10 : Tp pr := .i (rfl : ((0 : Int) : Int) = (0 : Int))
    let t11 : Tp pr := .i (rfl : ((0 : Int) : Int) = (0 : Int))
    let t13 : Tp pr := .i (rfl : ((0 : Int) : Int) = (0 : Int))
    let t14 : Tp pr := .i (rfl : ((0 : Int) : Int) = (0 : Int))
    let t15 : Tp pr := .i (rfl : ((0 : Int) : Int) = (0 : Int))
    let t16 : Tp pr := .i (rfl : ((0 : Int) : Int) = (0 : Int))
    let t17 : Tp pr := .i (rfl : ((0 : Int) : Int) = (0 : Int))
    let t19 : Tp pr := .i (rfl : ((0 : Int) : Int) = (0 : Int))
    let t20 : Tp pr := .i (rfl : ((0 : Int) : Int) = (0 : Int))
    let t21 : Tp pr := .i (rfl : ((37 : Int) : Int) = (37 : Int))
    exact .tp [t0, .m (rfl : true = true), t2, t3, .m (rfl : true = true), t5, t6, t7, .m (rfl : true = true), t9, t10, t11, .m (rfl : true = true), t13, t14, t15, t16, t17, .m (rfl : true = true), t19, t20, t21] (by kernel_rfl))
  | 38, _ => by (
    let t0 : Tp pr := .i (rfl : ((1 : Int) : Int) = (1 : Int))
    let t2 : Tp pr := .i (rfl : ((0 : Int) : Int) = (0 : Int))
    let t3 : Tp pr := .i (rfl : ((38 : Int) : Int) = (38 : Int))
    let t5 : Tp pr := .i (rfl : ((0 : Int) : Int) = (0 : Int))
    let t6 : Tp pr := .i (rfl : ((38 : Int) : Int) = (38 : Int))
    let t7 : Tp pr := .i (rfl : ((0 : Int) : Int) = (0 : Int))
    let t9 : Tp pr := .i (rfl : ((0 : Int) : Int) = (0 : Int))
    let t10 : Tp pr := .i (rfl : ((0 : Int) : Int) = (0 : Int))
    let t11 : Tp pr := .i (rfl : ((0 : Int) : Int) = (0 : Int))
    let t13 : Tp pr := .i (rfl : ((0 : Int) : Int) = (0 : Int))
    let t14 : Tp pr := .i (rfl : ((0 : Int) : Int) = (0 : Int))
    let t15 : Tp pr := .i (rfl : ((0 : Int) : Int) = (0 : Int))
    let t16 : Tp pr := .i (rfl : ((0 : Int) : Int) = (0 : Int))
    let t17 : Tp pr := .i (rfl : ((0 : Int) : Int) = (0 : Int))
    let t19 : Tp pr := .i (rfl : ((0 : Int) : Int) = (0 : Int))
    let t20 : Tp pr := .i (rfl : ((0 : Int) : Int) = (0 : Int))
    let t21 : Tp pr := .i (rfl : ((38 : Int) : Int) = (38 : Int))
    exact .tp [t0, .m (rfl : true = true), t2, t3, .m (rfl : true = true), t5, t6, t7, .m (rfl : true = true), t9, t10, t11, .m (rfl : true = true), t13, t14, t15, t16, t17, .m (rfl : true = true), t19, t20, t21] (by kernel_rfl))
  | 39, _ => by (
    let t0 : Tp pr := .i (rfl : ((1 : Int) : Int) = (1 : Int))
    let t2 : Tp pr := .i (rfl : ((0 : Int) : Int) = (0 : Int))
    let t3 : Tp pr := .i (rfl : ((39 : Int) : Int) = (39 : Int))
    let t5 : Tp pr := .i (rfl : ((0 : Int) : Int) = (0 : Int))
    let t6 : Tp pr := .i (rfl : ((39 : Int) : Int) = (39 : Int))
    let t7 : Tp pr := .i (rfl : ((0 : Int) : Int) = (0 : Int))
    let t9 : Tp pr := .i (rfl : ((0 : Int) : Int) = (0 : Int))
    let t10 : Tp pr := .i (rfl : ((0 : Int) : Int) = (0 : Int))
    let t11 : Tp pr := .i (rfl : ((0 : Int) : Int) = (0 : Int))
    let t13 : Tp pr := .i (rfl : ((0 : Int) : Int) = (0 : Int))
    let t14 : Tp pr := .i (rfl : ((0 : Int) : Int) = (0 : Int))
    let t15 : Tp pr := .i (rfl : ((0 : Int) : Int) = (0 : Int))
    let t16 : Tp pr := .i (rfl : ((0 : Int) : Int) = (0 : Int))
    let t17 : Tp pr := .i (rfl : ((0 : Int) : Int) = (0 : Int))
    let t19 : Tp pr := .i (rfl : ((0 : Int) : Int) = (0 : Int))
    let t20 : Tp pr := .i (rfl : ((0 : Int) : Int) = (0 : Int))
    let t21 : Tp pr := .i (rfl : ((39 : Int) : Int) = (39 : Int))
    exact .tp [t0, .m (rfl : true = true), t2, t3, .m (rfl : true = true), t5, t6, t7, .m (rfl : true = true), t9, t10, t11, .m (rfl : true = true), t13, t14, t15, t16, t17, .m (rfl : true = true), t19, t20, t21] (by kernel_rfl))
  | 40, _ => by (
    let t0 : Tp pr := .i (rfl : ((1 : Int) : Int) = (1 : Int))
    let t2 : Tp pr := .i (rfl : ((0 : Int) : Int) = (0 : Int))
    let t3 : Tp pr := .i (rfl : ((40 : Int) : Int) = (40 : Int))
    let t5 : Tp pr := .i (rfl : ((0 : Int) : Int) = (0 : Int))
    let t6 : Tp pr := .i (rfl : ((40 : Int) : Int) = (40 : Int))
    let t7 : Tp pr := .i (rfl : ((0 : Int) : Int) = (0 : Int))
    let t9 : Tp pr := .i (rfl : ((0 : Int) : Int) = (0 : Int))
    let t10 : Tp pr := .i (rfl : ((0 : Int) : Int) = (0 : Int))
    let t11 : Tp pr := .i (rfl : ((0 : Int) : Int) = (0 : Int))
    let t13 : Tp pr := .i (rfl : ((0 : Int) : Int) = (0 : Int))
    let t14 : Tp pr := .i (rfl : ((0 : Int) : Int) = (0 : Int))
    let t15 : Tp pr := .i (rfl : ((0 : Int) : Int) = (0 : Int))
    let t16 : Tp pr := .i (rfl : ((0 : Int) : Int) = (0 : Int))
    let t17 : Tp pr := .i (rfl : ((0 : Int) : Int) = (0 : Int))
    let t19 : Tp pr := .i (rfl : ((0 : Int) : Int) = (0 : Int))
    let t20 : Tp pr := .i (rfl : ((0 : Int) : Int) = (0 : Int))
    let t21 : Tp pr := .i (rfl : ((40 : Int) : Int) = (40 : Int))
    exact .tp [t0, .m (rfl : true = true), t2, t3, .m (rfl : true = true), t5, t6, t7, .m (rfl : true = true), t9, t10, t11, .m (rfl : true = true), t13, t14, t15, t16, t17, .m (rfl : true = true), t19, t20, t21] (by kernel_rfl))
  | n + 41, h => absurd h (by omega)
theorem mul_ev (n : Nat) (h : n ≤ 40) : Ev pr (.call 109 [.t (.int .u64 1), .t (.int .u64 n)] []) (.val (.tup [.t (.int .u64 0), .t (.int .u64 n)]) []) := by
  have := mul64_ev n h
  exact .tp [.b (rfl : false = false), .a (this)] (by kernel_rfl)
theorem rep_take {m k n : Nat} (hk : k ≤ m) : List.take k (ints (List.replicate m (-1) ++ List.replicate n 0)) = ints (List.replicate k (-1)) := by
  rw [ints, ← List.map_take, List.take_append_of_le_length (by simpa using hk), List.take_replicate, Nat.min_eq_left hk]
  rfl
theorem rep_drop {m k n : Nat} : List.drop (m + k) (ints (List.replicate m (-1) ++ List.replicate n 0)) = ints (List.replicate (n - k) 0) := by
  rw [ints, ← List.map_drop, List.drop_append, List.drop_of_length_le (by simp), List.drop_replicate]
  simp [ints]
theorem rep_step {m k n : Nat} (hk : k ≤ m) (h : k ≤ n - m) (hm : m ≤ n) : List.take m (ints (List.replicate m (-1) ++ List.replicate (n - m) 0)) ++ (List.take k (ints (List.replicate m (-1) ++ List.replicate (n - m) 0)) ++ List.drop (m + k) (ints (List.replicate m (-1) ++ List.replicate (n - m) 0))) =
    ints (List.replicate (m + k) (-1) ++ List.replicate (n - (m + k)) 0) := by
  rw [rep_take (Nat.le_refl m), rep_take hk, rep_drop, ← ints_app, ← ints_app, ← List.append_assoc, List.replicate_append_replicate, Nat.sub_sub]
theorem repL_ev (n : Nat) (hn : n ≤ 40) : ∀ (q m : Nat), n - m ≤ q → 1 ≤ m → m ≤ n →
    Ev pr (.loop (lq pr 96 0) (at_ [(7, .vec 0 n 1 0 n), (8, i64 m)] [.vec true 1 (ints (List.replicate m (-1) ++ List.replicate (n - m) 0))] 0))
      (.exit 0 (at_ [(7, .vec 0 n 1 0 n)] [.vec true 1 (ints (List.replicate n (-1)))] 0))
  | 0, m, hq, h1, hm => by
    have e : n = m := by omega
    subst e
    rw [show List.replicate (n - n) (0 : Int) = [] by simp]
    let t1 : Tp pr := .b (show (decide ((↑n : Int) < (↑n : Int))) = false by simp)
    exact .tpe [.i (rfl : ((↑n : Int)) = _), t1] (Out.exit (0 : Nat) (at_ [((7 : Nat), V.vec (0 : Nat) n (1 : Nat) (0 : Nat) n)] [Ob.vec true (1 : Nat) (ints (List.replicate n (-1 : Int) ++ []))] (0 : Nat))) (by kernel_rfl) (congrArg (fun x => Out.exit (0 : Nat) (at_ [((7 : Nat), V.vec (0 : Nat) n (1 : Nat) (0 : Nat) n)] [Ob.vec true (1 : Nat) x] (0 : Nat))) (show (ints (List.replicate n (-1 : Int) ++ [])) = (ints (List.replicate n (-1 : Int))) by simp))
  | q + 1, m, hq, h1, hm => by
    by_cases he : n = m
    · subst he
      rw [show List.replicate (n - n) (0 : Int) = [] by simp]
      let t1 : Tp pr := .b (show (decide ((↑n : Int) < (↑n : Int))) = false by simp)
      exact .tpe [.i (rfl : ((↑n : Int)) = _), t1] (Out.exit (0 : Nat) (at_ [((7 : Nat), V.vec (0 : Nat) n (1 : Nat) (0 : Nat) n)] [Ob.vec true (1 : Nat) (ints (List.replicate n (-1 : Int) ++ []))] (0 : Nat))) (by kernel_rfl) (congrArg (fun x => Out.exit (0 : Nat) (at_ [((7 : Nat), V.vec (0 : Nat) n (1 : Nat) (0 : Nat) n)] [Ob.vec true (1 : Nat) x] (0 : Nat))) (show (ints (List.replicate n (-1 : Int) ++ [])) = (ints (List.replicate n (-1 : Int))) by simp))
    · by_cases hh : m ≤ n - m
      · have ih := repL_ev n hn q (m + m) (by omega) (by omega) (by omega)
        rw [← rep_step (Nat.le_refl m) hh hm] at ih
        let t1 : Tp pr := .b (show (decide ((↑m : Int) < (↑n : Int))) = true by (simp; omega))
        let t5 : Tp pr := .m (show (decide ((0 : Int) ≤ (↑m : Int) ∧ (↑m : Int) ≤ (↑n : Int) ∧ (0 : Nat) + (↑n : Int).toNat ≤ n)) = true by simp [*])
        let t6 : Tp pr := .c (show ((0 : Nat) + (↑m : Int).toNat : Nat) = m by omega)
        let t7 : Tp pr := .c (show ((↑n : Int).toNat - (↑m : Int).toNat : Nat) = n - m by omega)
        let t11 : Tp pr := .m (show (decide ((0 : Int) ≤ (0 : Int) ∧ (0 : Int) ≤ (↑m : Int) ∧ (0 : Nat) + (↑m : Int).toNat ≤ n)) = true by simp [*])
        let t13 : Tp pr := .c (show ((↑m : Int).toNat - (0 : Nat) : Nat) = m by omega)
        let t15 : Tp pr := .b (show (decide (m ≤ n - m)) = true by (simp; omega))
        let t16 : Tp pr := .m (show (decide ((ints (List.replicate m (-1 : Int) ++ List.replicate (n - m) (0 : Int))).length = n ∧ (0 : Nat) + m ≤ n)) = true by simp [*])
        let t17 : Tp pr := .m (show (decide ((ints (List.replicate m (-1 : Int) ++ List.replicate (n - m) (0 : Int))).length = n ∧ m + (n - m) ≤ n ∧ (List.take m (List.drop (0 : Nat) (ints (List.replicate m (-1 : Int) ++ List.replicate (n - m) (0 : Int))))).length ≤ n - m)) = true by simp [*])
        let t18 : Tp pr := .c (show ((List.take m (List.drop (0 : Nat) (ints (List.replicate m (-1 : Int) ++ List.replicate (n - m) (0 : Int))))).length : Nat) = m by simp)
        let t19 : Tp pr := .n .crows (show (((List.take m (ints (List.replicate m (-1 : Int) ++ List.replicate (n - m) (0 : Int)))).append (List.take m (List.drop (0 : Nat) (ints (List.replicate m (-1 : Int) ++ List.replicate (n - m) (0 : Int)))))).append (List.drop (m + (List.take m (List.drop (0 : Nat) (ints (List.replicate m (-1 : Int) ++ List.replicate (n - m) (0 : Int))))).length) (ints (List.replicate m (-1 : Int) ++ List.replicate (n - m) (0 : Int))))) = List.take m (ints (List.replicate m (-1 : Int) ++ List.replicate (n - m) (0 : Int))) ++ (List.take m (ints (List.replicate m (-1 : Int) ++ List.replicate (n - m) (0 : Int))) ++ List.drop (m + m) (ints (List.replicate m (-1 : Int) ++ List.replicate (n - m) (0 : Int)))) by simp)
        let t21 : Tp pr := .i (wrap_i64 (a := (↑m : Int) + (↑m : Int)) (by omega) (by omega))
        exact .tp [.i (rfl : ((↑n : Int)) = _), t1, .m (rfl : true = true), .m (rfl : true = true), .m (rfl : true = true), t5, t6, t7, .m (rfl : true = true), .m (rfl : true = true), .m (rfl : true = true), t11, .c (rfl : ((0 : Nat)) = _), t13, .m (rfl : true = true), t15, t16, t17, t18, t19, .m (rfl : true = true), t21, .m (rfl : true = true), .m (rfl : true = true), .a (ih)] (by kernel_rfl)
      · have ih := repL_ev n hn q (m + (n - m)) (by omega) (by omega) (by omega)
        rw [← rep_step (k := n - m) (by omega) (Nat.le_refl _) hm] at ih
        let t1 : Tp pr := .b (show (decide ((↑m : Int) < (↑n : Int))) = true by (simp; omega))
        let t5 : Tp pr := .m (show (decide ((0 : Int) ≤ (↑m : Int) ∧ (↑m : Int) ≤ (↑n : Int) ∧ (0 : Nat) + (↑n : Int).toNat ≤ n)) = true by simp [*])
        let t6 : Tp pr := .c (show ((0 : Nat) + (↑m : Int).toNat : Nat) = m by omega)
        let t7 : Tp pr := .c (show ((↑n : Int).toNat - (↑m : Int).toNat : Nat) = n - m by omega)
        let t11 : Tp pr := .m (show (decide ((0 : Int) ≤ (0 : Int) ∧ (0 : Int) ≤ (↑m : Int) ∧ (0 : Nat) + (↑m : Int).toNat ≤ n)) = true by simp [*])
        let t13 : Tp pr := .c (show ((↑m : Int).toNat - (0 : Nat) : Nat) = m by omega)
        let t15 : Tp pr := .b (show (decide (m ≤ n - m)) = false by (simp; omega))
        let t16 : Tp pr := .m (show (decide ((ints (List.replicate m (-1 : Int) ++ List.replicate (n - m) (0 : Int))).length = n ∧ (0 : Nat) + (n - m) ≤ n)) = true by simp [*])
        let t17 : Tp pr := .m (show (decide ((ints (List.replicate m (-1 : Int) ++ List.replicate (n - m) (0 : Int))).length = n ∧ m + (n - m) ≤ n ∧ (List.take (n - m) (List.drop (0 : Nat) (ints (List.replicate m (-1 : Int) ++ List.replicate (n - m) (0 : Int))))).length ≤ n - m)) = true by simp [*])
        let t18 : Tp pr := .c (show ((List.take (n - m) (List.drop (0 : Nat) (ints (List.replicate m (-1 : Int) ++ List.replicate (n - m) (0 : Int))))).length : Nat) = n - m by simp)
        let t19 : Tp pr := .n .crows (show (((List.take m (ints (List.replicate m (-1 : Int) ++ List.replicate (n - m) (0 : Int)))).append (List.take (n - m) (List.drop (0 : Nat) (ints (List.replicate m (-1 : Int) ++ List.replicate (n - m) (0 : Int)))))).append (List.drop (m + (List.take (n - m) (List.drop (0 : Nat) (ints (List.replicate m (-1 : Int) ++ List.replicate (n - m) (0 : Int))))).length) (ints (List.replicate m (-1 : Int) ++ List.replicate (n - m) (0 : Int))))) = List.take m (ints (List.replicate m (-1 : Int) ++ List.replicate (n - m) (0 : Int))) ++ (List.take (n - m) (ints (List.replicate m (-1 : Int) ++ List.replicate (n - m) (0 : Int))) ++ List.drop (m + (n - m)) (ints (List.replicate m (-1 : Int) ++ List.replicate (n - m) (0 : Int)))) by simp)
        let t21 : Tp pr := .i (wrap_i64 (a := (↑m : Int) + (↑(n - m) : Int)) (by omega) (by omega))
        exact .tp [.i (rfl : ((↑n : Int)) = _), t1, .m (rfl : true = true), .m (rfl : true = true), .m (rfl : true = true), t5, t6, t7, .m (rfl : true = true), .m (rfl : true = true), .m (rfl : true = true), t11, .c (rfl : ((0 : Nat)) = _), t13, .m (rfl : true = true), t15, t16, t17, t18, t19, .m (rfl : true = true), t21, .m (rfl : true = true), .m (rfl : true = true), .a (ih)] (by kernel_rfl)
theorem repeat_ev (n : Nat) (h : n ≤ 40) : Ev pr (.call 96 [isq [-1], i64 n] []) (.val (.vec 0 n 1 0 n) [.vec true 1 (ints (List.replicate n (-1)))]) := by
  have hm := mul_ev n h
  by_cases h0 : n = 0
  · subst h0
    have hL : Ev pr (.loop (lq pr 96 0) (at_ [(7, .vec 0 0 1 0 0), (8, i64 0)] [.vec true 1 []] 0)) (.exit 0 (at_ [(7, .vec 0 0 1 0 0)] [.vec true 1 []] 0)) := by
      let t0 : Tp pr := .i (rfl : ((0 : Int) : Int) = (0 : Int))
      exact .tp [t0, .b (rfl : false = false)] (by kernel_rfl)
    let t1 : Tp pr := .i (rfl : ((1 : Int) : Int) = (1 : Int))
    let t2 : Tp pr := .i (rfl : ((1 : Int) : Int) = (1 : Int))
    let t3 : Tp pr := .i (rfl : ((0 : Int) : Int) = (0 : Int))
    let t7 : Tp pr := .i (rfl : ((0 : Int) : Int) = (0 : Int))
    exact .tp [.b (rfl : false = false), t1, t2, t3, .a (hm), .b (rfl : false = false), .b (rfl : false = false), t7, .m (rfl : true = true), .c (rfl : ((0 : Nat)) = _), .n .crows (rfl : ([]) = _), .b (rfl : false = false), .m (rfl : true = true), .c (rfl : ((0 : Nat)) = _), .n .crows (rfl : ([]) = _), .a (hL)] (by kernel_rfl)
  · have h1 : 1 ≤ n := by omega
    have hL := repL_ev n h n 1 (by omega) (by omega) h1
    rw [show ints (List.replicate 1 (-1) ++ List.replicate (n - 1) 0) = [C.t (.int .i64 (-1))] :: List.replicate (n - 1) [C.t (.int .i64 0)] by simp [ints, intc]] at hL
    let t1 : Tp pr := .i (rfl : ((1 : Int) : Int) = (1 : Int))
    let t2 : Tp pr := .i (rfl : ((1 : Int) : Int) = (1 : Int))
    let t3 : Tp pr := .i (wrap_u64 (a := (↑n : Int)) (by omega) (by omega))
    let t6 : Tp pr := .b (show (decide ((↑n : Int) > (9223372036854775807 : Int))) = false by (simp; omega))
    let t7 : Tp pr := .i (wrap_i64 (a := (↑n : Int)) (by omega) (by omega))
    let t8 : Tp pr := .m (show (decide ((0 : Int) ≤ (↑n : Int) ∧ (↑n : Int) ≤ (↑n : Int) ∧ (↑n : Int) ≤ (4294967296 : Int))) = true by (simp; omega))
    let t9 : Tp pr := .c (show ((↑n : Int).toNat : Nat) = n by omega)
    let t10 : Tp pr := .n .crows (rfl : (List.replicate n [C.t (T.int IntKind.i64 (0 : Int))]) = _)
    let t11 : Tp pr := .b (show (decide ((1 : Nat) ≤ n)) = true by (simp; omega))
    let t12 : Tp pr := .m (show (decide ((List.replicate n [C.t (T.int IntKind.i64 (0 : Int))]).length = n ∧ (0 : Nat) + n ≤ n ∧ (1 : Nat) ≤ n)) = true by simp [*])
    let t14 : Tp pr := .n .crows (show (([].append (List.map (fun x => List.map C.t x) (List.map intt [(-1 : Int)]))).append (List.drop (1 : Nat) (List.replicate n [C.t (T.int IntKind.i64 (0 : Int))]))) = List.map C.t (intt (-1 : Int)) :: List.replicate (n - (1 : Nat)) [C.t (T.int IntKind.i64 (0 : Int))] by simp)
    exact .tp [.b (rfl : false = false), t1, t2, t3, .a (hm), .b (rfl : false = false), t6, t7, t8, t9, t10, t11, t12, .c (rfl : ((1 : Nat)) = _), t14, .a (hL)] (by kernel_rfl)
end Go.Ev

/- Copies of heaps: the copier. -/
namespace Go.Ev
set_option linter.unusedVariables false
set_option linter.unusedSimpArgs false
open Go.Proofs
set_option maxRecDepth 100000
set_option linter.unusedVariables false
set_option maxHeartbeats 4000000
@[local simp] theorem ints_takeC (l : List Int) : List.take l.length (ints l) = ints l := List.take_of_length_le (by simp)
def cpObs (h : Hp) (N : Nat) (l : List Int) : List Ob := [.box [.ptr 1 1 0 0, .vec 2 l.length 1 0 l.length, .vec 3 N 1 0 N], .box [osq h.objects, isq h.roots], .vec true 1 (ints l), .vec true 1 (ints (namesOf N l))]
theorem name_ev (h : Hp) (N : Nat) (hN : N ≤ 40) (l : List Int) (hl : l.length ≤ 1000) (h0 : ∀ x ∈ l, 0 ≤ x) (k : Int) (hk : k < N) :
    Ev pr (.call 110 [.ptr 0 1 0 0, i64 k] (cpObs h N l)) (.val (i64 (newOf (push l k) k)) (cpObs h N (push l k))) := by
  unfold push
  by_cases hneg : k < 0
  · rw [if_pos hneg, newOf_out (neg_not_mem hneg h0)]
    let t0 : Tp pr := .b (show (decide (k < (0 : Int))) = true by (simp; omega))
    exact .tp [t0] (by kernel_rfl)
  · rw [if_neg hneg]
    obtain ⟨n, rfl⟩ : ∃ n : Nat, k = n := ⟨k.toNat, by omega⟩
    have hn : n < N := by omega
    have g := ints_get (l := namesOf N l) (k := n) (by simpa using hn)
    rw [namesOf_getD hn] at g
    by_cases hm : (n : Int) ∈ l
    · have hc : l.contains (n : Int) = true := by simpa using hm
      rw [if_pos hc]
      have hp := newOf_in hm
      let t1 : Tp pr := .m (show (decide ((0 : Int) ≤ (↑n : Int) ∧ (↑n : Int).toNat < N)) = true by simp [*])
      let t2 : Tp pr := .c (show ((0 : Nat) + (↑n : Int).toNat : Nat) = n by omega)
      let t3 : Tp pr := .m (show (decide ((ints (namesOf N l)).length = N)) = true by simp)
      let t4 : Tp pr := .g .crow (show ((ints (namesOf N l))[n]?) = some (intc (newOf l (↑n : Int))) from g)
      let t5 : Tp pr := .b (show (decide (newOf l (↑n : Int) < (0 : Int))) = false by (simp; omega))
      let t6 : Tp pr := .m (show (decide ((0 : Int) ≤ (↑n : Int) ∧ (↑n : Int).toNat < N)) = true by simp [*])
      let t7 : Tp pr := .c (show ((0 : Nat) + (↑n : Int).toNat : Nat) = n by omega)
      let t8 : Tp pr := .m (show (decide ((ints (namesOf N l)).length = N)) = true by simp)
      let t9 : Tp pr := .g .crow (show ((ints (namesOf N l))[n]?) = some (intc (newOf l (↑n : Int))) from g)
      exact .tp [.b (rfl : false = false), t1, t2, t3, t4, t5, t6, t7, t8, t9] (by kernel_rfl)
    · have hc : ¬ l.contains (n : Int) = true := by simpa using hm
      rw [if_neg hc]
      have hp := newOf_out hm
      rw [hp] at g
      rw [newOf_snoc hm]
      have hs := namesOf_set hn hm
      have g2 := ints_get (l := namesOf N (l ++ [(n : Int)])) (k := n) (by simpa using hn)
      rw [namesOf_getD hn, newOf_snoc hm, ← hs] at g2
      let t1 : Tp pr := .m (show (decide ((0 : Int) ≤ (↑n : Int) ∧ (↑n : Int).toNat < N)) = true by simp [*])
      let t2 : Tp pr := .c (show ((0 : Nat) + (↑n : Int).toNat : Nat) = n by omega)
      let t3 : Tp pr := .m (show (decide ((ints (namesOf N l)).length = N)) = true by simp)
      let t4 : Tp pr := .g .crow (show ((ints (namesOf N l))[n]?) = some (intc (-1 : Int)) from g)
      let t17 : Tp pr := .m (show (decide ((0 : Int) ≤ (↑n : Int) ∧ (↑n : Int).toNat < N)) = true by simp [*])
      let t18 : Tp pr := .c (show ((0 : Nat) + (↑n : Int).toNat : Nat) = n by omega)
      let t20 : Tp pr := .m (show (decide ((ints (namesOf N l)).length = N)) = true by simp)
      let t21 : Tp pr := .g .crow (show ((ints (namesOf N l))[n]?) = some (intc (-1 : Int)) from g)
      let t22 : Tp pr := .n .crows (show ((ints (namesOf N l)).set n [C.t (T.int IntKind.i64 (↑l.length : Int))]) = ints ((namesOf N l).set n (↑l.length : Int)) by simp)
      let t25 : Tp pr := .m (show (decide ((ints l).length = l.length ∧ (0 : Nat) + l.length ≤ l.length ∧ l.length + (1 : Nat) ≤ (4294967296 : Nat))) = true by (simp; omega))
      let t26 : Tp pr := .b (show (decide (l.length + (1 : Nat) ≤ l.length)) = false by simp)
      let t28 : Tp pr := .n .crows (show ((List.take l.length (ints l)).append (List.take (1 : Nat) (List.drop (0 : Nat) [[C.t (T.int IntKind.i64 (↑n : Int))]]))) = ints l ++ [[C.t (T.int IntKind.i64 (↑n : Int))]] by simp)
      let t29 : Tp pr := .m (show (decide ((0 : Int) ≤ (↑n : Int) ∧ (↑n : Int).toNat < N)) = true by simp [*])
      let t30 : Tp pr := .c (show ((0 : Nat) + (↑n : Int).toNat : Nat) = n by omega)
      let t31 : Tp pr := .m (show (decide ((ints ((namesOf N l).set n (↑l.length : Int))).length = N)) = true by simp)
      let t32 : Tp pr := .g .crow (show ((ints ((namesOf N l).set n (↑l.length : Int)))[n]?) = some (intc (↑l.length : Int)) from g2)
      exact .tpe [.b (rfl : false = false), t1, t2, t3, t4, .b (rfl : true = true), .m (rfl : true = true), .m (rfl : true = true), .m (rfl : true = true), .m (rfl : true = true), .m (rfl : true = true), .m (rfl : true = true), .m (rfl : true = true), .m (rfl : true = true), .m (rfl : true = true), .i (rfl : ((↑l.length : Int)) = _), .m (rfl : true = true), t17, t18, .m (rfl : true = true), t20, t21, t22, .m (rfl : true = true), .m (rfl : true = true), t25, t26, .c (rfl : (l.length + (1 : Nat)) = _), t28, t29, t30, t31, t32] (Out.val (V.t (T.int IntKind.i64 (↑l.length : Int))) [Ob.box [V.ptr (1 : Nat) (1 : Nat) (0 : Nat) (0 : Nat), V.vec (2 : Nat) (l.length + (1 : Nat)) (1 : Nat) (0 : Nat) (l.length + (1 : Nat)), V.vec (3 : Nat) N (1 : Nat) (0 : Nat) N], Ob.box [V.t (T.seq (2 : Nat) (List.map Obj.ce h.objects)), V.t (T.seq (1 : Nat) (List.map intt h.roots))], Ob.vec true (1 : Nat) ((ints l).append [[C.t (T.int IntKind.i64 (↑n : Int))]]), Ob.vec true (1 : Nat) (ints ((namesOf N l).set n (↑l.length : Int)))]) (by kernel_rfl) ((((congrArg (fun x => Out.val (V.t (T.int IntKind.i64 (↑l.length : Int))) [Ob.box [V.ptr (1 : Nat) (1 : Nat) (0 : Nat) (0 : Nat), V.vec (2 : Nat) x (1 : Nat) (0 : Nat) (l.length + (1 : Nat)), V.vec (3 : Nat) N (1 : Nat) (0 : Nat) N], Ob.box [V.t (T.seq (2 : Nat) (List.map Obj.ce h.objects)), V.t (T.seq (1 : Nat) (List.map intt h.roots))], Ob.vec true (1 : Nat) ((ints l).append [[C.t (T.int IntKind.i64 (↑n : Int))]]), Ob.vec true (1 : Nat) (ints ((namesOf N l).set n (↑l.length : Int)))]) (show (l.length + (1 : Nat)) = ((l ++ [(↑n : Int)]).length) by simp [intc, ints_app, ints_cons, ← hs])).trans (congrArg (fun x => Out.val (V.t (T.int IntKind.i64 (↑l.length : Int))) [Ob.box [V.ptr (1 : Nat) (1 : Nat) (0 : Nat) (0 : Nat), V.vec (2 : Nat) (l ++ [(↑n : Int)]).length (1 : Nat) (0 : Nat) x, V.vec (3 : Nat) N (1 : Nat) (0 : Nat) N], Ob.box [V.t (T.seq (2 : Nat) (List.map Obj.ce h.objects)), V.t (T.seq (1 : Nat) (List.map intt h.roots))], Ob.vec true (1 : Nat) ((ints l).append [[C.t (T.int IntKind.i64 (↑n : Int))]]), Ob.vec true (1 : Nat) (ints ((namesOf N l).set n (↑l.length : Int)))]) (show (l.length + (1 : Nat)) = ((l ++ [(↑n : Int)]).length) by simp [intc, ints_app, ints_cons, ← hs]))).trans (congrArg (fun x => Out.val (V.t (T.int IntKind.i64 (↑l.length : Int))) [Ob.box [V.ptr (1 : Nat) (1 : Nat) (0 : Nat) (0 : Nat), V.vec (2 : Nat) (l ++ [(↑n : Int)]).length (1 : Nat) (0 : Nat) (l ++ [(↑n : Int)]).length, V.vec (3 : Nat) N (1 : Nat) (0 : Nat) N], Ob.box [V.t (T.seq (2 : Nat) (List.map Obj.ce h.objects)), V.t (T.seq (1 : Nat) (List.map intt h.roots))], Ob.vec true (1 : Nat) x, Ob.vec true (1 : Nat) (ints ((namesOf N l).set n (↑l.length : Int)))]) (show ((ints l).append [[C.t (T.int IntKind.i64 (↑n : Int))]]) = (ints (l ++ [(↑n : Int)])) by simp [intc, ints_app, ints_cons, ← hs]))).trans (congrArg (fun x => Out.val (V.t (T.int IntKind.i64 (↑l.length : Int))) [Ob.box [V.ptr (1 : Nat) (1 : Nat) (0 : Nat) (0 : Nat), V.vec (2 : Nat) (l ++ [(↑n : Int)]).length (1 : Nat) (0 : Nat) (l ++ [(↑n : Int)]).length, V.vec (3 : Nat) N (1 : Nat) (0 : Nat) N], Ob.box [V.t (T.seq (2 : Nat) (List.map Obj.ce h.objects)), V.t (T.seq (1 : Nat) (List.map intt h.roots))], Ob.vec true (1 : Nat) (ints (l ++ [(↑n : Int)])), Ob.vec true (1 : Nat) x]) (show (ints ((namesOf N l).set n (↑l.length : Int))) = (ints (namesOf N (l ++ [(↑n : Int)]))) by simp [intc, ints_app, ints_cons, ← hs])))
theorem nameGo_ge (ks l : List Int) : l.length ≤ (nameGo l ks).1.length := by
  rw [nameGo_order]
  obtain ⟨r, hr⟩ := pushAll_ext ks l
  rw [hr]; simp
theorem push_len (l : List Int) (k : Int) : (push l k).length ≤ l.length + 1 := by
  unfold push
  split
  · omega
  · split
    · omega
    · simp
theorem allL_ev (h : Hp) (N : Nat) (hN : N ≤ 40) (ks : List Int) (hks : ks.length ≤ 100) (hkb : ∀ k ∈ ks, k < N) : ∀ (rest dn l nm : List Int), ks = dn ++ rest → nm.length = dn.length → l.length ≤ 100 + dn.length → (∀ x ∈ l, 0 ≤ x) →
    Ev pr (.loop (lq pr 97 0) (at_ [(0, .ptr 0 1 0 0), (5, .vec 4 ks.length 1 0 ks.length), (11, isq ks), (12, i64 ks.length), (13, i64 dn.length)] (cpObs h N l ++ [.vec true 1 (ints (nm ++ List.replicate rest.length 0))]) 4))
      (.exit 0 (at_ [(5, .vec 4 ks.length 1 0 ks.length)] (cpObs h N (nameGo l rest).1 ++ [.vec true 1 (ints (nm ++ (nameGo l rest).2))]) 4))
  | [], dn, l, nm, he, hn, hl, h0 => by
    have hll : (ks.length : Int) = dn.length := by simp [he]
    rw [show nameGo l [] = (l, []) from rfl]
    let t0 : Tp pr := .b (show (decide ((↑dn.length : Int) < (↑ks.length : Int))) = false by (simp; omega))
    exact .tp [t0] (by kernel_rfl)
  | x :: rest, dn, l, nm, he, hn, hl, h0 => by
    have hll : (ks.length : Int) = dn.length + 1 + rest.length := by simp [he]; omega
    have hg : lkp (ks.map intt) (dn.length : Int) = some [T.int .i64 x] := by rw [he]; simp [intt]
    have hp := name_ev h N hN l (by have := congrArg List.length he; simp at this; omega) h0 x (hkb x (by simp [he]))
    have hpl := push_len l x
    have ih := allL_ev h N hN ks hks hkb rest (dn ++ [x]) (push l x) (nm ++ [newOf (push l x) x]) (by simp [he]) (by simp [hn]) (by simp; omega) (push_nonneg h0)
    rw [show nameGo l (x :: rest) = ((nameGo (push l x) rest).1, newOf (push l x) x :: (nameGo (push l x) rest).2) from rfl]
    rw [show List.replicate (x :: rest).length (0 : Int) = 0 :: List.replicate rest.length 0 from rfl]
    have hg2 : (ints (nm ++ 0 :: List.replicate rest.length 0))[dn.length]? = some [C.t (.int .i64 0)] := by rw [← hn]; simp
    have hs2 : ∀ y : Int, (ints (nm ++ 0 :: List.replicate rest.length 0)).set dn.length [C.t (.int .i64 y)] = ints (nm ++ y :: List.replicate rest.length 0) := fun y => by rw [← hn]; simp
    rw [show nm ++ [newOf (push l x) x] ++ List.replicate rest.length 0 = nm ++ newOf (push l x) x :: List.replicate rest.length 0 by simp, ← hs2] at ih
    let t0 : Tp pr := .b (show (decide ((↑dn.length : Int) < (↑ks.length : Int))) = true by (simp; omega))
    let t1 : Tp pr := .g .row (show (lkp (List.map intt ks) (↑dn.length : Int)) = some ([T.int IntKind.i64 x]) from hg)
    let t3 : Tp pr := .m (show (decide ((0 : Int) ≤ (↑dn.length : Int) ∧ (↑dn.length : Int).toNat < ks.length)) = true by simp [*])
    let t4 : Tp pr := .c (show ((0 : Nat) + (↑dn.length : Int).toNat : Nat) = dn.length by omega)
    let t5 : Tp pr := .m (show (decide ((ints (nm ++ (0 : Int) :: List.replicate rest.length (0 : Int))).length = ks.length)) = true by simp [*])
    let t6 : Tp pr := .g .crow (show ((ints (nm ++ (0 : Int) :: List.replicate rest.length (0 : Int)))[dn.length]?) = some ([C.t (T.int IntKind.i64 (0 : Int))]) from hg2)
    let t7 : Tp pr := .n .crows (show ((ints (nm ++ (0 : Int) :: List.replicate rest.length (0 : Int))).set dn.length [C.t (T.int IntKind.i64 (newOf (push l x) x))]) = ints ((nm ++ (0 : Int) :: List.replicate rest.length (0 : Int)).set dn.length (newOf (push l x) x)) by simp)
    let t8 : Tp pr := .i (wrap_i64 (a := (↑dn.length : Int) + (1 : Int)) (by omega) (by omega))
    let t9 : Tp pr := .a (Ev.castq ((congrArg (fun x_1 => Q.loop (lq pr (97 : FuncId) (0 : Nat)) (at_ [((0 : Nat), V.ptr (0 : Nat) (1 : Nat) (0 : Nat) (0 : Nat)), ((5 : Nat), V.vec (4 : Nat) ks.length (1 : Nat) (0 : Nat) ks.length), ((11 : Nat), isq ks), ((12 : Nat), i64 (↑ks.length : Int)), ((13 : Nat), i64 x_1)] (cpObs h N (push l x) ++ [Ob.vec true (1 : Nat) ((ints (nm ++ (0 : Int) :: List.replicate rest.length (0 : Int))).set dn.length [C.t (T.int IntKind.i64 (newOf (push l x) x))])]) (4 : Nat))) (show ((↑(dn ++ [x]).length : Int)) = ((↑dn.length : Int) + (1 : Int)) by simp)).trans (congrArg (fun x_1 => Q.loop (lq pr (97 : FuncId) (0 : Nat)) (at_ [((0 : Nat), V.ptr (0 : Nat) (1 : Nat) (0 : Nat) (0 : Nat)), ((5 : Nat), V.vec (4 : Nat) ks.length (1 : Nat) (0 : Nat) ks.length), ((11 : Nat), isq ks), ((12 : Nat), i64 (↑ks.length : Int)), ((13 : Nat), i64 ((↑dn.length : Int) + (1 : Int)))] (cpObs h N (push l x) ++ [Ob.vec true (1 : Nat) x_1]) (4 : Nat))) (show ((ints (nm ++ (0 : Int) :: List.replicate rest.length (0 : Int))).set dn.length [C.t (T.int IntKind.i64 (newOf (push l x) x))]) = (ints ((nm ++ (0 : Int) :: List.replicate rest.length (0 : Int)).set dn.length (newOf (push l x) x))) by simp))) (ih))
    exact .tpe [t0, t1, .a (hp), t3, t4, t5, t6, t7, t8, t9] (Out.exit (0 : Nat) (at_ [((5 : Nat), V.vec (4 : Nat) ks.length (1 : Nat) (0 : Nat) ks.length)] [Ob.box [V.ptr (1 : Nat) (1 : Nat) (0 : Nat) (0 : Nat), V.vec (2 : Nat) (nameGo (push l x) rest).fst.length (1 : Nat) (0 : Nat) (nameGo (push l x) rest).fst.length, V.vec (3 : Nat) N (1 : Nat) (0 : Nat) N], Ob.box [V.t (T.seq (2 : Nat) (List.map Obj.ce h.objects)), V.t (T.seq (1 : Nat) (List.map intt h.roots))], Ob.vec true (1 : Nat) (ints (nameGo (push l x) rest).fst), Ob.vec true (1 : Nat) (ints (namesOf N (nameGo (push l x) rest).fst)), Ob.vec true (1 : Nat) (ints (nm ++ [newOf (push l x) x] ++ (nameGo (push l x) rest).snd))] (4 : Nat))) (by kernel_rfl) (((((congrArg (fun x_1 => Out.exit (0 : Nat) (at_ [((5 : Nat), V.vec (4 : Nat) ks.length (1 : Nat) (0 : Nat) ks.length)] [Ob.box [V.ptr (1 : Nat) (1 : Nat) (0 : Nat) (0 : Nat), V.vec (2 : Nat) x_1 (1 : Nat) (0 : Nat) (nameGo (push l x) rest).fst.length, V.vec (3 : Nat) N (1 : Nat) (0 : Nat) N], Ob.box [V.t (T.seq (2 : Nat) (List.map Obj.ce h.objects)), V.t (T.seq (1 : Nat) (List.map intt h.roots))], Ob.vec true (1 : Nat) (ints (nameGo (push l x) rest).fst), Ob.vec true (1 : Nat) (ints (namesOf N (nameGo (push l x) rest).fst)), Ob.vec true (1 : Nat) (ints (nm ++ [newOf (push l x) x] ++ (nameGo (push l x) rest).snd))] (4 : Nat))) (show ((nameGo (push l x) rest).fst.length) = (((nameGo (push l x) rest).fst, newOf (push l x) x :: (nameGo (push l x) rest).snd).fst.length) by simp)).trans (congrArg (fun x_1 => Out.exit (0 : Nat) (at_ [((5 : Nat), V.vec (4 : Nat) ks.length (1 : Nat) (0 : Nat) ks.length)] [Ob.box [V.ptr (1 : Nat) (1 : Nat) (0 : Nat) (0 : Nat), V.vec (2 : Nat) ((nameGo (push l x) rest).fst, newOf (push l x) x :: (nameGo (push l x) rest).snd).fst.length (1 : Nat) (0 : Nat) x_1, V.vec (3 : Nat) N (1 : Nat) (0 : Nat) N], Ob.box [V.t (T.seq (2 : Nat) (List.map Obj.ce h.objects)), V.t (T.seq (1 : Nat) (List.map intt h.roots))], Ob.vec true (1 : Nat) (ints (nameGo (push l x) rest).fst), Ob.vec true (1 : Nat) (ints (namesOf N (nameGo (push l x) rest).fst)), Ob.vec true (1 : Nat) (ints (nm ++ [newOf (push l x) x] ++ (nameGo (push l x) rest).snd))] (4 : Nat))) (show ((nameGo (push l x) rest).fst.length) = (((nameGo (push l x) rest).fst, newOf (push l x) x :: (nameGo (push l x) rest).snd).fst.length) by simp))).trans (congrArg (fun x_1 => Out.exit (0 : Nat) (at_ [((5 : Nat), V.vec (4 : Nat) ks.length (1 : Nat) (0 : Nat) ks.length)] [Ob.box [V.ptr (1 : Nat) (1 : Nat) (0 : Nat) (0 : Nat), V.vec (2 : Nat) ((nameGo (push l x) rest).fst, newOf (push l x) x :: (nameGo (push l x) rest).snd).fst.length (1 : Nat) (0 : Nat) ((nameGo (push l x) rest).fst, newOf (push l x) x :: (nameGo (push l x) rest).snd).fst.length, V.vec (3 : Nat) N (1 : Nat) (0 : Nat) N], Ob.box [V.t (T.seq (2 : Nat) (List.map Obj.ce h.objects)), V.t (T.seq (1 : Nat) (List.map intt h.roots))], Ob.vec true (1 : Nat) x_1, Ob.vec true (1 : Nat) (ints (namesOf N (nameGo (push l x) rest).fst)), Ob.vec true (1 : Nat) (ints (nm ++ [newOf (push l x) x] ++ (nameGo (push l x) rest).snd))] (4 : Nat))) (show (ints (nameGo (push l x) rest).fst) = (ints ((nameGo (push l x) rest).fst, newOf (push l x) x :: (nameGo (push l x) rest).snd).fst) by simp))).trans (congrArg (fun x_1 => Out.exit (0 : Nat) (at_ [((5 : Nat), V.vec (4 : Nat) ks.length (1 : Nat) (0 : Nat) ks.length)] [Ob.box [V.ptr (1 : Nat) (1 : Nat) (0 : Nat) (0 : Nat), V.vec (2 : Nat) ((nameGo (push l x) rest).fst, newOf (push l x) x :: (nameGo (push l x) rest).snd).fst.length (1 : Nat) (0 : Nat) ((nameGo (push l x) rest).fst, newOf (push l x) x :: (nameGo (push l x) rest).snd).fst.length, V.vec (3 : Nat) N (1 : Nat) (0 : Nat) N], Ob.box [V.t (T.seq (2 : Nat) (List.map Obj.ce h.objects)), V.t (T.seq (1 : Nat) (List.map intt h.roots))], Ob.vec true (1 : Nat) (ints ((nameGo (push l x) rest).fst, newOf (push l x) x :: (nameGo (push l x) rest).snd).fst), Ob.vec true (1 : Nat) x_1, Ob.vec true (1 : Nat) (ints (nm ++ [newOf (push l x) x] ++ (nameGo (push l x) rest).snd))] (4 : Nat))) (show (ints (namesOf N (nameGo (push l x) rest).fst)) = (ints (namesOf N ((nameGo (push l x) rest).fst, newOf (push l x) x :: (nameGo (push l x) rest).snd).fst)) by simp))).trans (congrArg (fun x_1 => Out.exit (0 : Nat) (at_ [((5 : Nat), V.vec (4 : Nat) ks.length (1 : Nat) (0 : Nat) ks.length)] [Ob.box [V.ptr (1 : Nat) (1 : Nat) (0 : Nat) (0 : Nat), V.vec (2 : Nat) ((nameGo (push l x) rest).fst, newOf (push l x) x :: (nameGo (push l x) rest).snd).fst.length (1 : Nat) (0 : Nat) ((nameGo (push l x) rest).fst, newOf (push l x) x :: (nameGo (push l x) rest).snd).fst.length, V.vec (3 : Nat) N (1 : Nat) (0 : Nat) N], Ob.box [V.t (T.seq (2 : Nat) (List.map Obj.ce h.objects)), V.t (T.seq (1 : Nat) (List.map intt h.roots))], Ob.vec true (1 : Nat) (ints ((nameGo (push l x) rest).fst, newOf (push l x) x :: (nameGo (push l x) rest).snd).fst), Ob.vec true (1 : Nat) (ints (namesOf N ((nameGo (push l x) rest).fst, newOf (push l x) x :: (nameGo (push l x) rest).snd).fst)), Ob.vec true (1 : Nat) x_1] (4 : Nat))) (show (ints (nm ++ [newOf (push l x) x] ++ (nameGo (push l x) rest).snd)) = (ints (nm ++ ((nameGo (push l x) rest).fst, newOf (push l x) x :: (nameGo (push l x) rest).snd).snd)) by simp)))
theorem all_ev (h : Hp) (N : Nat) (hN : N ≤ 40) (ks l : List Int) (hks : ks.length ≤ 100) (hkb : ∀ k ∈ ks, k < N) (hl : l.length ≤ 100) (h0 : ∀ x ∈ l, 0 ≤ x) :
    Ev pr (.call 97 [.ptr 0 1 0 0, isq ks] (cpObs h N l)) (.val (.vec 4 (nameGo l ks).2.length 1 0 (nameGo l ks).2.length) (cpObs h N (nameGo l ks).1 ++ [.vec true 1 (ints (nameGo l ks).2)])) := by
  have g := allL_ev h N hN ks hks hkb ks [] l [] rfl rfl (by simpa using hl) h0
  have hlen : ∀ (ks l : List Int), (nameGo l ks).2.length = ks.length := by
    intro ks
    induction ks with
    | nil => intro l; rfl
    | cons k ks ih => intro l; simp only [nameGo, List.length_cons, ih]
  have hln := hlen ks l
  rw [show ints ([] ++ List.replicate ks.length (0 : Int)) = List.replicate ks.length [C.t (.int .i64 0)] by simp [ints, intc]] at g
  generalize nameGo l ks = q at *
  obtain ⟨q1, q2⟩ := q
  dsimp only at g hln ⊢
  rw [List.nil_append, ← hln] at g
  have ht : List.take q2.length (q2.map intt) = q2.map intt := List.take_of_length_le (by simp)
  let t0 : Tp pr := .i (show ((↑(List.map intt ks).length : Int) : Int) = (↑ks.length : Int) by simp)
  let t1 : Tp pr := .m (show (decide ((0 : Int) ≤ (↑ks.length : Int) ∧ (↑ks.length : Int) ≤ (↑ks.length : Int) ∧ (↑ks.length : Int) ≤ (4294967296 : Int))) = true by (simp; omega))
  let t2 : Tp pr := .c (show ((↑ks.length : Int).toNat : Nat) = ks.length by omega)
  let t3 : Tp pr := .n .crows (rfl : (List.replicate ks.length [C.t (T.int IntKind.i64 (0 : Int))]) = _)
  let t4 : Tp pr := .i (show ((↑(List.map intt ks).length : Int) : Int) = (↑ks.length : Int) by simp)
  let t5 : Tp pr := .a (Ev.castq (((congrArg (fun x => Q.loop (lq pr (97 : Nat) (0 : Nat)) (at_ [((0 : Nat), V.ptr (0 : Nat) (1 : Nat) (0 : Nat) (0 : Nat)), ((5 : Nat), V.vec (4 : Nat) q2.length (1 : Nat) (0 : Nat) q2.length), ((11 : Nat), V.t (T.seq (1 : Nat) (List.map intt ks))), ((12 : Nat), V.t (T.int IntKind.i64 (↑q2.length : Int))), ((13 : Nat), V.t (T.int IntKind.i64 (0 : Int)))] [Ob.box [V.ptr (1 : Nat) (1 : Nat) (0 : Nat) (0 : Nat), V.vec (2 : Nat) l.length (1 : Nat) (0 : Nat) l.length, V.vec (3 : Nat) N (1 : Nat) (0 : Nat) N], Ob.box [V.t (T.seq (2 : Nat) (List.map Obj.ce h.objects)), V.t (T.seq (1 : Nat) (List.map intt h.roots))], Ob.vec true (1 : Nat) (ints l), Ob.vec true (1 : Nat) (ints (namesOf N l)), Ob.vec true (1 : Nat) (List.replicate q2.length [C.t (T.int IntKind.i64 (0 : Int))])] (4 : Nat))) (show (List.replicate q2.length [C.t (T.int IntKind.i64 (0 : Int))]) = (List.replicate ks.length [C.t (T.int IntKind.i64 (0 : Int))]) by simp [hln, ints, intc])).trans (congrArg (fun x => Q.loop (lq pr (97 : Nat) (0 : Nat)) (at_ [((0 : Nat), V.ptr (0 : Nat) (1 : Nat) (0 : Nat) (0 : Nat)), ((5 : Nat), V.vec (4 : Nat) q2.length (1 : Nat) (0 : Nat) q2.length), ((11 : Nat), V.t (T.seq (1 : Nat) (List.map intt ks))), ((12 : Nat), V.t (T.int IntKind.i64 (↑q2.length : Int))), ((13 : Nat), V.t (T.int IntKind.i64 (0 : Int)))] [Ob.box [V.ptr (1 : Nat) (1 : Nat) (0 : Nat) (0 : Nat), V.vec (2 : Nat) l.length (1 : Nat) (0 : Nat) l.length, V.vec (3 : Nat) N (1 : Nat) (0 : Nat) N], Ob.box [V.t (T.seq (2 : Nat) (List.map Obj.ce h.objects)), V.t (T.seq (1 : Nat) (List.map intt h.roots))], Ob.vec true (1 : Nat) (ints l), Ob.vec true (1 : Nat) (ints (namesOf N l)), Ob.vec true (1 : Nat) (List.replicate q2.length [C.t (T.int IntKind.i64 (0 : Int))])] (4 : Nat))) (show ((↑q2.length : Int)) = ((↑ks.length : Int)) by simp [hln, ints, intc]))).trans (congrArg (fun x => Q.loop (lq pr (97 : Nat) (0 : Nat)) (at_ [((0 : Nat), V.ptr (0 : Nat) (1 : Nat) (0 : Nat) (0 : Nat)), ((5 : Nat), V.vec (4 : Nat) x (1 : Nat) (0 : Nat) x), ((11 : Nat), V.t (T.seq (1 : Nat) (List.map intt ks))), ((12 : Nat), V.t (T.int IntKind.i64 (↑x : Int))), ((13 : Nat), V.t (T.int IntKind.i64 (0 : Int)))] [Ob.box [V.ptr (1 : Nat) (1 : Nat) (0 : Nat) (0 : Nat), V.vec (2 : Nat) l.length (1 : Nat) (0 : Nat) l.length, V.vec (3 : Nat) N (1 : Nat) (0 : Nat) N], Ob.box [V.t (T.seq (2 : Nat) (List.map Obj.ce h.objects)), V.t (T.seq (1 : Nat) (List.map intt h.roots))], Ob.vec true (1 : Nat) (ints l), Ob.vec true (1 : Nat) (ints (namesOf N l)), Ob.vec true (1 : Nat) (List.replicate x [C.t (T.int IntKind.i64 (0 : Int))])] (4 : Nat))) (show (q2.length) = (ks.length) by simp [hln, ints, intc]))) (g))
  exact .tp [t0, t1, t2, t3, t4, t5] (by kernel_rfl)
end Go.Ev

/- Copies of heaps: the copier's first row of names. -/
namespace Go.Ev
set_option linter.unusedVariables false
set_option linter.unusedSimpArgs false
open Go.Proofs
set_option maxRecDepth 100000
set_option linter.unusedVariables false
set_option maxHeartbeats 4000000
attribute [local simp] ints_takeC
def cpN (h : Hp) (N : Nat) (l out : List Int) : List Ob := [.box [.ptr 1 1 0 0, .vec 4 l.length 1 0 l.length, .vec 2 N 1 0 N], .box [osq h.objects, isq h.roots], .vec true 1 (ints (namesOf N l)), .vec true 1 (ints out), .vec true 1 (ints l)]
theorem allNL_ev (h : Hp) (N : Nat) (hN : N ≤ 40) (ks : List Int) (hks : ks.length ≤ 100) (hkb : ∀ k ∈ ks, k < N) : ∀ (rest dn l nm : List Int), ks = dn ++ rest → nm.length = dn.length → l.length ≤ 100 + dn.length → (∀ x ∈ l, 0 ≤ x) →
    Ev pr (.loop (lq pr 97 0) (at_ [(0, .ptr 0 1 0 0), (5, .vec 3 ks.length 1 0 ks.length), (11, isq ks), (12, i64 ks.length), (13, i64 dn.length)] (cpN h N l (nm ++ List.replicate rest.length 0)) 3))
      (.exit 0 (at_ [(5, .vec 3 ks.length 1 0 ks.length)] (cpN h N (nameGo l rest).1 (nm ++ (nameGo l rest).2)) 3))
  | [], dn, l, nm, he, hn, hl, h0 => by
    have hll : (ks.length : Int) = dn.length := by simp [he]
    rw [show nameGo l [] = (l, []) from rfl]
    let t0 : Tp pr := .b (show (decide ((↑dn.length : Int) < (↑ks.length : Int))) = false by (simp; omega))
    exact .tp [t0] (by kernel_rfl)
  | x :: rest, dn, l, nm, he, hn, hl, h0 => by
    have hll : (ks.length : Int) = dn.length + 1 + rest.length := by simp [he]; omega
    have hg : lkp (ks.map intt) (dn.length : Int) = some [T.int .i64 x] := by rw [he]; simp [intt]
    have hp := name_ev h N hN l (by have := congrArg List.length he; simp at this; omega) h0 x (hkb x (by simp [he]))
    have hpl := push_len l x
    have ih := allNL_ev h N hN ks hks hkb rest (dn ++ [x]) (push l x) (nm ++ [newOf (push l x) x]) (by simp [he]) (by simp [hn]) (by simp; omega) (push_nonneg h0)
    rw [show nameGo l (x :: rest) = ((nameGo (push l x) rest).1, newOf (push l x) x :: (nameGo (push l x) rest).2) from rfl]
    rw [show List.replicate (x :: rest).length (0 : Int) = 0 :: List.replicate rest.length 0 from rfl]
    have hg2 : (ints (nm ++ 0 :: List.replicate rest.length 0))[dn.length]? = some [C.t (.int .i64 0)] := by rw [← hn]; simp
    have hs2 : ∀ y : Int, (ints (nm ++ 0 :: List.replicate rest.length 0)).set dn.length [C.t (.int .i64 y)] = ints (nm ++ y :: List.replicate rest.length 0) := fun y => by rw [← hn]; simp
    rw [show nm ++ [newOf (push l x) x] ++ List.replicate rest.length 0 = nm ++ newOf (push l x) x :: List.replicate rest.length 0 by simp] at ih
    unfold cpN at ih ⊢
    rw [← hs2] at ih
    let t0 : Tp pr := .b (show (decide ((↑dn.length : Int) < (↑ks.length : Int))) = true by (simp; omega))
    let t1 : Tp pr := .g .row (show (lkp (List.map intt ks) (↑dn.length : Int)) = some ([T.int IntKind.i64 x]) from hg)
    let t3 : Tp pr := .m (show (decide ((0 : Int) ≤ (↑dn.length : Int) ∧ (↑dn.length : Int).toNat < ks.length)) = true by simp [*])
    let t4 : Tp pr := .c (show ((0 : Nat) + (↑dn.length : Int).toNat : Nat) = dn.length by omega)
    let t5 : Tp pr := .m (show (decide ((ints (nm ++ (0 : Int) :: List.replicate rest.length (0 : Int))).length = ks.length)) = true by simp [*])
    let t6 : Tp pr := .g .crow (show ((ints (nm ++ (0 : Int) :: List.replicate rest.length (0 : Int)))[dn.length]?) = some ([C.t (T.int IntKind.i64 (0 : Int))]) from hg2)
    let t7 : Tp pr := .n .crows (show ((ints (nm ++ (0 : Int) :: List.replicate rest.length (0 : Int))).set dn.length [C.t (T.int IntKind.i64 (newOf (push l x) x))]) = ints ((nm ++ (0 : Int) :: List.replicate rest.length (0 : Int)).set dn.length (newOf (push l x) x)) by simp)
    let t8 : Tp pr := .i (wrap_i64 (a := (↑dn.length : Int) + (1 : Int)) (by omega) (by omega))
    let t9 : Tp pr := .a (Ev.castq ((congrArg (fun x_1 => Q.loop (lq pr (97 : FuncId) (0 : Nat)) (at_ [((0 : Nat), V.ptr (0 : Nat) (1 : Nat) (0 : Nat) (0 : Nat)), ((5 : Nat), V.vec (3 : Nat) ks.length (1 : Nat) (0 : Nat) ks.length), ((11 : Nat), isq ks), ((12 : Nat), i64 (↑ks.length : Int)), ((13 : Nat), i64 x_1)] [Ob.box [V.ptr (1 : Nat) (1 : Nat) (0 : Nat) (0 : Nat), V.vec (4 : Nat) (push l x).length (1 : Nat) (0 : Nat) (push l x).length, V.vec (2 : Nat) N (1 : Nat) (0 : Nat) N], Ob.box [osq h.objects, isq h.roots], Ob.vec true (1 : Nat) (ints (namesOf N (push l x))), Ob.vec true (1 : Nat) ((ints (nm ++ (0 : Int) :: List.replicate rest.length (0 : Int))).set dn.length [C.t (T.int IntKind.i64 (newOf (push l x) x))]), Ob.vec true (1 : Nat) (ints (push l x))] (3 : Nat))) (show ((↑(dn ++ [x]).length : Int)) = ((↑dn.length : Int) + (1 : Int)) by simp)).trans (congrArg (fun x_1 => Q.loop (lq pr (97 : FuncId) (0 : Nat)) (at_ [((0 : Nat), V.ptr (0 : Nat) (1 : Nat) (0 : Nat) (0 : Nat)), ((5 : Nat), V.vec (3 : Nat) ks.length (1 : Nat) (0 : Nat) ks.length), ((11 : Nat), isq ks), ((12 : Nat), i64 (↑ks.length : Int)), ((13 : Nat), i64 ((↑dn.length : Int) + (1 : Int)))] [Ob.box [V.ptr (1 : Nat) (1 : Nat) (0 : Nat) (0 : Nat), V.vec (4 : Nat) (push l x).length (1 : Nat) (0 : Nat) (push l x).length, V.vec (2 : Nat) N (1 : Nat) (0 : Nat) N], Ob.box [osq h.objects, isq h.roots], Ob.vec true (1 : Nat) (ints (namesOf N (push l x))), Ob.vec true (1 : Nat) x_1, Ob.vec true (1 : Nat) (ints (push l x))] (3 : Nat))) (show ((ints (nm ++ (0 : Int) :: List.replicate rest.length (0 : Int))).set dn.length [C.t (T.int IntKind.i64 (newOf (push l x) x))]) = (ints ((nm ++ (0 : Int) :: List.replicate rest.length (0 : Int)).set dn.length (newOf (push l x) x))) by simp))) (ih))
    exact .tpe [t0, t1, .a (hp), t3, t4, t5, t6, t7, t8, t9] (Out.exit (0 : Nat) (at_ [((5 : Nat), V.vec (3 : Nat) ks.length (1 : Nat) (0 : Nat) ks.length)] [Ob.box [V.ptr (1 : Nat) (1 : Nat) (0 : Nat) (0 : Nat), V.vec (4 : Nat) (nameGo (push l x) rest).fst.length (1 : Nat) (0 : Nat) (nameGo (push l x) rest).fst.length, V.vec (2 : Nat) N (1 : Nat) (0 : Nat) N], Ob.box [V.t (T.seq (2 : Nat) (List.map Obj.ce h.objects)), V.t (T.seq (1 : Nat) (List.map intt h.roots))], Ob.vec true (1 : Nat) (ints (namesOf N (nameGo (push l x) rest).fst)), Ob.vec true (1 : Nat) (ints (nm ++ [newOf (push l x) x] ++ (nameGo (push l x) rest).snd)), Ob.vec true (1 : Nat) (ints (nameGo (push l x) rest).fst)] (3 : Nat))) (by kernel_rfl) (((((congrArg (fun x_1 => Out.exit (0 : Nat) (at_ [((5 : Nat), V.vec (3 : Nat) ks.length (1 : Nat) (0 : Nat) ks.length)] [Ob.box [V.ptr (1 : Nat) (1 : Nat) (0 : Nat) (0 : Nat), V.vec (4 : Nat) x_1 (1 : Nat) (0 : Nat) (nameGo (push l x) rest).fst.length, V.vec (2 : Nat) N (1 : Nat) (0 : Nat) N], Ob.box [V.t (T.seq (2 : Nat) (List.map Obj.ce h.objects)), V.t (T.seq (1 : Nat) (List.map intt h.roots))], Ob.vec true (1 : Nat) (ints (namesOf N (nameGo (push l x) rest).fst)), Ob.vec true (1 : Nat) (ints (nm ++ [newOf (push l x) x] ++ (nameGo (push l x) rest).snd)), Ob.vec true (1 : Nat) (ints (nameGo (push l x) rest).fst)] (3 : Nat))) (show ((nameGo (push l x) rest).fst.length) = (((nameGo (push l x) rest).fst, newOf (push l x) x :: (nameGo (push l x) rest).snd).fst.length) by simp)).trans (congrArg (fun x_1 => Out.exit (0 : Nat) (at_ [((5 : Nat), V.vec (3 : Nat) ks.length (1 : Nat) (0 : Nat) ks.length)] [Ob.box [V.ptr (1 : Nat) (1 : Nat) (0 : Nat) (0 : Nat), V.vec (4 : Nat) ((nameGo (push l x) rest).fst, newOf (push l x) x :: (nameGo (push l x) rest).snd).fst.length (1 : Nat) (0 : Nat) x_1, V.vec (2 : Nat) N (1 : Nat) (0 : Nat) N], Ob.box [V.t (T.seq (2 : Nat) (List.map Obj.ce h.objects)), V.t (T.seq (1 : Nat) (List.map intt h.roots))], Ob.vec true (1 : Nat) (ints (namesOf N (nameGo (push l x) rest).fst)), Ob.vec true (1 : Nat) (ints (nm ++ [newOf (push l x) x] ++ (nameGo (push l x) rest).snd)), Ob.vec true (1 : Nat) (ints (nameGo (push l x) rest).fst)] (3 : Nat))) (show ((nameGo (push l x) rest).fst.length) = (((nameGo (push l x) rest).fst, newOf (push l x) x :: (nameGo (push l x) rest).snd).fst.length) by simp))).trans (congrArg (fun x_1 => Out.exit (0 : Nat) (at_ [((5 : Nat), V.vec (3 : Nat) ks.length (1 : Nat) (0 : Nat) ks.length)] [Ob.box [V.ptr (1 : Nat) (1 : Nat) (0 : Nat) (0 : Nat), V.vec (4 : Nat) ((nameGo (push l x) rest).fst, newOf (push l x) x :: (nameGo (push l x) rest).snd).fst.length (1 : Nat) (0 : Nat) ((nameGo (push l x) rest).fst, newOf (push l x) x :: (nameGo (push l x) rest).snd).fst.length, V.vec (2 : Nat) N (1 : Nat) (0 : Nat) N], Ob.box [V.t (T.seq (2 : Nat) (List.map Obj.ce h.objects)), V.t (T.seq (1 : Nat) (List.map intt h.roots))], Ob.vec true (1 : Nat) x_1, Ob.vec true (1 : Nat) (ints (nm ++ [newOf (push l x) x] ++ (nameGo (push l x) rest).snd)), Ob.vec true (1 : Nat) (ints (nameGo (push l x) rest).fst)] (3 : Nat))) (show (ints (namesOf N (nameGo (push l x) rest).fst)) = (ints (namesOf N ((nameGo (push l x) rest).fst, newOf (push l x) x :: (nameGo (push l x) rest).snd).fst)) by simp))).trans (congrArg (fun x_1 => Out.exit (0 : Nat) (at_ [((5 : Nat), V.vec (3 : Nat) ks.length (1 : Nat) (0 : Nat) ks.length)] [Ob.box [V.ptr (1 : Nat) (1 : Nat) (0 : Nat) (0 : Nat), V.vec (4 : Nat) ((nameGo (push l x) rest).fst, newOf (push l x) x :: (nameGo (push l x) rest).snd).fst.length (1 : Nat) (0 : Nat) ((nameGo (push l x) rest).fst, newOf (push l x) x :: (nameGo (push l x) rest).snd).fst.length, V.vec (2 : Nat) N (1 : Nat) (0 : Nat) N], Ob.box [V.t (T.seq (2 : Nat) (List.map Obj.ce h.objects)), V.t (T.seq (1 : Nat) (List.map intt h.roots))], Ob.vec true (1 : Nat) (ints (namesOf N ((nameGo (push l x) rest).fst, newOf (push l x) x :: (nameGo (push l x) rest).snd).fst)), Ob.vec true (1 : Nat) x_1, Ob.vec true (1 : Nat) (ints (nameGo (push l x) rest).fst)] (3 : Nat))) (show (ints (nm ++ [newOf (push l x) x] ++ (nameGo (push l x) rest).snd)) = (ints (nm ++ ((nameGo (push l x) rest).fst, newOf (push l x) x :: (nameGo (push l x) rest).snd).snd)) by simp))).trans (congrArg (fun x_1 => Out.exit (0 : Nat) (at_ [((5 : Nat), V.vec (3 : Nat) ks.length (1 : Nat) (0 : Nat) ks.length)] [Ob.box [V.ptr (1 : Nat) (1 : Nat) (0 : Nat) (0 : Nat), V.vec (4 : Nat) ((nameGo (push l x) rest).fst, newOf (push l x) x :: (nameGo (push l x) rest).snd).fst.length (1 : Nat) (0 : Nat) ((nameGo (push l x) rest).fst, newOf (push l x) x :: (nameGo (push l x) rest).snd).fst.length, V.vec (2 : Nat) N (1 : Nat) (0 : Nat) N], Ob.box [V.t (T.seq (2 : Nat) (List.map Obj.ce h.objects)), V.t (T.seq (1 : Nat) (List.map intt h.roots))], Ob.vec true (1 : Nat) (ints (namesOf N ((nameGo (push l x) rest).fst, newOf (push l x) x :: (nameGo (push l x) rest).snd).fst)), Ob.vec true (1 : Nat) (ints (nm ++ ((nameGo (push l x) rest).fst, newOf (push l x) x :: (nameGo (push l x) rest).snd).snd)), Ob.vec true (1 : Nat) x_1] (3 : Nat))) (show (ints (nameGo (push l x) rest).fst) = (ints ((nameGo (push l x) rest).fst, newOf (push l x) x :: (nameGo (push l x) rest).snd).fst) by simp)))
theorem nameGo_len2 : ∀ (ks l : List Int), (nameGo l ks).2.length = ks.length
  | [], l => rfl
  | k :: ks, l => by simp only [nameGo, List.length_cons, nameGo_len2 ks]
theorem allN_ev (h : Hp) (N : Nat) (hN : N ≤ 40) (ks : List Int) (hks : ks.length ≤ 100) (hkb : ∀ k ∈ ks, k < N) :
    Ev pr (.call 97 [.ptr 0 1 0 0, isq ks] [.box [.ptr 1 1 0 0, .t .nils, .vec 2 N 1 0 N], .box [osq h.objects, isq h.roots], .vec true 1 (ints (namesOf N []))])
      (.val (.vec 3 (nameGo [] ks).2.length 1 0 (nameGo [] ks).2.length) [.box [.ptr 1 1 0 0, .vec 4 (nameGo [] ks).1.length 1 0 (nameGo [] ks).1.length, .vec 2 N 1 0 N], .box [osq h.objects, isq h.roots], .vec true 1 (ints (namesOf N (nameGo [] ks).1)), .vec true 1 (ints (nameGo [] ks).2), .vec true 1 (ints (nameGo [] ks).1)]) := by
  have g := allNL_ev h N hN ks hks hkb ks [] [] [] rfl rfl (by simp) (by simp)
  have hln := nameGo_len2 ks []
  rw [show ([] : List Int) ++ List.replicate ks.length (0 : Int) = List.replicate ks.length 0 from rfl] at g
  unfold cpN at g
  rw [show ints (List.replicate ks.length (0 : Int)) = List.replicate ks.length [C.t (.int .i64 0)] by simp [ints, intc]] at g
  generalize nameGo [] ks = q at *
  obtain ⟨q1, q2⟩ := q
  dsimp only at g hln ⊢
  rw [List.nil_append, ← hln] at g
  have ht : List.take q2.length (q2.map intt) = q2.map intt := List.take_of_length_le (by simp)
  let t0 : Tp pr := .i (show ((↑(List.map intt ks).length : Int) : Int) = (↑ks.length : Int) by simp)
  let t1 : Tp pr := .m (show (decide ((0 : Int) ≤ (↑ks.length : Int) ∧ (↑ks.length : Int) ≤ (↑ks.length : Int) ∧ (↑ks.length : Int) ≤ (4294967296 : Int))) = true by (simp; omega))
  let t2 : Tp pr := .c (show ((↑ks.length : Int).toNat : Nat) = ks.length by omega)
  let t3 : Tp pr := .n .crows (rfl : (List.replicate ks.length [C.t (T.int IntKind.i64 (0 : Int))]) = _)
  let t4 : Tp pr := .i (show ((↑(List.map intt ks).length : Int) : Int) = (↑ks.length : Int) by simp)
  let t5 : Tp pr := .a (Ev.castq (((congrArg (fun x => Q.loop (lq pr (97 : Nat) (0 : Nat)) (at_ [((0 : Nat), V.ptr (0 : Nat) (1 : Nat) (0 : Nat) (0 : Nat)), ((5 : Nat), V.vec (3 : Nat) q2.length (1 : Nat) (0 : Nat) q2.length), ((11 : Nat), V.t (T.seq (1 : Nat) (List.map intt ks))), ((12 : Nat), V.t (T.int IntKind.i64 (↑q2.length : Int))), ((13 : Nat), V.t (T.int IntKind.i64 (0 : Int)))] [Ob.box [V.ptr (1 : Nat) (1 : Nat) (0 : Nat) (0 : Nat), V.vec (4 : Nat) (0 : Nat) (1 : Nat) (0 : Nat) (0 : Nat), V.vec (2 : Nat) N (1 : Nat) (0 : Nat) N], Ob.box [V.t (T.seq (2 : Nat) (List.map Obj.ce h.objects)), V.t (T.seq (1 : Nat) (List.map intt h.roots))], Ob.vec true (1 : Nat) (ints (namesOf N [])), Ob.vec true (1 : Nat) (List.replicate q2.length [C.t (T.int IntKind.i64 (0 : Int))]), Ob.vec true (1 : Nat) []] (3 : Nat))) (show (List.replicate q2.length [C.t (T.int IntKind.i64 (0 : Int))]) = (List.replicate ks.length [C.t (T.int IntKind.i64 (0 : Int))]) by simp [hln, ints, intc])).trans (congrArg (fun x => Q.loop (lq pr (97 : Nat) (0 : Nat)) (at_ [((0 : Nat), V.ptr (0 : Nat) (1 : Nat) (0 : Nat) (0 : Nat)), ((5 : Nat), V.vec (3 : Nat) q2.length (1 : Nat) (0 : Nat) q2.length), ((11 : Nat), V.t (T.seq (1 : Nat) (List.map intt ks))), ((12 : Nat), V.t (T.int IntKind.i64 (↑q2.length : Int))), ((13 : Nat), V.t (T.int IntKind.i64 (0 : Int)))] [Ob.box [V.ptr (1 : Nat) (1 : Nat) (0 : Nat) (0 : Nat), V.vec (4 : Nat) (0 : Nat) (1 : Nat) (0 : Nat) (0 : Nat), V.vec (2 : Nat) N (1 : Nat) (0 : Nat) N], Ob.box [V.t (T.seq (2 : Nat) (List.map Obj.ce h.objects)), V.t (T.seq (1 : Nat) (List.map intt h.roots))], Ob.vec true (1 : Nat) (ints (namesOf N [])), Ob.vec true (1 : Nat) (List.replicate q2.length [C.t (T.int IntKind.i64 (0 : Int))]), Ob.vec true (1 : Nat) []] (3 : Nat))) (show ((↑q2.length : Int)) = ((↑ks.length : Int)) by simp [hln, ints, intc]))).trans (congrArg (fun x => Q.loop (lq pr (97 : Nat) (0 : Nat)) (at_ [((0 : Nat), V.ptr (0 : Nat) (1 : Nat) (0 : Nat) (0 : Nat)), ((5 : Nat), V.vec (3 : Nat) x (1 : Nat) (0 : Nat) x), ((11 : Nat), V.t (T.seq (1 : Nat) (List.map intt ks))), ((12 : Nat), V.t (T.int IntKind.i64 (↑x : Int))), ((13 : Nat), V.t (T.int IntKind.i64 (0 : Int)))] [Ob.box [V.ptr (1 : Nat) (1 : Nat) (0 : Nat) (0 : Nat), V.vec (4 : Nat) (0 : Nat) (1 : Nat) (0 : Nat) (0 : Nat), V.vec (2 : Nat) N (1 : Nat) (0 : Nat) N], Ob.box [V.t (T.seq (2 : Nat) (List.map Obj.ce h.objects)), V.t (T.seq (1 : Nat) (List.map intt h.roots))], Ob.vec true (1 : Nat) (ints (namesOf N [])), Ob.vec true (1 : Nat) (List.replicate x [C.t (T.int IntKind.i64 (0 : Int))]), Ob.vec true (1 : Nat) []] (3 : Nat))) (show (q2.length) = (ks.length) by simp [hln, ints, intc]))) (g))
  exact .tp [t0, t1, t2, t3, t4, t5] (by kernel_rfl)
end Go.Ev
