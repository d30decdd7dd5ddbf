import Derived.Test.YtoinanmhigafgaaKFnExactGoodProgram2
/- The evaluator's policies and annotations of this program's functions: printed by a program of mine. -/
namespace Go.Ev
set_option linter.unusedVariables false
set_option linter.unusedSimpArgs false
open Go.Proofs
def prPrim : FuncId → Option (List V → List Ob → Option (V × List Ob)) := fun _ => none
def prPol : FuncId → Pol
  | 2 => { modes := [], own := false, nest := false, frz := [] }
  | 3 => { modes := [.borrow], own := false, nest := false, frz := [] }
  | 4 => { modes := [.borrow], own := false, nest := false, frz := [] }
  | 5 => { modes := [.borrow], own := false, nest := false, frz := [] }
  | 6 => { modes := [.borrow], own := false, nest := false, frz := [] }
  | 7 => { modes := [.borrow, .borrow, .borrow], own := false, nest := false, frz := [] }
  | 8 => { modes := [.borrow, .borrow, .borrow], own := false, nest := false, frz := [] }
  | 9 => { modes := [.borrow, .borrow], own := false, nest := false, frz := [] }
  | 10 => { modes := [.borrow], own := false, nest := false, frz := [] }
  | 11 => { modes := [.borrow], own := false, nest := false, frz := [], soft := [[3]] }
  | 12 => { modes := [.borrow], own := false, nest := false, frz := [] }
  | 13 => { modes := [.borrow, .borrow], own := false, nest := false, frz := [] }
  | 14 => { modes := [.borrow, .borrow], own := false, nest := false, frz := [] }
  | 15 => { modes := [.borrow], own := false, nest := false, frz := [], soft := [[3], [0]] }
  | 16 => { modes := [.borrow], own := false, nest := false, frz := [], soft := [[3]] }
  | 17 => { modes := [.borrow], own := false, nest := false, frz := [], soft := [[3], [0]] }
  | 18 => { modes := [.borrow, .borrow], own := false, nest := false, frz := [] }
  | 19 => { modes := [.borrow, .borrow], own := false, nest := false, frz := [] }
  | 20 => { modes := [.borrow, .borrow], own := false, nest := false, frz := [] }
  | 21 => { modes := [.borrow, .borrow], own := false, nest := false, frz := [] }
  | 22 => { modes := [.borrow, .borrow], own := false, nest := false, frz := [] }
  | 23 => { modes := [.borrow], own := false, nest := false, frz := [], soft := [[3], [0]] }
  | 24 => { modes := [.borrow], own := false, nest := false, frz := [], soft := [[3], [0]] }
  | 25 => { modes := [.borrow, .borrow], own := false, nest := false, frz := [] }
  | 26 => { modes := [.borrow], own := false, nest := false, frz := [], soft := [[3], [0]] }
  | 27 => { modes := [.borrow], own := false, nest := false, frz := [], soft := [[3], [0]] }
  | 28 => { modes := [.borrow, .borrow], own := false, nest := false, frz := [] }
  | 29 => { modes := [.borrow, .borrow, .borrow], own := false, nest := false, frz := [], soft := [[1], [0], [0]] }
  | 30 => { modes := [.borrow], own := false, nest := false, frz := [], soft := [[1]] }
  | 31 => { modes := [.borrow, .borrow, .borrow], own := false, nest := false, frz := [], soft := [[1], [0], [0]] }
  | 32 => { modes := [.borrow, .borrow], own := false, nest := false, frz := [] }
  | 33 => { modes := [.borrow, .borrow], own := false, nest := false, frz := [] }
  | 34 => { modes := [.borrow, .borrow], own := false, nest := false, frz := [] }
  | 35 => { modes := [.borrow, .borrow, .borrow], own := false, nest := false, frz := [] }
  | 36 => { modes := [.borrow, .borrow, .borrow], own := false, nest := false, frz := [] }
  | 37 => { modes := [.borrow, .borrow], own := false, nest := false, frz := [] }
  | 38 => { modes := [.borrow], own := false, nest := false, frz := [], soft := [[0, 0, 0, 4], [0]] }
  | 39 => { modes := [.borrow, .borrow, .borrow], own := false, nest := false, frz := [] }
  | 40 => { modes := [.borrow], own := false, nest := false, frz := [], soft := [[0, 0, 3]] }
  | 41 => { modes := [.borrow, .borrow, .borrow], own := false, nest := false, frz := [] }
  | 42 => { modes := [.borrow, .borrow], own := false, nest := false, frz := [] }
  | 43 => { modes := [.borrow], own := false, nest := false, frz := [] }
  | 44 => { modes := [.borrow], own := false, nest := false, frz := [] }
  | 45 => { modes := [.borrow], own := false, nest := false, frz := [], soft := [[1], [0]] }
  | 46 => { modes := [.borrow, .borrow], own := false, nest := false, frz := [] }
  | 47 => { modes := [.borrow, .borrow], own := false, nest := false, frz := [] }
  | 48 => { modes := [.borrow, .borrow], own := false, nest := false, frz := [], soft := [[3]] }
  | 49 => { modes := [.borrow], own := false, nest := false, frz := [] }
  | 50 => { modes := [.borrow], own := false, nest := false, frz := [] }
  | 51 => { modes := [.borrow, .borrow], own := false, nest := false, frz := [], soft := [[3]] }
  | 52 => { modes := [.borrow, .borrow], own := false, nest := false, frz := [] }
  | 53 => { modes := [.borrow, .borrow], own := false, nest := false, frz := [] }
  | 54 => { modes := [.borrow], own := false, nest := false, frz := [] }
  | 55 => { modes := [.borrow], own := false, nest := false, frz := [], soft := [[0, 0, 0, 4], [0]] }
  | 56 => { modes := [.borrow, .borrow], own := false, nest := false, frz := [], soft := [[3]] }
  | 57 => { modes := [.borrow], own := false, nest := false, frz := [], soft := [[0, 0, 0, 4]] }
  | 58 => { modes := [.borrow], own := false, nest := false, frz := [] }
  | 59 => { modes := [.borrow], own := false, nest := false, frz := [] }
  | 60 => { modes := [.borrow, .borrow], own := false, nest := false, frz := [], soft := [[3]] }
  | 61 => { modes := [.borrow], own := false, nest := false, frz := [], soft := [[3]] }
  | 62 => { modes := [.borrow], own := false, nest := false, frz := [] }
  | 63 => { modes := [.borrow, .borrow, .borrow], own := false, nest := false, frz := [], soft := [[1], [0]] }
  | 64 => { modes := [.borrow], own := false, nest := false, frz := [] }
  | 65 => { modes := [.borrow], own := false, nest := false, frz := [], soft := [[1]] }
  | 66 => { modes := [.borrow, .borrow, .borrow], own := false, nest := false, frz := [] }
  | 67 => { modes := [], own := false, nest := false, frz := [], soft := [[1]] }
  | 68 => { modes := [.borrow], own := false, nest := false, frz := [] }
  | 69 => { modes := [.borrow, .borrow, .borrow], own := false, nest := false, frz := [] }
  | 70 => { modes := [.borrow, .borrow, .borrow], own := false, nest := false, frz := [] }
  | 71 => { modes := [.borrow], own := false, nest := false, frz := [] }
  | 72 => { modes := [.borrow, .borrow], own := false, nest := false, frz := [] }
  | 73 => { modes := [.borrow], own := false, nest := false, frz := [] }
  | 74 => { modes := [], own := false, nest := false, frz := [] }
  | 75 => { modes := [.borrow, .borrow], own := false, nest := false, frz := [] }
  | 76 => { modes := [.borrow], own := false, nest := false, frz := [] }
  | 77 => { modes := [.borrow], own := false, nest := false, frz := [] }
  | 78 => { modes := [.borrow, .borrow], own := false, nest := false, frz := [], soft := [[0, 0, 0, 4], [0]] }
  | 79 => { modes := [.borrow, .borrow, .borrow], own := false, nest := false, frz := [] }
  | 80 => { modes := [.borrow], own := false, nest := false, frz := [], soft := [[0], [3]] }
  | 81 => { modes := [.borrow], own := false, nest := false, frz := [], soft := [[1]] }
  | 82 => { modes := [.borrow], own := false, nest := false, frz := [] }
  | 83 => { modes := [], own := false, nest := false, frz := [], soft := [[1]] }
  | 84 => { modes := [.borrow, .borrow], own := false, nest := false, frz := [] }
  | 85 => { modes := [.borrow], own := false, nest := false, frz := [] }
  | 86 => { modes := [.borrow, .borrow], own := false, nest := false, frz := [] }
  | 87 => { modes := [.borrow], own := false, nest := false, frz := [] }
  | 88 => { modes := [.borrow, .borrow, .borrow], own := false, nest := false, frz := [] }
  | 89 => { modes := [.borrow], own := false, nest := false, frz := [] }
  | 90 => { modes := [.borrow, .borrow, .borrow], own := false, nest := false, frz := [] }
  | 91 => { modes := [.borrow], own := false, nest := false, frz := [] }
  | 92 => { modes := [.borrow], own := false, nest := false, frz := [] }
  | 93 => { modes := [.borrow], own := false, nest := false, frz := [] }
  | 94 => { modes := [.borrow, .borrow], own := false, nest := false, frz := [] }
  | 95 => { modes := [.borrow], own := false, nest := false, frz := [] }
  | 96 => { modes := [.borrow], own := false, nest := false, frz := [] }
  | 97 => { modes := [.borrow], own := false, nest := false, frz := [] }
  | 98 => { modes := [.borrow, .borrow, .borrow], own := false, nest := false, frz := [] }
  | 99 => { modes := [.borrow], own := false, nest := false, frz := [] }
  | 100 => { modes := [.borrow], own := false, nest := false, frz := [] }
  | 101 => { modes := [.borrow, .borrow], own := false, nest := false, frz := [] }
  | 102 => { modes := [.borrow], own := false, nest := false, frz := [] }
  | 103 => { modes := [.borrow, .borrow], own := false, nest := false, frz := [] }
  | 104 => { modes := [.borrow, .borrow], own := false, nest := false, frz := [] }
  | 105 => { modes := [.borrow, .borrow], own := false, nest := false, frz := [] }
  | 106 => { modes := [.borrow], own := false, nest := false, frz := [] }
  | 107 => { modes := [.borrow, .borrow], own := false, nest := false, frz := [] }
  | 108 => { modes := [.borrow], own := false, nest := false, frz := [] }
  | 109 => { modes := [.borrow, .borrow], own := false, nest := false, frz := [] }
  | 110 => { modes := [.borrow], own := false, nest := false, frz := [] }
  | 111 => { modes := [.borrow, .borrow], own := false, nest := false, frz := [] }
  | 112 => { modes := [.borrow, .borrow], own := false, nest := false, frz := [] }
  | 113 => { modes := [.borrow], own := false, nest := false, frz := [] }
  | 114 => { modes := [.borrow], own := false, nest := false, frz := [] }
  | 115 => { modes := [.borrow], own := false, nest := false, frz := [] }
  | 116 => { modes := [.borrow, .borrow], own := false, nest := false, frz := [] }
  | 117 => { modes := [.borrow], own := false, nest := false, frz := [] }
  | 118 => { modes := [], own := false, nest := false, frz := [], soft := [[1]] }
  | _ => {}
def prAnn : FuncId → Ann
  | 2 => .n
  | 3 => (.seq .n (.seq .n (.seq .n (.seq (.seq .n (.cond (.seq .n .n) .n)) (.seq .n (.seq .n (.seq .n (.seq (.seq .n (.cond (.seq .n .n) .n)) (.seq (.seq .n (.cond (.seq .n .n) .n)) (.seq .n .n))))))))))
  | 4 => (.seq .n (.seq .n (.seq .n (.seq (.seq .n (.cond (.seq .n .n) .n)) (.seq .n (.seq .n (.seq .n (.seq (.seq .n (.cond (.seq .n .n) .n)) (.seq (.seq .n (.cond (.seq .n .n) .n)) (.seq .n (.seq .n (.seq (.seq .n (.cond (.seq .n .n) .n)) (.seq .n (.seq .n (.seq .n (.seq .n (.seq (.seq .n (.cond (.seq .n .n) .n)) (.seq (.seq .n (.cond (.seq .n .n) .n)) (.seq .n (.seq (.seq .n (.cond (.seq .n .n) .n)) (.seq .n (.seq .n (.seq (.seq .n (.cond (.seq .n .n) .n)) (.seq (.seq .n (.cond (.seq .n .n) .n)) (.seq .n .n)))))))))))))))))))))))))
  | 5 => (.seq .n (.seq .n (.seq .n (.seq (.seq .n (.cond (.seq .n .n) .n)) (.seq .n (.seq .n (.seq .n (.seq (.seq .n (.cond (.seq .n .n) .n)) (.seq (.seq .n (.cond (.seq .n .n) .n)) (.seq .n (.seq .n (.seq (.seq .n (.cond (.seq .n .n) .n)) (.seq .n (.seq .n (.seq .n (.seq .n (.seq (.seq .n (.cond (.seq .n .n) .n)) (.seq (.seq .n (.cond (.seq .n .n) .n)) (.seq .n (.seq (.seq .n (.cond (.seq .n .n) .n)) (.seq .n (.seq .n (.seq (.seq .n (.cond (.seq .n .n) .n)) (.seq (.seq .n (.cond (.seq .n .n) .n)) (.seq .n .n)))))))))))))))))))))))))
  | 6 => (.seq .n (.seq .n (.seq .n (.seq (.seq .n (.cond (.seq .n .n) .n)) (.seq .n (.seq .n (.seq .n (.seq (.seq .n (.cond (.seq .n .n) .n)) (.seq (.seq .n (.cond (.seq .n .n) .n)) (.seq .n (.seq .n (.seq (.seq .n (.cond (.seq .n .n) .n)) (.seq .n (.seq .n (.seq .n (.seq .n (.seq (.seq .n (.cond (.seq .n .n) .n)) (.seq (.seq .n (.cond (.seq .n .n) .n)) (.seq .n (.seq (.seq .n (.cond (.seq .n .n) .n)) (.seq .n (.seq .n (.seq (.seq .n (.cond (.seq .n .n) .n)) (.seq (.seq .n (.cond (.seq .n .n) .n)) (.seq .n .n)))))))))))))))))))))))))
  | 7 => (.seq .n (.seq (.seq .n (.cond (.seq .n .n) .n)) (.seq .n (.seq .n (.seq (.seq .n (.cond (.seq .n .n) .n)) (.seq .n (.seq .n (.seq .n (.seq .n (.seq (.seq .n (.cond (.seq .n .n) .n)) (.seq (.seq .n (.cond (.seq .n .n) .n)) (.seq (.seq .n (.cond (.seq .n .n) .n)) (.seq .n (.seq .n (.seq .n (.seq (.seq .n (.cond (.seq .n .n) .n)) (.seq .n (.seq .n (.seq .n (.seq .n (.seq (.seq .n (.cond (.seq .n .n) .n)) (.seq (.seq .n (.cond (.seq .n .n) .n)) (.seq .n (.seq (.seq .n (.cond (.seq .n .n) .n)) (.seq .n (.seq .n (.seq (.seq .n (.cond (.seq .n .n) .n)) (.seq (.seq .n (.cond (.seq .n .n) .n)) (.seq .n .n)))))))))))))))))))))))))))))
  | 8 => (.seq .n (.seq (.seq .n (.cond (.seq .n .n) .n)) (.seq .n (.seq .n (.seq (.seq .n (.cond (.seq .n .n) .n)) (.seq .n (.seq .n (.seq .n (.seq .n (.seq (.seq .n (.cond (.seq .n .n) .n)) (.seq (.seq .n (.cond (.seq .n .n) .n)) (.seq (.seq .n (.cond (.seq .n .n) .n)) (.seq .n .n)))))))))))))
  | 9 => (.seq .n (.seq .n (.seq (.seq .n (.cond (.seq .n .n) .n)) (.seq (.seq .n (.block (.loop [0, 1, 5] [1] [4] [] (.seq (.seq .n (.cond .n .n)) (.seq (.block (.seq .n (.seq .n (.cond (.seq .n .n) .n)))) .n))))) (.cut [1] (.seq .n .n))))))
  | 10 => (.seq .n (.seq .n (.seq (.seq .n (.block (.loop [0, 3, 8, 9, 10] [0, 3] [2] [] (.seq .n (.seq (.cond .n .n) (.seq (.block (.seq .n (.seq .n (.seq .n (.block (.seq .n (.cond (.seq .n (.cond (.seq .n .n) .n)) (.seq .n (.cond (.seq (.seq .n (.cond (.seq .n .n) .n)) .n) (.seq .n (.cond (.seq (.seq .n (.cond (.seq .n .n) .n)) .n) (.seq .n .n)))))))))))) (.cut [0, 3, 8, 9, 10] .n))))))) (.cut [0, 3] (.seq .n .n)))))
  | 11 => (.seq .n (.seq .n (.seq (.seq .n (.block (.loop [0, 3, 4] [3] [2] [] (.seq (.seq .n (.cond .n .n)) (.seq (.block .n) .n))))) (.cut [3] (.seq .n .n)))))
  | 12 => (.seq .n (.seq (.seq .n (.cond (.seq .n .n) .n)) (.seq .n (.seq .n .n))))
  | 13 => (.seq .n (.seq (.seq .n (.cond (.seq .n .n) .n)) (.seq (.seq .n (.block (.loop [0, 1, 5] [] [4] [] (.seq (.seq .n (.cond .n .n)) (.seq (.block (.seq .n (.cond (.seq .n .n) .n))) .n))))) (.cut [] (.seq .n .n)))))
  | 14 => (.seq .n (.seq .n (.seq (.seq .n (.cond (.seq .n .n) .n)) (.seq (.seq .n (.block (.loop [0, 1, 5] [1] [4] [] (.seq (.seq .n (.cond .n .n)) (.seq (.block (.seq .n (.seq .n (.cond (.seq .n .n) .n)))) .n))))) (.cut [1] (.seq .n .n))))))
  | 15 => (.seq .n (.seq .n (.seq (.seq .n (.cond (.seq .n .n) .n)) (.seq .n (.seq (.seq .n (.cond (.seq .n .n) .n)) (.seq .n .n))))))
  | 16 => (.seq .n (.seq .n (.seq (.seq .n (.block (.loop [0, 3, 4] [3] [2] [] (.seq (.seq .n (.cond .n .n)) (.seq (.block .n) .n))))) (.cut [3] (.seq .n .n)))))
  | 17 => (.seq .n (.seq .n (.seq (.seq .n (.cond (.seq .n .n) .n)) (.seq .n (.seq (.seq .n (.cond (.seq .n .n) .n)) (.seq .n .n))))))
  | 18 => (.seq .n (.seq (.seq .n (.cond (.seq .n .n) .n)) (.seq (.seq .n (.block (.loop [0, 1, 5] [] [4] [] (.seq (.seq .n (.cond .n .n)) (.seq (.block (.seq .n (.cond (.seq .n .n) .n))) .n))))) (.cut [] (.seq .n .n)))))
  | 19 => (.seq .n (.seq (.seq .n (.cond (.seq .n .n) .n)) (.seq (.seq .n (.block (.loop [0, 1, 5] [] [4] [] (.seq (.seq .n (.cond .n .n)) (.seq (.block (.seq .n (.cond (.seq .n .n) .n))) .n))))) (.cut [] (.seq .n .n)))))
  | 20 => (.seq .n (.seq (.seq .n (.block (.loop [0, 1, 5] [1] [4] [] (.seq (.seq .n (.cond .n .n)) (.seq (.block (.seq .n (.seq .n (.seq .n (.seq .n (.seq .n .n)))))) .n))))) (.cut [1] (.seq .n .n))))
  | 21 => (.seq .n (.seq (.seq .n (.block (.loop [0, 1, 5] [1] [4] [] (.seq (.seq .n (.cond .n .n)) (.seq (.block (.seq .n (.seq .n (.seq .n (.seq .n (.seq .n .n)))))) .n))))) (.cut [1] (.seq .n .n))))
  | 22 => (.seq .n (.seq (.seq .n (.block (.loop [0, 1, 5] [1] [4] [] (.seq (.seq .n (.cond .n .n)) (.seq (.block (.seq (.seq .n (.cond (.seq .n .n) .n)) (.seq .n (.seq (.seq .n (.cond (.seq .n .n) .n)) (.seq .n (.seq (.seq .n (.cond (.seq .n .n) .n)) .n)))))) .n))))) (.cut [1] (.seq .n .n))))
  | 23 => (.seq .n (.seq .n (.seq (.seq .n (.cond (.seq .n .n) .n)) (.seq .n .n))))
  | 24 => (.seq .n (.seq .n (.seq (.seq .n (.cond (.seq .n .n) .n)) (.seq .n (.seq .n .n)))))
  | 25 => (.seq .n (.seq (.seq .n (.block (.loop [0, 1, 5] [1] [4] [] (.seq (.seq .n (.cond .n .n)) (.seq (.block (.seq (.seq .n (.cond (.seq .n .n) .n)) (.seq .n (.seq (.seq .n (.cond (.seq .n .n) .n)) (.seq .n (.seq (.seq .n (.cond (.seq .n .n) .n)) .n)))))) .n))))) (.cut [1] (.seq .n .n))))
  | 26 => (.seq .n (.seq (.seq .n (.cond (.seq .n .n) .n)) (.seq .n (.seq (.seq .n (.cond (.seq .n .n) .n)) (.seq .n .n)))))
  | 27 => (.seq .n (.seq (.seq .n (.cond (.seq .n .n) .n)) (.seq .n (.seq .n (.seq .n (.seq (.seq .n (.block (.loop [4, 6, 7, 8, 26, 27, 28] [8] [2, 3] [(8, none, 3)] (.seq .n (.seq (.cond .n .n) (.seq (.block (.seq .n (.seq .n (.seq .n (.block (.seq .n (.cond (.seq .n .n) (.seq .n (.cond .n (.seq .n (.cond (.seq .n (.seq .n .n)) .n))))))))))) (.cut [4, 6, 7, 8, 26, 27, 28] .n))))))) (.cut [8] (.seq .n (.seq (.seq .n (.cond (.seq .n .n) .n)) (.seq .n .n))))))))))
  | 28 => (.seq .n (.seq (.seq .n (.block (.loop [0, 1, 5] [1] [4] [] (.seq (.seq .n (.cond .n .n)) (.seq (.block (.seq .n (.seq .n (.seq .n (.seq .n .n))))) .n))))) (.cut [1] (.seq .n .n))))
  | 29 => (.seq .n (.seq (.seq .n (.cond (.seq .n .n) .n)) (.seq .n (.seq .n .n))))
  | 30 => (.seq .n (.seq .n (.seq (.seq .n (.block (.loop [0, 3, 4] [3] [2] [] (.seq (.seq .n (.cond .n .n)) (.seq (.block .n) .n))))) (.cut [3] (.seq .n .n)))))
  | 31 => (.seq .n (.seq (.seq .n (.cond (.seq .n .n) .n)) (.seq .n (.seq .n (.seq (.seq .n (.block (.loop [0, 2, 9, 11, 12] [11] [6, 7, 8] [] (.seq (.seq .n (.cond .n .n)) (.seq (.block (.seq (.seq .n (.cond (.seq .n .n) .n)) (.seq .n (.seq (.seq .n (.cond (.seq .n .n) .n)) (.seq .n (.seq (.seq .n (.cond (.seq .n .n) .n)) (.seq (.block (.seq .n (.cond .n (.seq .n (.cond .n .n))))) (.cut [0, 2, 9, 11, 12] .n)))))))) (.cut [0, 2, 9, 11, 12] .n)))))) (.cut [11] (.seq .n .n)))))))
  | 32 => (.seq .n (.seq (.seq .n (.cond (.seq .n .n) .n)) (.seq (.seq .n (.block (.loop [0, 1, 5] [] [4] [] (.seq (.seq .n (.cond .n .n)) (.seq (.block (.seq .n (.cond (.seq .n .n) .n))) .n))))) (.cut [] (.seq .n .n)))))
  | 33 => (.seq .n (.seq (.seq .n (.block (.loop [0, 1, 5] [1] [4] [] (.seq (.seq .n (.cond .n .n)) (.seq (.block (.seq .n .n)) .n))))) (.cut [1] (.seq .n .n))))
  | 34 => (.seq .n (.seq (.seq .n (.block (.loop [0, 1, 5] [1] [4] [] (.seq (.seq .n (.cond .n .n)) (.seq (.block (.seq (.seq .n (.cond (.seq .n .n) .n)) .n)) .n))))) (.cut [1] (.seq .n .n))))
  | 35 => (.seq .n (.seq .n (.seq (.seq .n (.cond (.seq .n .n) .n)) (.seq .n (.seq (.seq .n (.cond (.seq .n .n) .n)) (.seq .n .n))))))
  | 36 => (.seq .n (.seq .n (.seq (.seq .n (.cond (.seq .n .n) .n)) (.seq .n (.seq .n .n)))))
  | 37 => (.seq .n (.seq .n (.seq (.seq .n (.cond (.seq .n .n) .n)) (.seq .n .n))))
  | 38 => (.seq .n (.seq .n (.seq .n .n)))
  | 39 => (.seq .n (.seq .n .n))
  | 40 => (.seq .n (.seq .n (.seq .n (.seq .n (.seq .n (.seq .n .n))))))
  | 41 => (.seq .n (.seq .n .n))
  | 42 => (.seq .n (.seq .n .n))
  | 43 => (.seq .n (.seq .n .n))
  | 44 => (.seq .n (.seq (.seq .n (.block (.seq .n (.cond (.seq .n .n) (.seq .n (.cond (.seq .n .n) .n)))))) (.seq .n .n)))
  | 45 => (.seq .n (.seq .n (.seq (.seq .n (.block (.loop [4, 5, 13, 14, 15] [4, 5] [2, 3] [(5, none, 1)] (.seq .n (.seq (.cond .n .n) (.seq (.block (.seq .n (.seq .n (.block (.seq .n (.cond .n (.seq .n (.cond (.seq .n (.seq (.seq .n (.cond (.seq .n .n) .n)) (.seq .n .n))) .n)))))))) (.cut [4, 5, 13, 14, 15] .n))))))) (.cut [4, 5] (.seq .n .n)))))
  | 46 => (.seq .n (.seq (.seq .n (.cond (.seq .n .n) .n)) (.seq (.seq .n (.cond (.seq .n .n) .n)) (.seq (.seq .n (.cond (.seq .n .n) .n)) (.seq .n .n)))))
  | 47 => (.seq .n (.seq .n (.seq (.seq .n (.cond (.seq .n .n) .n)) (.seq .n .n))))
  | 48 => (.seq .n (.seq (.block (.seq .n (.cond (.seq .n .n) (.seq .n (.cond (.seq .n (.seq .n .n)) .n))))) (.seq .n (.seq (.block (.seq .n (.cond (.seq .n .n) (.seq .n (.cond (.seq .n .n) (.seq .n (.cond (.seq .n (.seq .n (.seq .n (.seq .n (.seq .n (.seq .n (.seq .n .n))))))) (.seq .n (.cond (.seq .n (.seq .n (.seq .n (.seq .n (.seq .n .n))))) .n))))))))) (.seq .n .n)))))
  | 49 => (.seq .n (.seq .n (.seq .n (.seq .n (.seq .n (.seq .n .n))))))
  | 50 => (.seq .n (.seq (.seq .n (.cond (.seq .n .n) .n)) (.seq .n .n)))
  | 51 => (.seq .n (.seq .n (.seq (.block (.seq .n (.cond (.seq .n .n) (.seq .n (.cond (.seq .n .n) (.seq .n (.cond (.seq .n .n) (.seq .n (.cond (.seq .n .n) .n))))))))) (.seq .n (.seq .n (.seq (.seq .n (.block (.seq .n (.cond (.seq .n (.seq .n (.seq .n .n))) (.seq .n (.cond (.seq .n (.seq .n (.seq .n (.seq .n .n)))) .n)))))) (.seq .n .n)))))))
  | 52 => (.seq .n (.seq (.seq .n (.cond (.seq .n .n) .n)) (.seq (.seq .n (.cond (.seq .n .n) .n)) (.seq (.seq .n (.cond (.seq .n .n) .n)) (.seq .n .n)))))
  | 53 => (.seq .n (.seq (.seq .n (.cond (.seq .n .n) .n)) (.seq (.seq .n (.cond (.seq .n .n) .n)) (.seq (.seq .n (.cond (.seq .n .n) .n)) (.seq .n .n)))))
  | 54 => (.seq .n (.seq (.seq .n (.cond (.seq .n .n) .n)) (.seq .n (.seq (.block (.loop [0, 3] [3] [2] [] (.seq (.seq .n (.cond .n .n)) (.block (.seq .n .n))))) (.cut [3] (.seq .n .n))))))
  | 55 => (.seq .n (.seq (.seq .n (.cond (.seq .n .n) .n)) (.seq .n (.seq .n .n))))
  | 56 => (.seq .n (.seq .n (.seq (.seq .n (.block (.loop [1, 18, 19, 20] [1] [4] [] (.seq .n (.seq (.cond .n .n) (.seq (.block (.seq .n .n)) .n)))))) (.cut [1] (.seq .n .n)))))
  | 57 => (.seq .n (.seq .n (.seq .n (.seq (.seq .n (.block (.loop [2, 3, 4, 22, 23, 24] [2, 3, 4] [2] [(3, some 3, 4)] (.seq .n (.seq (.cond .n .n) (.seq (.block (.seq .n (.seq .n (.seq .n .n)))) .n)))))) (.cut [2, 3, 4] (.seq (.seq .n (.cond (.seq .n (.seq .n (.cond (.seq .n .n) .n))) .n)) (.cut [2, 3] (.seq .n .n))))))))
  | 58 => (.seq .n (.seq (.seq .n (.cond (.seq .n .n) .n)) (.seq .n (.seq (.seq .n (.cond (.seq .n .n) .n)) (.seq .n .n)))))
  | 59 => (.seq .n (.seq (.seq .n (.cond (.seq .n .n) .n)) (.seq .n (.seq .n (.seq .n (.seq (.seq .n (.cond (.seq .n .n) .n)) (.seq (.seq .n (.seq .n (.cond (.seq .n .n) .n))) (.seq .n .n))))))))
  | 60 => (.seq .n (.seq .n (.seq (.seq .n (.block (.loop [1, 31, 32, 33] [1] [4] [] (.seq .n (.seq (.cond .n .n) (.seq (.block (.seq .n (.seq .n (.cond .n .n)))) (.cut [1, 31, 32, 33] .n))))))) (.cut [1] (.seq .n .n)))))
  | 61 => (.seq .n (.seq .n (.seq .n (.seq .n (.seq .n (.seq (.seq .n (.block (.loop [3, 4, 5, 6, 19, 20, 21] [3] [2] [(3, none, 3)] (.seq .n (.seq (.cond .n .n) (.seq (.block (.seq .n (.seq .n (.seq (.seq .n (.cond (.seq .n (.seq .n .n)) .n)) (.seq .n (.seq .n (.seq .n (.seq .n (.cond .n .n))))))))) (.cut [3, 4, 5, 6, 19, 20, 21] .n))))))) (.cut [3] (.seq .n .n))))))))
  | 62 => (.seq .n (.seq (.seq .n (.block (.loop [0, 5, 6, 7] [0] [2] [] (.seq .n (.seq (.cond .n .n) (.seq (.block (.seq .n (.seq .n (.cond (.seq .n .n) .n)))) .n)))))) (.cut [0] (.seq .n .n))))
  | 63 => (.seq .n (.seq .n (.seq .n (.seq (.seq .n (.block (.loop [0, 2, 8, 9, 10] [9] [6, 7] [] (.seq (.seq .n (.cond .n .n)) (.seq (.block (.seq (.seq .n (.cond (.seq .n .n) .n)) (.seq .n (.seq (.seq .n (.cond (.seq .n .n) .n)) (.seq .n (.seq .n (.seq (.block (.seq .n (.cond (.seq .n .n) (.seq .n (.cond (.seq .n .n) (.seq .n (.cond .n (.seq .n (.cond .n .n))))))))) (.cut [0, 2, 8, 9, 10] .n)))))))) (.cut [0, 2, 8, 9, 10] .n)))))) (.cut [9] (.seq .n .n))))))
  | 64 => (.seq .n (.seq .n .n))
  | 65 => (.seq .n (.seq (.seq .n (.cond (.seq .n .n) .n)) (.seq .n .n)))
  | 66 => (.seq .n (.seq (.seq .n (.block (.seq .n (.cond (.seq .n .n) (.seq .n (.cond (.seq .n (.seq (.seq .n (.cond (.seq .n .n) .n)) (.seq .n .n))) .n)))))) (.seq .n (.seq (.block (.seq .n (.cond (.seq .n .n) (.seq .n (.cond (.seq .n .n) (.seq .n (.cond (.seq .n .n) (.seq .n (.cond (.seq .n .n) (.seq .n (.cond (.seq .n .n) .n))))))))))) (.seq .n (.seq (.block (.seq .n (.cond (.seq .n .n) (.seq .n (.cond (.seq .n .n) .n))))) (.seq .n .n)))))))
  | 67 => (.seq .n (.seq .n (.seq (.seq .n (.block (.loop [1, 5, 6] [1] [0] [] (.seq .n (.seq (.cond .n .n) (.seq (.block (.seq .n .n)) .n)))))) (.cut [1] (.seq .n .n)))))
  | 68 => (.seq .n (.seq (.seq .n (.block (.seq .n (.cond (.seq .n .n) (.seq .n (.cond (.seq .n .n) .n)))))) (.seq .n .n)))
  | 69 => (.seq .n (.seq (.seq .n (.cond (.seq .n .n) .n)) (.seq (.seq .n (.block (.loop [0, 1, 2, 28, 29, 30] [0, 1, 2] [6, 7, 8, 9] [] (.seq .n (.seq (.cond .n .n) (.seq (.block (.seq .n (.seq .n (.cond (.seq .n .n) .n)))) .n)))))) (.cut [0, 1, 2] (.seq .n (.seq .n .n))))))
  | 70 => (.seq .n (.seq (.seq .n (.cond (.seq .n .n) .n)) (.seq .n (.seq (.seq .n (.block (.loop [2, 10, 30, 31] [2] [6, 7, 8, 9] [] (.seq .n (.seq (.cond .n .n) (.seq (.block (.seq .n (.seq .n (.seq .n (.block (.seq .n (.cond .n (.seq .n (.cond (.seq .n .n) (.seq .n .n)))))))))) .n)))))) (.cut [2] (.seq .n .n))))))
  | 71 => (.seq .n (.seq (.seq .n (.cond (.seq .n (.seq .n .n)) .n)) (.seq (.seq .n (.block (.loop [18, 19, 20] [] [2] [] (.seq .n (.seq (.cond .n .n) (.seq (.block (.seq .n (.seq .n (.cond (.seq .n .n) .n)))) .n)))))) (.cut [] (.seq .n .n)))))
  | 72 => (.seq .n (.seq (.seq .n (.block (.loop [0, 1, 7, 8] [] [4] [] (.seq .n (.seq (.cond .n .n) (.seq (.block (.seq .n (.seq .n (.cond (.seq .n .n) .n)))) .n)))))) (.cut [] (.seq .n .n))))
  | 73 => (.seq .n (.seq (.seq .n (.cond (.seq .n .n) .n)) (.seq .n .n)))
  | 74 => (.seq .n (.seq .n .n))
  | 75 => (.seq .n (.seq .n .n))
  | 76 => (.seq .n (.seq .n .n))
  | 77 => (.seq .n (.seq (.seq .n (.cond (.seq .n .n) .n)) (.seq .n .n)))
  | 78 => (.seq .n (.seq (.seq .n (.cond (.seq .n .n) .n)) (.seq .n (.seq .n (.seq .n (.seq .n (.seq (.seq .n (.block (.seq .n (.cond .n (.seq .n (.cond .n (.seq (.seq .n (.cond .n .n)) (.cut [0, 1, 4, 6, 7, 8, 9, 29, 51] (.cond (.seq .n .n) (.seq .n (.cond (.seq .n .n) .n))))))))))) (.cut [0, 1, 4, 7, 8, 9] (.seq (.seq .n (.cond (.seq .n .n) .n)) (.seq .n (.seq (.block (.loop [0, 1, 4, 7, 8] [1, 4, 7] [4, 5] [(7, some 3, 4)] (.seq (.seq .n (.cond .n .n)) (.seq (.block (.seq .n (.seq (.seq .n (.cond (.seq .n .n) .n)) (.seq .n .n)))) .n)))) (.cut [1, 4, 7] (.seq .n .n)))))))))))))
  | 79 => (.seq .n (.seq (.seq .n (.block (.seq .n (.cond (.seq .n .n) (.seq .n (.cond (.seq (.seq .n (.block (.loop [2, 3, 24, 25, 26] [] [6, 7] [] (.seq .n (.seq (.cond .n .n) (.seq (.block (.seq .n (.seq .n (.cond (.seq .n .n) .n)))) .n)))))) (.cut [] (.seq .n .n))) .n)))))) (.cut [1, 2, 3] (.seq .n (.seq (.seq .n (.cond (.seq .n .n) .n)) (.seq (.block (.seq .n (.cond (.seq .n .n) (.seq .n (.cond (.seq .n .n) (.seq .n (.cond (.seq .n .n) (.seq .n (.cond (.seq .n .n) .n))))))))) (.seq .n (.seq (.seq .n (.cond (.seq .n .n) .n)) (.seq (.seq .n (.cond (.seq .n .n) .n)) (.seq .n (.seq (.seq .n (.cond (.seq .n .n) .n)) (.seq .n .n))))))))))))
  | 80 => (.seq .n (.seq (.seq .n (.cond (.seq .n .n) .n)) (.seq .n (.seq .n (.seq .n (.seq (.seq .n (.block (.seq .n (.cond .n (.seq .n (.cond .n (.seq (.seq .n (.cond .n .n)) (.cut [4, 5, 6, 7, 28, 49] (.cond (.seq .n .n) (.seq .n (.cond (.seq .n (.seq (.seq .n (.cond (.seq .n .n) .n)) (.seq .n (.seq .n .n)))) .n))))))))))) (.cut [5, 6, 7] (.seq (.seq .n (.cond (.seq .n .n) .n)) (.seq .n .n)))))))))
  | 81 => (.seq .n (.seq .n (.seq .n (.seq (.seq .n (.block (.loop [3, 4, 11, 12, 13] [3] [2] [(4, none, 1)] (.seq .n (.seq (.cond .n .n) (.seq (.block (.seq .n (.seq .n (.block (.seq .n (.cond .n (.seq .n (.cond (.seq .n (.seq .n (.seq .n .n))) .n)))))))) (.cut [3, 4, 11, 12, 13] .n))))))) (.cut [3] (.seq .n .n))))))
  | 82 => (.seq .n (.seq .n .n))
  | 83 => (.seq .n (.seq .n .n))
  | 84 => (.seq .n (.seq .n .n))
  | 85 => (.seq .n (.seq .n .n))
  | 86 => (.seq .n (.seq (.seq .n (.block (.loop [0, 1, 7, 8] [] [4] [] (.seq .n (.seq (.cond .n .n) (.seq (.block (.seq .n (.seq .n (.cond (.seq .n .n) .n)))) .n)))))) (.cut [] (.seq .n .n))))
  | 87 => (.seq .n (.seq (.seq .n (.cond (.seq .n .n) .n)) (.seq .n .n)))
  | 88 => (.seq .n (.seq (.seq .n (.block (.seq .n (.cond (.seq .n .n) (.seq .n (.cond (.seq .n .n) (.seq .n (.cond (.seq .n .n) (.seq (.seq .n (.cond .n .n)) (.cut [0, 1, 2, 8, 33] (.cond (.seq (.seq .n (.cond (.seq .n .n) .n)) (.seq (.seq .n (.cond (.seq .n .n) .n)) (.seq .n .n))) (.seq .n (.cond (.seq (.seq .n (.cond (.seq .n .n) .n)) (.seq .n .n)) (.seq .n (.cond (.seq .n .n) (.seq .n (.cond (.seq .n .n) (.seq .n (.cond (.seq .n .n) .n))))))))))))))))))) (.cut [1, 2] (.seq .n .n))))
  | 89 => (.seq .n (.seq (.seq .n (.block (.loop [0, 5, 6, 7] [0] [2] [] (.seq .n (.seq (.cond .n .n) (.seq (.block (.seq .n (.seq .n (.cond (.seq .n .n) .n)))) .n)))))) (.cut [0] (.seq .n .n))))
  | 90 => (.seq .n (.seq .n (.seq .n (.block (.loop [0, 2, 9, 10] [] [6, 7, 8] [] (.seq (.block (.seq (.seq .n (.cond (.seq .n .n) .n)) (.seq .n (.seq .n (.cond (.seq .n .n) .n))))) .n))))))
  | 91 => (.seq .n (.seq (.seq .n (.cond (.seq .n .n) .n)) (.seq .n .n)))
  | 92 => (.seq .n (.seq (.seq .n (.cond (.seq .n .n) .n)) (.seq .n (.seq .n (.seq (.seq .n (.cond (.seq .n .n) .n)) (.seq .n (.seq (.seq .n (.block (.seq .n (.cond .n (.seq .n (.cond .n (.seq .n (.cond .n (.seq .n (.cond (.seq .n .n) (.seq .n (.cond (.seq .n (.seq (.seq .n (.cond .n .n)) (.cut [0, 6] .n))) (.seq .n (.cond .n (.seq .n (.cond (.seq .n (.cond .n .n)) (.seq .n (.cond .n (.seq .n (.cond (.seq .n .n) .n)))))))))))))))))))) (.cut [] (.seq .n .n)))))))))
  | 93 => (.seq .n (.seq .n (.seq .n (.seq .n (.seq .n .n)))))
  | 94 => (.seq .n (.seq (.seq .n (.block (.loop [0, 1, 7, 8] [] [4] [] (.seq .n (.seq (.cond .n .n) (.seq (.block (.seq .n (.seq .n (.cond (.seq .n .n) .n)))) .n)))))) (.cut [] (.seq .n .n))))
  | 95 => (.seq .n (.seq (.seq .n (.cond (.seq .n .n) .n)) (.seq (.seq .n (.block (.seq .n (.cond (.seq .n .n) (.seq .n (.cond (.seq (.seq .n (.block (.loop [1, 3] [1] [2] [] (.seq (.seq .n (.cond .n .n)) (.seq (.block (.seq .n (.cond (.seq .n .n) .n))) .n))))) (.cut [1] (.seq .n .n))) (.seq .n (.cond (.seq .n .n) .n)))))))) (.cut [] (.seq .n .n)))))
  | 96 => (.seq .n (.seq (.seq .n (.block (.seq .n (.cond (.seq .n .n) (.seq .n (.cond (.seq .n .n) (.seq (.seq .n (.cond .n .n)) (.cut [3, 8] (.cond (.seq .n .n) (.seq (.seq .n (.cond .n .n)) (.cut [3, 11] (.cond (.seq .n .n) (.seq (.seq .n (.cond .n .n)) (.cut [3, 14] (.cond (.seq .n .n) (.seq (.seq .n (.cond .n (.seq .n (.cond .n .n)))) (.cut [3, 17] (.cond (.seq .n .n) (.seq .n (.cond (.seq .n .n) .n)))))))))))))))))))) (.cut [] (.seq .n .n))))
  | 97 => (.seq .n (.seq (.seq .n (.cond (.seq .n .n) .n)) (.seq .n .n)))
  | 98 => (.seq .n (.seq (.seq .n (.block (.seq .n (.cond (.seq .n .n) (.seq .n (.cond (.seq .n .n) (.seq .n (.cond (.seq .n .n) (.seq .n (.cond (.seq .n .n) (.seq .n (.cond (.seq .n .n) (.seq .n (.cond (.seq .n .n) (.seq .n (.cond (.seq .n .n) (.seq .n (.cond (.seq (.seq .n (.cond (.seq .n .n) .n)) (.seq .n .n)) .n)))))))))))))))))) (.seq (.seq .n (.cond (.seq .n .n) .n)) (.seq (.seq .n (.cond (.seq .n .n) .n)) (.seq .n .n)))))
  | 99 => (.seq .n (.seq .n .n))
  | 100 => (.seq .n (.seq (.seq .n (.block (.seq .n (.cond (.seq .n .n) (.seq .n (.cond (.seq .n .n) (.seq (.seq .n (.cond .n .n)) (.cut [5, 10] (.cond (.seq .n .n) (.seq (.seq .n (.cond .n .n)) (.cut [5, 13] (.cond (.seq .n .n) (.seq (.seq .n (.cond .n .n)) (.cut [5, 16] (.cond (.seq .n .n) (.seq (.seq .n (.cond .n (.seq .n (.cond .n .n)))) (.cut [5, 19] (.cond (.seq .n .n) (.seq .n (.cond (.seq .n .n) .n)))))))))))))))))))) (.cut [] (.seq .n .n))))
  | 101 => (.seq .n (.seq (.seq .n (.block (.loop [0, 1, 7, 8] [] [4] [] (.seq .n (.seq (.cond .n .n) (.seq (.block (.seq .n (.seq .n (.cond (.seq .n .n) .n)))) .n)))))) (.cut [] (.seq .n .n))))
  | 102 => (.seq .n (.seq (.seq .n (.cond (.seq .n .n) .n)) (.seq .n .n)))
  | 103 => (.seq .n (.seq (.seq .n (.block (.seq .n (.cond (.seq .n .n) (.seq (.seq .n (.cond .n .n)) (.cut [1, 2, 6, 17] (.cond (.seq .n .n) (.seq .n (.cond (.seq .n .n) (.seq .n (.cond (.seq .n .n) (.seq (.seq .n (.cond .n .n)) (.cut [1, 2, 6, 53] (.cond (.seq .n .n) (.seq (.seq .n (.cond .n .n)) (.cut [2, 70] (.cond (.seq .n .n) .n))))))))))))))))) (.cut [] (.seq .n .n))))
  | 104 => (.seq .n (.seq (.seq .n (.cond (.seq .n .n) .n)) (.seq .n (.seq .n (.seq .n (.seq (.seq .n (.cond (.seq .n .n) .n)) (.seq .n (.seq .n (.seq (.seq .n (.cond .n .n)) (.cut [0, 6, 7, 9, 10] (.seq .n (.seq (.seq .n (.block (.seq .n (.cond (.seq .n .n) (.seq .n (.cond .n (.seq .n (.cond .n (.seq .n (.cond .n (.seq .n (.cond .n (.seq .n (.cond (.seq .n (.cond .n .n)) (.seq .n (.cond (.seq .n (.cond .n .n)) (.seq .n (.cond (.seq .n (.seq (.block (.seq .n (.cond (.seq .n .n) (.seq .n (.cond (.seq .n .n) .n))))) .n)) .n)))))))))))))))))) (.cut [0, 11] (.seq .n (.seq .n .n)))))))))))))))
  | 105 => (.seq .n (.seq .n .n))
  | 106 => (.seq .n (.seq .n .n))
  | 107 => (.seq .n (.seq (.seq .n (.block (.seq .n (.cond (.seq .n .n) (.seq .n (.cond (.seq .n .n) .n)))))) (.seq (.seq .n (.cond (.seq .n .n) .n)) (.seq (.seq .n (.block (.seq .n (.cond (.seq .n .n) (.seq (.seq .n (.cond .n .n)) (.cut [1, 2, 36, 42] (.cond (.seq .n .n) (.seq (.seq .n (.cond .n .n)) (.cut [1, 2, 48] (.cond (.seq .n .n) .n)))))))))) (.cut [2] (.seq .n .n))))))
  | 108 => (.seq .n (.seq (.seq .n (.block (.seq (.seq .n (.cond .n .n)) (.cut [5, 6] (.cond (.seq .n .n) (.seq (.seq .n (.cond .n (.seq .n (.cond .n .n)))) (.cut [5, 9] (.cond (.seq .n .n) (.seq .n (.cond (.seq .n .n) (.seq (.seq .n (.cond .n .n)) (.cut [15] (.cond (.seq .n .n) .n))))))))))))) (.cut [] (.seq .n .n))))
  | 109 => (.seq .n (.seq .n (.seq .n (.seq .n (.seq .n (.seq .n .n))))))
  | 110 => (.seq .n (.seq .n .n))
  | 111 => (.seq .n (.seq .n (.seq (.seq .n (.block (.loop [0, 1, 5, 8, 9, 10] [5] [4] [] (.seq .n (.seq (.cond .n .n) (.seq (.block (.seq .n (.seq .n (.cond .n .n)))) (.cut [0, 1, 5, 8, 9, 10] .n))))))) (.cut [5] (.seq .n .n)))))
  | 112 => (.seq .n (.seq .n (.seq (.block (.loop [0, 1, 5] [5] [4] [] (.seq (.seq .n (.cond .n .n)) (.block .n)))) (.cut [5] (.seq .n .n)))))
  | 113 => (.seq .n (.seq .n .n))
  | 114 => (.seq .n (.seq .n .n))
  | 115 => (.seq .n (.seq (.seq .n (.block (.seq (.seq .n (.cond .n .n)) (.cut [5, 6] (.cond (.seq .n .n) (.seq (.seq .n (.cond .n (.seq .n (.cond .n .n)))) (.cut [5, 9] (.cond (.seq .n .n) (.seq .n (.cond (.seq .n .n) (.seq (.seq .n (.cond .n .n)) (.cut [15] (.cond (.seq .n .n) .n))))))))))))) (.cut [] (.seq .n .n))))
  | 116 => (.seq .n (.seq (.seq .n (.block (.loop [0, 1, 7, 8] [] [4] [] (.seq .n (.seq (.cond .n .n) (.seq (.block (.seq .n (.seq .n (.cond (.seq .n .n) .n)))) .n)))))) (.cut [] (.seq .n .n))))
  | 117 => (.seq .n (.seq .n (.seq .n .n)))
  | 118 => (.seq .n (.seq .n .n))
  | _ => .n
noncomputable def pr : Pr := ⟨Try.prog, prPol, prAnn, prPrim⟩
end Go.Ev

/- Small functions of bytes and numbers: what they compute. -/
namespace Go.Ev
set_option linter.unusedVariables false
set_option linter.unusedSimpArgs false
open Go.Proofs
set_option maxRecDepth 100000
set_option linter.unusedVariables false
theorem within_ev (x lo hi : Int) : Ev pr (.call 41 [i64 x, i64 lo, i64 hi] []) (.val (bl (decide (x ≥ lo) && decide (x ≤ hi))) []) := by
  by_cases hc0 : lo ≤ x
  · let t0 : Tp pr := .b (show (decide (x ≥ lo)) = true by simpa using hc0)
    exact .tpe [t0] (Out.val (V.t (T.bool (decide (x ≤ hi)))) []) (by kernel_rfl) (congrArg (fun x => Out.val (V.t (T.bool x)) []) (show (decide (x ≤ hi)) = (decide (x ≥ lo) && decide (x ≤ hi)) by simp [bl, *]))
  · let t0 : Tp pr := .b (show (decide (x ≥ lo)) = false by simpa using hc0)
    exact .tpe [t0] (Out.val (V.t (T.bool false)) []) (by kernel_rfl) (congrArg (fun x => Out.val (V.t (T.bool x)) []) (show (false) = (decide (x ≥ lo) && decide (x ≤ hi)) by simp [bl, *]))
theorem isLetter_ev (x : Int) : Ev pr (.call 113 [.t (.int .u8 x)] []) (.val (bl (decide (97 ≤ x) && decide (x ≤ 122))) []) := by
  by_cases hc0 : (97 : Int) ≤ x
  · let t0 : Tp pr := .b (show (decide (x ≥ (97 : Int))) = true by simpa using hc0)
    exact .tpe [t0] (Out.val (V.t (T.bool (decide (x ≤ (122 : Int))))) []) (by kernel_rfl) (congrArg (fun x => Out.val (V.t (T.bool x)) []) (show (decide (x ≤ (122 : Int))) = (decide ((97 : Int) ≤ x) && decide (x ≤ (122 : Int))) by simp [bl, *]))
  · let t0 : Tp pr := .b (show (decide (x ≥ (97 : Int))) = false by simpa using hc0)
    exact .tpe [t0] (Out.val (V.t (T.bool false)) []) (by kernel_rfl) (congrArg (fun x => Out.val (V.t (T.bool x)) []) (show (false) = (decide ((97 : Int) ≤ x) && decide (x ≤ (122 : Int))) by simp [bl, *]))
theorem isLetterB_ev (b : UInt8) : Ev pr (.call 113 [.t (.int .u8 b.toNat)] []) (.val (bl (letter b)) []) := isLetter_ev b.toNat
theorem runL_ev (s : ByteArray) (hs : s.size ≤ 9223372036854775807) : ∀ (rest done : List UInt8) (i : Int), s.toList = done ++ rest → i = done.length →
    Ev pr (.loop (lq pr 112 0) (at_ [((0 : Nat), V.t (T.str s)), ((1 : Nat), V.t (T.clo 113 [])), ((5 : Nat), i64 i)] [] 0)) (.exit 0 (at_ [(5, i64 (i + (rest.takeWhile letter).length))] [] 0))
  | [], done, i, h, hi => by
    have hl := bys_cut h
    let t1 : Tp pr := .b (show (decide (i < (↑s.size : Int))) = false by simp [*])
    exact .tpe [.i (rfl : ((↑s.size : Int)) = _), t1, .b (rfl : false = false)] (Out.exit (0 : Nat) (at_ [((5 : Nat), V.t (T.int IntKind.i64 i))] [] (0 : Nat))) (by kernel_rfl) (congrArg (fun x => Out.exit (0 : Nat) (at_ [((5 : Nat), V.t (T.int IntKind.i64 x))] [] (0 : Nat))) (show (i) = (i + (0 : Int)) by simp [i64]))
  | b :: rest, done, i, h, hi => by
    have hl := bys_cut h
    have hb := lkpS_mid h hi
    have ih := runL_ev s hs rest (done ++ [b]) (i + 1) (by simp [h]) (by simp [hi])
    simp at hl
    cases hL : letter b with
    | true => (
      let t1 : Tp pr := .b (show (decide (i < (↑s.size : Int))) = true by (simp; omega))
      let t2 : Tp pr := .g .u8 (show (lkpS s i) = some (b) from hb)
      let t4 : Tp pr := .b (show (letter b) = true by assumption)
      let t5 : Tp pr := .i (wrap_i64 (a := i + (1 : Int)) (by omega) (by omega))
      exact .tpe [.i (rfl : ((↑s.size : Int)) = _), t1, t2, .a (isLetterB_ev (b)), t4, t5, .a (ih)] (Out.exit (0 : Nat) (at_ [((5 : Nat), V.t (T.int IntKind.i64 (i + (1 : Int) + (↑(List.takeWhile letter rest).length : Int))))] [] (0 : Nat))) (by kernel_rfl) (congrArg (fun x => Out.exit (0 : Nat) (at_ [((5 : Nat), V.t (T.int IntKind.i64 x))] [] (0 : Nat))) (show (i + (1 : Int) + (↑(List.takeWhile letter rest).length : Int)) = (i + (↑(List.takeWhile letter (b :: rest)).length : Int)) by (simp [i64, hL, List.takeWhile_cons]; omega))))
    | false => (
      let t1 : Tp pr := .b (show (decide (i < (↑s.size : Int))) = true by (simp; omega))
      let t2 : Tp pr := .g .u8 (show (lkpS s i) = some (b) from hb)
      let t4 : Tp pr := .b (show (letter b) = false by assumption)
      exact .tpe [.i (rfl : ((↑s.size : Int)) = _), t1, t2, .a (isLetterB_ev (b)), t4] (Out.exit (0 : Nat) (at_ [((5 : Nat), V.t (T.int IntKind.i64 i))] [] (0 : Nat))) (by kernel_rfl) (congrArg (fun x => Out.exit (0 : Nat) (at_ [((5 : Nat), V.t (T.int IntKind.i64 x))] [] (0 : Nat))) (show (i) = (i + (↑(List.takeWhile letter (b :: rest)).length : Int)) by simp [i64, hL, List.takeWhile_cons])))
theorem run_ev (s : ByteArray) (hs : s.size ≤ 9223372036854775807) : Ev pr (.call 112 [.t (.str s), .t (.clo 113 [])] []) (.val (i64 ((s.toList.takeWhile letter).length)) []) := by
  have := runL_ev s hs s.toList [] 0 rfl rfl
  exact .tpe [.a (this)] (Out.val (V.t (T.int IntKind.i64 ((0 : Int) + (↑(List.takeWhile letter s.toList).length : Int)))) []) (by kernel_rfl) (congrArg (fun x => Out.val (V.t (T.int IntKind.i64 x)) []) (show ((0 : Int) + (↑(List.takeWhile letter s.toList).length : Int)) = ((↑(List.takeWhile letter s.toList).length : Int)) by simp [i64]))
theorem StrengthOf_ev (s : ByteArray) : Ev pr (.call 100 [.t (.str s)] []) (.val (.tup [i64 (strength s.toList), bl (strength s.toList == 7), bl (strength s.toList != 0)]) []) := by
  by_cases hc0 : s.toList = [(124 : UInt8), (124 : UInt8)]
  · let t0 : Tp pr := .b (show (s.toList == [(124 : UInt8), (124 : UInt8)]) = true by simpa using hc0)
    exact .tpe [t0] (Out.val (V.tup [V.t (T.int IntKind.i64 (1 : Int)), V.t (T.bool false), V.t (T.bool true)]) []) (by kernel_rfl) (((congrArg (fun x => Out.val (V.tup [V.t (T.int IntKind.i64 x), V.t (T.bool false), V.t (T.bool true)]) []) (show ((1 : Int)) = (strength s.toList) by simp [strength, *])).trans (congrArg (fun x => Out.val (V.tup [V.t (T.int IntKind.i64 (strength s.toList)), V.t (T.bool x), V.t (T.bool true)]) []) (show (false) = (decide (strength s.toList = (7 : Int))) by simp [strength, *]))).trans (congrArg (fun x => Out.val (V.tup [V.t (T.int IntKind.i64 (strength s.toList)), V.t (T.bool (decide (strength s.toList = (7 : Int)))), V.t (T.bool x)]) []) (show (true) = (strength s.toList != (0 : Int)) by simp [strength, *])))
  · let t0 : Tp pr := .b (show (s.toList == [(124 : UInt8), (124 : UInt8)]) = false by simpa using hc0)
    by_cases hc1 : s.toList = [(38 : UInt8), (38 : UInt8)]
    · let t1 : Tp pr := .b (show (s.toList == [(38 : UInt8), (38 : UInt8)]) = true by simpa using hc1)
      exact .tpe [t0, t1] (Out.val (V.tup [V.t (T.int IntKind.i64 (2 : Int)), V.t (T.bool false), V.t (T.bool true)]) []) (by kernel_rfl) (((congrArg (fun x => Out.val (V.tup [V.t (T.int IntKind.i64 x), V.t (T.bool false), V.t (T.bool true)]) []) (show ((2 : Int)) = (strength s.toList) by simp [strength, *])).trans (congrArg (fun x => Out.val (V.tup [V.t (T.int IntKind.i64 (strength s.toList)), V.t (T.bool x), V.t (T.bool true)]) []) (show (false) = (decide (strength s.toList = (7 : Int))) by simp [strength, *]))).trans (congrArg (fun x => Out.val (V.tup [V.t (T.int IntKind.i64 (strength s.toList)), V.t (T.bool (decide (strength s.toList = (7 : Int)))), V.t (T.bool x)]) []) (show (true) = (strength s.toList != (0 : Int)) by simp [strength, *])))
    · let t1 : Tp pr := .b (show (s.toList == [(38 : UInt8), (38 : UInt8)]) = false by simpa using hc1)
      by_cases hc2 : s.toList = [(61 : UInt8), (61 : UInt8)]
      · let t2 : Tp pr := .b (show (s.toList == [(61 : UInt8), (61 : UInt8)]) = true by simpa using hc2)
        let t3 : Tp pr := .b (show (s.toList == [(61 : UInt8), (61 : UInt8)]) = true by (simp; omega))
        exact .tpe [t0, t1, t2, t3] (Out.val (V.tup [V.t (T.int IntKind.i64 (3 : Int)), V.t (T.bool false), V.t (T.bool true)]) []) (by kernel_rfl) (((congrArg (fun x => Out.val (V.tup [V.t (T.int IntKind.i64 x), V.t (T.bool false), V.t (T.bool true)]) []) (show ((3 : Int)) = (strength s.toList) by simp [strength, *])).trans (congrArg (fun x => Out.val (V.tup [V.t (T.int IntKind.i64 (strength s.toList)), V.t (T.bool x), V.t (T.bool true)]) []) (show (false) = (decide (strength s.toList = (7 : Int))) by simp [strength, *]))).trans (congrArg (fun x => Out.val (V.tup [V.t (T.int IntKind.i64 (strength s.toList)), V.t (T.bool (decide (strength s.toList = (7 : Int)))), V.t (T.bool x)]) []) (show (true) = (strength s.toList != (0 : Int)) by simp [strength, *])))
      · let t2 : Tp pr := .b (show (s.toList == [(61 : UInt8), (61 : UInt8)]) = false by simpa using hc2)
        by_cases hc3 : s.toList = [(33 : UInt8), (61 : UInt8)]
        · let t3 : Tp pr := .b (show (s.toList == [(33 : UInt8), (61 : UInt8)]) = true by simpa using hc3)
          exact .tpe [t0, t1, t2, t3] (Out.val (V.tup [V.t (T.int IntKind.i64 (3 : Int)), V.t (T.bool false), V.t (T.bool true)]) []) (by kernel_rfl) (((congrArg (fun x => Out.val (V.tup [V.t (T.int IntKind.i64 x), V.t (T.bool false), V.t (T.bool true)]) []) (show ((3 : Int)) = (strength s.toList) by simp [strength, *])).trans (congrArg (fun x => Out.val (V.tup [V.t (T.int IntKind.i64 (strength s.toList)), V.t (T.bool x), V.t (T.bool true)]) []) (show (false) = (decide (strength s.toList = (7 : Int))) by simp [strength, *]))).trans (congrArg (fun x => Out.val (V.tup [V.t (T.int IntKind.i64 (strength s.toList)), V.t (T.bool (decide (strength s.toList = (7 : Int)))), V.t (T.bool x)]) []) (show (true) = (strength s.toList != (0 : Int)) by simp [strength, *])))
        · let t3 : Tp pr := .b (show (s.toList == [(33 : UInt8), (61 : UInt8)]) = false by simpa using hc3)
          by_cases hc4 : s.toList = [(60 : UInt8)]
          · let t4 : Tp pr := .b (show (s.toList == [(60 : UInt8)]) = true by simpa using hc4)
            let t5 : Tp pr := .b (show (s.toList == [(60 : UInt8)]) = true by (simp; omega))
            exact .tpe [t0, t1, t2, t3, t4, t5] (Out.val (V.tup [V.t (T.int IntKind.i64 (4 : Int)), V.t (T.bool false), V.t (T.bool true)]) []) (by kernel_rfl) (((congrArg (fun x => Out.val (V.tup [V.t (T.int IntKind.i64 x), V.t (T.bool false), V.t (T.bool true)]) []) (show ((4 : Int)) = (strength s.toList) by simp [strength, *])).trans (congrArg (fun x => Out.val (V.tup [V.t (T.int IntKind.i64 (strength s.toList)), V.t (T.bool x), V.t (T.bool true)]) []) (show (false) = (decide (strength s.toList = (7 : Int))) by simp [strength, *]))).trans (congrArg (fun x => Out.val (V.tup [V.t (T.int IntKind.i64 (strength s.toList)), V.t (T.bool (decide (strength s.toList = (7 : Int)))), V.t (T.bool x)]) []) (show (true) = (strength s.toList != (0 : Int)) by simp [strength, *])))
          · let t4 : Tp pr := .b (show (s.toList == [(60 : UInt8)]) = false by simpa using hc4)
            by_cases hc5 : s.toList = [(60 : UInt8), (61 : UInt8)]
            · let t5 : Tp pr := .b (show (s.toList == [(60 : UInt8), (61 : UInt8)]) = true by simpa using hc5)
              exact .tpe [t0, t1, t2, t3, t4, t5] (Out.val (V.tup [V.t (T.int IntKind.i64 (4 : Int)), V.t (T.bool false), V.t (T.bool true)]) []) (by kernel_rfl) (((congrArg (fun x => Out.val (V.tup [V.t (T.int IntKind.i64 x), V.t (T.bool false), V.t (T.bool true)]) []) (show ((4 : Int)) = (strength s.toList) by simp [strength, *])).trans (congrArg (fun x => Out.val (V.tup [V.t (T.int IntKind.i64 (strength s.toList)), V.t (T.bool x), V.t (T.bool true)]) []) (show (false) = (decide (strength s.toList = (7 : Int))) by simp [strength, *]))).trans (congrArg (fun x => Out.val (V.tup [V.t (T.int IntKind.i64 (strength s.toList)), V.t (T.bool (decide (strength s.toList = (7 : Int)))), V.t (T.bool x)]) []) (show (true) = (strength s.toList != (0 : Int)) by simp [strength, *])))
            · let t5 : Tp pr := .b (show (s.toList == [(60 : UInt8), (61 : UInt8)]) = false by simpa using hc5)
              by_cases hc6 : s.toList = [(43 : UInt8)]
              · let t6 : Tp pr := .b (show (s.toList == [(43 : UInt8)]) = true by simpa using hc6)
                let t7 : Tp pr := .b (show (s.toList == [(43 : UInt8)]) = true by (simp; omega))
                exact .tpe [t0, t1, t2, t3, t4, t5, t6, t7] (Out.val (V.tup [V.t (T.int IntKind.i64 (5 : Int)), V.t (T.bool false), V.t (T.bool true)]) []) (by kernel_rfl) (((congrArg (fun x => Out.val (V.tup [V.t (T.int IntKind.i64 x), V.t (T.bool false), V.t (T.bool true)]) []) (show ((5 : Int)) = (strength s.toList) by simp [strength, *])).trans (congrArg (fun x => Out.val (V.tup [V.t (T.int IntKind.i64 (strength s.toList)), V.t (T.bool x), V.t (T.bool true)]) []) (show (false) = (decide (strength s.toList = (7 : Int))) by simp [strength, *]))).trans (congrArg (fun x => Out.val (V.tup [V.t (T.int IntKind.i64 (strength s.toList)), V.t (T.bool (decide (strength s.toList = (7 : Int)))), V.t (T.bool x)]) []) (show (true) = (strength s.toList != (0 : Int)) by simp [strength, *])))
              · let t6 : Tp pr := .b (show (s.toList == [(43 : UInt8)]) = false by simpa using hc6)
                by_cases hc7 : s.toList = [(45 : UInt8)]
                · let t7 : Tp pr := .b (show (s.toList == [(45 : UInt8)]) = true by simpa using hc7)
                  exact .tpe [t0, t1, t2, t3, t4, t5, t6, t7] (Out.val (V.tup [V.t (T.int IntKind.i64 (5 : Int)), V.t (T.bool false), V.t (T.bool true)]) []) (by kernel_rfl) (((congrArg (fun x => Out.val (V.tup [V.t (T.int IntKind.i64 x), V.t (T.bool false), V.t (T.bool true)]) []) (show ((5 : Int)) = (strength s.toList) by simp [strength, *])).trans (congrArg (fun x => Out.val (V.tup [V.t (T.int IntKind.i64 (strength s.toList)), V.t (T.bool x), V.t (T.bool true)]) []) (show (false) = (decide (strength s.toList = (7 : Int))) by simp [strength, *]))).trans (congrArg (fun x => Out.val (V.tup [V.t (T.int IntKind.i64 (strength s.toList)), V.t (T.bool (decide (strength s.toList = (7 : Int)))), V.t (T.bool x)]) []) (show (true) = (strength s.toList != (0 : Int)) by simp [strength, *])))
                · let t7 : Tp pr := .b (show (s.toList == [(45 : UInt8)]) = false by simpa using hc7)
                  by_cases hc8 : s.toList = [(42 : UInt8)]
                  · let t8 : Tp pr := .b (show (s.toList == [(42 : UInt8)]) = true by simpa using hc8)
                    let t9 : Tp pr := .b (show (s.toList == [(42 : UInt8)]) = true by (simp; omega))
                    exact .tpe [t0, t1, t2, t3, t4, t5, t6, t7, t8, t9] (Out.val (V.tup [V.t (T.int IntKind.i64 (6 : Int)), V.t (T.bool false), V.t (T.bool true)]) []) (by kernel_rfl) (((congrArg (fun x => Out.val (V.tup [V.t (T.int IntKind.i64 x), V.t (T.bool false), V.t (T.bool true)]) []) (show ((6 : Int)) = (strength s.toList) by simp [strength, *])).trans (congrArg (fun x => Out.val (V.tup [V.t (T.int IntKind.i64 (strength s.toList)), V.t (T.bool x), V.t (T.bool true)]) []) (show (false) = (decide (strength s.toList = (7 : Int))) by simp [strength, *]))).trans (congrArg (fun x => Out.val (V.tup [V.t (T.int IntKind.i64 (strength s.toList)), V.t (T.bool (decide (strength s.toList = (7 : Int)))), V.t (T.bool x)]) []) (show (true) = (strength s.toList != (0 : Int)) by simp [strength, *])))
                  · let t8 : Tp pr := .b (show (s.toList == [(42 : UInt8)]) = false by simpa using hc8)
                    by_cases hc9 : s.toList = [(47 : UInt8)]
                    · let t9 : Tp pr := .b (show (s.toList == [(47 : UInt8)]) = true by simpa using hc9)
                      let t10 : Tp pr := .b (show (s.toList == [(47 : UInt8)]) = true by (simp; omega))
                      exact .tpe [t0, t1, t2, t3, t4, t5, t6, t7, t8, t9, t10] (Out.val (V.tup [V.t (T.int IntKind.i64 (6 : Int)), V.t (T.bool false), V.t (T.bool true)]) []) (by kernel_rfl) (((congrArg (fun x => Out.val (V.tup [V.t (T.int IntKind.i64 x), V.t (T.bool false), V.t (T.bool true)]) []) (show ((6 : Int)) = (strength s.toList) by simp [strength, *])).trans (congrArg (fun x => Out.val (V.tup [V.t (T.int IntKind.i64 (strength s.toList)), V.t (T.bool x), V.t (T.bool true)]) []) (show (false) = (decide (strength s.toList = (7 : Int))) by simp [strength, *]))).trans (congrArg (fun x => Out.val (V.tup [V.t (T.int IntKind.i64 (strength s.toList)), V.t (T.bool (decide (strength s.toList = (7 : Int)))), V.t (T.bool x)]) []) (show (true) = (strength s.toList != (0 : Int)) by simp [strength, *])))
                    · let t9 : Tp pr := .b (show (s.toList == [(47 : UInt8)]) = false by simpa using hc9)
                      by_cases hc10 : s.toList = [(37 : UInt8)]
                      · let t10 : Tp pr := .b (show (s.toList == [(37 : UInt8)]) = true by simpa using hc10)
                        exact .tpe [t0, t1, t2, t3, t4, t5, t6, t7, t8, t9, t10] (Out.val (V.tup [V.t (T.int IntKind.i64 (6 : Int)), V.t (T.bool false), V.t (T.bool true)]) []) (by kernel_rfl) (((congrArg (fun x => Out.val (V.tup [V.t (T.int IntKind.i64 x), V.t (T.bool false), V.t (T.bool true)]) []) (show ((6 : Int)) = (strength s.toList) by simp [strength, *])).trans (congrArg (fun x => Out.val (V.tup [V.t (T.int IntKind.i64 (strength s.toList)), V.t (T.bool x), V.t (T.bool true)]) []) (show (false) = (decide (strength s.toList = (7 : Int))) by simp [strength, *]))).trans (congrArg (fun x => Out.val (V.tup [V.t (T.int IntKind.i64 (strength s.toList)), V.t (T.bool (decide (strength s.toList = (7 : Int)))), V.t (T.bool x)]) []) (show (true) = (strength s.toList != (0 : Int)) by simp [strength, *])))
                      · let t10 : Tp pr := .b (show (s.toList == [(37 : UInt8)]) = false by simpa using hc10)
                        by_cases hc11 : s.toList = [(60 : UInt8), (60 : UInt8)]
                        · let t11 : Tp pr := .b (show (s.toList == [(60 : UInt8), (60 : UInt8)]) = true by simpa using hc11)
                          exact .tpe [t0, t1, t2, t3, t4, t5, t6, t7, t8, t9, t10, t11] (Out.val (V.tup [V.t (T.int IntKind.i64 (7 : Int)), V.t (T.bool true), V.t (T.bool true)]) []) (by kernel_rfl) (((congrArg (fun x => Out.val (V.tup [V.t (T.int IntKind.i64 x), V.t (T.bool true), V.t (T.bool true)]) []) (show ((7 : Int)) = (strength s.toList) by simp [strength, *])).trans (congrArg (fun x => Out.val (V.tup [V.t (T.int IntKind.i64 (strength s.toList)), V.t (T.bool x), V.t (T.bool true)]) []) (show (true) = (decide (strength s.toList = (7 : Int))) by simp [strength, *]))).trans (congrArg (fun x => Out.val (V.tup [V.t (T.int IntKind.i64 (strength s.toList)), V.t (T.bool (decide (strength s.toList = (7 : Int)))), V.t (T.bool x)]) []) (show (true) = (strength s.toList != (0 : Int)) by simp [strength, *])))
                        · let t11 : Tp pr := .b (show (s.toList == [(60 : UInt8), (60 : UInt8)]) = false by simpa using hc11)
                          exact .tpe [t0, t1, t2, t3, t4, t5, t6, t7, t8, t9, t10, t11] (Out.val (V.tup [V.t (T.int IntKind.i64 (0 : Int)), V.t (T.bool false), V.t (T.bool false)]) []) (by kernel_rfl) (((congrArg (fun x => Out.val (V.tup [V.t (T.int IntKind.i64 x), V.t (T.bool false), V.t (T.bool false)]) []) (show ((0 : Int)) = (strength s.toList) by simp [strength, *])).trans (congrArg (fun x => Out.val (V.tup [V.t (T.int IntKind.i64 (strength s.toList)), V.t (T.bool x), V.t (T.bool false)]) []) (show (false) = (decide (strength s.toList = (7 : Int))) by simp [strength, *]))).trans (congrArg (fun x => Out.val (V.tup [V.t (T.int IntKind.i64 (strength s.toList)), V.t (T.bool (decide (strength s.toList = (7 : Int)))), V.t (T.bool x)]) []) (show (false) = (strength s.toList != (0 : Int)) by simp [strength, *])))
theorem l2Strength_ev (s : ByteArray) : Ev pr (.call 96 [.t (.str s)] []) (.val (i64 (strength s.toList)) []) := by
  by_cases hc0 : s.toList = [(124 : UInt8), (124 : UInt8)]
  · let t0 : Tp pr := .b (show (s.toList == [(124 : UInt8), (124 : UInt8)]) = true by simpa using hc0)
    exact .tpe [t0] (Out.val (V.t (T.int IntKind.i64 (1 : Int))) []) (by kernel_rfl) (congrArg (fun x => Out.val (V.t (T.int IntKind.i64 x)) []) (show ((1 : Int)) = (strength s.toList) by simp [strength, *]))
  · let t0 : Tp pr := .b (show (s.toList == [(124 : UInt8), (124 : UInt8)]) = false by simpa using hc0)
    by_cases hc1 : s.toList = [(38 : UInt8), (38 : UInt8)]
    · let t1 : Tp pr := .b (show (s.toList == [(38 : UInt8), (38 : UInt8)]) = true by simpa using hc1)
      exact .tpe [t0, t1] (Out.val (V.t (T.int IntKind.i64 (2 : Int))) []) (by kernel_rfl) (congrArg (fun x => Out.val (V.t (T.int IntKind.i64 x)) []) (show ((2 : Int)) = (strength s.toList) by simp [strength, *]))
    · let t1 : Tp pr := .b (show (s.toList == [(38 : UInt8), (38 : UInt8)]) = false by simpa using hc1)
      by_cases hc2 : s.toList = [(61 : UInt8), (61 : UInt8)]
      · let t2 : Tp pr := .b (show (s.toList == [(61 : UInt8), (61 : UInt8)]) = true by simpa using hc2)
        let t3 : Tp pr := .b (show (s.toList == [(61 : UInt8), (61 : UInt8)]) = true by (simp; omega))
        exact .tpe [t0, t1, t2, t3] (Out.val (V.t (T.int IntKind.i64 (3 : Int))) []) (by kernel_rfl) (congrArg (fun x => Out.val (V.t (T.int IntKind.i64 x)) []) (show ((3 : Int)) = (strength s.toList) by simp [strength, *]))
      · let t2 : Tp pr := .b (show (s.toList == [(61 : UInt8), (61 : UInt8)]) = false by simpa using hc2)
        by_cases hc3 : s.toList = [(33 : UInt8), (61 : UInt8)]
        · let t3 : Tp pr := .b (show (s.toList == [(33 : UInt8), (61 : UInt8)]) = true by simpa using hc3)
          exact .tpe [t0, t1, t2, t3] (Out.val (V.t (T.int IntKind.i64 (3 : Int))) []) (by kernel_rfl) (congrArg (fun x => Out.val (V.t (T.int IntKind.i64 x)) []) (show ((3 : Int)) = (strength s.toList) by simp [strength, *]))
        · let t3 : Tp pr := .b (show (s.toList == [(33 : UInt8), (61 : UInt8)]) = false by simpa using hc3)
          by_cases hc4 : s.toList = [(60 : UInt8)]
          · let t4 : Tp pr := .b (show (s.toList == [(60 : UInt8)]) = true by simpa using hc4)
            let t5 : Tp pr := .b (show (s.toList == [(60 : UInt8)]) = true by (simp; omega))
            exact .tpe [t0, t1, t2, t3, t4, t5] (Out.val (V.t (T.int IntKind.i64 (4 : Int))) []) (by kernel_rfl) (congrArg (fun x => Out.val (V.t (T.int IntKind.i64 x)) []) (show ((4 : Int)) = (strength s.toList) by simp [strength, *]))
          · let t4 : Tp pr := .b (show (s.toList == [(60 : UInt8)]) = false by simpa using hc4)
            by_cases hc5 : s.toList = [(60 : UInt8), (61 : UInt8)]
            · let t5 : Tp pr := .b (show (s.toList == [(60 : UInt8), (61 : UInt8)]) = true by simpa using hc5)
              exact .tpe [t0, t1, t2, t3, t4, t5] (Out.val (V.t (T.int IntKind.i64 (4 : Int))) []) (by kernel_rfl) (congrArg (fun x => Out.val (V.t (T.int IntKind.i64 x)) []) (show ((4 : Int)) = (strength s.toList) by simp [strength, *]))
            · let t5 : Tp pr := .b (show (s.toList == [(60 : UInt8), (61 : UInt8)]) = false by simpa using hc5)
              by_cases hc6 : s.toList = [(43 : UInt8)]
              · let t6 : Tp pr := .b (show (s.toList == [(43 : UInt8)]) = true by simpa using hc6)
                let t7 : Tp pr := .b (show (s.toList == [(43 : UInt8)]) = true by (simp; omega))
                exact .tpe [t0, t1, t2, t3, t4, t5, t6, t7] (Out.val (V.t (T.int IntKind.i64 (5 : Int))) []) (by kernel_rfl) (congrArg (fun x => Out.val (V.t (T.int IntKind.i64 x)) []) (show ((5 : Int)) = (strength s.toList) by simp [strength, *]))
              · let t6 : Tp pr := .b (show (s.toList == [(43 : UInt8)]) = false by simpa using hc6)
                by_cases hc7 : s.toList = [(45 : UInt8)]
                · let t7 : Tp pr := .b (show (s.toList == [(45 : UInt8)]) = true by simpa using hc7)
                  exact .tpe [t0, t1, t2, t3, t4, t5, t6, t7] (Out.val (V.t (T.int IntKind.i64 (5 : Int))) []) (by kernel_rfl) (congrArg (fun x => Out.val (V.t (T.int IntKind.i64 x)) []) (show ((5 : Int)) = (strength s.toList) by simp [strength, *]))
                · let t7 : Tp pr := .b (show (s.toList == [(45 : UInt8)]) = false by simpa using hc7)
                  by_cases hc8 : s.toList = [(42 : UInt8)]
                  · let t8 : Tp pr := .b (show (s.toList == [(42 : UInt8)]) = true by simpa using hc8)
                    let t9 : Tp pr := .b (show (s.toList == [(42 : UInt8)]) = true by (simp; omega))
                    exact .tpe [t0, t1, t2, t3, t4, t5, t6, t7, t8, t9] (Out.val (V.t (T.int IntKind.i64 (6 : Int))) []) (by kernel_rfl) (congrArg (fun x => Out.val (V.t (T.int IntKind.i64 x)) []) (show ((6 : Int)) = (strength s.toList) by simp [strength, *]))
                  · let t8 : Tp pr := .b (show (s.toList == [(42 : UInt8)]) = false by simpa using hc8)
                    by_cases hc9 : s.toList = [(47 : UInt8)]
                    · let t9 : Tp pr := .b (show (s.toList == [(47 : UInt8)]) = true by simpa using hc9)
                      let t10 : Tp pr := .b (show (s.toList == [(47 : UInt8)]) = true by (simp; omega))
                      exact .tpe [t0, t1, t2, t3, t4, t5, t6, t7, t8, t9, t10] (Out.val (V.t (T.int IntKind.i64 (6 : Int))) []) (by kernel_rfl) (congrArg (fun x => Out.val (V.t (T.int IntKind.i64 x)) []) (show ((6 : Int)) = (strength s.toList) by simp [strength, *]))
                    · let t9 : Tp pr := .b (show (s.toList == [(47 : UInt8)]) = false by simpa using hc9)
                      by_cases hc10 : s.toList = [(37 : UInt8)]
                      · let t10 : Tp pr := .b (show (s.toList == [(37 : UInt8)]) = true by simpa using hc10)
                        exact .tpe [t0, t1, t2, t3, t4, t5, t6, t7, t8, t9, t10] (Out.val (V.t (T.int IntKind.i64 (6 : Int))) []) (by kernel_rfl) (congrArg (fun x => Out.val (V.t (T.int IntKind.i64 x)) []) (show ((6 : Int)) = (strength s.toList) by simp [strength, *]))
                      · let t10 : Tp pr := .b (show (s.toList == [(37 : UInt8)]) = false by simpa using hc10)
                        by_cases hc11 : s.toList = [(60 : UInt8), (60 : UInt8)]
                        · let t11 : Tp pr := .b (show (s.toList == [(60 : UInt8), (60 : UInt8)]) = true by simpa using hc11)
                          exact .tpe [t0, t1, t2, t3, t4, t5, t6, t7, t8, t9, t10, t11] (Out.val (V.t (T.int IntKind.i64 (7 : Int))) []) (by kernel_rfl) (congrArg (fun x => Out.val (V.t (T.int IntKind.i64 x)) []) (show ((7 : Int)) = (strength s.toList) by simp [strength, *]))
                        · let t11 : Tp pr := .b (show (s.toList == [(60 : UInt8), (60 : UInt8)]) = false by simpa using hc11)
                          exact .tpe [t0, t1, t2, t3, t4, t5, t6, t7, t8, t9, t10, t11] (Out.val (V.t (T.int IntKind.i64 (0 : Int))) []) (by kernel_rfl) (congrArg (fun x => Out.val (V.t (T.int IntKind.i64 x)) []) (show ((0 : Int)) = (strength s.toList) by simp [strength, *]))
theorem l1In_ev (x lo hi : Int) : Ev pr (.call 39 [i64 x, i64 lo, i64 hi] []) (.val (bl (decide (x ≥ lo) && decide (x ≤ hi))) []) := by
  by_cases hc0 : lo ≤ x
  · let t0 : Tp pr := .b (show (decide (x ≥ lo)) = true by simpa using hc0)
    exact .tpe [t0] (Out.val (V.t (T.bool (decide (x ≤ hi)))) []) (by kernel_rfl) (congrArg (fun x => Out.val (V.t (T.bool x)) []) (show (decide (x ≤ hi)) = (decide (x ≥ lo) && decide (x ≤ hi)) by simp [bl, *]))
  · let t0 : Tp pr := .b (show (decide (x ≥ lo)) = false by simpa using hc0)
    exact .tpe [t0] (Out.val (V.t (T.bool false)) []) (by kernel_rfl) (congrArg (fun x => Out.val (V.t (T.bool x)) []) (show (false) = (decide (x ≥ lo) && decide (x ≤ hi)) by simp [bl, *]))
theorem l1Letter_ev (x : Int) : Ev pr (.call 110 [.t (.int .u8 x)] []) (.val (bl (decide (97 ≤ x) && decide (x ≤ 122))) []) := by
  by_cases hc0 : (97 : Int) ≤ x
  · let t0 : Tp pr := .b (show (decide (x ≥ (97 : Int))) = true by simpa using hc0)
    exact .tpe [t0] (Out.val (V.t (T.bool (decide (x ≤ (122 : Int))))) []) (by kernel_rfl) (congrArg (fun x => Out.val (V.t (T.bool x)) []) (show (decide (x ≤ (122 : Int))) = (decide ((97 : Int) ≤ x) && decide (x ≤ (122 : Int))) by simp [bl, *]))
  · let t0 : Tp pr := .b (show (decide (x ≥ (97 : Int))) = false by simpa using hc0)
    exact .tpe [t0] (Out.val (V.t (T.bool false)) []) (by kernel_rfl) (congrArg (fun x => Out.val (V.t (T.bool x)) []) (show (false) = (decide ((97 : Int) ≤ x) && decide (x ≤ (122 : Int))) by simp [bl, *]))
theorem l1LetterB_ev (b : UInt8) : Ev pr (.call 110 [.t (.int .u8 b.toNat)] []) (.val (bl (letter b)) []) := l1Letter_ev b.toNat
theorem nameOk_ev (s : ByteArray) (hs : s.size ≤ 9223372036854775807) : Ev pr (.call 99 [.t (.str s)] []) (.val (bl (nameOk s)) []) := by
  rw [nameOk_code]
  by_cases hc0 : s.toList = []
  · let t0 : Tp pr := .b (show (!s.toList == []) = false by simpa using hc0)
    exact .tpe [t0, .b (rfl : false = false)] (Out.val (V.t (T.bool false)) []) (by kernel_rfl) (congrArg (fun x => Out.val (V.t (T.bool x)) []) (show (false) = (!s.toList == [] && (decide ((↑s.size : Int) ≤ (8 : Int)) && decide ((↑(List.takeWhile letter s.toList).length : Int) = (↑s.size : Int)))) by simp [*]))
  · let t0 : Tp pr := .b (show (!s.toList == []) = true by simpa using hc0)
    by_cases hc2 : (↑s.size : Int) ≤ (8 : Int)
    · let t2 : Tp pr := .b (show (decide ((↑s.size : Int) ≤ (8 : Int))) = true by simpa using hc2)
      exact .tpe [t0, .i (rfl : ((↑s.size : Int)) = _), t2, .a (run_ev (s) (by assumption)), .i (rfl : ((↑s.size : Int)) = _)] (Out.val (V.t (T.bool (decide ((↑(List.takeWhile letter s.toList).length : Int) = (↑s.size : Int))))) []) (by kernel_rfl) (congrArg (fun x => Out.val (V.t (T.bool x)) []) (show (decide ((↑(List.takeWhile letter s.toList).length : Int) = (↑s.size : Int))) = (!s.toList == [] && (decide ((↑s.size : Int) ≤ (8 : Int)) && decide ((↑(List.takeWhile letter s.toList).length : Int) = (↑s.size : Int)))) by simp [*]))
    · let t2 : Tp pr := .b (show (decide ((↑s.size : Int) ≤ (8 : Int))) = false by simpa using hc2)
      exact .tpe [t0, .i (rfl : ((↑s.size : Int)) = _), t2] (Out.val (V.t (T.bool false)) []) (by kernel_rfl) (congrArg (fun x => Out.val (V.t (T.bool x)) []) (show (false) = (!s.toList == [] && (decide ((↑s.size : Int) ≤ (8 : Int)) && decide ((↑(List.takeWhile letter s.toList).length : Int) = (↑s.size : Int)))) by simp [*]))
theorem GoodNameL_ev (s : ByteArray) (hs : s.size ≤ 9223372036854775807) : ∀ (rest done : List UInt8) (i : Int), s.toList = done ++ rest → i = done.length →
    Ev pr (.loop (lq pr 95 0) (at_ [(1, V.ptr 0 1 0 0), (3, i64 i)] [Ob.box [i64 2, i64 0, V.t (T.str s), i64 0]] 0))
      (bif rest.all letter then .exit 1 (at_ [(1, V.ptr 0 1 0 0)] [Ob.box [i64 2, i64 0, V.t (T.str s), i64 0]] 0) else .ret (at_ [(2, bl false)] [] 0))
  | [], done, i, h, hi => by
    have hl := bys_cut h
    let t1 : Tp pr := .b (show (decide (i < (↑s.size : Int))) = false by simp [*])
    exact .tp [.i (rfl : ((↑s.size : Int)) = _), t1] (by kernel_rfl)
  | b :: rest, done, i, h, hi => by
    have hl := bys_cut h
    have hb := lkpS_mid h hi
    have ih := GoodNameL_ev s hs rest (done ++ [b]) (i + 1) (by simp [h]) (by simp [hi])
    simp at hl
    cases hL : letter b with
    | true => 
      simp only [List.all_cons, hL, Bool.true_and]
      cases hr : rest.all letter with
      | true => rw [hr] at ih; (
        let t1 : Tp pr := .b (show (decide (i < (↑s.size : Int))) = true by (simp; omega))
        let t2 : Tp pr := .g .u8 (show (lkpS s i) = some (b) from hb)
        let t4 : Tp pr := .b (show (!letter b) = false by (simp; omega))
        let t5 : Tp pr := .i (wrap_i64 (a := i + (1 : Int)) (by omega) (by omega))
        exact .tp [.i (rfl : ((↑s.size : Int)) = _), t1, t2, .a (l1LetterB_ev (b)), t4, t5, .a (ih)] (by kernel_rfl))
      | false => rw [hr] at ih; (
        let t1 : Tp pr := .b (show (decide (i < (↑s.size : Int))) = true by (simp; omega))
        let t2 : Tp pr := .g .u8 (show (lkpS s i) = some (b) from hb)
        let t4 : Tp pr := .b (show (!letter b) = false by (simp; omega))
        let t5 : Tp pr := .i (wrap_i64 (a := i + (1 : Int)) (by omega) (by omega))
        exact .tp [.i (rfl : ((↑s.size : Int)) = _), t1, t2, .a (l1LetterB_ev (b)), t4, t5, .a (ih)] (by kernel_rfl))
    | false =>
      simp only [List.all_cons, hL, Bool.false_and]
      let t1 : Tp pr := .b (show (decide (i < (↑s.size : Int))) = true by (simp; omega))
      let t2 : Tp pr := .g .u8 (show (lkpS s i) = some (b) from hb)
      let t4 : Tp pr := .b (show (!letter b) = true by (simp; omega))
      exact .tp [.i (rfl : ((↑s.size : Int)) = _), t1, t2, .a (l1LetterB_ev (b)), t4] (by kernel_rfl)
theorem GoodName_ev (s : ByteArray) (hs : s.size ≤ 9223372036854775807) : Ev pr (.call 95 [.agg [i64 2, i64 0, .t (.str s), i64 0]] []) (.val (bl (nameOk s)) []) := by
  have ih := GoodNameL_ev s hs s.toList [] 0 rfl rfl
  cases hr : s.toList.all letter with
  | true =>
    rw [hr] at ih
    rw [nameOk_true hr]
    let t0 : Tp pr := .a (l1In_ev ((0 : Int)) ((0 : Int)) ((300 : Int)))
    let t7 : Tp pr := .a (l1In_ev ((↑s.size : Int)) ((1 : Int)) ((8 : Int)))
    exact .tp [t0, .b (rfl : false = false), .b (rfl : false = false), .b (rfl : true = true), .a (ih), .b (rfl : true = true), .i (rfl : ((↑s.size : Int)) = _), t7] (by kernel_rfl)
  | false =>
    rw [hr] at ih
    rw [nameOk_false hr]
    let t0 : Tp pr := .a (l1In_ev ((0 : Int)) ((0 : Int)) ((300 : Int)))
    exact .tp [t0, .b (rfl : false = false), .b (rfl : false = false), .b (rfl : true = true), .a (ih)] (by kernel_rfl)
end Go.Ev

/- Expressions: how they are read. -/
namespace Go.Ev
set_option linter.unusedVariables false
set_option linter.unusedSimpArgs false
open Go.Proofs
set_option maxRecDepth 100000
set_option linter.unusedVariables false
set_option maxHeartbeats 1000000
theorem exprFrom_ev : ∀ (n : Nat) (l : List Ex), l.length ≤ n → l.length ≤ 1048576 → (∀ x ∈ l, x.text.size ≤ 9223372036854775807) → Ev pr (.call 80 [exs l] []) (.val (outP (readE n l)) [])
  | 0, l, hn, hl, hs => by
    have : l = [] := List.length_eq_zero_iff.1 (by omega)
    subst this
    let t0 : Tp pr := .i (rfl : ((0 : Int) : Int) = (0 : Int))
    exact .tp [t0, .b (rfl : true = true)] (by kernel_rfl)
  | n + 1, [], hn, hl, hs => by
    let t0 : Tp pr := .i (rfl : ((0 : Int) : Int) = (0 : Int))
    exact .tp [t0, .b (rfl : true = true)] (by kernel_rfl)
  | n + 1, x :: r, hn, hl, hs => by
    have hx := hs x (by simp)
    have ih1 := exprFrom_ev n r (by simp at hn; omega) (by simp at hl; omega) (fun y hy => hs y (by simp [hy]))
    cases h1 : readE n r with
    | none =>
      rw [h1] at ih1
      let t0 : Tp pr := .i (show ((↑(List.map Ex.ce (x :: r)).length : Int) : Int) = (↑r.length : Int) + (1 : Int) by simp)
      let t2 : Tp pr := .g .row (show (some [T.int IntKind.i64 x.kind, T.int IntKind.i64 x.num, T.str x.text]) = some ([T.int IntKind.i64 x.kind, T.int IntKind.i64 x.num, T.str x.text]) by simp)
      let t3 : Tp pr := .m (show (decide ((0 : Int) ≤ (1 : Int) ∧ (1 : Int) ≤ (↑(List.map Ex.ce (x :: r)).length : Int) ∧ (↑(List.map Ex.ce (x :: r)).length : Int) ≤ (↑(List.map Ex.ce (x :: r)).length : Int))) = true by (simp; omega))
      let t4 : Tp pr := .n .rows (show (List.take ((↑(List.map Ex.ce (x :: r)).length : Int).toNat - (1 : Nat)) (List.drop (1 : Nat) (List.map Ex.ce (x :: r)))) = List.map Ex.ce r by simp)
      by_cases hc5 : x.kind = (1 : Int)
      · let t5 : Tp pr := .b (show (decide (x.kind = (1 : Int))) = true by simpa using hc5)
        let t6 : Tp pr := .a (within_ev (x.num) ((0 : Int)) ((999999999 : Int)))
        by_cases hc7 : (0 : Int) ≤ x.num ∧ x.num ≤ (999999999 : Int)
        · let t7 : Tp pr := .b (show (decide (x.num ≥ (0 : Int)) && decide (x.num ≤ (999999999 : Int))) = true by simpa using hc7)
          by_cases hc8 : x.text = e0
          · let t8 : Tp pr := .b (show (!x.text.toList == []) = false by simpa using hc8)
            exact .tpe [t0, .b (rfl : false = false), t2, t3, t4, t5, t6, t7, t8] (Out.val (V.tup [V.t (T.ptr [T.int IntKind.i64 x.kind, T.int IntKind.i64 x.num, T.str x.text, T.nilp, T.nilp] (0 : Nat)), V.t (T.seq (3 : Nat) (List.map Ex.ce r))]) []) (by kernel_rfl) (((congrArg (fun x_1 => Out.val (V.tup [V.t (T.ptr [T.int IntKind.i64 x_1, T.int IntKind.i64 x.num, T.str x.text, T.nilp, T.nilp] (0 : Nat)), V.t (T.seq (3 : Nat) (List.map Ex.ce r))]) []) (show (x.kind) = ((1 : Int)) by assumption)).trans (congrArg (fun x_1 => Out.val (V.tup [V.t (T.ptr [T.int IntKind.i64 (1 : Int), T.int IntKind.i64 x.num, T.str x_1, T.nilp, T.nilp] (0 : Nat)), V.t (T.seq (3 : Nat) (List.map Ex.ce r))]) []) (show (x.text) = (ByteArray.mk #[]) by assumption))).trans (show (Out.val (V.tup [V.t (T.ptr [T.int IntKind.i64 (1 : Int), T.int IntKind.i64 x.num, T.str (ByteArray.mk #[]), T.nilp, T.nilp] (0 : Nat)), V.t (T.seq (3 : Nat) (List.map Ex.ce r))]) []) = Out.val (outP (readE (n + (1 : Nat)) (x :: r))) [] by simp [readE, outP, exs, sl, E.tp, E.tab, *]))
          · let t8 : Tp pr := .b (show (!x.text.toList == []) = true by simpa using hc8)
            exact .tpe [t0, .b (rfl : false = false), t2, t3, t4, t5, t6, t7, t8] (Out.val (V.tup [V.t T.nilp, V.t (T.seq (3 : Nat) [])]) []) (by kernel_rfl) ((rfl).trans (show (Out.val (V.tup [V.t T.nilp, V.t (T.seq (3 : Nat) [])]) []) = Out.val (outP (readE (n + (1 : Nat)) (x :: r))) [] by simp [readE, outP, exs, sl, E.tp, E.tab, *]))
        · let t7 : Tp pr := .b (show (decide (x.num ≥ (0 : Int)) && decide (x.num ≤ (999999999 : Int))) = false by simpa using hc7)
          exact .tpe [t0, .b (rfl : false = false), t2, t3, t4, t5, t6, t7, .b (rfl : true = true)] (Out.val (V.tup [V.t T.nilp, V.t (T.seq (3 : Nat) [])]) []) (by kernel_rfl) ((rfl).trans (show (Out.val (V.tup [V.t T.nilp, V.t (T.seq (3 : Nat) [])]) []) = Out.val (outP (readE (n + (1 : Nat)) (x :: r))) [] by simp [readE, outP, exs, sl, E.tp, E.tab, *]))
      · let t5 : Tp pr := .b (show (decide (x.kind = (1 : Int))) = false by simpa using hc5)
        by_cases hc6 : x.kind = (2 : Int)
        · let t6 : Tp pr := .b (show (decide (x.kind = (2 : Int))) = true by simpa using hc6)
          by_cases hc7 : x.num = (0 : Int)
          · let t7 : Tp pr := .b (show (decide (x.num = (0 : Int))) = true by simpa using hc7)
            by_cases hc9 : nameOk x.text = false
            · let t9 : Tp pr := .b (show (!nameOk x.text) = true by simpa using hc9)
              exact .tpe [t0, .b (rfl : false = false), t2, t3, t4, t5, t6, t7, .a (nameOk_ev (x.text) (by assumption)), t9] (Out.val (V.tup [V.t T.nilp, V.t (T.seq (3 : Nat) [])]) []) (by kernel_rfl) ((rfl).trans (show (Out.val (V.tup [V.t T.nilp, V.t (T.seq (3 : Nat) [])]) []) = Out.val (outP (readE (n + (1 : Nat)) (x :: r))) [] by simp [readE, outP, exs, sl, E.tp, E.tab, *]))
            · let t9 : Tp pr := .b (show (!nameOk x.text) = false by simpa using hc9)
              exact .tpe [t0, .b (rfl : false = false), t2, t3, t4, t5, t6, t7, .a (nameOk_ev (x.text) (by assumption)), t9] (Out.val (V.tup [V.t (T.ptr [T.int IntKind.i64 x.kind, T.int IntKind.i64 x.num, T.str x.text, T.nilp, T.nilp] (0 : Nat)), V.t (T.seq (3 : Nat) (List.map Ex.ce r))]) []) (by kernel_rfl) (((congrArg (fun x_1 => Out.val (V.tup [V.t (T.ptr [T.int IntKind.i64 x_1, T.int IntKind.i64 x.num, T.str x.text, T.nilp, T.nilp] (0 : Nat)), V.t (T.seq (3 : Nat) (List.map Ex.ce r))]) []) (show (x.kind) = ((2 : Int)) by assumption)).trans (congrArg (fun x_1 => Out.val (V.tup [V.t (T.ptr [T.int IntKind.i64 (2 : Int), T.int IntKind.i64 x_1, T.str x.text, T.nilp, T.nilp] (0 : Nat)), V.t (T.seq (3 : Nat) (List.map Ex.ce r))]) []) (show (x.num) = ((0 : Int)) by assumption))).trans (show (Out.val (V.tup [V.t (T.ptr [T.int IntKind.i64 (2 : Int), T.int IntKind.i64 (0 : Int), T.str x.text, T.nilp, T.nilp] (0 : Nat)), V.t (T.seq (3 : Nat) (List.map Ex.ce r))]) []) = Out.val (outP (readE (n + (1 : Nat)) (x :: r))) [] by simp [readE, outP, exs, sl, E.tp, E.tab, *]))
          · let t7 : Tp pr := .b (show (decide (x.num = (0 : Int))) = false by simpa using hc7)
            exact .tpe [t0, .b (rfl : false = false), t2, t3, t4, t5, t6, t7, .b (rfl : true = true)] (Out.val (V.tup [V.t T.nilp, V.t (T.seq (3 : Nat) [])]) []) (by kernel_rfl) ((rfl).trans (show (Out.val (V.tup [V.t T.nilp, V.t (T.seq (3 : Nat) [])]) []) = Out.val (outP (readE (n + (1 : Nat)) (x :: r))) [] by simp [readE, outP, exs, sl, E.tp, E.tab, *]))
        · let t6 : Tp pr := .b (show (decide (x.kind = (2 : Int))) = false by simpa using hc6)
          by_cases hc7 : x.kind = (3 : Int)
          · let t7 : Tp pr := .b (show (decide (x.kind = (3 : Int))) = true by simpa using hc7)
            let t8 : Tp pr := .b (show (decide (x.kind = (3 : Int))) = true by (simp; omega))
            exact .tpe [t0, .b (rfl : false = false), t2, t3, t4, t5, t6, t7, t8, .a (ih1), .b (rfl : false = false), .b (rfl : false = false), .b (rfl : true = true)] (Out.val (V.tup [V.t T.nilp, V.t (T.seq (3 : Nat) [])]) []) (by kernel_rfl) ((rfl).trans (show (Out.val (V.tup [V.t T.nilp, V.t (T.seq (3 : Nat) [])]) []) = Out.val (outP (readE (n + (1 : Nat)) (x :: r))) [] by simp [readE, outP, exs, sl, E.tp, E.tab, *]))
          · let t7 : Tp pr := .b (show (decide (x.kind = (3 : Int))) = false by simpa using hc7)
            by_cases hc8 : x.kind = (4 : Int)
            · let t8 : Tp pr := .b (show (decide (x.kind = (4 : Int))) = true by simpa using hc8)
              exact .tpe [t0, .b (rfl : false = false), t2, t3, t4, t5, t6, t7, t8, .a (ih1), .b (rfl : false = false), .b (rfl : false = false), .b (rfl : true = true)] (Out.val (V.tup [V.t T.nilp, V.t (T.seq (3 : Nat) [])]) []) (by kernel_rfl) ((rfl).trans (show (Out.val (V.tup [V.t T.nilp, V.t (T.seq (3 : Nat) [])]) []) = Out.val (outP (readE (n + (1 : Nat)) (x :: r))) [] by simp [readE, outP, exs, sl, E.tp, E.tab, *]))
            · let t8 : Tp pr := .b (show (decide (x.kind = (4 : Int))) = false by simpa using hc8)
              by_cases hc9 : x.kind = (5 : Int)
              · let t9 : Tp pr := .b (show (decide (x.kind = (5 : Int))) = true by simpa using hc9)
                exact .tpe [t0, .b (rfl : false = false), t2, t3, t4, t5, t6, t7, t8, t9, .a (ih1), .b (rfl : true = true)] (Out.val (V.tup [V.t T.nilp, V.t (T.seq (3 : Nat) [])]) []) (by kernel_rfl) ((rfl).trans (show (Out.val (V.tup [V.t T.nilp, V.t (T.seq (3 : Nat) [])]) []) = Out.val (outP (readE (n + (1 : Nat)) (x :: r))) [] by simp [readE, outP, exs, sl, E.tp, E.tab, *]))
              · let t9 : Tp pr := .b (show (decide (x.kind = (5 : Int))) = false by simpa using hc9)
                exact .tpe [t0, .b (rfl : false = false), t2, t3, t4, t5, t6, t7, t8, t9, .b (rfl : true = true)] (Out.val (V.tup [V.t T.nilp, V.t (T.seq (3 : Nat) [])]) []) (by kernel_rfl) ((rfl).trans (show (Out.val (V.tup [V.t T.nilp, V.t (T.seq (3 : Nat) [])]) []) = Out.val (outP (readE (n + (1 : Nat)) (x :: r))) [] by simp [readE, outP, exs, sl, E.tp, E.tab, *]))
    | some p =>
      obtain ⟨a, r1⟩ := p
      have hr := readE_lt _ _ _ _ h1
      have ih2 := exprFrom_ev n r1 (by simp at hn; omega) (by simp at hl; omega) (fun y hy => hs y (by simp [readE_mem h1 y hy]))
      rw [h1] at ih1
      cases h2 : readE n r1 with
      | none =>
        rw [h2] at ih2
        let t0 : Tp pr := .i (show ((↑(List.map Ex.ce (x :: r)).length : Int) : Int) = (↑r.length : Int) + (1 : Int) by simp)
        let t2 : Tp pr := .g .row (show (some [T.int IntKind.i64 x.kind, T.int IntKind.i64 x.num, T.str x.text]) = some ([T.int IntKind.i64 x.kind, T.int IntKind.i64 x.num, T.str x.text]) by simp)
        let t3 : Tp pr := .m (show (decide ((0 : Int) ≤ (1 : Int) ∧ (1 : Int) ≤ (↑(List.map Ex.ce (x :: r)).length : Int) ∧ (↑(List.map Ex.ce (x :: r)).length : Int) ≤ (↑(List.map Ex.ce (x :: r)).length : Int))) = true by (simp; omega))
        let t4 : Tp pr := .n .rows (show (List.take ((↑(List.map Ex.ce (x :: r)).length : Int).toNat - (1 : Nat)) (List.drop (1 : Nat) (List.map Ex.ce (x :: r)))) = List.map Ex.ce r by simp)
        by_cases hc5 : x.kind = (1 : Int)
        · let t5 : Tp pr := .b (show (decide (x.kind = (1 : Int))) = true by simpa using hc5)
          let t6 : Tp pr := .a (within_ev (x.num) ((0 : Int)) ((999999999 : Int)))
          by_cases hc7 : (0 : Int) ≤ x.num ∧ x.num ≤ (999999999 : Int)
          · let t7 : Tp pr := .b (show (decide (x.num ≥ (0 : Int)) && decide (x.num ≤ (999999999 : Int))) = true by simpa using hc7)
            by_cases hc8 : x.text = e0
            · let t8 : Tp pr := .b (show (!x.text.toList == []) = false by simpa using hc8)
              exact .tpe [t0, .b (rfl : false = false), t2, t3, t4, t5, t6, t7, t8] (Out.val (V.tup [V.t (T.ptr [T.int IntKind.i64 x.kind, T.int IntKind.i64 x.num, T.str x.text, T.nilp, T.nilp] (0 : Nat)), V.t (T.seq (3 : Nat) (List.map Ex.ce r))]) []) (by kernel_rfl) (((congrArg (fun x_1 => Out.val (V.tup [V.t (T.ptr [T.int IntKind.i64 x_1, T.int IntKind.i64 x.num, T.str x.text, T.nilp, T.nilp] (0 : Nat)), V.t (T.seq (3 : Nat) (List.map Ex.ce r))]) []) (show (x.kind) = ((1 : Int)) by assumption)).trans (congrArg (fun x_1 => Out.val (V.tup [V.t (T.ptr [T.int IntKind.i64 (1 : Int), T.int IntKind.i64 x.num, T.str x_1, T.nilp, T.nilp] (0 : Nat)), V.t (T.seq (3 : Nat) (List.map Ex.ce r))]) []) (show (x.text) = (ByteArray.mk #[]) by assumption))).trans (show (Out.val (V.tup [V.t (T.ptr [T.int IntKind.i64 (1 : Int), T.int IntKind.i64 x.num, T.str (ByteArray.mk #[]), T.nilp, T.nilp] (0 : Nat)), V.t (T.seq (3 : Nat) (List.map Ex.ce r))]) []) = Out.val (outP (readE (n + (1 : Nat)) (x :: r))) [] by simp [readE, outP, exs, sl, E.tp, E.tab, *]))
            · let t8 : Tp pr := .b (show (!x.text.toList == []) = true by simpa using hc8)
              exact .tpe [t0, .b (rfl : false = false), t2, t3, t4, t5, t6, t7, t8] (Out.val (V.tup [V.t T.nilp, V.t (T.seq (3 : Nat) [])]) []) (by kernel_rfl) ((rfl).trans (show (Out.val (V.tup [V.t T.nilp, V.t (T.seq (3 : Nat) [])]) []) = Out.val (outP (readE (n + (1 : Nat)) (x :: r))) [] by simp [readE, outP, exs, sl, E.tp, E.tab, *]))
          · let t7 : Tp pr := .b (show (decide (x.num ≥ (0 : Int)) && decide (x.num ≤ (999999999 : Int))) = false by simpa using hc7)
            exact .tpe [t0, .b (rfl : false = false), t2, t3, t4, t5, t6, t7, .b (rfl : true = true)] (Out.val (V.tup [V.t T.nilp, V.t (T.seq (3 : Nat) [])]) []) (by kernel_rfl) ((rfl).trans (show (Out.val (V.tup [V.t T.nilp, V.t (T.seq (3 : Nat) [])]) []) = Out.val (outP (readE (n + (1 : Nat)) (x :: r))) [] by simp [readE, outP, exs, sl, E.tp, E.tab, *]))
        · let t5 : Tp pr := .b (show (decide (x.kind = (1 : Int))) = false by simpa using hc5)
          by_cases hc6 : x.kind = (2 : Int)
          · let t6 : Tp pr := .b (show (decide (x.kind = (2 : Int))) = true by simpa using hc6)
            by_cases hc7 : x.num = (0 : Int)
            · let t7 : Tp pr := .b (show (decide (x.num = (0 : Int))) = true by simpa using hc7)
              by_cases hc9 : nameOk x.text = false
              · let t9 : Tp pr := .b (show (!nameOk x.text) = true by simpa using hc9)
                exact .tpe [t0, .b (rfl : false = false), t2, t3, t4, t5, t6, t7, .a (nameOk_ev (x.text) (by assumption)), t9] (Out.val (V.tup [V.t T.nilp, V.t (T.seq (3 : Nat) [])]) []) (by kernel_rfl) ((rfl).trans (show (Out.val (V.tup [V.t T.nilp, V.t (T.seq (3 : Nat) [])]) []) = Out.val (outP (readE (n + (1 : Nat)) (x :: r))) [] by simp [readE, outP, exs, sl, E.tp, E.tab, *]))
              · let t9 : Tp pr := .b (show (!nameOk x.text) = false by simpa using hc9)
                exact .tpe [t0, .b (rfl : false = false), t2, t3, t4, t5, t6, t7, .a (nameOk_ev (x.text) (by assumption)), t9] (Out.val (V.tup [V.t (T.ptr [T.int IntKind.i64 x.kind, T.int IntKind.i64 x.num, T.str x.text, T.nilp, T.nilp] (0 : Nat)), V.t (T.seq (3 : Nat) (List.map Ex.ce r))]) []) (by kernel_rfl) (((congrArg (fun x_1 => Out.val (V.tup [V.t (T.ptr [T.int IntKind.i64 x_1, T.int IntKind.i64 x.num, T.str x.text, T.nilp, T.nilp] (0 : Nat)), V.t (T.seq (3 : Nat) (List.map Ex.ce r))]) []) (show (x.kind) = ((2 : Int)) by assumption)).trans (congrArg (fun x_1 => Out.val (V.tup [V.t (T.ptr [T.int IntKind.i64 (2 : Int), T.int IntKind.i64 x_1, T.str x.text, T.nilp, T.nilp] (0 : Nat)), V.t (T.seq (3 : Nat) (List.map Ex.ce r))]) []) (show (x.num) = ((0 : Int)) by assumption))).trans (show (Out.val (V.tup [V.t (T.ptr [T.int IntKind.i64 (2 : Int), T.int IntKind.i64 (0 : Int), T.str x.text, T.nilp, T.nilp] (0 : Nat)), V.t (T.seq (3 : Nat) (List.map Ex.ce r))]) []) = Out.val (outP (readE (n + (1 : Nat)) (x :: r))) [] by simp [readE, outP, exs, sl, E.tp, E.tab, *]))
            · let t7 : Tp pr := .b (show (decide (x.num = (0 : Int))) = false by simpa using hc7)
              exact .tpe [t0, .b (rfl : false = false), t2, t3, t4, t5, t6, t7, .b (rfl : true = true)] (Out.val (V.tup [V.t T.nilp, V.t (T.seq (3 : Nat) [])]) []) (by kernel_rfl) ((rfl).trans (show (Out.val (V.tup [V.t T.nilp, V.t (T.seq (3 : Nat) [])]) []) = Out.val (outP (readE (n + (1 : Nat)) (x :: r))) [] by simp [readE, outP, exs, sl, E.tp, E.tab, *]))
          · let t6 : Tp pr := .b (show (decide (x.kind = (2 : Int))) = false by simpa using hc6)
            by_cases hc7 : x.kind = (3 : Int)
            · let t7 : Tp pr := .b (show (decide (x.kind = (3 : Int))) = true by simpa using hc7)
              let t8 : Tp pr := .b (show (decide (x.kind = (3 : Int))) = true by (simp; omega))
              by_cases hc11 : x.num = (0 : Int)
              · let t11 : Tp pr := .b (show (decide (x.num = (0 : Int))) = true by simpa using hc11)
                by_cases hc12 : x.text = e0
                · let t12 : Tp pr := .b (show (!x.text.toList == []) = false by simpa using hc12)
                  exact .tpe [t0, .b (rfl : false = false), t2, t3, t4, t5, t6, t7, t8, .a (ih1), .b (rfl : true = true), t11, t12] (Out.val (V.tup [V.t (T.ptr [T.int IntKind.i64 x.kind, T.int IntKind.i64 x.num, T.str x.text, T.ptr [T.int IntKind.i64 a.kind, T.int IntKind.i64 a.nm, T.str a.text, a.tab.fst, a.tab.snd] (0 : Nat), T.nilp] (0 : Nat)), V.t (T.seq (3 : Nat) (List.map Ex.ce r1))]) []) (by kernel_rfl) ((((congrArg (fun x_1 => Out.val (V.tup [V.t (T.ptr [T.int IntKind.i64 x_1, T.int IntKind.i64 x.num, T.str x.text, T.ptr [T.int IntKind.i64 a.kind, T.int IntKind.i64 a.nm, T.str a.text, a.tab.fst, a.tab.snd] (0 : Nat), T.nilp] (0 : Nat)), V.t (T.seq (3 : Nat) (List.map Ex.ce r1))]) []) (show (x.kind) = ((3 : Int)) by assumption)).trans (congrArg (fun x_1 => Out.val (V.tup [V.t (T.ptr [T.int IntKind.i64 (3 : Int), T.int IntKind.i64 x_1, T.str x.text, T.ptr [T.int IntKind.i64 a.kind, T.int IntKind.i64 a.nm, T.str a.text, a.tab.fst, a.tab.snd] (0 : Nat), T.nilp] (0 : Nat)), V.t (T.seq (3 : Nat) (List.map Ex.ce r1))]) []) (show (x.num) = ((0 : Int)) by assumption))).trans (congrArg (fun x => Out.val (V.tup [V.t (T.ptr [T.int IntKind.i64 (3 : Int), T.int IntKind.i64 (0 : Int), T.str x, T.ptr [T.int IntKind.i64 a.kind, T.int IntKind.i64 a.nm, T.str a.text, a.tab.fst, a.tab.snd] (0 : Nat), T.nilp] (0 : Nat)), V.t (T.seq (3 : Nat) (List.map Ex.ce r1))]) []) (show (x.text) = (ByteArray.mk #[]) by assumption))).trans (show (Out.val (V.tup [V.t (T.ptr [T.int IntKind.i64 (3 : Int), T.int IntKind.i64 (0 : Int), T.str (ByteArray.mk #[]), T.ptr [T.int IntKind.i64 a.kind, T.int IntKind.i64 a.nm, T.str a.text, a.tab.fst, a.tab.snd] (0 : Nat), T.nilp] (0 : Nat)), V.t (T.seq (3 : Nat) (List.map Ex.ce r1))]) []) = Out.val (outP (readE (n + (1 : Nat)) (x :: r))) [] by simp [readE, outP, exs, sl, E.tp, E.tab, *]))
                · let t12 : Tp pr := .b (show (!x.text.toList == []) = true by simpa using hc12)
                  exact .tpe [t0, .b (rfl : false = false), t2, t3, t4, t5, t6, t7, t8, .a (ih1), .b (rfl : true = true), t11, t12] (Out.val (V.tup [V.t T.nilp, V.t (T.seq (3 : Nat) [])]) []) (by kernel_rfl) ((rfl).trans (show (Out.val (V.tup [V.t T.nilp, V.t (T.seq (3 : Nat) [])]) []) = Out.val (outP (readE (n + (1 : Nat)) (x :: r))) [] by simp [readE, outP, exs, sl, E.tp, E.tab, *]))
              · let t11 : Tp pr := .b (show (decide (x.num = (0 : Int))) = false by simpa using hc11)
                exact .tpe [t0, .b (rfl : false = false), t2, t3, t4, t5, t6, t7, t8, .a (ih1), .b (rfl : true = true), t11, .b (rfl : true = true)] (Out.val (V.tup [V.t T.nilp, V.t (T.seq (3 : Nat) [])]) []) (by kernel_rfl) ((rfl).trans (show (Out.val (V.tup [V.t T.nilp, V.t (T.seq (3 : Nat) [])]) []) = Out.val (outP (readE (n + (1 : Nat)) (x :: r))) [] by simp [readE, outP, exs, sl, E.tp, E.tab, *]))
            · let t7 : Tp pr := .b (show (decide (x.kind = (3 : Int))) = false by simpa using hc7)
              by_cases hc8 : x.kind = (4 : Int)
              · let t8 : Tp pr := .b (show (decide (x.kind = (4 : Int))) = true by simpa using hc8)
                by_cases hc11 : x.num = (0 : Int)
                · let t11 : Tp pr := .b (show (decide (x.num = (0 : Int))) = true by simpa using hc11)
                  by_cases hc12 : x.text = e0
                  · let t12 : Tp pr := .b (show (!x.text.toList == []) = false by simpa using hc12)
                    exact .tpe [t0, .b (rfl : false = false), t2, t3, t4, t5, t6, t7, t8, .a (ih1), .b (rfl : true = true), t11, t12] (Out.val (V.tup [V.t (T.ptr [T.int IntKind.i64 x.kind, T.int IntKind.i64 x.num, T.str x.text, T.ptr [T.int IntKind.i64 a.kind, T.int IntKind.i64 a.nm, T.str a.text, a.tab.fst, a.tab.snd] (0 : Nat), T.nilp] (0 : Nat)), V.t (T.seq (3 : Nat) (List.map Ex.ce r1))]) []) (by kernel_rfl) ((((congrArg (fun x_1 => Out.val (V.tup [V.t (T.ptr [T.int IntKind.i64 x_1, T.int IntKind.i64 x.num, T.str x.text, T.ptr [T.int IntKind.i64 a.kind, T.int IntKind.i64 a.nm, T.str a.text, a.tab.fst, a.tab.snd] (0 : Nat), T.nilp] (0 : Nat)), V.t (T.seq (3 : Nat) (List.map Ex.ce r1))]) []) (show (x.kind) = ((4 : Int)) by assumption)).trans (congrArg (fun x_1 => Out.val (V.tup [V.t (T.ptr [T.int IntKind.i64 (4 : Int), T.int IntKind.i64 x_1, T.str x.text, T.ptr [T.int IntKind.i64 a.kind, T.int IntKind.i64 a.nm, T.str a.text, a.tab.fst, a.tab.snd] (0 : Nat), T.nilp] (0 : Nat)), V.t (T.seq (3 : Nat) (List.map Ex.ce r1))]) []) (show (x.num) = ((0 : Int)) by assumption))).trans (congrArg (fun x => Out.val (V.tup [V.t (T.ptr [T.int IntKind.i64 (4 : Int), T.int IntKind.i64 (0 : Int), T.str x, T.ptr [T.int IntKind.i64 a.kind, T.int IntKind.i64 a.nm, T.str a.text, a.tab.fst, a.tab.snd] (0 : Nat), T.nilp] (0 : Nat)), V.t (T.seq (3 : Nat) (List.map Ex.ce r1))]) []) (show (x.text) = (ByteArray.mk #[]) by assumption))).trans (show (Out.val (V.tup [V.t (T.ptr [T.int IntKind.i64 (4 : Int), T.int IntKind.i64 (0 : Int), T.str (ByteArray.mk #[]), T.ptr [T.int IntKind.i64 a.kind, T.int IntKind.i64 a.nm, T.str a.text, a.tab.fst, a.tab.snd] (0 : Nat), T.nilp] (0 : Nat)), V.t (T.seq (3 : Nat) (List.map Ex.ce r1))]) []) = Out.val (outP (readE (n + (1 : Nat)) (x :: r))) [] by simp [readE, outP, exs, sl, E.tp, E.tab, *]))
                  · let t12 : Tp pr := .b (show (!x.text.toList == []) = true by simpa using hc12)
                    exact .tpe [t0, .b (rfl : false = false), t2, t3, t4, t5, t6, t7, t8, .a (ih1), .b (rfl : true = true), t11, t12] (Out.val (V.tup [V.t T.nilp, V.t (T.seq (3 : Nat) [])]) []) (by kernel_rfl) ((rfl).trans (show (Out.val (V.tup [V.t T.nilp, V.t (T.seq (3 : Nat) [])]) []) = Out.val (outP (readE (n + (1 : Nat)) (x :: r))) [] by simp [readE, outP, exs, sl, E.tp, E.tab, *]))
                · let t11 : Tp pr := .b (show (decide (x.num = (0 : Int))) = false by simpa using hc11)
                  exact .tpe [t0, .b (rfl : false = false), t2, t3, t4, t5, t6, t7, t8, .a (ih1), .b (rfl : true = true), t11, .b (rfl : true = true)] (Out.val (V.tup [V.t T.nilp, V.t (T.seq (3 : Nat) [])]) []) (by kernel_rfl) ((rfl).trans (show (Out.val (V.tup [V.t T.nilp, V.t (T.seq (3 : Nat) [])]) []) = Out.val (outP (readE (n + (1 : Nat)) (x :: r))) [] by simp [readE, outP, exs, sl, E.tp, E.tab, *]))
              · let t8 : Tp pr := .b (show (decide (x.kind = (4 : Int))) = false by simpa using hc8)
                by_cases hc9 : x.kind = (5 : Int)
                · let t9 : Tp pr := .b (show (decide (x.kind = (5 : Int))) = true by simpa using hc9)
                  exact .tpe [t0, .b (rfl : false = false), t2, t3, t4, t5, t6, t7, t8, t9, .a (ih1), .b (rfl : false = false), .a (ih2), .a (StrengthOf_ev (x.text)), .b (rfl : false = false), .b (rfl : false = false), .b (rfl : true = true)] (Out.val (V.tup [V.t T.nilp, V.t (T.seq (3 : Nat) [])]) []) (by kernel_rfl) ((rfl).trans (show (Out.val (V.tup [V.t T.nilp, V.t (T.seq (3 : Nat) [])]) []) = Out.val (outP (readE (n + (1 : Nat)) (x :: r))) [] by simp [readE, outP, exs, sl, E.tp, E.tab, *]))
                · let t9 : Tp pr := .b (show (decide (x.kind = (5 : Int))) = false by simpa using hc9)
                  exact .tpe [t0, .b (rfl : false = false), t2, t3, t4, t5, t6, t7, t8, t9, .b (rfl : true = true)] (Out.val (V.tup [V.t T.nilp, V.t (T.seq (3 : Nat) [])]) []) (by kernel_rfl) ((rfl).trans (show (Out.val (V.tup [V.t T.nilp, V.t (T.seq (3 : Nat) [])]) []) = Out.val (outP (readE (n + (1 : Nat)) (x :: r))) [] by simp [readE, outP, exs, sl, E.tp, E.tab, *]))
      | some q =>
        obtain ⟨b, r2⟩ := q
        rw [h2] at ih2
        let t0 : Tp pr := .i (show ((↑(List.map Ex.ce (x :: r)).length : Int) : Int) = (↑r.length : Int) + (1 : Int) by simp)
        let t2 : Tp pr := .g .row (show (some [T.int IntKind.i64 x.kind, T.int IntKind.i64 x.num, T.str x.text]) = some ([T.int IntKind.i64 x.kind, T.int IntKind.i64 x.num, T.str x.text]) by simp)
        let t3 : Tp pr := .m (show (decide ((0 : Int) ≤ (1 : Int) ∧ (1 : Int) ≤ (↑(List.map Ex.ce (x :: r)).length : Int) ∧ (↑(List.map Ex.ce (x :: r)).length : Int) ≤ (↑(List.map Ex.ce (x :: r)).length : Int))) = true by (simp; omega))
        let t4 : Tp pr := .n .rows (show (List.take ((↑(List.map Ex.ce (x :: r)).length : Int).toNat - (1 : Nat)) (List.drop (1 : Nat) (List.map Ex.ce (x :: r)))) = List.map Ex.ce r by simp)
        by_cases hc5 : x.kind = (1 : Int)
        · let t5 : Tp pr := .b (show (decide (x.kind = (1 : Int))) = true by simpa using hc5)
          let t6 : Tp pr := .a (within_ev (x.num) ((0 : Int)) ((999999999 : Int)))
          by_cases hc7 : (0 : Int) ≤ x.num ∧ x.num ≤ (999999999 : Int)
          · let t7 : Tp pr := .b (show (decide (x.num ≥ (0 : Int)) && decide (x.num ≤ (999999999 : Int))) = true by simpa using hc7)
            by_cases hc8 : x.text = e0
            · let t8 : Tp pr := .b (show (!x.text.toList == []) = false by simpa using hc8)
              exact .tpe [t0, .b (rfl : false = false), t2, t3, t4, t5, t6, t7, t8] (Out.val (V.tup [V.t (T.ptr [T.int IntKind.i64 x.kind, T.int IntKind.i64 x.num, T.str x.text, T.nilp, T.nilp] (0 : Nat)), V.t (T.seq (3 : Nat) (List.map Ex.ce r))]) []) (by kernel_rfl) (((congrArg (fun x_1 => Out.val (V.tup [V.t (T.ptr [T.int IntKind.i64 x_1, T.int IntKind.i64 x.num, T.str x.text, T.nilp, T.nilp] (0 : Nat)), V.t (T.seq (3 : Nat) (List.map Ex.ce r))]) []) (show (x.kind) = ((1 : Int)) by assumption)).trans (congrArg (fun x_1 => Out.val (V.tup [V.t (T.ptr [T.int IntKind.i64 (1 : Int), T.int IntKind.i64 x.num, T.str x_1, T.nilp, T.nilp] (0 : Nat)), V.t (T.seq (3 : Nat) (List.map Ex.ce r))]) []) (show (x.text) = (ByteArray.mk #[]) by assumption))).trans (show (Out.val (V.tup [V.t (T.ptr [T.int IntKind.i64 (1 : Int), T.int IntKind.i64 x.num, T.str (ByteArray.mk #[]), T.nilp, T.nilp] (0 : Nat)), V.t (T.seq (3 : Nat) (List.map Ex.ce r))]) []) = Out.val (outP (readE (n + (1 : Nat)) (x :: r))) [] by simp [readE, outP, exs, sl, E.tp, E.tab, *]))
            · let t8 : Tp pr := .b (show (!x.text.toList == []) = true by simpa using hc8)
              exact .tpe [t0, .b (rfl : false = false), t2, t3, t4, t5, t6, t7, t8] (Out.val (V.tup [V.t T.nilp, V.t (T.seq (3 : Nat) [])]) []) (by kernel_rfl) ((rfl).trans (show (Out.val (V.tup [V.t T.nilp, V.t (T.seq (3 : Nat) [])]) []) = Out.val (outP (readE (n + (1 : Nat)) (x :: r))) [] by simp [readE, outP, exs, sl, E.tp, E.tab, *]))
          · let t7 : Tp pr := .b (show (decide (x.num ≥ (0 : Int)) && decide (x.num ≤ (999999999 : Int))) = false by simpa using hc7)
            exact .tpe [t0, .b (rfl : false = false), t2, t3, t4, t5, t6, t7, .b (rfl : true = true)] (Out.val (V.tup [V.t T.nilp, V.t (T.seq (3 : Nat) [])]) []) (by kernel_rfl) ((rfl).trans (show (Out.val (V.tup [V.t T.nilp, V.t (T.seq (3 : Nat) [])]) []) = Out.val (outP (readE (n + (1 : Nat)) (x :: r))) [] by simp [readE, outP, exs, sl, E.tp, E.tab, *]))
        · let t5 : Tp pr := .b (show (decide (x.kind = (1 : Int))) = false by simpa using hc5)
          by_cases hc6 : x.kind = (2 : Int)
          · let t6 : Tp pr := .b (show (decide (x.kind = (2 : Int))) = true by simpa using hc6)
            by_cases hc7 : x.num = (0 : Int)
            · let t7 : Tp pr := .b (show (decide (x.num = (0 : Int))) = true by simpa using hc7)
              by_cases hc9 : nameOk x.text = false
              · let t9 : Tp pr := .b (show (!nameOk x.text) = true by simpa using hc9)
                exact .tpe [t0, .b (rfl : false = false), t2, t3, t4, t5, t6, t7, .a (nameOk_ev (x.text) (by assumption)), t9] (Out.val (V.tup [V.t T.nilp, V.t (T.seq (3 : Nat) [])]) []) (by kernel_rfl) ((rfl).trans (show (Out.val (V.tup [V.t T.nilp, V.t (T.seq (3 : Nat) [])]) []) = Out.val (outP (readE (n + (1 : Nat)) (x :: r))) [] by simp [readE, outP, exs, sl, E.tp, E.tab, *]))
              · let t9 : Tp pr := .b (show (!nameOk x.text) = false by simpa using hc9)
                exact .tpe [t0, .b (rfl : false = false), t2, t3, t4, t5, t6, t7, .a (nameOk_ev (x.text) (by assumption)), t9] (Out.val (V.tup [V.t (T.ptr [T.int IntKind.i64 x.kind, T.int IntKind.i64 x.num, T.str x.text, T.nilp, T.nilp] (0 : Nat)), V.t (T.seq (3 : Nat) (List.map Ex.ce r))]) []) (by kernel_rfl) (((congrArg (fun x_1 => Out.val (V.tup [V.t (T.ptr [T.int IntKind.i64 x_1, T.int IntKind.i64 x.num, T.str x.text, T.nilp, T.nilp] (0 : Nat)), V.t (T.seq (3 : Nat) (List.map Ex.ce r))]) []) (show (x.kind) = ((2 : Int)) by assumption)).trans (congrArg (fun x_1 => Out.val (V.tup [V.t (T.ptr [T.int IntKind.i64 (2 : Int), T.int IntKind.i64 x_1, T.str x.text, T.nilp, T.nilp] (0 : Nat)), V.t (T.seq (3 : Nat) (List.map Ex.ce r))]) []) (show (x.num) = ((0 : Int)) by assumption))).trans (show (Out.val (V.tup [V.t (T.ptr [T.int IntKind.i64 (2 : Int), T.int IntKind.i64 (0 : Int), T.str x.text, T.nilp, T.nilp] (0 : Nat)), V.t (T.seq (3 : Nat) (List.map Ex.ce r))]) []) = Out.val (outP (readE (n + (1 : Nat)) (x :: r))) [] by simp [readE, outP, exs, sl, E.tp, E.tab, *]))
            · let t7 : Tp pr := .b (show (decide (x.num = (0 : Int))) = false by simpa using hc7)
              exact .tpe [t0, .b (rfl : false = false), t2, t3, t4, t5, t6, t7, .b (rfl : true = true)] (Out.val (V.tup [V.t T.nilp, V.t (T.seq (3 : Nat) [])]) []) (by kernel_rfl) ((rfl).trans (show (Out.val (V.tup [V.t T.nilp, V.t (T.seq (3 : Nat) [])]) []) = Out.val (outP (readE (n + (1 : Nat)) (x :: r))) [] by simp [readE, outP, exs, sl, E.tp, E.tab, *]))
          · let t6 : Tp pr := .b (show (decide (x.kind = (2 : Int))) = false by simpa using hc6)
            by_cases hc7 : x.kind = (3 : Int)
            · let t7 : Tp pr := .b (show (decide (x.kind = (3 : Int))) = true by simpa using hc7)
              let t8 : Tp pr := .b (show (decide (x.kind = (3 : Int))) = true by (simp; omega))
              by_cases hc11 : x.num = (0 : Int)
              · let t11 : Tp pr := .b (show (decide (x.num = (0 : Int))) = true by simpa using hc11)
                by_cases hc12 : x.text = e0
                · let t12 : Tp pr := .b (show (!x.text.toList == []) = false by simpa using hc12)
                  exact .tpe [t0, .b (rfl : false = false), t2, t3, t4, t5, t6, t7, t8, .a (ih1), .b (rfl : true = true), t11, t12] (Out.val (V.tup [V.t (T.ptr [T.int IntKind.i64 x.kind, T.int IntKind.i64 x.num, T.str x.text, T.ptr [T.int IntKind.i64 a.kind, T.int IntKind.i64 a.nm, T.str a.text, a.tab.fst, a.tab.snd] (0 : Nat), T.nilp] (0 : Nat)), V.t (T.seq (3 : Nat) (List.map Ex.ce r1))]) []) (by kernel_rfl) ((((congrArg (fun x_1 => Out.val (V.tup [V.t (T.ptr [T.int IntKind.i64 x_1, T.int IntKind.i64 x.num, T.str x.text, T.ptr [T.int IntKind.i64 a.kind, T.int IntKind.i64 a.nm, T.str a.text, a.tab.fst, a.tab.snd] (0 : Nat), T.nilp] (0 : Nat)), V.t (T.seq (3 : Nat) (List.map Ex.ce r1))]) []) (show (x.kind) = ((3 : Int)) by assumption)).trans (congrArg (fun x_1 => Out.val (V.tup [V.t (T.ptr [T.int IntKind.i64 (3 : Int), T.int IntKind.i64 x_1, T.str x.text, T.ptr [T.int IntKind.i64 a.kind, T.int IntKind.i64 a.nm, T.str a.text, a.tab.fst, a.tab.snd] (0 : Nat), T.nilp] (0 : Nat)), V.t (T.seq (3 : Nat) (List.map Ex.ce r1))]) []) (show (x.num) = ((0 : Int)) by assumption))).trans (congrArg (fun x => Out.val (V.tup [V.t (T.ptr [T.int IntKind.i64 (3 : Int), T.int IntKind.i64 (0 : Int), T.str x, T.ptr [T.int IntKind.i64 a.kind, T.int IntKind.i64 a.nm, T.str a.text, a.tab.fst, a.tab.snd] (0 : Nat), T.nilp] (0 : Nat)), V.t (T.seq (3 : Nat) (List.map Ex.ce r1))]) []) (show (x.text) = (ByteArray.mk #[]) by assumption))).trans (show (Out.val (V.tup [V.t (T.ptr [T.int IntKind.i64 (3 : Int), T.int IntKind.i64 (0 : Int), T.str (ByteArray.mk #[]), T.ptr [T.int IntKind.i64 a.kind, T.int IntKind.i64 a.nm, T.str a.text, a.tab.fst, a.tab.snd] (0 : Nat), T.nilp] (0 : Nat)), V.t (T.seq (3 : Nat) (List.map Ex.ce r1))]) []) = Out.val (outP (readE (n + (1 : Nat)) (x :: r))) [] by simp [readE, outP, exs, sl, E.tp, E.tab, *]))
                · let t12 : Tp pr := .b (show (!x.text.toList == []) = true by simpa using hc12)
                  exact .tpe [t0, .b (rfl : false = false), t2, t3, t4, t5, t6, t7, t8, .a (ih1), .b (rfl : true = true), t11, t12] (Out.val (V.tup [V.t T.nilp, V.t (T.seq (3 : Nat) [])]) []) (by kernel_rfl) ((rfl).trans (show (Out.val (V.tup [V.t T.nilp, V.t (T.seq (3 : Nat) [])]) []) = Out.val (outP (readE (n + (1 : Nat)) (x :: r))) [] by simp [readE, outP, exs, sl, E.tp, E.tab, *]))
              · let t11 : Tp pr := .b (show (decide (x.num = (0 : Int))) = false by simpa using hc11)
                exact .tpe [t0, .b (rfl : false = false), t2, t3, t4, t5, t6, t7, t8, .a (ih1), .b (rfl : true = true), t11, .b (rfl : true = true)] (Out.val (V.tup [V.t T.nilp, V.t (T.seq (3 : Nat) [])]) []) (by kernel_rfl) ((rfl).trans (show (Out.val (V.tup [V.t T.nilp, V.t (T.seq (3 : Nat) [])]) []) = Out.val (outP (readE (n + (1 : Nat)) (x :: r))) [] by simp [readE, outP, exs, sl, E.tp, E.tab, *]))
            · let t7 : Tp pr := .b (show (decide (x.kind = (3 : Int))) = false by simpa using hc7)
              by_cases hc8 : x.kind = (4 : Int)
              · let t8 : Tp pr := .b (show (decide (x.kind = (4 : Int))) = true by simpa using hc8)
                by_cases hc11 : x.num = (0 : Int)
                · let t11 : Tp pr := .b (show (decide (x.num = (0 : Int))) = true by simpa using hc11)
                  by_cases hc12 : x.text = e0
                  · let t12 : Tp pr := .b (show (!x.text.toList == []) = false by simpa using hc12)
                    exact .tpe [t0, .b (rfl : false = false), t2, t3, t4, t5, t6, t7, t8, .a (ih1), .b (rfl : true = true), t11, t12] (Out.val (V.tup [V.t (T.ptr [T.int IntKind.i64 x.kind, T.int IntKind.i64 x.num, T.str x.text, T.ptr [T.int IntKind.i64 a.kind, T.int IntKind.i64 a.nm, T.str a.text, a.tab.fst, a.tab.snd] (0 : Nat), T.nilp] (0 : Nat)), V.t (T.seq (3 : Nat) (List.map Ex.ce r1))]) []) (by kernel_rfl) ((((congrArg (fun x_1 => Out.val (V.tup [V.t (T.ptr [T.int IntKind.i64 x_1, T.int IntKind.i64 x.num, T.str x.text, T.ptr [T.int IntKind.i64 a.kind, T.int IntKind.i64 a.nm, T.str a.text, a.tab.fst, a.tab.snd] (0 : Nat), T.nilp] (0 : Nat)), V.t (T.seq (3 : Nat) (List.map Ex.ce r1))]) []) (show (x.kind) = ((4 : Int)) by assumption)).trans (congrArg (fun x_1 => Out.val (V.tup [V.t (T.ptr [T.int IntKind.i64 (4 : Int), T.int IntKind.i64 x_1, T.str x.text, T.ptr [T.int IntKind.i64 a.kind, T.int IntKind.i64 a.nm, T.str a.text, a.tab.fst, a.tab.snd] (0 : Nat), T.nilp] (0 : Nat)), V.t (T.seq (3 : Nat) (List.map Ex.ce r1))]) []) (show (x.num) = ((0 : Int)) by assumption))).trans (congrArg (fun x => Out.val (V.tup [V.t (T.ptr [T.int IntKind.i64 (4 : Int), T.int IntKind.i64 (0 : Int), T.str x, T.ptr [T.int IntKind.i64 a.kind, T.int IntKind.i64 a.nm, T.str a.text, a.tab.fst, a.tab.snd] (0 : Nat), T.nilp] (0 : Nat)), V.t (T.seq (3 : Nat) (List.map Ex.ce r1))]) []) (show (x.text) = (ByteArray.mk #[]) by assumption))).trans (show (Out.val (V.tup [V.t (T.ptr [T.int IntKind.i64 (4 : Int), T.int IntKind.i64 (0 : Int), T.str (ByteArray.mk #[]), T.ptr [T.int IntKind.i64 a.kind, T.int IntKind.i64 a.nm, T.str a.text, a.tab.fst, a.tab.snd] (0 : Nat), T.nilp] (0 : Nat)), V.t (T.seq (3 : Nat) (List.map Ex.ce r1))]) []) = Out.val (outP (readE (n + (1 : Nat)) (x :: r))) [] by simp [readE, outP, exs, sl, E.tp, E.tab, *]))
                  · let t12 : Tp pr := .b (show (!x.text.toList == []) = true by simpa using hc12)
                    exact .tpe [t0, .b (rfl : false = false), t2, t3, t4, t5, t6, t7, t8, .a (ih1), .b (rfl : true = true), t11, t12] (Out.val (V.tup [V.t T.nilp, V.t (T.seq (3 : Nat) [])]) []) (by kernel_rfl) ((rfl).trans (show (Out.val (V.tup [V.t T.nilp, V.t (T.seq (3 : Nat) [])]) []) = Out.val (outP (readE (n + (1 : Nat)) (x :: r))) [] by simp [readE, outP, exs, sl, E.tp, E.tab, *]))
                · let t11 : Tp pr := .b (show (decide (x.num = (0 : Int))) = false by simpa using hc11)
                  exact .tpe [t0, .b (rfl : false = false), t2, t3, t4, t5, t6, t7, t8, .a (ih1), .b (rfl : true = true), t11, .b (rfl : true = true)] (Out.val (V.tup [V.t T.nilp, V.t (T.seq (3 : Nat) [])]) []) (by kernel_rfl) ((rfl).trans (show (Out.val (V.tup [V.t T.nilp, V.t (T.seq (3 : Nat) [])]) []) = Out.val (outP (readE (n + (1 : Nat)) (x :: r))) [] by simp [readE, outP, exs, sl, E.tp, E.tab, *]))
              · let t8 : Tp pr := .b (show (decide (x.kind = (4 : Int))) = false by simpa using hc8)
                by_cases hc9 : x.kind = (5 : Int)
                · let t9 : Tp pr := .b (show (decide (x.kind = (5 : Int))) = true by simpa using hc9)
                  by_cases hc15 : strength x.text.toList = (0 : Int)
                  · let t15 : Tp pr := .b (show (strength x.text.toList != (0 : Int)) = false by simpa using hc15)
                    exact .tpe [t0, .b (rfl : false = false), t2, t3, t4, t5, t6, t7, t8, t9, .a (ih1), .b (rfl : false = false), .a (ih2), .a (StrengthOf_ev (x.text)), .b (rfl : true = true), t15, .b (rfl : true = true)] (Out.val (V.tup [V.t T.nilp, V.t (T.seq (3 : Nat) [])]) []) (by kernel_rfl) ((rfl).trans (show (Out.val (V.tup [V.t T.nilp, V.t (T.seq (3 : Nat) [])]) []) = Out.val (outP (readE (n + (1 : Nat)) (x :: r))) [] by simp [readE, outP, exs, sl, E.tp, E.tab, *]))
                  · let t15 : Tp pr := .b (show (strength x.text.toList != (0 : Int)) = true by simpa using hc15)
                    by_cases hc16 : x.num = (0 : Int)
                    · let t16 : Tp pr := .b (show (!decide (x.num = (0 : Int))) = false by simpa using hc16)
                      exact .tpe [t0, .b (rfl : false = false), t2, t3, t4, t5, t6, t7, t8, t9, .a (ih1), .b (rfl : false = false), .a (ih2), .a (StrengthOf_ev (x.text)), .b (rfl : true = true), t15, t16] (Out.val (V.tup [V.t (T.ptr [T.int IntKind.i64 x.kind, T.int IntKind.i64 x.num, T.str x.text, T.ptr [T.int IntKind.i64 a.kind, T.int IntKind.i64 a.nm, T.str a.text, a.tab.fst, a.tab.snd] (0 : Nat), T.ptr [T.int IntKind.i64 b.kind, T.int IntKind.i64 b.nm, T.str b.text, b.tab.fst, b.tab.snd] (0 : Nat)] (0 : Nat)), V.t (T.seq (3 : Nat) (List.map Ex.ce r2))]) []) (by kernel_rfl) (((congrArg (fun x_1 => Out.val (V.tup [V.t (T.ptr [T.int IntKind.i64 x_1, T.int IntKind.i64 x.num, T.str x.text, T.ptr [T.int IntKind.i64 a.kind, T.int IntKind.i64 a.nm, T.str a.text, a.tab.fst, a.tab.snd] (0 : Nat), T.ptr [T.int IntKind.i64 b.kind, T.int IntKind.i64 b.nm, T.str b.text, b.tab.fst, b.tab.snd] (0 : Nat)] (0 : Nat)), V.t (T.seq (3 : Nat) (List.map Ex.ce r2))]) []) (show (x.kind) = ((5 : Int)) by assumption)).trans (congrArg (fun x_1 => Out.val (V.tup [V.t (T.ptr [T.int IntKind.i64 (5 : Int), T.int IntKind.i64 x_1, T.str x.text, T.ptr [T.int IntKind.i64 a.kind, T.int IntKind.i64 a.nm, T.str a.text, a.tab.fst, a.tab.snd] (0 : Nat), T.ptr [T.int IntKind.i64 b.kind, T.int IntKind.i64 b.nm, T.str b.text, b.tab.fst, b.tab.snd] (0 : Nat)] (0 : Nat)), V.t (T.seq (3 : Nat) (List.map Ex.ce r2))]) []) (show (x.num) = ((0 : Int)) by assumption))).trans (show (Out.val (V.tup [V.t (T.ptr [T.int IntKind.i64 (5 : Int), T.int IntKind.i64 (0 : Int), T.str x.text, T.ptr [T.int IntKind.i64 a.kind, T.int IntKind.i64 a.nm, T.str a.text, a.tab.fst, a.tab.snd] (0 : Nat), T.ptr [T.int IntKind.i64 b.kind, T.int IntKind.i64 b.nm, T.str b.text, b.tab.fst, b.tab.snd] (0 : Nat)] (0 : Nat)), V.t (T.seq (3 : Nat) (List.map Ex.ce r2))]) []) = Out.val (outP (readE (n + (1 : Nat)) (x :: r))) [] by simp [readE, outP, exs, sl, E.tp, E.tab, *]))
                    · let t16 : Tp pr := .b (show (!decide (x.num = (0 : Int))) = true by simpa using hc16)
                      exact .tpe [t0, .b (rfl : false = false), t2, t3, t4, t5, t6, t7, t8, t9, .a (ih1), .b (rfl : false = false), .a (ih2), .a (StrengthOf_ev (x.text)), .b (rfl : true = true), t15, t16] (Out.val (V.tup [V.t T.nilp, V.t (T.seq (3 : Nat) [])]) []) (by kernel_rfl) ((rfl).trans (show (Out.val (V.tup [V.t T.nilp, V.t (T.seq (3 : Nat) [])]) []) = Out.val (outP (readE (n + (1 : Nat)) (x :: r))) [] by simp [readE, outP, exs, sl, E.tp, E.tab, *]))
                · let t9 : Tp pr := .b (show (decide (x.kind = (5 : Int))) = false by simpa using hc9)
                  exact .tpe [t0, .b (rfl : false = false), t2, t3, t4, t5, t6, t7, t8, t9, .b (rfl : true = true)] (Out.val (V.tup [V.t T.nilp, V.t (T.seq (3 : Nat) [])]) []) (by kernel_rfl) ((rfl).trans (show (Out.val (V.tup [V.t T.nilp, V.t (T.seq (3 : Nat) [])]) []) = Out.val (outP (readE (n + (1 : Nat)) (x :: r))) [] by simp [readE, outP, exs, sl, E.tp, E.tab, *]))
end Go.Ev

/- Expressions: how they are read by the reference. -/
namespace Go.Ev
set_option linter.unusedVariables false
set_option linter.unusedSimpArgs false
open Go.Proofs
set_option maxRecDepth 100000
set_option linter.unusedVariables false
set_option maxHeartbeats 1000000
def rdObs (k nm : Int) (tx : ByteArray) (ks : List (List T)) : List Ob := [Ob.box [i64 0, i64 0, V.t (T.str (ByteArray.mk #[])), V.t T.nils], Ob.box [i64 k, i64 nm, V.t (T.str tx), V.vec 2 ks.length 4 0 ks.length], Ob.vec true 4 (ks.map tc)]
theorem rdL0_ev (l : List Ex) (i k nm : Int) (tx : ByteArray) (ks : List (List T)) : Ev pr (.loop (lq pr 78 0) (at_ [(0, exs l), (1, i64 i), (4, V.ptr 0 1 0 0), (7, V.ptr 1 1 0 0), (8, i64 0)] (rdObs k nm tx ks) 0))
    (.exit 1 (at_ [(1, i64 i), (4, V.ptr 0 1 0 0), (7, V.ptr 1 1 0 0)] (rdObs k nm tx ks) 0)) := by
  exact .tp [.b (rfl : false = false)] (by kernel_rfl)
def rdL1o (l : List Ex) (k nm : Int) (tx : ByteArray) (ks : List (List T)) : Option (E × List Ex) → Out
  | some (a, r1) => .exit 1 (at_ [(1, i64 (l.length - r1.length)), (4, V.ptr 0 1 0 0), (7, V.ptr 1 1 0 0)] (rdObs k nm tx (ks ++ [a.ts])) 0)
  | none => .ret (at_ [(4, V.ptr 0 1 0 0), (5, i64 0)] [Ob.box [i64 0, i64 0, V.t (T.str (ByteArray.mk #[])), V.t T.nils]] 0)
theorem rdL1_ev (l : List Ex) (i k nm : Int) (tx : ByteArray) (ks : List (List T)) (hk : ks.length ≤ 2) (res : Option (E × List Ex)) (h0 : ∀ a r, res = some (a, r) → r.length < l.length)
    (hr : Ev pr (.call 78 [exs l, i64 i] []) (.val (outS l.length res) [])) :
    Ev pr (.loop (lq pr 78 0) (at_ [(0, exs l), (1, i64 i), (4, V.ptr 0 1 0 0), (7, V.ptr 1 1 0 0), (8, i64 1)] (rdObs k nm tx ks) 0)) (rdL1o l k nm tx ks res) := by
  cases res with
  | none => exact .tp [.b (rfl : true = true), .a (hr), .b (rfl : true = true)] (by kernel_rfl)
  | some p =>
    obtain ⟨a, r1⟩ := p
    have := h0 a r1 rfl
    let t2 : Tp pr := .b (show (decide ((↑l.length : Int) - (↑r1.length : Int) = (0 : Int))) = false by (simp; omega))
    let t4 : Tp pr := .m (show (decide ((List.map tc ks).length = ks.length ∧ (0 : Nat) + ks.length ≤ ks.length ∧ ks.length + (1 : Nat) ≤ (4294967296 : Nat))) = true by (simp; omega))
    let t5 : Tp pr := .b (show (decide (ks.length + (1 : Nat) ≤ ks.length)) = false by simp)
    let t7 : Tp pr := .n .crows (show ((List.take ks.length (List.map tc ks)).append (List.take (1 : Nat) (List.drop (0 : Nat) [[C.t (T.int IntKind.i64 a.kind), C.t (T.int IntKind.i64 a.nm), C.t (T.str a.text), C.t (T.seq (4 : Nat) a.kids)]]))) = List.map tc ks ++ [[C.t (T.int IntKind.i64 a.kind), C.t (T.int IntKind.i64 a.nm), C.t (T.str a.text), C.t (T.seq (4 : Nat) a.kids)]] by simp)
    let t8 : Tp pr := .i (rfl : ((0 : Int) : Int) = (0 : Int))
    let t9 : Tp pr := .a (Ev.castq (((congrArg (fun x => Q.loop (lq pr (78 : FuncId) (0 : Nat)) (at_ [((0 : Nat), V.t (T.seq (3 : Nat) (List.map Ex.ce l))), ((1 : Nat), V.t (T.int IntKind.i64 ((↑l.length : Int) - (↑r1.length : Int)))), ((4 : Nat), V.ptr (0 : Nat) (1 : Nat) (0 : Nat) (0 : Nat)), ((7 : Nat), V.ptr (1 : Nat) (1 : Nat) (0 : Nat) (0 : Nat)), ((8 : Nat), V.t (T.int IntKind.i64 (0 : Int)))] [Ob.box [V.t (T.int IntKind.i64 (0 : Int)), V.t (T.int IntKind.i64 (0 : Int)), V.t (T.str (ByteArray.mk #[])), V.t T.nils], Ob.box [V.t (T.int IntKind.i64 k), V.t (T.int IntKind.i64 nm), V.t (T.str tx), V.vec (2 : Nat) (ks ++ [a.ts]).length (4 : Nat) (0 : Nat) (ks ++ [a.ts]).length], Ob.vec true (4 : Nat) x] (0 : Nat))) (show (List.map tc (ks ++ [a.ts])) = ((List.map tc ks).append [[C.t (T.int IntKind.i64 a.kind), C.t (T.int IntKind.i64 a.nm), C.t (T.str a.text), C.t (T.seq (4 : Nat) a.kids)]]) by simp [E.ts, tc])).trans (congrArg (fun x => Q.loop (lq pr (78 : FuncId) (0 : Nat)) (at_ [((0 : Nat), V.t (T.seq (3 : Nat) (List.map Ex.ce l))), ((1 : Nat), V.t (T.int IntKind.i64 ((↑l.length : Int) - (↑r1.length : Int)))), ((4 : Nat), V.ptr (0 : Nat) (1 : Nat) (0 : Nat) (0 : Nat)), ((7 : Nat), V.ptr (1 : Nat) (1 : Nat) (0 : Nat) (0 : Nat)), ((8 : Nat), V.t (T.int IntKind.i64 (0 : Int)))] [Ob.box [V.t (T.int IntKind.i64 (0 : Int)), V.t (T.int IntKind.i64 (0 : Int)), V.t (T.str (ByteArray.mk #[])), V.t T.nils], Ob.box [V.t (T.int IntKind.i64 k), V.t (T.int IntKind.i64 nm), V.t (T.str tx), V.vec (2 : Nat) (ks ++ [a.ts]).length (4 : Nat) (0 : Nat) (ks ++ [a.ts]).length], Ob.vec true (4 : Nat) ((List.map tc ks).append [[C.t (T.int IntKind.i64 a.kind), C.t (T.int IntKind.i64 a.nm), C.t (T.str a.text), C.t (T.seq (4 : Nat) a.kids)]])] (0 : Nat))) (show ((ks ++ [a.ts]).length) = (ks.length + (1 : Nat)) by simp [E.ts, tc]))).trans (congrArg (fun x => Q.loop (lq pr (78 : FuncId) (0 : Nat)) (at_ [((0 : Nat), V.t (T.seq (3 : Nat) (List.map Ex.ce l))), ((1 : Nat), V.t (T.int IntKind.i64 ((↑l.length : Int) - (↑r1.length : Int)))), ((4 : Nat), V.ptr (0 : Nat) (1 : Nat) (0 : Nat) (0 : Nat)), ((7 : Nat), V.ptr (1 : Nat) (1 : Nat) (0 : Nat) (0 : Nat)), ((8 : Nat), V.t (T.int IntKind.i64 (0 : Int)))] [Ob.box [V.t (T.int IntKind.i64 (0 : Int)), V.t (T.int IntKind.i64 (0 : Int)), V.t (T.str (ByteArray.mk #[])), V.t T.nils], Ob.box [V.t (T.int IntKind.i64 k), V.t (T.int IntKind.i64 nm), V.t (T.str tx), V.vec (2 : Nat) x (4 : Nat) (0 : Nat) x], Ob.vec true (4 : Nat) ((List.map tc ks).append [[C.t (T.int IntKind.i64 a.kind), C.t (T.int IntKind.i64 a.nm), C.t (T.str a.text), C.t (T.seq (4 : Nat) a.kids)]])] (0 : Nat))) (show ((ks ++ [a.ts]).length) = (ks.length + (1 : Nat)) by simp [E.ts, tc]))) ((rdL0_ev l _ k nm tx (ks ++ [a.ts]))))
    exact .tp [.b (rfl : true = true), .a (hr), t2, .m (rfl : true = true), t4, t5, .c (rfl : (ks.length + (1 : Nat)) = _), t7, t8, t9] (by kernel_rfl)
def rdL2o (l : List Ex) (k nm : Int) (tx : ByteArray) (res2 : List Ex → Option (E × List Ex)) : Option (E × List Ex) → Out
  | some (a, r1) => rdL1o l k nm tx [a.ts] (res2 r1)
  | none => rdL1o l k nm tx [] none
theorem rdL2_ev (l : List Ex) (i k nm : Int) (tx : ByteArray) (res : Option (E × List Ex)) (res2 : List Ex → Option (E × List Ex)) (h0 : ∀ a r, res = some (a, r) → r.length < l.length) (h1 : ∀ b a r r2, res = some (b, r) → res2 r = some (a, r2) → r2.length < l.length)
    (hr : Ev pr (.call 78 [exs l, i64 i] []) (.val (outS l.length res) []))
    (hr2 : ∀ a r, res = some (a, r) → Ev pr (.call 78 [exs l, i64 (l.length - r.length)] []) (.val (outS l.length (res2 r)) [])) :
    Ev pr (.loop (lq pr 78 0) (at_ [(0, exs l), (1, i64 i), (4, V.ptr 0 1 0 0), (7, V.ptr 1 1 0 0), (8, i64 2)] (rdObs k nm tx []) 0))
      (rdL2o l k nm tx res2 res) := by
  cases res with
  | none => exact .tp [.b (rfl : true = true), .a (hr), .b (rfl : true = true)] (by kernel_rfl)
  | some p =>
    obtain ⟨a, r1⟩ := p
    have := h0 a r1 rfl
    have h2 := hr2 a r1 rfl
    have h3 := rdL1_ev l _ k nm tx [a.ts] (by simp) (res2 r1) (fun b r hb => h1 a b r1 r rfl hb) h2
    cases h4 : res2 r1 with
    | none => rw [h4] at h3; simp only [rdL2o, h4]; (
      let t2 : Tp pr := .b (show (decide ((↑l.length : Int) - (↑r1.length : Int) = (0 : Int))) = false by (simp; omega))
      let t7 : Tp pr := .n .crows (show ([].append (List.take (1 : Nat) (List.drop (0 : Nat) [[C.t (T.int IntKind.i64 a.kind), C.t (T.int IntKind.i64 a.nm), C.t (T.str a.text), C.t (T.seq (4 : Nat) a.kids)]]))) = [[C.t (T.int IntKind.i64 a.kind), C.t (T.int IntKind.i64 a.nm), C.t (T.str a.text), C.t (T.seq (4 : Nat) a.kids)]] by simp)
      let t8 : Tp pr := .i (rfl : ((1 : Int) : Int) = (1 : Int))
      exact .tp [.b (rfl : true = true), .a (hr), t2, .m (rfl : true = true), .m (rfl : true = true), .b (rfl : false = false), .c (rfl : ((1 : Nat)) = _), t7, t8, .a (h3)] (by kernel_rfl))
    | some q => 
      obtain ⟨b, r2⟩ := q
      rw [h4] at h3; simp only [rdL2o, h4]; (
        let t2 : Tp pr := .b (show (decide ((↑l.length : Int) - (↑r1.length : Int) = (0 : Int))) = false by (simp; omega))
        let t7 : Tp pr := .n .crows (show ([].append (List.take (1 : Nat) (List.drop (0 : Nat) [[C.t (T.int IntKind.i64 a.kind), C.t (T.int IntKind.i64 a.nm), C.t (T.str a.text), C.t (T.seq (4 : Nat) a.kids)]]))) = [[C.t (T.int IntKind.i64 a.kind), C.t (T.int IntKind.i64 a.nm), C.t (T.str a.text), C.t (T.seq (4 : Nat) a.kids)]] by simp)
        let t8 : Tp pr := .i (rfl : ((1 : Int) : Int) = (1 : Int))
        exact .tp [.b (rfl : true = true), .a (hr), t2, .m (rfl : true = true), .m (rfl : true = true), .b (rfl : false = false), .c (rfl : ((1 : Nat)) = _), t7, t8, .a (h3)] (by kernel_rfl))
theorem l2Read_ev (l : List Ex) (hl : l.length ≤ 1048576) (hs : ∀ x ∈ l, x.text.size ≤ 9223372036854775807) : ∀ (n : Nat) (rest done : List Ex) (i : Int), l = done ++ rest → i = done.length → rest.length ≤ n →
    Ev pr (.call 78 [exs l, i64 i] []) (.val (outS l.length (readE n rest)) [])
  | 0, rest, done, i, h, hi, hn => by
    have : rest = [] := List.length_eq_zero_iff.1 (by omega)
    subst this
    have hll : l.length = done.length := by simp [h]
    let t0 : Tp pr := .i (show ((↑(List.map Ex.ce l).length : Int) : Int) = (↑l.length : Int) by simp)
    let t1 : Tp pr := .b (show (decide (i ≥ (↑l.length : Int))) = true by (simp; omega))
    exact .tp [t0, t1] (by kernel_rfl)
  | n + 1, [], done, i, h, hi, hn => by
    have hll : l.length = done.length := by simp [h]
    let t0 : Tp pr := .i (show ((↑(List.map Ex.ce l).length : Int) : Int) = (↑l.length : Int) by simp)
    let t1 : Tp pr := .b (show (decide (i ≥ (↑l.length : Int))) = true by (simp; omega))
    exact .tp [t0, t1] (by kernel_rfl)
  | n + 1, x :: r, done, i, h, hi, hn => by
    have hx := hs x (by simp [h])
    have hll : l.length = done.length + 1 + r.length := by simp [h]; omega
    have hg : lkp (l.map Ex.ce) i = some x.ce := by subst hi; subst h; simp
    simp at hn
    have ih1 := l2Read_ev l hl hs n r (done ++ [x]) (i + 1) (by simp [h]) (by simp [hi]) (by omega)
    have hlt : ∀ (a : E) (r1 : List Ex), readE n r = some (a, r1) → r1.length < l.length := fun a r1 h1 => by
      have := readE_lt _ _ _ _ h1; omega
    have k0 := rdL0_ev l (i + 1) x.kind x.num x.text []
    have k1 := rdL1_ev l (i + 1) x.kind x.num x.text [] (by simp) (readE n r) hlt ih1
    have k2 := rdL2_ev l (i + 1) x.kind x.num x.text (readE n r) (readE n) hlt (fun b a r1 r2 h1 h2 => by
      have := hlt b r1 h1; have := readE_lt _ _ _ _ h2; omega) ih1 (fun a r1 h1 => by
        obtain ⟨d, hd⟩ := readE_suf _ _ _ _ h1
        have e : (done ++ x :: d).length = l.length - r1.length := by
          have := congrArg List.length hd
          simp at this
          simp; omega
        exact l2Read_ev l hl hs n r1 (done ++ x :: d) _ (by simp [h, ← hd]) (by rw [e]; have := hlt a r1 h1; omega) (by have := readE_lt _ _ _ _ h1; omega))
    cases h1 : readE n r with
    | none =>
      rw [h1] at ih1 k1 k2
      let t0 : Tp pr := .i (show ((↑(List.map Ex.ce l).length : Int) : Int) = (↑l.length : Int) by simp)
      let t1 : Tp pr := .b (show (decide (i ≥ (↑l.length : Int))) = false by (simp; omega))
      let t2 : Tp pr := .g .row (show (lkp (List.map Ex.ce l) i) = some (x.ce) from hg)
      by_cases hc3 : x.kind = (1 : Int)
      · let t3 : Tp pr := .b (show (decide (x.kind = (1 : Int))) = true by simpa using hc3)
        let t4 : Tp pr := .a (l1In_ev (x.num) ((0 : Int)) ((999999999 : Int)))
        by_cases hc5 : (0 : Int) ≤ x.num ∧ x.num ≤ (999999999 : Int)
        · let t5 : Tp pr := .b (show (decide (x.num ≥ (0 : Int)) && decide (x.num ≤ (999999999 : Int))) = true by simpa using hc5)
          by_cases hc6 : x.text = e0
          · let t6 : Tp pr := .b (show (!x.text.toList == []) = false by simpa using hc6)
            let t7 : Tp pr := .i (wrap_i64 (a := i + (1 : Int)) (by omega) (by omega))
            exact .tpe [t0, t1, t2, t3, t4, t5, t6, t7, .a (k0), .m (rfl : true = true), .n .rows (rfl : ([]) = _)] (Out.val (V.tup [V.agg [V.t (T.int IntKind.i64 x.kind), V.t (T.int IntKind.i64 x.num), V.t (T.str x.text), V.t (T.seq (4 : Nat) [])], V.t (T.int IntKind.i64 (i + (1 : Int)))]) []) (by kernel_rfl) ((((congrArg (fun x_1 => Out.val (V.tup [V.agg [V.t (T.int IntKind.i64 x_1), V.t (T.int IntKind.i64 x.num), V.t (T.str x.text), V.t (T.seq (4 : Nat) [])], V.t (T.int IntKind.i64 (i + (1 : Int)))]) []) (show (x.kind) = ((1 : Int)) by assumption)).trans (congrArg (fun x_1 => Out.val (V.tup [V.agg [V.t (T.int IntKind.i64 (1 : Int)), V.t (T.int IntKind.i64 x.num), V.t (T.str x_1), V.t (T.seq (4 : Nat) [])], V.t (T.int IntKind.i64 (i + (1 : Int)))]) []) (show (x.text) = (ByteArray.mk #[]) by assumption))).trans (congrArg (fun x_1 => Out.val (V.tup [V.agg [V.t (T.int IntKind.i64 (1 : Int)), V.t (T.int IntKind.i64 x.num), V.t (T.str (ByteArray.mk #[])), V.t (T.seq (4 : Nat) [])], V.t (T.int IntKind.i64 x_1)]) []) (show (i + (1 : Int)) = ((↑done.length : Int) + ((↑r.length : Int) + (1 : Int)) - (↑r.length : Int)) by omega))).trans (show (Out.val (V.tup [V.agg [V.t (T.int IntKind.i64 (1 : Int)), V.t (T.int IntKind.i64 x.num), V.t (T.str (ByteArray.mk #[])), V.t (T.seq (4 : Nat) [])], V.t (T.int IntKind.i64 ((↑done.length : Int) + ((↑r.length : Int) + (1 : Int)) - (↑r.length : Int)))]) []) = Out.val (outS l.length (readE (n + (1 : Nat)) (x :: r))) [] by simp [readE, outS, vs, E.ts, E.kids, *]))
          · let t6 : Tp pr := .b (show (!x.text.toList == []) = true by simpa using hc6)
            exact .tpe [t0, t1, t2, t3, t4, t5, t6] (Out.val (V.tup [V.agg [V.t (T.int IntKind.i64 (0 : Int)), V.t (T.int IntKind.i64 (0 : Int)), V.t (T.str (ByteArray.mk #[])), V.t (T.seq (4 : Nat) [])], V.t (T.int IntKind.i64 (0 : Int))]) []) (by kernel_rfl) ((rfl).trans (show (Out.val (V.tup [V.agg [V.t (T.int IntKind.i64 (0 : Int)), V.t (T.int IntKind.i64 (0 : Int)), V.t (T.str (ByteArray.mk #[])), V.t (T.seq (4 : Nat) [])], V.t (T.int IntKind.i64 (0 : Int))]) []) = Out.val (outS l.length (readE (n + (1 : Nat)) (x :: r))) [] by simp [readE, outS, vs, E.ts, E.kids, *]))
        · let t5 : Tp pr := .b (show (decide (x.num ≥ (0 : Int)) && decide (x.num ≤ (999999999 : Int))) = false by simpa using hc5)
          exact .tpe [t0, t1, t2, t3, t4, t5, .b (rfl : true = true)] (Out.val (V.tup [V.agg [V.t (T.int IntKind.i64 (0 : Int)), V.t (T.int IntKind.i64 (0 : Int)), V.t (T.str (ByteArray.mk #[])), V.t (T.seq (4 : Nat) [])], V.t (T.int IntKind.i64 (0 : Int))]) []) (by kernel_rfl) ((rfl).trans (show (Out.val (V.tup [V.agg [V.t (T.int IntKind.i64 (0 : Int)), V.t (T.int IntKind.i64 (0 : Int)), V.t (T.str (ByteArray.mk #[])), V.t (T.seq (4 : Nat) [])], V.t (T.int IntKind.i64 (0 : Int))]) []) = Out.val (outS l.length (readE (n + (1 : Nat)) (x :: r))) [] by simp [readE, outS, vs, E.ts, E.kids, *]))
      · let t3 : Tp pr := .b (show (decide (x.kind = (1 : Int))) = false by simpa using hc3)
        by_cases hc4 : x.kind = (2 : Int)
        · let t4 : Tp pr := .b (show (decide (x.kind = (2 : Int))) = true by simpa using hc4)
          let t5 : Tp pr := .a (GoodName_ev (x.text) (by assumption))
          by_cases hc6 : nameOk x.text = true
          · let t6 : Tp pr := .b (show (nameOk x.text) = true by simpa using hc6)
            by_cases hc7 : x.num = (0 : Int)
            · let t7 : Tp pr := .b (show (!decide (x.num = (0 : Int))) = false by simpa using hc7)
              let t8 : Tp pr := .i (wrap_i64 (a := i + (1 : Int)) (by omega) (by omega))
              exact .tpe [t0, t1, t2, t3, t4, t5, t6, t7, t8, .a (k0), .m (rfl : true = true), .n .rows (rfl : ([]) = _)] (Out.val (V.tup [V.agg [V.t (T.int IntKind.i64 x.kind), V.t (T.int IntKind.i64 x.num), V.t (T.str x.text), V.t (T.seq (4 : Nat) [])], V.t (T.int IntKind.i64 (i + (1 : Int)))]) []) (by kernel_rfl) ((((congrArg (fun x_1 => Out.val (V.tup [V.agg [V.t (T.int IntKind.i64 x_1), V.t (T.int IntKind.i64 x.num), V.t (T.str x.text), V.t (T.seq (4 : Nat) [])], V.t (T.int IntKind.i64 (i + (1 : Int)))]) []) (show (x.kind) = ((2 : Int)) by assumption)).trans (congrArg (fun x_1 => Out.val (V.tup [V.agg [V.t (T.int IntKind.i64 (2 : Int)), V.t (T.int IntKind.i64 x_1), V.t (T.str x.text), V.t (T.seq (4 : Nat) [])], V.t (T.int IntKind.i64 (i + (1 : Int)))]) []) (show (x.num) = ((0 : Int)) by assumption))).trans (congrArg (fun x_1 => Out.val (V.tup [V.agg [V.t (T.int IntKind.i64 (2 : Int)), V.t (T.int IntKind.i64 (0 : Int)), V.t (T.str x.text), V.t (T.seq (4 : Nat) [])], V.t (T.int IntKind.i64 x_1)]) []) (show (i + (1 : Int)) = ((↑done.length : Int) + ((↑r.length : Int) + (1 : Int)) - (↑r.length : Int)) by omega))).trans (show (Out.val (V.tup [V.agg [V.t (T.int IntKind.i64 (2 : Int)), V.t (T.int IntKind.i64 (0 : Int)), V.t (T.str x.text), V.t (T.seq (4 : Nat) [])], V.t (T.int IntKind.i64 ((↑done.length : Int) + ((↑r.length : Int) + (1 : Int)) - (↑r.length : Int)))]) []) = Out.val (outS l.length (readE (n + (1 : Nat)) (x :: r))) [] by simp [readE, outS, vs, E.ts, E.kids, *]))
            · let t7 : Tp pr := .b (show (!decide (x.num = (0 : Int))) = true by simpa using hc7)
              exact .tpe [t0, t1, t2, t3, t4, t5, t6, t7] (Out.val (V.tup [V.agg [V.t (T.int IntKind.i64 (0 : Int)), V.t (T.int IntKind.i64 (0 : Int)), V.t (T.str (ByteArray.mk #[])), V.t (T.seq (4 : Nat) [])], V.t (T.int IntKind.i64 (0 : Int))]) []) (by kernel_rfl) ((rfl).trans (show (Out.val (V.tup [V.agg [V.t (T.int IntKind.i64 (0 : Int)), V.t (T.int IntKind.i64 (0 : Int)), V.t (T.str (ByteArray.mk #[])), V.t (T.seq (4 : Nat) [])], V.t (T.int IntKind.i64 (0 : Int))]) []) = Out.val (outS l.length (readE (n + (1 : Nat)) (x :: r))) [] by simp [readE, outS, vs, E.ts, E.kids, *]))
          · let t6 : Tp pr := .b (show (nameOk x.text) = false by simpa using hc6)
            exact .tpe [t0, t1, t2, t3, t4, t5, t6, .b (rfl : true = true)] (Out.val (V.tup [V.agg [V.t (T.int IntKind.i64 (0 : Int)), V.t (T.int IntKind.i64 (0 : Int)), V.t (T.str (ByteArray.mk #[])), V.t (T.seq (4 : Nat) [])], V.t (T.int IntKind.i64 (0 : Int))]) []) (by kernel_rfl) ((rfl).trans (show (Out.val (V.tup [V.agg [V.t (T.int IntKind.i64 (0 : Int)), V.t (T.int IntKind.i64 (0 : Int)), V.t (T.str (ByteArray.mk #[])), V.t (T.seq (4 : Nat) [])], V.t (T.int IntKind.i64 (0 : Int))]) []) = Out.val (outS l.length (readE (n + (1 : Nat)) (x :: r))) [] by simp [readE, outS, vs, E.ts, E.kids, *]))
        · let t4 : Tp pr := .b (show (decide (x.kind = (2 : Int))) = false by simpa using hc4)
          by_cases hc5 : x.kind = (3 : Int)
          · let t5 : Tp pr := .b (show (decide (x.kind = (3 : Int))) = true by simpa using hc5)
            let t6 : Tp pr := .b (show (decide (x.kind = (3 : Int))) = true by (simp; omega))
            by_cases hc7 : x.num = (0 : Int)
            · let t7 : Tp pr := .b (show (decide (x.num = (0 : Int))) = true by simpa using hc7)
              by_cases hc8 : x.text = e0
              · let t8 : Tp pr := .b (show (!x.text.toList == []) = false by simpa using hc8)
                let t9 : Tp pr := .i (wrap_i64 (a := i + (1 : Int)) (by omega) (by omega))
                exact .tpe [t0, t1, t2, t3, t4, t5, t6, t7, t8, t9, .a (k1)] (Out.val (V.tup [V.agg [V.t (T.int IntKind.i64 (0 : Int)), V.t (T.int IntKind.i64 (0 : Int)), V.t (T.str (ByteArray.mk #[])), V.t (T.seq (4 : Nat) [])], V.t (T.int IntKind.i64 (0 : Int))]) []) (by kernel_rfl) ((rfl).trans (show (Out.val (V.tup [V.agg [V.t (T.int IntKind.i64 (0 : Int)), V.t (T.int IntKind.i64 (0 : Int)), V.t (T.str (ByteArray.mk #[])), V.t (T.seq (4 : Nat) [])], V.t (T.int IntKind.i64 (0 : Int))]) []) = Out.val (outS l.length (readE (n + (1 : Nat)) (x :: r))) [] by simp [readE, outS, vs, E.ts, E.kids, *]))
              · let t8 : Tp pr := .b (show (!x.text.toList == []) = true by simpa using hc8)
                exact .tpe [t0, t1, t2, t3, t4, t5, t6, t7, t8] (Out.val (V.tup [V.agg [V.t (T.int IntKind.i64 (0 : Int)), V.t (T.int IntKind.i64 (0 : Int)), V.t (T.str (ByteArray.mk #[])), V.t (T.seq (4 : Nat) [])], V.t (T.int IntKind.i64 (0 : Int))]) []) (by kernel_rfl) ((rfl).trans (show (Out.val (V.tup [V.agg [V.t (T.int IntKind.i64 (0 : Int)), V.t (T.int IntKind.i64 (0 : Int)), V.t (T.str (ByteArray.mk #[])), V.t (T.seq (4 : Nat) [])], V.t (T.int IntKind.i64 (0 : Int))]) []) = Out.val (outS l.length (readE (n + (1 : Nat)) (x :: r))) [] by simp [readE, outS, vs, E.ts, E.kids, *]))
            · let t7 : Tp pr := .b (show (decide (x.num = (0 : Int))) = false by simpa using hc7)
              exact .tpe [t0, t1, t2, t3, t4, t5, t6, t7, .b (rfl : true = true)] (Out.val (V.tup [V.agg [V.t (T.int IntKind.i64 (0 : Int)), V.t (T.int IntKind.i64 (0 : Int)), V.t (T.str (ByteArray.mk #[])), V.t (T.seq (4 : Nat) [])], V.t (T.int IntKind.i64 (0 : Int))]) []) (by kernel_rfl) ((rfl).trans (show (Out.val (V.tup [V.agg [V.t (T.int IntKind.i64 (0 : Int)), V.t (T.int IntKind.i64 (0 : Int)), V.t (T.str (ByteArray.mk #[])), V.t (T.seq (4 : Nat) [])], V.t (T.int IntKind.i64 (0 : Int))]) []) = Out.val (outS l.length (readE (n + (1 : Nat)) (x :: r))) [] by simp [readE, outS, vs, E.ts, E.kids, *]))
          · let t5 : Tp pr := .b (show (decide (x.kind = (3 : Int))) = false by simpa using hc5)
            by_cases hc6 : x.kind = (4 : Int)
            · let t6 : Tp pr := .b (show (decide (x.kind = (4 : Int))) = true by simpa using hc6)
              by_cases hc7 : x.num = (0 : Int)
              · let t7 : Tp pr := .b (show (decide (x.num = (0 : Int))) = true by simpa using hc7)
                by_cases hc8 : x.text = e0
                · let t8 : Tp pr := .b (show (!x.text.toList == []) = false by simpa using hc8)
                  let t9 : Tp pr := .i (wrap_i64 (a := i + (1 : Int)) (by omega) (by omega))
                  exact .tpe [t0, t1, t2, t3, t4, t5, t6, t7, t8, t9, .a (k1)] (Out.val (V.tup [V.agg [V.t (T.int IntKind.i64 (0 : Int)), V.t (T.int IntKind.i64 (0 : Int)), V.t (T.str (ByteArray.mk #[])), V.t (T.seq (4 : Nat) [])], V.t (T.int IntKind.i64 (0 : Int))]) []) (by kernel_rfl) ((rfl).trans (show (Out.val (V.tup [V.agg [V.t (T.int IntKind.i64 (0 : Int)), V.t (T.int IntKind.i64 (0 : Int)), V.t (T.str (ByteArray.mk #[])), V.t (T.seq (4 : Nat) [])], V.t (T.int IntKind.i64 (0 : Int))]) []) = Out.val (outS l.length (readE (n + (1 : Nat)) (x :: r))) [] by simp [readE, outS, vs, E.ts, E.kids, *]))
                · let t8 : Tp pr := .b (show (!x.text.toList == []) = true by simpa using hc8)
                  exact .tpe [t0, t1, t2, t3, t4, t5, t6, t7, t8] (Out.val (V.tup [V.agg [V.t (T.int IntKind.i64 (0 : Int)), V.t (T.int IntKind.i64 (0 : Int)), V.t (T.str (ByteArray.mk #[])), V.t (T.seq (4 : Nat) [])], V.t (T.int IntKind.i64 (0 : Int))]) []) (by kernel_rfl) ((rfl).trans (show (Out.val (V.tup [V.agg [V.t (T.int IntKind.i64 (0 : Int)), V.t (T.int IntKind.i64 (0 : Int)), V.t (T.str (ByteArray.mk #[])), V.t (T.seq (4 : Nat) [])], V.t (T.int IntKind.i64 (0 : Int))]) []) = Out.val (outS l.length (readE (n + (1 : Nat)) (x :: r))) [] by simp [readE, outS, vs, E.ts, E.kids, *]))
              · let t7 : Tp pr := .b (show (decide (x.num = (0 : Int))) = false by simpa using hc7)
                exact .tpe [t0, t1, t2, t3, t4, t5, t6, t7, .b (rfl : true = true)] (Out.val (V.tup [V.agg [V.t (T.int IntKind.i64 (0 : Int)), V.t (T.int IntKind.i64 (0 : Int)), V.t (T.str (ByteArray.mk #[])), V.t (T.seq (4 : Nat) [])], V.t (T.int IntKind.i64 (0 : Int))]) []) (by kernel_rfl) ((rfl).trans (show (Out.val (V.tup [V.agg [V.t (T.int IntKind.i64 (0 : Int)), V.t (T.int IntKind.i64 (0 : Int)), V.t (T.str (ByteArray.mk #[])), V.t (T.seq (4 : Nat) [])], V.t (T.int IntKind.i64 (0 : Int))]) []) = Out.val (outS l.length (readE (n + (1 : Nat)) (x :: r))) [] by simp [readE, outS, vs, E.ts, E.kids, *]))
            · let t6 : Tp pr := .b (show (decide (x.kind = (4 : Int))) = false by simpa using hc6)
              by_cases hc7 : x.kind = (5 : Int)
              · let t7 : Tp pr := .b (show (decide (x.kind = (5 : Int))) = true by simpa using hc7)
                by_cases hc8 : x.num = (0 : Int)
                · let t8 : Tp pr := .b (show (decide (x.num = (0 : Int))) = true by simpa using hc8)
                  by_cases hc10 : strength x.text.toList ≤ (0 : Int)
                  · let t10 : Tp pr := .b (show (!decide (strength x.text.toList > (0 : Int))) = true by simpa using hc10)
                    exact .tpe [t0, t1, t2, t3, t4, t5, t6, t7, t8, .a (l2Strength_ev (x.text)), t10] (Out.val (V.tup [V.agg [V.t (T.int IntKind.i64 (0 : Int)), V.t (T.int IntKind.i64 (0 : Int)), V.t (T.str (ByteArray.mk #[])), V.t (T.seq (4 : Nat) [])], V.t (T.int IntKind.i64 (0 : Int))]) []) (by kernel_rfl) ((rfl).trans (show (Out.val (V.tup [V.agg [V.t (T.int IntKind.i64 (0 : Int)), V.t (T.int IntKind.i64 (0 : Int)), V.t (T.str (ByteArray.mk #[])), V.t (T.seq (4 : Nat) [])], V.t (T.int IntKind.i64 (0 : Int))]) []) = Out.val (outS l.length (readE (n + (1 : Nat)) (x :: r))) [] by simp [readE, outS, vs, E.ts, E.kids, *]))
                  · let t10 : Tp pr := .b (show (!decide (strength x.text.toList > (0 : Int))) = false by simpa using hc10)
                    let t11 : Tp pr := .i (wrap_i64 (a := i + (1 : Int)) (by omega) (by omega))
                    exact .tpe [t0, t1, t2, t3, t4, t5, t6, t7, t8, .a (l2Strength_ev (x.text)), t10, t11, .a (k2)] (Out.val (V.tup [V.agg [V.t (T.int IntKind.i64 (0 : Int)), V.t (T.int IntKind.i64 (0 : Int)), V.t (T.str (ByteArray.mk #[])), V.t (T.seq (4 : Nat) [])], V.t (T.int IntKind.i64 (0 : Int))]) []) (by kernel_rfl) ((rfl).trans (show (Out.val (V.tup [V.agg [V.t (T.int IntKind.i64 (0 : Int)), V.t (T.int IntKind.i64 (0 : Int)), V.t (T.str (ByteArray.mk #[])), V.t (T.seq (4 : Nat) [])], V.t (T.int IntKind.i64 (0 : Int))]) []) = Out.val (outS l.length (readE (n + (1 : Nat)) (x :: r))) [] by simp [readE, outS, vs, E.ts, E.kids, *]))
                · let t8 : Tp pr := .b (show (decide (x.num = (0 : Int))) = false by simpa using hc8)
                  exact .tpe [t0, t1, t2, t3, t4, t5, t6, t7, t8, .b (rfl : true = true)] (Out.val (V.tup [V.agg [V.t (T.int IntKind.i64 (0 : Int)), V.t (T.int IntKind.i64 (0 : Int)), V.t (T.str (ByteArray.mk #[])), V.t (T.seq (4 : Nat) [])], V.t (T.int IntKind.i64 (0 : Int))]) []) (by kernel_rfl) ((rfl).trans (show (Out.val (V.tup [V.agg [V.t (T.int IntKind.i64 (0 : Int)), V.t (T.int IntKind.i64 (0 : Int)), V.t (T.str (ByteArray.mk #[])), V.t (T.seq (4 : Nat) [])], V.t (T.int IntKind.i64 (0 : Int))]) []) = Out.val (outS l.length (readE (n + (1 : Nat)) (x :: r))) [] by simp [readE, outS, vs, E.ts, E.kids, *]))
              · let t7 : Tp pr := .b (show (decide (x.kind = (5 : Int))) = false by simpa using hc7)
                exact .tpe [t0, t1, t2, t3, t4, t5, t6, t7, .b (rfl : true = true)] (Out.val (V.tup [V.agg [V.t (T.int IntKind.i64 (0 : Int)), V.t (T.int IntKind.i64 (0 : Int)), V.t (T.str (ByteArray.mk #[])), V.t (T.seq (4 : Nat) [])], V.t (T.int IntKind.i64 (0 : Int))]) []) (by kernel_rfl) ((rfl).trans (show (Out.val (V.tup [V.agg [V.t (T.int IntKind.i64 (0 : Int)), V.t (T.int IntKind.i64 (0 : Int)), V.t (T.str (ByteArray.mk #[])), V.t (T.seq (4 : Nat) [])], V.t (T.int IntKind.i64 (0 : Int))]) []) = Out.val (outS l.length (readE (n + (1 : Nat)) (x :: r))) [] by simp [readE, outS, vs, E.ts, E.kids, *]))
    | some p =>
      obtain ⟨a, r1⟩ := p
      have hr := readE_lt _ _ _ _ h1
      rw [h1] at ih1 k1 k2
      cases h2 : readE n r1 with
      | none => 
        simp only [rdL2o, h2] at k2
        let t0 : Tp pr := .i (show ((↑(List.map Ex.ce l).length : Int) : Int) = (↑l.length : Int) by simp)
        let t1 : Tp pr := .b (show (decide (i ≥ (↑l.length : Int))) = false by (simp; omega))
        let t2 : Tp pr := .g .row (show (lkp (List.map Ex.ce l) i) = some (x.ce) from hg)
        by_cases hc3 : x.kind = (1 : Int)
        · let t3 : Tp pr := .b (show (decide (x.kind = (1 : Int))) = true by simpa using hc3)
          let t4 : Tp pr := .a (l1In_ev (x.num) ((0 : Int)) ((999999999 : Int)))
          by_cases hc5 : (0 : Int) ≤ x.num ∧ x.num ≤ (999999999 : Int)
          · let t5 : Tp pr := .b (show (decide (x.num ≥ (0 : Int)) && decide (x.num ≤ (999999999 : Int))) = true by simpa using hc5)
            by_cases hc6 : x.text = e0
            · let t6 : Tp pr := .b (show (!x.text.toList == []) = false by simpa using hc6)
              let t7 : Tp pr := .i (wrap_i64 (a := i + (1 : Int)) (by omega) (by omega))
              exact .tpe [t0, t1, t2, t3, t4, t5, t6, t7, .a (k0), .m (rfl : true = true), .n .rows (rfl : ([]) = _)] (Out.val (V.tup [V.agg [V.t (T.int IntKind.i64 x.kind), V.t (T.int IntKind.i64 x.num), V.t (T.str x.text), V.t (T.seq (4 : Nat) [])], V.t (T.int IntKind.i64 (i + (1 : Int)))]) []) (by kernel_rfl) ((((congrArg (fun x_1 => Out.val (V.tup [V.agg [V.t (T.int IntKind.i64 x_1), V.t (T.int IntKind.i64 x.num), V.t (T.str x.text), V.t (T.seq (4 : Nat) [])], V.t (T.int IntKind.i64 (i + (1 : Int)))]) []) (show (x.kind) = ((1 : Int)) by assumption)).trans (congrArg (fun x_1 => Out.val (V.tup [V.agg [V.t (T.int IntKind.i64 (1 : Int)), V.t (T.int IntKind.i64 x.num), V.t (T.str x_1), V.t (T.seq (4 : Nat) [])], V.t (T.int IntKind.i64 (i + (1 : Int)))]) []) (show (x.text) = (ByteArray.mk #[]) by assumption))).trans (congrArg (fun x_1 => Out.val (V.tup [V.agg [V.t (T.int IntKind.i64 (1 : Int)), V.t (T.int IntKind.i64 x.num), V.t (T.str (ByteArray.mk #[])), V.t (T.seq (4 : Nat) [])], V.t (T.int IntKind.i64 x_1)]) []) (show (i + (1 : Int)) = ((↑done.length : Int) + ((↑r.length : Int) + (1 : Int)) - (↑r.length : Int)) by omega))).trans (show (Out.val (V.tup [V.agg [V.t (T.int IntKind.i64 (1 : Int)), V.t (T.int IntKind.i64 x.num), V.t (T.str (ByteArray.mk #[])), V.t (T.seq (4 : Nat) [])], V.t (T.int IntKind.i64 ((↑done.length : Int) + ((↑r.length : Int) + (1 : Int)) - (↑r.length : Int)))]) []) = Out.val (outS l.length (readE (n + (1 : Nat)) (x :: r))) [] by simp [readE, outS, vs, E.ts, E.kids, *]))
            · let t6 : Tp pr := .b (show (!x.text.toList == []) = true by simpa using hc6)
              exact .tpe [t0, t1, t2, t3, t4, t5, t6] (Out.val (V.tup [V.agg [V.t (T.int IntKind.i64 (0 : Int)), V.t (T.int IntKind.i64 (0 : Int)), V.t (T.str (ByteArray.mk #[])), V.t (T.seq (4 : Nat) [])], V.t (T.int IntKind.i64 (0 : Int))]) []) (by kernel_rfl) ((rfl).trans (show (Out.val (V.tup [V.agg [V.t (T.int IntKind.i64 (0 : Int)), V.t (T.int IntKind.i64 (0 : Int)), V.t (T.str (ByteArray.mk #[])), V.t (T.seq (4 : Nat) [])], V.t (T.int IntKind.i64 (0 : Int))]) []) = Out.val (outS l.length (readE (n + (1 : Nat)) (x :: r))) [] by simp [readE, outS, vs, E.ts, E.kids, *]))
          · let t5 : Tp pr := .b (show (decide (x.num ≥ (0 : Int)) && decide (x.num ≤ (999999999 : Int))) = false by simpa using hc5)
            exact .tpe [t0, t1, t2, t3, t4, t5, .b (rfl : true = true)] (Out.val (V.tup [V.agg [V.t (T.int IntKind.i64 (0 : Int)), V.t (T.int IntKind.i64 (0 : Int)), V.t (T.str (ByteArray.mk #[])), V.t (T.seq (4 : Nat) [])], V.t (T.int IntKind.i64 (0 : Int))]) []) (by kernel_rfl) ((rfl).trans (show (Out.val (V.tup [V.agg [V.t (T.int IntKind.i64 (0 : Int)), V.t (T.int IntKind.i64 (0 : Int)), V.t (T.str (ByteArray.mk #[])), V.t (T.seq (4 : Nat) [])], V.t (T.int IntKind.i64 (0 : Int))]) []) = Out.val (outS l.length (readE (n + (1 : Nat)) (x :: r))) [] by simp [readE, outS, vs, E.ts, E.kids, *]))
        · let t3 : Tp pr := .b (show (decide (x.kind = (1 : Int))) = false by simpa using hc3)
          by_cases hc4 : x.kind = (2 : Int)
          · let t4 : Tp pr := .b (show (decide (x.kind = (2 : Int))) = true by simpa using hc4)
            let t5 : Tp pr := .a (GoodName_ev (x.text) (by assumption))
            by_cases hc6 : nameOk x.text = true
            · let t6 : Tp pr := .b (show (nameOk x.text) = true by simpa using hc6)
              by_cases hc7 : x.num = (0 : Int)
              · let t7 : Tp pr := .b (show (!decide (x.num = (0 : Int))) = false by simpa using hc7)
                let t8 : Tp pr := .i (wrap_i64 (a := i + (1 : Int)) (by omega) (by omega))
                exact .tpe [t0, t1, t2, t3, t4, t5, t6, t7, t8, .a (k0), .m (rfl : true = true), .n .rows (rfl : ([]) = _)] (Out.val (V.tup [V.agg [V.t (T.int IntKind.i64 x.kind), V.t (T.int IntKind.i64 x.num), V.t (T.str x.text), V.t (T.seq (4 : Nat) [])], V.t (T.int IntKind.i64 (i + (1 : Int)))]) []) (by kernel_rfl) ((((congrArg (fun x_1 => Out.val (V.tup [V.agg [V.t (T.int IntKind.i64 x_1), V.t (T.int IntKind.i64 x.num), V.t (T.str x.text), V.t (T.seq (4 : Nat) [])], V.t (T.int IntKind.i64 (i + (1 : Int)))]) []) (show (x.kind) = ((2 : Int)) by assumption)).trans (congrArg (fun x_1 => Out.val (V.tup [V.agg [V.t (T.int IntKind.i64 (2 : Int)), V.t (T.int IntKind.i64 x_1), V.t (T.str x.text), V.t (T.seq (4 : Nat) [])], V.t (T.int IntKind.i64 (i + (1 : Int)))]) []) (show (x.num) = ((0 : Int)) by assumption))).trans (congrArg (fun x_1 => Out.val (V.tup [V.agg [V.t (T.int IntKind.i64 (2 : Int)), V.t (T.int IntKind.i64 (0 : Int)), V.t (T.str x.text), V.t (T.seq (4 : Nat) [])], V.t (T.int IntKind.i64 x_1)]) []) (show (i + (1 : Int)) = ((↑done.length : Int) + ((↑r.length : Int) + (1 : Int)) - (↑r.length : Int)) by omega))).trans (show (Out.val (V.tup [V.agg [V.t (T.int IntKind.i64 (2 : Int)), V.t (T.int IntKind.i64 (0 : Int)), V.t (T.str x.text), V.t (T.seq (4 : Nat) [])], V.t (T.int IntKind.i64 ((↑done.length : Int) + ((↑r.length : Int) + (1 : Int)) - (↑r.length : Int)))]) []) = Out.val (outS l.length (readE (n + (1 : Nat)) (x :: r))) [] by simp [readE, outS, vs, E.ts, E.kids, *]))
              · let t7 : Tp pr := .b (show (!decide (x.num = (0 : Int))) = true by simpa using hc7)
                exact .tpe [t0, t1, t2, t3, t4, t5, t6, t7] (Out.val (V.tup [V.agg [V.t (T.int IntKind.i64 (0 : Int)), V.t (T.int IntKind.i64 (0 : Int)), V.t (T.str (ByteArray.mk #[])), V.t (T.seq (4 : Nat) [])], V.t (T.int IntKind.i64 (0 : Int))]) []) (by kernel_rfl) ((rfl).trans (show (Out.val (V.tup [V.agg [V.t (T.int IntKind.i64 (0 : Int)), V.t (T.int IntKind.i64 (0 : Int)), V.t (T.str (ByteArray.mk #[])), V.t (T.seq (4 : Nat) [])], V.t (T.int IntKind.i64 (0 : Int))]) []) = Out.val (outS l.length (readE (n + (1 : Nat)) (x :: r))) [] by simp [readE, outS, vs, E.ts, E.kids, *]))
            · let t6 : Tp pr := .b (show (nameOk x.text) = false by simpa using hc6)
              exact .tpe [t0, t1, t2, t3, t4, t5, t6, .b (rfl : true = true)] (Out.val (V.tup [V.agg [V.t (T.int IntKind.i64 (0 : Int)), V.t (T.int IntKind.i64 (0 : Int)), V.t (T.str (ByteArray.mk #[])), V.t (T.seq (4 : Nat) [])], V.t (T.int IntKind.i64 (0 : Int))]) []) (by kernel_rfl) ((rfl).trans (show (Out.val (V.tup [V.agg [V.t (T.int IntKind.i64 (0 : Int)), V.t (T.int IntKind.i64 (0 : Int)), V.t (T.str (ByteArray.mk #[])), V.t (T.seq (4 : Nat) [])], V.t (T.int IntKind.i64 (0 : Int))]) []) = Out.val (outS l.length (readE (n + (1 : Nat)) (x :: r))) [] by simp [readE, outS, vs, E.ts, E.kids, *]))
          · let t4 : Tp pr := .b (show (decide (x.kind = (2 : Int))) = false by simpa using hc4)
            by_cases hc5 : x.kind = (3 : Int)
            · let t5 : Tp pr := .b (show (decide (x.kind = (3 : Int))) = true by simpa using hc5)
              let t6 : Tp pr := .b (show (decide (x.kind = (3 : Int))) = true by (simp; omega))
              by_cases hc7 : x.num = (0 : Int)
              · let t7 : Tp pr := .b (show (decide (x.num = (0 : Int))) = true by simpa using hc7)
                by_cases hc8 : x.text = e0
                · let t8 : Tp pr := .b (show (!x.text.toList == []) = false by simpa using hc8)
                  let t9 : Tp pr := .i (wrap_i64 (a := i + (1 : Int)) (by omega) (by omega))
                  let t12 : Tp pr := .n .rows (show (List.map (fun x => List.map C.fz x) (List.take (1 : Nat) (List.drop (0 : Nat) (List.map tc ([].append [[T.int IntKind.i64 a.kind, T.int IntKind.i64 a.nm, T.str a.text, T.seq (4 : Nat) a.kids]]))))) = [[T.int IntKind.i64 a.kind, T.int IntKind.i64 a.nm, T.str a.text, T.seq (4 : Nat) a.kids]] by simp)
                  exact .tpe [t0, t1, t2, t3, t4, t5, t6, t7, t8, t9, .a (k1), .m (rfl : true = true), t12] (Out.val (V.tup [V.agg [V.t (T.int IntKind.i64 x.kind), V.t (T.int IntKind.i64 x.num), V.t (T.str x.text), V.t (T.seq (4 : Nat) [[T.int IntKind.i64 a.kind, T.int IntKind.i64 a.nm, T.str a.text, T.seq (4 : Nat) a.kids]])], V.t (T.int IntKind.i64 ((↑l.length : Int) - (↑r1.length : Int)))]) []) (by kernel_rfl) (((((congrArg (fun x_1 => Out.val (V.tup [V.agg [V.t (T.int IntKind.i64 x_1), V.t (T.int IntKind.i64 x.num), V.t (T.str x.text), V.t (T.seq (4 : Nat) [[T.int IntKind.i64 a.kind, T.int IntKind.i64 a.nm, T.str a.text, T.seq (4 : Nat) a.kids]])], V.t (T.int IntKind.i64 ((↑l.length : Int) - (↑r1.length : Int)))]) []) (show (x.kind) = ((3 : Int)) by assumption)).trans (congrArg (fun x_1 => Out.val (V.tup [V.agg [V.t (T.int IntKind.i64 (3 : Int)), V.t (T.int IntKind.i64 x_1), V.t (T.str x.text), V.t (T.seq (4 : Nat) [[T.int IntKind.i64 a.kind, T.int IntKind.i64 a.nm, T.str a.text, T.seq (4 : Nat) a.kids]])], V.t (T.int IntKind.i64 ((↑l.length : Int) - (↑r1.length : Int)))]) []) (show (x.num) = ((0 : Int)) by assumption))).trans (congrArg (fun x => Out.val (V.tup [V.agg [V.t (T.int IntKind.i64 (3 : Int)), V.t (T.int IntKind.i64 (0 : Int)), V.t (T.str x), V.t (T.seq (4 : Nat) [[T.int IntKind.i64 a.kind, T.int IntKind.i64 a.nm, T.str a.text, T.seq (4 : Nat) a.kids]])], V.t (T.int IntKind.i64 ((↑l.length : Int) - (↑r1.length : Int)))]) []) (show (x.text) = (ByteArray.mk #[]) by assumption))).trans (congrArg (fun x => Out.val (V.tup [V.agg [V.t (T.int IntKind.i64 (3 : Int)), V.t (T.int IntKind.i64 (0 : Int)), V.t (T.str (ByteArray.mk #[])), V.t (T.seq (4 : Nat) [[T.int IntKind.i64 a.kind, T.int IntKind.i64 a.nm, T.str a.text, T.seq (4 : Nat) a.kids]])], V.t (T.int IntKind.i64 x)]) []) (show ((↑l.length : Int) - (↑r1.length : Int)) = ((↑done.length : Int) + ((↑r.length : Int) + (1 : Int)) - (↑r1.length : Int)) by omega))).trans (show (Out.val (V.tup [V.agg [V.t (T.int IntKind.i64 (3 : Int)), V.t (T.int IntKind.i64 (0 : Int)), V.t (T.str (ByteArray.mk #[])), V.t (T.seq (4 : Nat) [[T.int IntKind.i64 a.kind, T.int IntKind.i64 a.nm, T.str a.text, T.seq (4 : Nat) a.kids]])], V.t (T.int IntKind.i64 ((↑done.length : Int) + ((↑r.length : Int) + (1 : Int)) - (↑r1.length : Int)))]) []) = Out.val (outS l.length (readE (n + (1 : Nat)) (x :: r))) [] by simp [readE, outS, vs, E.ts, E.kids, *]))
                · let t8 : Tp pr := .b (show (!x.text.toList == []) = true by simpa using hc8)
                  exact .tpe [t0, t1, t2, t3, t4, t5, t6, t7, t8] (Out.val (V.tup [V.agg [V.t (T.int IntKind.i64 (0 : Int)), V.t (T.int IntKind.i64 (0 : Int)), V.t (T.str (ByteArray.mk #[])), V.t (T.seq (4 : Nat) [])], V.t (T.int IntKind.i64 (0 : Int))]) []) (by kernel_rfl) ((rfl).trans (show (Out.val (V.tup [V.agg [V.t (T.int IntKind.i64 (0 : Int)), V.t (T.int IntKind.i64 (0 : Int)), V.t (T.str (ByteArray.mk #[])), V.t (T.seq (4 : Nat) [])], V.t (T.int IntKind.i64 (0 : Int))]) []) = Out.val (outS l.length (readE (n + (1 : Nat)) (x :: r))) [] by simp [readE, outS, vs, E.ts, E.kids, *]))
              · let t7 : Tp pr := .b (show (decide (x.num = (0 : Int))) = false by simpa using hc7)
                exact .tpe [t0, t1, t2, t3, t4, t5, t6, t7, .b (rfl : true = true)] (Out.val (V.tup [V.agg [V.t (T.int IntKind.i64 (0 : Int)), V.t (T.int IntKind.i64 (0 : Int)), V.t (T.str (ByteArray.mk #[])), V.t (T.seq (4 : Nat) [])], V.t (T.int IntKind.i64 (0 : Int))]) []) (by kernel_rfl) ((rfl).trans (show (Out.val (V.tup [V.agg [V.t (T.int IntKind.i64 (0 : Int)), V.t (T.int IntKind.i64 (0 : Int)), V.t (T.str (ByteArray.mk #[])), V.t (T.seq (4 : Nat) [])], V.t (T.int IntKind.i64 (0 : Int))]) []) = Out.val (outS l.length (readE (n + (1 : Nat)) (x :: r))) [] by simp [readE, outS, vs, E.ts, E.kids, *]))
            · let t5 : Tp pr := .b (show (decide (x.kind = (3 : Int))) = false by simpa using hc5)
              by_cases hc6 : x.kind = (4 : Int)
              · let t6 : Tp pr := .b (show (decide (x.kind = (4 : Int))) = true by simpa using hc6)
                by_cases hc7 : x.num = (0 : Int)
                · let t7 : Tp pr := .b (show (decide (x.num = (0 : Int))) = true by simpa using hc7)
                  by_cases hc8 : x.text = e0
                  · let t8 : Tp pr := .b (show (!x.text.toList == []) = false by simpa using hc8)
                    let t9 : Tp pr := .i (wrap_i64 (a := i + (1 : Int)) (by omega) (by omega))
                    let t12 : Tp pr := .n .rows (show (List.map (fun x => List.map C.fz x) (List.take (1 : Nat) (List.drop (0 : Nat) (List.map tc ([].append [[T.int IntKind.i64 a.kind, T.int IntKind.i64 a.nm, T.str a.text, T.seq (4 : Nat) a.kids]]))))) = [[T.int IntKind.i64 a.kind, T.int IntKind.i64 a.nm, T.str a.text, T.seq (4 : Nat) a.kids]] by simp)
                    exact .tpe [t0, t1, t2, t3, t4, t5, t6, t7, t8, t9, .a (k1), .m (rfl : true = true), t12] (Out.val (V.tup [V.agg [V.t (T.int IntKind.i64 x.kind), V.t (T.int IntKind.i64 x.num), V.t (T.str x.text), V.t (T.seq (4 : Nat) [[T.int IntKind.i64 a.kind, T.int IntKind.i64 a.nm, T.str a.text, T.seq (4 : Nat) a.kids]])], V.t (T.int IntKind.i64 ((↑l.length : Int) - (↑r1.length : Int)))]) []) (by kernel_rfl) (((((congrArg (fun x_1 => Out.val (V.tup [V.agg [V.t (T.int IntKind.i64 x_1), V.t (T.int IntKind.i64 x.num), V.t (T.str x.text), V.t (T.seq (4 : Nat) [[T.int IntKind.i64 a.kind, T.int IntKind.i64 a.nm, T.str a.text, T.seq (4 : Nat) a.kids]])], V.t (T.int IntKind.i64 ((↑l.length : Int) - (↑r1.length : Int)))]) []) (show (x.kind) = ((4 : Int)) by assumption)).trans (congrArg (fun x_1 => Out.val (V.tup [V.agg [V.t (T.int IntKind.i64 (4 : Int)), V.t (T.int IntKind.i64 x_1), V.t (T.str x.text), V.t (T.seq (4 : Nat) [[T.int IntKind.i64 a.kind, T.int IntKind.i64 a.nm, T.str a.text, T.seq (4 : Nat) a.kids]])], V.t (T.int IntKind.i64 ((↑l.length : Int) - (↑r1.length : Int)))]) []) (show (x.num) = ((0 : Int)) by assumption))).trans (congrArg (fun x => Out.val (V.tup [V.agg [V.t (T.int IntKind.i64 (4 : Int)), V.t (T.int IntKind.i64 (0 : Int)), V.t (T.str x), V.t (T.seq (4 : Nat) [[T.int IntKind.i64 a.kind, T.int IntKind.i64 a.nm, T.str a.text, T.seq (4 : Nat) a.kids]])], V.t (T.int IntKind.i64 ((↑l.length : Int) - (↑r1.length : Int)))]) []) (show (x.text) = (ByteArray.mk #[]) by assumption))).trans (congrArg (fun x => Out.val (V.tup [V.agg [V.t (T.int IntKind.i64 (4 : Int)), V.t (T.int IntKind.i64 (0 : Int)), V.t (T.str (ByteArray.mk #[])), V.t (T.seq (4 : Nat) [[T.int IntKind.i64 a.kind, T.int IntKind.i64 a.nm, T.str a.text, T.seq (4 : Nat) a.kids]])], V.t (T.int IntKind.i64 x)]) []) (show ((↑l.length : Int) - (↑r1.length : Int)) = ((↑done.length : Int) + ((↑r.length : Int) + (1 : Int)) - (↑r1.length : Int)) by omega))).trans (show (Out.val (V.tup [V.agg [V.t (T.int IntKind.i64 (4 : Int)), V.t (T.int IntKind.i64 (0 : Int)), V.t (T.str (ByteArray.mk #[])), V.t (T.seq (4 : Nat) [[T.int IntKind.i64 a.kind, T.int IntKind.i64 a.nm, T.str a.text, T.seq (4 : Nat) a.kids]])], V.t (T.int IntKind.i64 ((↑done.length : Int) + ((↑r.length : Int) + (1 : Int)) - (↑r1.length : Int)))]) []) = Out.val (outS l.length (readE (n + (1 : Nat)) (x :: r))) [] by simp [readE, outS, vs, E.ts, E.kids, *]))
                  · let t8 : Tp pr := .b (show (!x.text.toList == []) = true by simpa using hc8)
                    exact .tpe [t0, t1, t2, t3, t4, t5, t6, t7, t8] (Out.val (V.tup [V.agg [V.t (T.int IntKind.i64 (0 : Int)), V.t (T.int IntKind.i64 (0 : Int)), V.t (T.str (ByteArray.mk #[])), V.t (T.seq (4 : Nat) [])], V.t (T.int IntKind.i64 (0 : Int))]) []) (by kernel_rfl) ((rfl).trans (show (Out.val (V.tup [V.agg [V.t (T.int IntKind.i64 (0 : Int)), V.t (T.int IntKind.i64 (0 : Int)), V.t (T.str (ByteArray.mk #[])), V.t (T.seq (4 : Nat) [])], V.t (T.int IntKind.i64 (0 : Int))]) []) = Out.val (outS l.length (readE (n + (1 : Nat)) (x :: r))) [] by simp [readE, outS, vs, E.ts, E.kids, *]))
                · let t7 : Tp pr := .b (show (decide (x.num = (0 : Int))) = false by simpa using hc7)
                  exact .tpe [t0, t1, t2, t3, t4, t5, t6, t7, .b (rfl : true = true)] (Out.val (V.tup [V.agg [V.t (T.int IntKind.i64 (0 : Int)), V.t (T.int IntKind.i64 (0 : Int)), V.t (T.str (ByteArray.mk #[])), V.t (T.seq (4 : Nat) [])], V.t (T.int IntKind.i64 (0 : Int))]) []) (by kernel_rfl) ((rfl).trans (show (Out.val (V.tup [V.agg [V.t (T.int IntKind.i64 (0 : Int)), V.t (T.int IntKind.i64 (0 : Int)), V.t (T.str (ByteArray.mk #[])), V.t (T.seq (4 : Nat) [])], V.t (T.int IntKind.i64 (0 : Int))]) []) = Out.val (outS l.length (readE (n + (1 : Nat)) (x :: r))) [] by simp [readE, outS, vs, E.ts, E.kids, *]))
              · let t6 : Tp pr := .b (show (decide (x.kind = (4 : Int))) = false by simpa using hc6)
                by_cases hc7 : x.kind = (5 : Int)
                · let t7 : Tp pr := .b (show (decide (x.kind = (5 : Int))) = true by simpa using hc7)
                  by_cases hc8 : x.num = (0 : Int)
                  · let t8 : Tp pr := .b (show (decide (x.num = (0 : Int))) = true by simpa using hc8)
                    by_cases hc10 : strength x.text.toList ≤ (0 : Int)
                    · let t10 : Tp pr := .b (show (!decide (strength x.text.toList > (0 : Int))) = true by simpa using hc10)
                      exact .tpe [t0, t1, t2, t3, t4, t5, t6, t7, t8, .a (l2Strength_ev (x.text)), t10] (Out.val (V.tup [V.agg [V.t (T.int IntKind.i64 (0 : Int)), V.t (T.int IntKind.i64 (0 : Int)), V.t (T.str (ByteArray.mk #[])), V.t (T.seq (4 : Nat) [])], V.t (T.int IntKind.i64 (0 : Int))]) []) (by kernel_rfl) ((rfl).trans (show (Out.val (V.tup [V.agg [V.t (T.int IntKind.i64 (0 : Int)), V.t (T.int IntKind.i64 (0 : Int)), V.t (T.str (ByteArray.mk #[])), V.t (T.seq (4 : Nat) [])], V.t (T.int IntKind.i64 (0 : Int))]) []) = Out.val (outS l.length (readE (n + (1 : Nat)) (x :: r))) [] by simp [readE, outS, vs, E.ts, E.kids, *]))
                    · let t10 : Tp pr := .b (show (!decide (strength x.text.toList > (0 : Int))) = false by simpa using hc10)
                      let t11 : Tp pr := .i (wrap_i64 (a := i + (1 : Int)) (by omega) (by omega))
                      exact .tpe [t0, t1, t2, t3, t4, t5, t6, t7, t8, .a (l2Strength_ev (x.text)), t10, t11, .a (k2)] (Out.val (V.tup [V.agg [V.t (T.int IntKind.i64 (0 : Int)), V.t (T.int IntKind.i64 (0 : Int)), V.t (T.str (ByteArray.mk #[])), V.t (T.seq (4 : Nat) [])], V.t (T.int IntKind.i64 (0 : Int))]) []) (by kernel_rfl) ((rfl).trans (show (Out.val (V.tup [V.agg [V.t (T.int IntKind.i64 (0 : Int)), V.t (T.int IntKind.i64 (0 : Int)), V.t (T.str (ByteArray.mk #[])), V.t (T.seq (4 : Nat) [])], V.t (T.int IntKind.i64 (0 : Int))]) []) = Out.val (outS l.length (readE (n + (1 : Nat)) (x :: r))) [] by simp [readE, outS, vs, E.ts, E.kids, *]))
                  · let t8 : Tp pr := .b (show (decide (x.num = (0 : Int))) = false by simpa using hc8)
                    exact .tpe [t0, t1, t2, t3, t4, t5, t6, t7, t8, .b (rfl : true = true)] (Out.val (V.tup [V.agg [V.t (T.int IntKind.i64 (0 : Int)), V.t (T.int IntKind.i64 (0 : Int)), V.t (T.str (ByteArray.mk #[])), V.t (T.seq (4 : Nat) [])], V.t (T.int IntKind.i64 (0 : Int))]) []) (by kernel_rfl) ((rfl).trans (show (Out.val (V.tup [V.agg [V.t (T.int IntKind.i64 (0 : Int)), V.t (T.int IntKind.i64 (0 : Int)), V.t (T.str (ByteArray.mk #[])), V.t (T.seq (4 : Nat) [])], V.t (T.int IntKind.i64 (0 : Int))]) []) = Out.val (outS l.length (readE (n + (1 : Nat)) (x :: r))) [] by simp [readE, outS, vs, E.ts, E.kids, *]))
                · let t7 : Tp pr := .b (show (decide (x.kind = (5 : Int))) = false by simpa using hc7)
                  exact .tpe [t0, t1, t2, t3, t4, t5, t6, t7, .b (rfl : true = true)] (Out.val (V.tup [V.agg [V.t (T.int IntKind.i64 (0 : Int)), V.t (T.int IntKind.i64 (0 : Int)), V.t (T.str (ByteArray.mk #[])), V.t (T.seq (4 : Nat) [])], V.t (T.int IntKind.i64 (0 : Int))]) []) (by kernel_rfl) ((rfl).trans (show (Out.val (V.tup [V.agg [V.t (T.int IntKind.i64 (0 : Int)), V.t (T.int IntKind.i64 (0 : Int)), V.t (T.str (ByteArray.mk #[])), V.t (T.seq (4 : Nat) [])], V.t (T.int IntKind.i64 (0 : Int))]) []) = Out.val (outS l.length (readE (n + (1 : Nat)) (x :: r))) [] by simp [readE, outS, vs, E.ts, E.kids, *]))
      | some q =>
        obtain ⟨b, r2⟩ := q
        simp only [rdL2o, h2] at k2
        have h0 := strength_nonneg x.text.toList
        by_cases hst : strength x.text.toList = 0
        · have hst2 : ¬ 0 < strength x.text.toList := by omega
          let t0 : Tp pr := .i (show ((↑(List.map Ex.ce l).length : Int) : Int) = (↑l.length : Int) by simp)
          let t1 : Tp pr := .b (show (decide (i ≥ (↑l.length : Int))) = false by (simp; omega))
          let t2 : Tp pr := .g .row (show (lkp (List.map Ex.ce l) i) = some (x.ce) from hg)
          by_cases hc3 : x.kind = (1 : Int)
          · let t3 : Tp pr := .b (show (decide (x.kind = (1 : Int))) = true by simpa using hc3)
            let t4 : Tp pr := .a (l1In_ev (x.num) ((0 : Int)) ((999999999 : Int)))
            by_cases hc5 : (0 : Int) ≤ x.num ∧ x.num ≤ (999999999 : Int)
            · let t5 : Tp pr := .b (show (decide (x.num ≥ (0 : Int)) && decide (x.num ≤ (999999999 : Int))) = true by simpa using hc5)
              by_cases hc6 : x.text = e0
              · let t6 : Tp pr := .b (show (!x.text.toList == []) = false by simpa using hc6)
                let t7 : Tp pr := .i (wrap_i64 (a := i + (1 : Int)) (by omega) (by omega))
                exact .tpe [t0, t1, t2, t3, t4, t5, t6, t7, .a (k0), .m (rfl : true = true), .n .rows (rfl : ([]) = _)] (Out.val (V.tup [V.agg [V.t (T.int IntKind.i64 x.kind), V.t (T.int IntKind.i64 x.num), V.t (T.str x.text), V.t (T.seq (4 : Nat) [])], V.t (T.int IntKind.i64 (i + (1 : Int)))]) []) (by kernel_rfl) ((((congrArg (fun x_1 => Out.val (V.tup [V.agg [V.t (T.int IntKind.i64 x_1), V.t (T.int IntKind.i64 x.num), V.t (T.str x.text), V.t (T.seq (4 : Nat) [])], V.t (T.int IntKind.i64 (i + (1 : Int)))]) []) (show (x.kind) = ((1 : Int)) by assumption)).trans (congrArg (fun x_1 => Out.val (V.tup [V.agg [V.t (T.int IntKind.i64 (1 : Int)), V.t (T.int IntKind.i64 x.num), V.t (T.str x_1), V.t (T.seq (4 : Nat) [])], V.t (T.int IntKind.i64 (i + (1 : Int)))]) []) (show (x.text) = (ByteArray.mk #[]) by assumption))).trans (congrArg (fun x_1 => Out.val (V.tup [V.agg [V.t (T.int IntKind.i64 (1 : Int)), V.t (T.int IntKind.i64 x.num), V.t (T.str (ByteArray.mk #[])), V.t (T.seq (4 : Nat) [])], V.t (T.int IntKind.i64 x_1)]) []) (show (i + (1 : Int)) = ((↑done.length : Int) + ((↑r.length : Int) + (1 : Int)) - (↑r.length : Int)) by omega))).trans (show (Out.val (V.tup [V.agg [V.t (T.int IntKind.i64 (1 : Int)), V.t (T.int IntKind.i64 x.num), V.t (T.str (ByteArray.mk #[])), V.t (T.seq (4 : Nat) [])], V.t (T.int IntKind.i64 ((↑done.length : Int) + ((↑r.length : Int) + (1 : Int)) - (↑r.length : Int)))]) []) = Out.val (outS l.length (readE (n + (1 : Nat)) (x :: r))) [] by simp [readE, outS, vs, E.ts, E.kids, *]))
              · let t6 : Tp pr := .b (show (!x.text.toList == []) = true by simpa using hc6)
                exact .tpe [t0, t1, t2, t3, t4, t5, t6] (Out.val (V.tup [V.agg [V.t (T.int IntKind.i64 (0 : Int)), V.t (T.int IntKind.i64 (0 : Int)), V.t (T.str (ByteArray.mk #[])), V.t (T.seq (4 : Nat) [])], V.t (T.int IntKind.i64 (0 : Int))]) []) (by kernel_rfl) ((rfl).trans (show (Out.val (V.tup [V.agg [V.t (T.int IntKind.i64 (0 : Int)), V.t (T.int IntKind.i64 (0 : Int)), V.t (T.str (ByteArray.mk #[])), V.t (T.seq (4 : Nat) [])], V.t (T.int IntKind.i64 (0 : Int))]) []) = Out.val (outS l.length (readE (n + (1 : Nat)) (x :: r))) [] by simp [readE, outS, vs, E.ts, E.kids, *]))
            · let t5 : Tp pr := .b (show (decide (x.num ≥ (0 : Int)) && decide (x.num ≤ (999999999 : Int))) = false by simpa using hc5)
              exact .tpe [t0, t1, t2, t3, t4, t5, .b (rfl : true = true)] (Out.val (V.tup [V.agg [V.t (T.int IntKind.i64 (0 : Int)), V.t (T.int IntKind.i64 (0 : Int)), V.t (T.str (ByteArray.mk #[])), V.t (T.seq (4 : Nat) [])], V.t (T.int IntKind.i64 (0 : Int))]) []) (by kernel_rfl) ((rfl).trans (show (Out.val (V.tup [V.agg [V.t (T.int IntKind.i64 (0 : Int)), V.t (T.int IntKind.i64 (0 : Int)), V.t (T.str (ByteArray.mk #[])), V.t (T.seq (4 : Nat) [])], V.t (T.int IntKind.i64 (0 : Int))]) []) = Out.val (outS l.length (readE (n + (1 : Nat)) (x :: r))) [] by simp [readE, outS, vs, E.ts, E.kids, *]))
          · let t3 : Tp pr := .b (show (decide (x.kind = (1 : Int))) = false by simpa using hc3)
            by_cases hc4 : x.kind = (2 : Int)
            · let t4 : Tp pr := .b (show (decide (x.kind = (2 : Int))) = true by simpa using hc4)
              let t5 : Tp pr := .a (GoodName_ev (x.text) (by assumption))
              by_cases hc6 : nameOk x.text = true
              · let t6 : Tp pr := .b (show (nameOk x.text) = true by simpa using hc6)
                by_cases hc7 : x.num = (0 : Int)
                · let t7 : Tp pr := .b (show (!decide (x.num = (0 : Int))) = false by simpa using hc7)
                  let t8 : Tp pr := .i (wrap_i64 (a := i + (1 : Int)) (by omega) (by omega))
                  exact .tpe [t0, t1, t2, t3, t4, t5, t6, t7, t8, .a (k0), .m (rfl : true = true), .n .rows (rfl : ([]) = _)] (Out.val (V.tup [V.agg [V.t (T.int IntKind.i64 x.kind), V.t (T.int IntKind.i64 x.num), V.t (T.str x.text), V.t (T.seq (4 : Nat) [])], V.t (T.int IntKind.i64 (i + (1 : Int)))]) []) (by kernel_rfl) ((((congrArg (fun x_1 => Out.val (V.tup [V.agg [V.t (T.int IntKind.i64 x_1), V.t (T.int IntKind.i64 x.num), V.t (T.str x.text), V.t (T.seq (4 : Nat) [])], V.t (T.int IntKind.i64 (i + (1 : Int)))]) []) (show (x.kind) = ((2 : Int)) by assumption)).trans (congrArg (fun x_1 => Out.val (V.tup [V.agg [V.t (T.int IntKind.i64 (2 : Int)), V.t (T.int IntKind.i64 x_1), V.t (T.str x.text), V.t (T.seq (4 : Nat) [])], V.t (T.int IntKind.i64 (i + (1 : Int)))]) []) (show (x.num) = ((0 : Int)) by assumption))).trans (congrArg (fun x_1 => Out.val (V.tup [V.agg [V.t (T.int IntKind.i64 (2 : Int)), V.t (T.int IntKind.i64 (0 : Int)), V.t (T.str x.text), V.t (T.seq (4 : Nat) [])], V.t (T.int IntKind.i64 x_1)]) []) (show (i + (1 : Int)) = ((↑done.length : Int) + ((↑r.length : Int) + (1 : Int)) - (↑r.length : Int)) by omega))).trans (show (Out.val (V.tup [V.agg [V.t (T.int IntKind.i64 (2 : Int)), V.t (T.int IntKind.i64 (0 : Int)), V.t (T.str x.text), V.t (T.seq (4 : Nat) [])], V.t (T.int IntKind.i64 ((↑done.length : Int) + ((↑r.length : Int) + (1 : Int)) - (↑r.length : Int)))]) []) = Out.val (outS l.length (readE (n + (1 : Nat)) (x :: r))) [] by simp [readE, outS, vs, E.ts, E.kids, *]))
                · let t7 : Tp pr := .b (show (!decide (x.num = (0 : Int))) = true by simpa using hc7)
                  exact .tpe [t0, t1, t2, t3, t4, t5, t6, t7] (Out.val (V.tup [V.agg [V.t (T.int IntKind.i64 (0 : Int)), V.t (T.int IntKind.i64 (0 : Int)), V.t (T.str (ByteArray.mk #[])), V.t (T.seq (4 : Nat) [])], V.t (T.int IntKind.i64 (0 : Int))]) []) (by kernel_rfl) ((rfl).trans (show (Out.val (V.tup [V.agg [V.t (T.int IntKind.i64 (0 : Int)), V.t (T.int IntKind.i64 (0 : Int)), V.t (T.str (ByteArray.mk #[])), V.t (T.seq (4 : Nat) [])], V.t (T.int IntKind.i64 (0 : Int))]) []) = Out.val (outS l.length (readE (n + (1 : Nat)) (x :: r))) [] by simp [readE, outS, vs, E.ts, E.kids, *]))
              · let t6 : Tp pr := .b (show (nameOk x.text) = false by simpa using hc6)
                exact .tpe [t0, t1, t2, t3, t4, t5, t6, .b (rfl : true = true)] (Out.val (V.tup [V.agg [V.t (T.int IntKind.i64 (0 : Int)), V.t (T.int IntKind.i64 (0 : Int)), V.t (T.str (ByteArray.mk #[])), V.t (T.seq (4 : Nat) [])], V.t (T.int IntKind.i64 (0 : Int))]) []) (by kernel_rfl) ((rfl).trans (show (Out.val (V.tup [V.agg [V.t (T.int IntKind.i64 (0 : Int)), V.t (T.int IntKind.i64 (0 : Int)), V.t (T.str (ByteArray.mk #[])), V.t (T.seq (4 : Nat) [])], V.t (T.int IntKind.i64 (0 : Int))]) []) = Out.val (outS l.length (readE (n + (1 : Nat)) (x :: r))) [] by simp [readE, outS, vs, E.ts, E.kids, *]))
            · let t4 : Tp pr := .b (show (decide (x.kind = (2 : Int))) = false by simpa using hc4)
              by_cases hc5 : x.kind = (3 : Int)
              · let t5 : Tp pr := .b (show (decide (x.kind = (3 : Int))) = true by simpa using hc5)
                let t6 : Tp pr := .b (show (decide (x.kind = (3 : Int))) = true by (simp; omega))
                by_cases hc7 : x.num = (0 : Int)
                · let t7 : Tp pr := .b (show (decide (x.num = (0 : Int))) = true by simpa using hc7)
                  by_cases hc8 : x.text = e0
                  · let t8 : Tp pr := .b (show (!x.text.toList == []) = false by simpa using hc8)
                    let t9 : Tp pr := .i (wrap_i64 (a := i + (1 : Int)) (by omega) (by omega))
                    let t12 : Tp pr := .n .rows (show (List.map (fun x => List.map C.fz x) (List.take (1 : Nat) (List.drop (0 : Nat) (List.map tc ([].append [[T.int IntKind.i64 a.kind, T.int IntKind.i64 a.nm, T.str a.text, T.seq (4 : Nat) a.kids]]))))) = [[T.int IntKind.i64 a.kind, T.int IntKind.i64 a.nm, T.str a.text, T.seq (4 : Nat) a.kids]] by simp)
                    exact .tpe [t0, t1, t2, t3, t4, t5, t6, t7, t8, t9, .a (k1), .m (rfl : true = true), t12] (Out.val (V.tup [V.agg [V.t (T.int IntKind.i64 x.kind), V.t (T.int IntKind.i64 x.num), V.t (T.str x.text), V.t (T.seq (4 : Nat) [[T.int IntKind.i64 a.kind, T.int IntKind.i64 a.nm, T.str a.text, T.seq (4 : Nat) a.kids]])], V.t (T.int IntKind.i64 ((↑l.length : Int) - (↑r1.length : Int)))]) []) (by kernel_rfl) (((((congrArg (fun x_1 => Out.val (V.tup [V.agg [V.t (T.int IntKind.i64 x_1), V.t (T.int IntKind.i64 x.num), V.t (T.str x.text), V.t (T.seq (4 : Nat) [[T.int IntKind.i64 a.kind, T.int IntKind.i64 a.nm, T.str a.text, T.seq (4 : Nat) a.kids]])], V.t (T.int IntKind.i64 ((↑l.length : Int) - (↑r1.length : Int)))]) []) (show (x.kind) = ((3 : Int)) by assumption)).trans (congrArg (fun x_1 => Out.val (V.tup [V.agg [V.t (T.int IntKind.i64 (3 : Int)), V.t (T.int IntKind.i64 x_1), V.t (T.str x.text), V.t (T.seq (4 : Nat) [[T.int IntKind.i64 a.kind, T.int IntKind.i64 a.nm, T.str a.text, T.seq (4 : Nat) a.kids]])], V.t (T.int IntKind.i64 ((↑l.length : Int) - (↑r1.length : Int)))]) []) (show (x.num) = ((0 : Int)) by assumption))).trans (congrArg (fun x => Out.val (V.tup [V.agg [V.t (T.int IntKind.i64 (3 : Int)), V.t (T.int IntKind.i64 (0 : Int)), V.t (T.str x), V.t (T.seq (4 : Nat) [[T.int IntKind.i64 a.kind, T.int IntKind.i64 a.nm, T.str a.text, T.seq (4 : Nat) a.kids]])], V.t (T.int IntKind.i64 ((↑l.length : Int) - (↑r1.length : Int)))]) []) (show (x.text) = (ByteArray.mk #[]) by assumption))).trans (congrArg (fun x => Out.val (V.tup [V.agg [V.t (T.int IntKind.i64 (3 : Int)), V.t (T.int IntKind.i64 (0 : Int)), V.t (T.str (ByteArray.mk #[])), V.t (T.seq (4 : Nat) [[T.int IntKind.i64 a.kind, T.int IntKind.i64 a.nm, T.str a.text, T.seq (4 : Nat) a.kids]])], V.t (T.int IntKind.i64 x)]) []) (show ((↑l.length : Int) - (↑r1.length : Int)) = ((↑done.length : Int) + ((↑r.length : Int) + (1 : Int)) - (↑r1.length : Int)) by omega))).trans (show (Out.val (V.tup [V.agg [V.t (T.int IntKind.i64 (3 : Int)), V.t (T.int IntKind.i64 (0 : Int)), V.t (T.str (ByteArray.mk #[])), V.t (T.seq (4 : Nat) [[T.int IntKind.i64 a.kind, T.int IntKind.i64 a.nm, T.str a.text, T.seq (4 : Nat) a.kids]])], V.t (T.int IntKind.i64 ((↑done.length : Int) + ((↑r.length : Int) + (1 : Int)) - (↑r1.length : Int)))]) []) = Out.val (outS l.length (readE (n + (1 : Nat)) (x :: r))) [] by simp [readE, outS, vs, E.ts, E.kids, *]))
                  · let t8 : Tp pr := .b (show (!x.text.toList == []) = true by simpa using hc8)
                    exact .tpe [t0, t1, t2, t3, t4, t5, t6, t7, t8] (Out.val (V.tup [V.agg [V.t (T.int IntKind.i64 (0 : Int)), V.t (T.int IntKind.i64 (0 : Int)), V.t (T.str (ByteArray.mk #[])), V.t (T.seq (4 : Nat) [])], V.t (T.int IntKind.i64 (0 : Int))]) []) (by kernel_rfl) ((rfl).trans (show (Out.val (V.tup [V.agg [V.t (T.int IntKind.i64 (0 : Int)), V.t (T.int IntKind.i64 (0 : Int)), V.t (T.str (ByteArray.mk #[])), V.t (T.seq (4 : Nat) [])], V.t (T.int IntKind.i64 (0 : Int))]) []) = Out.val (outS l.length (readE (n + (1 : Nat)) (x :: r))) [] by simp [readE, outS, vs, E.ts, E.kids, *]))
                · let t7 : Tp pr := .b (show (decide (x.num = (0 : Int))) = false by simpa using hc7)
                  exact .tpe [t0, t1, t2, t3, t4, t5, t6, t7, .b (rfl : true = true)] (Out.val (V.tup [V.agg [V.t (T.int IntKind.i64 (0 : Int)), V.t (T.int IntKind.i64 (0 : Int)), V.t (T.str (ByteArray.mk #[])), V.t (T.seq (4 : Nat) [])], V.t (T.int IntKind.i64 (0 : Int))]) []) (by kernel_rfl) ((rfl).trans (show (Out.val (V.tup [V.agg [V.t (T.int IntKind.i64 (0 : Int)), V.t (T.int IntKind.i64 (0 : Int)), V.t (T.str (ByteArray.mk #[])), V.t (T.seq (4 : Nat) [])], V.t (T.int IntKind.i64 (0 : Int))]) []) = Out.val (outS l.length (readE (n + (1 : Nat)) (x :: r))) [] by simp [readE, outS, vs, E.ts, E.kids, *]))
              · let t5 : Tp pr := .b (show (decide (x.kind = (3 : Int))) = false by simpa using hc5)
                by_cases hc6 : x.kind = (4 : Int)
                · let t6 : Tp pr := .b (show (decide (x.kind = (4 : Int))) = true by simpa using hc6)
                  by_cases hc7 : x.num = (0 : Int)
                  · let t7 : Tp pr := .b (show (decide (x.num = (0 : Int))) = true by simpa using hc7)
                    by_cases hc8 : x.text = e0
                    · let t8 : Tp pr := .b (show (!x.text.toList == []) = false by simpa using hc8)
                      let t9 : Tp pr := .i (wrap_i64 (a := i + (1 : Int)) (by omega) (by omega))
                      let t12 : Tp pr := .n .rows (show (List.map (fun x => List.map C.fz x) (List.take (1 : Nat) (List.drop (0 : Nat) (List.map tc ([].append [[T.int IntKind.i64 a.kind, T.int IntKind.i64 a.nm, T.str a.text, T.seq (4 : Nat) a.kids]]))))) = [[T.int IntKind.i64 a.kind, T.int IntKind.i64 a.nm, T.str a.text, T.seq (4 : Nat) a.kids]] by simp)
                      exact .tpe [t0, t1, t2, t3, t4, t5, t6, t7, t8, t9, .a (k1), .m (rfl : true = true), t12] (Out.val (V.tup [V.agg [V.t (T.int IntKind.i64 x.kind), V.t (T.int IntKind.i64 x.num), V.t (T.str x.text), V.t (T.seq (4 : Nat) [[T.int IntKind.i64 a.kind, T.int IntKind.i64 a.nm, T.str a.text, T.seq (4 : Nat) a.kids]])], V.t (T.int IntKind.i64 ((↑l.length : Int) - (↑r1.length : Int)))]) []) (by kernel_rfl) (((((congrArg (fun x_1 => Out.val (V.tup [V.agg [V.t (T.int IntKind.i64 x_1), V.t (T.int IntKind.i64 x.num), V.t (T.str x.text), V.t (T.seq (4 : Nat) [[T.int IntKind.i64 a.kind, T.int IntKind.i64 a.nm, T.str a.text, T.seq (4 : Nat) a.kids]])], V.t (T.int IntKind.i64 ((↑l.length : Int) - (↑r1.length : Int)))]) []) (show (x.kind) = ((4 : Int)) by assumption)).trans (congrArg (fun x_1 => Out.val (V.tup [V.agg [V.t (T.int IntKind.i64 (4 : Int)), V.t (T.int IntKind.i64 x_1), V.t (T.str x.text), V.t (T.seq (4 : Nat) [[T.int IntKind.i64 a.kind, T.int IntKind.i64 a.nm, T.str a.text, T.seq (4 : Nat) a.kids]])], V.t (T.int IntKind.i64 ((↑l.length : Int) - (↑r1.length : Int)))]) []) (show (x.num) = ((0 : Int)) by assumption))).trans (congrArg (fun x => Out.val (V.tup [V.agg [V.t (T.int IntKind.i64 (4 : Int)), V.t (T.int IntKind.i64 (0 : Int)), V.t (T.str x), V.t (T.seq (4 : Nat) [[T.int IntKind.i64 a.kind, T.int IntKind.i64 a.nm, T.str a.text, T.seq (4 : Nat) a.kids]])], V.t (T.int IntKind.i64 ((↑l.length : Int) - (↑r1.length : Int)))]) []) (show (x.text) = (ByteArray.mk #[]) by assumption))).trans (congrArg (fun x => Out.val (V.tup [V.agg [V.t (T.int IntKind.i64 (4 : Int)), V.t (T.int IntKind.i64 (0 : Int)), V.t (T.str (ByteArray.mk #[])), V.t (T.seq (4 : Nat) [[T.int IntKind.i64 a.kind, T.int IntKind.i64 a.nm, T.str a.text, T.seq (4 : Nat) a.kids]])], V.t (T.int IntKind.i64 x)]) []) (show ((↑l.length : Int) - (↑r1.length : Int)) = ((↑done.length : Int) + ((↑r.length : Int) + (1 : Int)) - (↑r1.length : Int)) by omega))).trans (show (Out.val (V.tup [V.agg [V.t (T.int IntKind.i64 (4 : Int)), V.t (T.int IntKind.i64 (0 : Int)), V.t (T.str (ByteArray.mk #[])), V.t (T.seq (4 : Nat) [[T.int IntKind.i64 a.kind, T.int IntKind.i64 a.nm, T.str a.text, T.seq (4 : Nat) a.kids]])], V.t (T.int IntKind.i64 ((↑done.length : Int) + ((↑r.length : Int) + (1 : Int)) - (↑r1.length : Int)))]) []) = Out.val (outS l.length (readE (n + (1 : Nat)) (x :: r))) [] by simp [readE, outS, vs, E.ts, E.kids, *]))
                    · let t8 : Tp pr := .b (show (!x.text.toList == []) = true by simpa using hc8)
                      exact .tpe [t0, t1, t2, t3, t4, t5, t6, t7, t8] (Out.val (V.tup [V.agg [V.t (T.int IntKind.i64 (0 : Int)), V.t (T.int IntKind.i64 (0 : Int)), V.t (T.str (ByteArray.mk #[])), V.t (T.seq (4 : Nat) [])], V.t (T.int IntKind.i64 (0 : Int))]) []) (by kernel_rfl) ((rfl).trans (show (Out.val (V.tup [V.agg [V.t (T.int IntKind.i64 (0 : Int)), V.t (T.int IntKind.i64 (0 : Int)), V.t (T.str (ByteArray.mk #[])), V.t (T.seq (4 : Nat) [])], V.t (T.int IntKind.i64 (0 : Int))]) []) = Out.val (outS l.length (readE (n + (1 : Nat)) (x :: r))) [] by simp [readE, outS, vs, E.ts, E.kids, *]))
                  · let t7 : Tp pr := .b (show (decide (x.num = (0 : Int))) = false by simpa using hc7)
                    exact .tpe [t0, t1, t2, t3, t4, t5, t6, t7, .b (rfl : true = true)] (Out.val (V.tup [V.agg [V.t (T.int IntKind.i64 (0 : Int)), V.t (T.int IntKind.i64 (0 : Int)), V.t (T.str (ByteArray.mk #[])), V.t (T.seq (4 : Nat) [])], V.t (T.int IntKind.i64 (0 : Int))]) []) (by kernel_rfl) ((rfl).trans (show (Out.val (V.tup [V.agg [V.t (T.int IntKind.i64 (0 : Int)), V.t (T.int IntKind.i64 (0 : Int)), V.t (T.str (ByteArray.mk #[])), V.t (T.seq (4 : Nat) [])], V.t (T.int IntKind.i64 (0 : Int))]) []) = Out.val (outS l.length (readE (n + (1 : Nat)) (x :: r))) [] by simp [readE, outS, vs, E.ts, E.kids, *]))
                · let t6 : Tp pr := .b (show (decide (x.kind = (4 : Int))) = false by simpa using hc6)
                  by_cases hc7 : x.kind = (5 : Int)
                  · let t7 : Tp pr := .b (show (decide (x.kind = (5 : Int))) = true by simpa using hc7)
                    by_cases hc8 : x.num = (0 : Int)
                    · let t8 : Tp pr := .b (show (decide (x.num = (0 : Int))) = true by simpa using hc8)
                      let t10 : Tp pr := .b (show (!decide (strength x.text.toList > (0 : Int))) = true by (simp; omega))
                      exact .tpe [t0, t1, t2, t3, t4, t5, t6, t7, t8, .a (l2Strength_ev (x.text)), t10] (Out.val (V.tup [V.agg [V.t (T.int IntKind.i64 (0 : Int)), V.t (T.int IntKind.i64 (0 : Int)), V.t (T.str (ByteArray.mk #[])), V.t (T.seq (4 : Nat) [])], V.t (T.int IntKind.i64 (0 : Int))]) []) (by kernel_rfl) ((rfl).trans (show (Out.val (V.tup [V.agg [V.t (T.int IntKind.i64 (0 : Int)), V.t (T.int IntKind.i64 (0 : Int)), V.t (T.str (ByteArray.mk #[])), V.t (T.seq (4 : Nat) [])], V.t (T.int IntKind.i64 (0 : Int))]) []) = Out.val (outS l.length (readE (n + (1 : Nat)) (x :: r))) [] by simp [readE, outS, vs, E.ts, E.kids, *]))
                    · let t8 : Tp pr := .b (show (decide (x.num = (0 : Int))) = false by simpa using hc8)
                      exact .tpe [t0, t1, t2, t3, t4, t5, t6, t7, t8, .b (rfl : true = true)] (Out.val (V.tup [V.agg [V.t (T.int IntKind.i64 (0 : Int)), V.t (T.int IntKind.i64 (0 : Int)), V.t (T.str (ByteArray.mk #[])), V.t (T.seq (4 : Nat) [])], V.t (T.int IntKind.i64 (0 : Int))]) []) (by kernel_rfl) ((rfl).trans (show (Out.val (V.tup [V.agg [V.t (T.int IntKind.i64 (0 : Int)), V.t (T.int IntKind.i64 (0 : Int)), V.t (T.str (ByteArray.mk #[])), V.t (T.seq (4 : Nat) [])], V.t (T.int IntKind.i64 (0 : Int))]) []) = Out.val (outS l.length (readE (n + (1 : Nat)) (x :: r))) [] by simp [readE, outS, vs, E.ts, E.kids, *]))
                  · let t7 : Tp pr := .b (show (decide (x.kind = (5 : Int))) = false by simpa using hc7)
                    exact .tpe [t0, t1, t2, t3, t4, t5, t6, t7, .b (rfl : true = true)] (Out.val (V.tup [V.agg [V.t (T.int IntKind.i64 (0 : Int)), V.t (T.int IntKind.i64 (0 : Int)), V.t (T.str (ByteArray.mk #[])), V.t (T.seq (4 : Nat) [])], V.t (T.int IntKind.i64 (0 : Int))]) []) (by kernel_rfl) ((rfl).trans (show (Out.val (V.tup [V.agg [V.t (T.int IntKind.i64 (0 : Int)), V.t (T.int IntKind.i64 (0 : Int)), V.t (T.str (ByteArray.mk #[])), V.t (T.seq (4 : Nat) [])], V.t (T.int IntKind.i64 (0 : Int))]) []) = Out.val (outS l.length (readE (n + (1 : Nat)) (x :: r))) [] by simp [readE, outS, vs, E.ts, E.kids, *]))
        · have hst2 : 0 < strength x.text.toList := by omega
          let t0 : Tp pr := .i (show ((↑(List.map Ex.ce l).length : Int) : Int) = (↑l.length : Int) by simp)
          let t1 : Tp pr := .b (show (decide (i ≥ (↑l.length : Int))) = false by (simp; omega))
          let t2 : Tp pr := .g .row (show (lkp (List.map Ex.ce l) i) = some (x.ce) from hg)
          by_cases hc3 : x.kind = (1 : Int)
          · let t3 : Tp pr := .b (show (decide (x.kind = (1 : Int))) = true by simpa using hc3)
            let t4 : Tp pr := .a (l1In_ev (x.num) ((0 : Int)) ((999999999 : Int)))
            by_cases hc5 : (0 : Int) ≤ x.num ∧ x.num ≤ (999999999 : Int)
            · let t5 : Tp pr := .b (show (decide (x.num ≥ (0 : Int)) && decide (x.num ≤ (999999999 : Int))) = true by simpa using hc5)
              by_cases hc6 : x.text = e0
              · let t6 : Tp pr := .b (show (!x.text.toList == []) = false by simpa using hc6)
                let t7 : Tp pr := .i (wrap_i64 (a := i + (1 : Int)) (by omega) (by omega))
                exact .tpe [t0, t1, t2, t3, t4, t5, t6, t7, .a (k0), .m (rfl : true = true), .n .rows (rfl : ([]) = _)] (Out.val (V.tup [V.agg [V.t (T.int IntKind.i64 x.kind), V.t (T.int IntKind.i64 x.num), V.t (T.str x.text), V.t (T.seq (4 : Nat) [])], V.t (T.int IntKind.i64 (i + (1 : Int)))]) []) (by kernel_rfl) ((((congrArg (fun x_1 => Out.val (V.tup [V.agg [V.t (T.int IntKind.i64 x_1), V.t (T.int IntKind.i64 x.num), V.t (T.str x.text), V.t (T.seq (4 : Nat) [])], V.t (T.int IntKind.i64 (i + (1 : Int)))]) []) (show (x.kind) = ((1 : Int)) by assumption)).trans (congrArg (fun x_1 => Out.val (V.tup [V.agg [V.t (T.int IntKind.i64 (1 : Int)), V.t (T.int IntKind.i64 x.num), V.t (T.str x_1), V.t (T.seq (4 : Nat) [])], V.t (T.int IntKind.i64 (i + (1 : Int)))]) []) (show (x.text) = (ByteArray.mk #[]) by assumption))).trans (congrArg (fun x_1 => Out.val (V.tup [V.agg [V.t (T.int IntKind.i64 (1 : Int)), V.t (T.int IntKind.i64 x.num), V.t (T.str (ByteArray.mk #[])), V.t (T.seq (4 : Nat) [])], V.t (T.int IntKind.i64 x_1)]) []) (show (i + (1 : Int)) = ((↑done.length : Int) + ((↑r.length : Int) + (1 : Int)) - (↑r.length : Int)) by omega))).trans (show (Out.val (V.tup [V.agg [V.t (T.int IntKind.i64 (1 : Int)), V.t (T.int IntKind.i64 x.num), V.t (T.str (ByteArray.mk #[])), V.t (T.seq (4 : Nat) [])], V.t (T.int IntKind.i64 ((↑done.length : Int) + ((↑r.length : Int) + (1 : Int)) - (↑r.length : Int)))]) []) = Out.val (outS l.length (readE (n + (1 : Nat)) (x :: r))) [] by simp [readE, outS, vs, E.ts, E.kids, *]))
              · let t6 : Tp pr := .b (show (!x.text.toList == []) = true by simpa using hc6)
                exact .tpe [t0, t1, t2, t3, t4, t5, t6] (Out.val (V.tup [V.agg [V.t (T.int IntKind.i64 (0 : Int)), V.t (T.int IntKind.i64 (0 : Int)), V.t (T.str (ByteArray.mk #[])), V.t (T.seq (4 : Nat) [])], V.t (T.int IntKind.i64 (0 : Int))]) []) (by kernel_rfl) ((rfl).trans (show (Out.val (V.tup [V.agg [V.t (T.int IntKind.i64 (0 : Int)), V.t (T.int IntKind.i64 (0 : Int)), V.t (T.str (ByteArray.mk #[])), V.t (T.seq (4 : Nat) [])], V.t (T.int IntKind.i64 (0 : Int))]) []) = Out.val (outS l.length (readE (n + (1 : Nat)) (x :: r))) [] by simp [readE, outS, vs, E.ts, E.kids, *]))
            · let t5 : Tp pr := .b (show (decide (x.num ≥ (0 : Int)) && decide (x.num ≤ (999999999 : Int))) = false by simpa using hc5)
              exact .tpe [t0, t1, t2, t3, t4, t5, .b (rfl : true = true)] (Out.val (V.tup [V.agg [V.t (T.int IntKind.i64 (0 : Int)), V.t (T.int IntKind.i64 (0 : Int)), V.t (T.str (ByteArray.mk #[])), V.t (T.seq (4 : Nat) [])], V.t (T.int IntKind.i64 (0 : Int))]) []) (by kernel_rfl) ((rfl).trans (show (Out.val (V.tup [V.agg [V.t (T.int IntKind.i64 (0 : Int)), V.t (T.int IntKind.i64 (0 : Int)), V.t (T.str (ByteArray.mk #[])), V.t (T.seq (4 : Nat) [])], V.t (T.int IntKind.i64 (0 : Int))]) []) = Out.val (outS l.length (readE (n + (1 : Nat)) (x :: r))) [] by simp [readE, outS, vs, E.ts, E.kids, *]))
          · let t3 : Tp pr := .b (show (decide (x.kind = (1 : Int))) = false by simpa using hc3)
            by_cases hc4 : x.kind = (2 : Int)
            · let t4 : Tp pr := .b (show (decide (x.kind = (2 : Int))) = true by simpa using hc4)
              let t5 : Tp pr := .a (GoodName_ev (x.text) (by assumption))
              by_cases hc6 : nameOk x.text = true
              · let t6 : Tp pr := .b (show (nameOk x.text) = true by simpa using hc6)
                by_cases hc7 : x.num = (0 : Int)
                · let t7 : Tp pr := .b (show (!decide (x.num = (0 : Int))) = false by simpa using hc7)
                  let t8 : Tp pr := .i (wrap_i64 (a := i + (1 : Int)) (by omega) (by omega))
                  exact .tpe [t0, t1, t2, t3, t4, t5, t6, t7, t8, .a (k0), .m (rfl : true = true), .n .rows (rfl : ([]) = _)] (Out.val (V.tup [V.agg [V.t (T.int IntKind.i64 x.kind), V.t (T.int IntKind.i64 x.num), V.t (T.str x.text), V.t (T.seq (4 : Nat) [])], V.t (T.int IntKind.i64 (i + (1 : Int)))]) []) (by kernel_rfl) ((((congrArg (fun x_1 => Out.val (V.tup [V.agg [V.t (T.int IntKind.i64 x_1), V.t (T.int IntKind.i64 x.num), V.t (T.str x.text), V.t (T.seq (4 : Nat) [])], V.t (T.int IntKind.i64 (i + (1 : Int)))]) []) (show (x.kind) = ((2 : Int)) by assumption)).trans (congrArg (fun x_1 => Out.val (V.tup [V.agg [V.t (T.int IntKind.i64 (2 : Int)), V.t (T.int IntKind.i64 x_1), V.t (T.str x.text), V.t (T.seq (4 : Nat) [])], V.t (T.int IntKind.i64 (i + (1 : Int)))]) []) (show (x.num) = ((0 : Int)) by assumption))).trans (congrArg (fun x_1 => Out.val (V.tup [V.agg [V.t (T.int IntKind.i64 (2 : Int)), V.t (T.int IntKind.i64 (0 : Int)), V.t (T.str x.text), V.t (T.seq (4 : Nat) [])], V.t (T.int IntKind.i64 x_1)]) []) (show (i + (1 : Int)) = ((↑done.length : Int) + ((↑r.length : Int) + (1 : Int)) - (↑r.length : Int)) by omega))).trans (show (Out.val (V.tup [V.agg [V.t (T.int IntKind.i64 (2 : Int)), V.t (T.int IntKind.i64 (0 : Int)), V.t (T.str x.text), V.t (T.seq (4 : Nat) [])], V.t (T.int IntKind.i64 ((↑done.length : Int) + ((↑r.length : Int) + (1 : Int)) - (↑r.length : Int)))]) []) = Out.val (outS l.length (readE (n + (1 : Nat)) (x :: r))) [] by simp [readE, outS, vs, E.ts, E.kids, *]))
                · let t7 : Tp pr := .b (show (!decide (x.num = (0 : Int))) = true by simpa using hc7)
                  exact .tpe [t0, t1, t2, t3, t4, t5, t6, t7] (Out.val (V.tup [V.agg [V.t (T.int IntKind.i64 (0 : Int)), V.t (T.int IntKind.i64 (0 : Int)), V.t (T.str (ByteArray.mk #[])), V.t (T.seq (4 : Nat) [])], V.t (T.int IntKind.i64 (0 : Int))]) []) (by kernel_rfl) ((rfl).trans (show (Out.val (V.tup [V.agg [V.t (T.int IntKind.i64 (0 : Int)), V.t (T.int IntKind.i64 (0 : Int)), V.t (T.str (ByteArray.mk #[])), V.t (T.seq (4 : Nat) [])], V.t (T.int IntKind.i64 (0 : Int))]) []) = Out.val (outS l.length (readE (n + (1 : Nat)) (x :: r))) [] by simp [readE, outS, vs, E.ts, E.kids, *]))
              · let t6 : Tp pr := .b (show (nameOk x.text) = false by simpa using hc6)
                exact .tpe [t0, t1, t2, t3, t4, t5, t6, .b (rfl : true = true)] (Out.val (V.tup [V.agg [V.t (T.int IntKind.i64 (0 : Int)), V.t (T.int IntKind.i64 (0 : Int)), V.t (T.str (ByteArray.mk #[])), V.t (T.seq (4 : Nat) [])], V.t (T.int IntKind.i64 (0 : Int))]) []) (by kernel_rfl) ((rfl).trans (show (Out.val (V.tup [V.agg [V.t (T.int IntKind.i64 (0 : Int)), V.t (T.int IntKind.i64 (0 : Int)), V.t (T.str (ByteArray.mk #[])), V.t (T.seq (4 : Nat) [])], V.t (T.int IntKind.i64 (0 : Int))]) []) = Out.val (outS l.length (readE (n + (1 : Nat)) (x :: r))) [] by simp [readE, outS, vs, E.ts, E.kids, *]))
            · let t4 : Tp pr := .b (show (decide (x.kind = (2 : Int))) = false by simpa using hc4)
              by_cases hc5 : x.kind = (3 : Int)
              · let t5 : Tp pr := .b (show (decide (x.kind = (3 : Int))) = true by simpa using hc5)
                let t6 : Tp pr := .b (show (decide (x.kind = (3 : Int))) = true by (simp; omega))
                by_cases hc7 : x.num = (0 : Int)
                · let t7 : Tp pr := .b (show (decide (x.num = (0 : Int))) = true by simpa using hc7)
                  by_cases hc8 : x.text = e0
                  · let t8 : Tp pr := .b (show (!x.text.toList == []) = false by simpa using hc8)
                    let t9 : Tp pr := .i (wrap_i64 (a := i + (1 : Int)) (by omega) (by omega))
                    let t12 : Tp pr := .n .rows (show (List.map (fun x => List.map C.fz x) (List.take (1 : Nat) (List.drop (0 : Nat) (List.map tc ([].append [[T.int IntKind.i64 a.kind, T.int IntKind.i64 a.nm, T.str a.text, T.seq (4 : Nat) a.kids]]))))) = [[T.int IntKind.i64 a.kind, T.int IntKind.i64 a.nm, T.str a.text, T.seq (4 : Nat) a.kids]] by simp)
                    exact .tpe [t0, t1, t2, t3, t4, t5, t6, t7, t8, t9, .a (k1), .m (rfl : true = true), t12] (Out.val (V.tup [V.agg [V.t (T.int IntKind.i64 x.kind), V.t (T.int IntKind.i64 x.num), V.t (T.str x.text), V.t (T.seq (4 : Nat) [[T.int IntKind.i64 a.kind, T.int IntKind.i64 a.nm, T.str a.text, T.seq (4 : Nat) a.kids]])], V.t (T.int IntKind.i64 ((↑l.length : Int) - (↑r1.length : Int)))]) []) (by kernel_rfl) (((((congrArg (fun x_1 => Out.val (V.tup [V.agg [V.t (T.int IntKind.i64 x_1), V.t (T.int IntKind.i64 x.num), V.t (T.str x.text), V.t (T.seq (4 : Nat) [[T.int IntKind.i64 a.kind, T.int IntKind.i64 a.nm, T.str a.text, T.seq (4 : Nat) a.kids]])], V.t (T.int IntKind.i64 ((↑l.length : Int) - (↑r1.length : Int)))]) []) (show (x.kind) = ((3 : Int)) by assumption)).trans (congrArg (fun x_1 => Out.val (V.tup [V.agg [V.t (T.int IntKind.i64 (3 : Int)), V.t (T.int IntKind.i64 x_1), V.t (T.str x.text), V.t (T.seq (4 : Nat) [[T.int IntKind.i64 a.kind, T.int IntKind.i64 a.nm, T.str a.text, T.seq (4 : Nat) a.kids]])], V.t (T.int IntKind.i64 ((↑l.length : Int) - (↑r1.length : Int)))]) []) (show (x.num) = ((0 : Int)) by assumption))).trans (congrArg (fun x => Out.val (V.tup [V.agg [V.t (T.int IntKind.i64 (3 : Int)), V.t (T.int IntKind.i64 (0 : Int)), V.t (T.str x), V.t (T.seq (4 : Nat) [[T.int IntKind.i64 a.kind, T.int IntKind.i64 a.nm, T.str a.text, T.seq (4 : Nat) a.kids]])], V.t (T.int IntKind.i64 ((↑l.length : Int) - (↑r1.length : Int)))]) []) (show (x.text) = (ByteArray.mk #[]) by assumption))).trans (congrArg (fun x => Out.val (V.tup [V.agg [V.t (T.int IntKind.i64 (3 : Int)), V.t (T.int IntKind.i64 (0 : Int)), V.t (T.str (ByteArray.mk #[])), V.t (T.seq (4 : Nat) [[T.int IntKind.i64 a.kind, T.int IntKind.i64 a.nm, T.str a.text, T.seq (4 : Nat) a.kids]])], V.t (T.int IntKind.i64 x)]) []) (show ((↑l.length : Int) - (↑r1.length : Int)) = ((↑done.length : Int) + ((↑r.length : Int) + (1 : Int)) - (↑r1.length : Int)) by omega))).trans (show (Out.val (V.tup [V.agg [V.t (T.int IntKind.i64 (3 : Int)), V.t (T.int IntKind.i64 (0 : Int)), V.t (T.str (ByteArray.mk #[])), V.t (T.seq (4 : Nat) [[T.int IntKind.i64 a.kind, T.int IntKind.i64 a.nm, T.str a.text, T.seq (4 : Nat) a.kids]])], V.t (T.int IntKind.i64 ((↑done.length : Int) + ((↑r.length : Int) + (1 : Int)) - (↑r1.length : Int)))]) []) = Out.val (outS l.length (readE (n + (1 : Nat)) (x :: r))) [] by simp [readE, outS, vs, E.ts, E.kids, *]))
                  · let t8 : Tp pr := .b (show (!x.text.toList == []) = true by simpa using hc8)
                    exact .tpe [t0, t1, t2, t3, t4, t5, t6, t7, t8] (Out.val (V.tup [V.agg [V.t (T.int IntKind.i64 (0 : Int)), V.t (T.int IntKind.i64 (0 : Int)), V.t (T.str (ByteArray.mk #[])), V.t (T.seq (4 : Nat) [])], V.t (T.int IntKind.i64 (0 : Int))]) []) (by kernel_rfl) ((rfl).trans (show (Out.val (V.tup [V.agg [V.t (T.int IntKind.i64 (0 : Int)), V.t (T.int IntKind.i64 (0 : Int)), V.t (T.str (ByteArray.mk #[])), V.t (T.seq (4 : Nat) [])], V.t (T.int IntKind.i64 (0 : Int))]) []) = Out.val (outS l.length (readE (n + (1 : Nat)) (x :: r))) [] by simp [readE, outS, vs, E.ts, E.kids, *]))
                · let t7 : Tp pr := .b (show (decide (x.num = (0 : Int))) = false by simpa using hc7)
                  exact .tpe [t0, t1, t2, t3, t4, t5, t6, t7, .b (rfl : true = true)] (Out.val (V.tup [V.agg [V.t (T.int IntKind.i64 (0 : Int)), V.t (T.int IntKind.i64 (0 : Int)), V.t (T.str (ByteArray.mk #[])), V.t (T.seq (4 : Nat) [])], V.t (T.int IntKind.i64 (0 : Int))]) []) (by kernel_rfl) ((rfl).trans (show (Out.val (V.tup [V.agg [V.t (T.int IntKind.i64 (0 : Int)), V.t (T.int IntKind.i64 (0 : Int)), V.t (T.str (ByteArray.mk #[])), V.t (T.seq (4 : Nat) [])], V.t (T.int IntKind.i64 (0 : Int))]) []) = Out.val (outS l.length (readE (n + (1 : Nat)) (x :: r))) [] by simp [readE, outS, vs, E.ts, E.kids, *]))
              · let t5 : Tp pr := .b (show (decide (x.kind = (3 : Int))) = false by simpa using hc5)
                by_cases hc6 : x.kind = (4 : Int)
                · let t6 : Tp pr := .b (show (decide (x.kind = (4 : Int))) = true by simpa using hc6)
                  by_cases hc7 : x.num = (0 : Int)
                  · let t7 : Tp pr := .b (show (decide (x.num = (0 : Int))) = true by simpa using hc7)
                    by_cases hc8 : x.text = e0
                    · let t8 : Tp pr := .b (show (!x.text.toList == []) = false by simpa using hc8)
                      let t9 : Tp pr := .i (wrap_i64 (a := i + (1 : Int)) (by omega) (by omega))
                      let t12 : Tp pr := .n .rows (show (List.map (fun x => List.map C.fz x) (List.take (1 : Nat) (List.drop (0 : Nat) (List.map tc ([].append [[T.int IntKind.i64 a.kind, T.int IntKind.i64 a.nm, T.str a.text, T.seq (4 : Nat) a.kids]]))))) = [[T.int IntKind.i64 a.kind, T.int IntKind.i64 a.nm, T.str a.text, T.seq (4 : Nat) a.kids]] by simp)
                      exact .tpe [t0, t1, t2, t3, t4, t5, t6, t7, t8, t9, .a (k1), .m (rfl : true = true), t12] (Out.val (V.tup [V.agg [V.t (T.int IntKind.i64 x.kind), V.t (T.int IntKind.i64 x.num), V.t (T.str x.text), V.t (T.seq (4 : Nat) [[T.int IntKind.i64 a.kind, T.int IntKind.i64 a.nm, T.str a.text, T.seq (4 : Nat) a.kids]])], V.t (T.int IntKind.i64 ((↑l.length : Int) - (↑r1.length : Int)))]) []) (by kernel_rfl) (((((congrArg (fun x_1 => Out.val (V.tup [V.agg [V.t (T.int IntKind.i64 x_1), V.t (T.int IntKind.i64 x.num), V.t (T.str x.text), V.t (T.seq (4 : Nat) [[T.int IntKind.i64 a.kind, T.int IntKind.i64 a.nm, T.str a.text, T.seq (4 : Nat) a.kids]])], V.t (T.int IntKind.i64 ((↑l.length : Int) - (↑r1.length : Int)))]) []) (show (x.kind) = ((4 : Int)) by assumption)).trans (congrArg (fun x_1 => Out.val (V.tup [V.agg [V.t (T.int IntKind.i64 (4 : Int)), V.t (T.int IntKind.i64 x_1), V.t (T.str x.text), V.t (T.seq (4 : Nat) [[T.int IntKind.i64 a.kind, T.int IntKind.i64 a.nm, T.str a.text, T.seq (4 : Nat) a.kids]])], V.t (T.int IntKind.i64 ((↑l.length : Int) - (↑r1.length : Int)))]) []) (show (x.num) = ((0 : Int)) by assumption))).trans (congrArg (fun x => Out.val (V.tup [V.agg [V.t (T.int IntKind.i64 (4 : Int)), V.t (T.int IntKind.i64 (0 : Int)), V.t (T.str x), V.t (T.seq (4 : Nat) [[T.int IntKind.i64 a.kind, T.int IntKind.i64 a.nm, T.str a.text, T.seq (4 : Nat) a.kids]])], V.t (T.int IntKind.i64 ((↑l.length : Int) - (↑r1.length : Int)))]) []) (show (x.text) = (ByteArray.mk #[]) by assumption))).trans (congrArg (fun x => Out.val (V.tup [V.agg [V.t (T.int IntKind.i64 (4 : Int)), V.t (T.int IntKind.i64 (0 : Int)), V.t (T.str (ByteArray.mk #[])), V.t (T.seq (4 : Nat) [[T.int IntKind.i64 a.kind, T.int IntKind.i64 a.nm, T.str a.text, T.seq (4 : Nat) a.kids]])], V.t (T.int IntKind.i64 x)]) []) (show ((↑l.length : Int) - (↑r1.length : Int)) = ((↑done.length : Int) + ((↑r.length : Int) + (1 : Int)) - (↑r1.length : Int)) by omega))).trans (show (Out.val (V.tup [V.agg [V.t (T.int IntKind.i64 (4 : Int)), V.t (T.int IntKind.i64 (0 : Int)), V.t (T.str (ByteArray.mk #[])), V.t (T.seq (4 : Nat) [[T.int IntKind.i64 a.kind, T.int IntKind.i64 a.nm, T.str a.text, T.seq (4 : Nat) a.kids]])], V.t (T.int IntKind.i64 ((↑done.length : Int) + ((↑r.length : Int) + (1 : Int)) - (↑r1.length : Int)))]) []) = Out.val (outS l.length (readE (n + (1 : Nat)) (x :: r))) [] by simp [readE, outS, vs, E.ts, E.kids, *]))
                    · let t8 : Tp pr := .b (show (!x.text.toList == []) = true by simpa using hc8)
                      exact .tpe [t0, t1, t2, t3, t4, t5, t6, t7, t8] (Out.val (V.tup [V.agg [V.t (T.int IntKind.i64 (0 : Int)), V.t (T.int IntKind.i64 (0 : Int)), V.t (T.str (ByteArray.mk #[])), V.t (T.seq (4 : Nat) [])], V.t (T.int IntKind.i64 (0 : Int))]) []) (by kernel_rfl) ((rfl).trans (show (Out.val (V.tup [V.agg [V.t (T.int IntKind.i64 (0 : Int)), V.t (T.int IntKind.i64 (0 : Int)), V.t (T.str (ByteArray.mk #[])), V.t (T.seq (4 : Nat) [])], V.t (T.int IntKind.i64 (0 : Int))]) []) = Out.val (outS l.length (readE (n + (1 : Nat)) (x :: r))) [] by simp [readE, outS, vs, E.ts, E.kids, *]))
                  · let t7 : Tp pr := .b (show (decide (x.num = (0 : Int))) = false by simpa using hc7)
                    exact .tpe [t0, t1, t2, t3, t4, t5, t6, t7, .b (rfl : true = true)] (Out.val (V.tup [V.agg [V.t (T.int IntKind.i64 (0 : Int)), V.t (T.int IntKind.i64 (0 : Int)), V.t (T.str (ByteArray.mk #[])), V.t (T.seq (4 : Nat) [])], V.t (T.int IntKind.i64 (0 : Int))]) []) (by kernel_rfl) ((rfl).trans (show (Out.val (V.tup [V.agg [V.t (T.int IntKind.i64 (0 : Int)), V.t (T.int IntKind.i64 (0 : Int)), V.t (T.str (ByteArray.mk #[])), V.t (T.seq (4 : Nat) [])], V.t (T.int IntKind.i64 (0 : Int))]) []) = Out.val (outS l.length (readE (n + (1 : Nat)) (x :: r))) [] by simp [readE, outS, vs, E.ts, E.kids, *]))
                · let t6 : Tp pr := .b (show (decide (x.kind = (4 : Int))) = false by simpa using hc6)
                  by_cases hc7 : x.kind = (5 : Int)
                  · let t7 : Tp pr := .b (show (decide (x.kind = (5 : Int))) = true by simpa using hc7)
                    by_cases hc8 : x.num = (0 : Int)
                    · let t8 : Tp pr := .b (show (decide (x.num = (0 : Int))) = true by simpa using hc8)
                      let t10 : Tp pr := .b (show (!decide (strength x.text.toList > (0 : Int))) = false by (simp; omega))
                      let t11 : Tp pr := .i (wrap_i64 (a := i + (1 : Int)) (by omega) (by omega))
                      let t14 : Tp pr := .n .rows (show (List.map (fun x => List.map C.fz x) (List.take (2 : Nat) (List.drop (0 : Nat) (List.map tc ([[T.int IntKind.i64 a.kind, T.int IntKind.i64 a.nm, T.str a.text, T.seq (4 : Nat) a.kids]].append [[T.int IntKind.i64 b.kind, T.int IntKind.i64 b.nm, T.str b.text, T.seq (4 : Nat) b.kids]]))))) = [[T.int IntKind.i64 a.kind, T.int IntKind.i64 a.nm, T.str a.text, T.seq (4 : Nat) a.kids], [T.int IntKind.i64 b.kind, T.int IntKind.i64 b.nm, T.str b.text, T.seq (4 : Nat) b.kids]] by simp)
                      exact .tpe [t0, t1, t2, t3, t4, t5, t6, t7, t8, .a (l2Strength_ev (x.text)), t10, t11, .a (k2), .m (rfl : true = true), t14] (Out.val (V.tup [V.agg [V.t (T.int IntKind.i64 x.kind), V.t (T.int IntKind.i64 x.num), V.t (T.str x.text), V.t (T.seq (4 : Nat) [[T.int IntKind.i64 a.kind, T.int IntKind.i64 a.nm, T.str a.text, T.seq (4 : Nat) a.kids], [T.int IntKind.i64 b.kind, T.int IntKind.i64 b.nm, T.str b.text, T.seq (4 : Nat) b.kids]])], V.t (T.int IntKind.i64 ((↑l.length : Int) - (↑r2.length : Int)))]) []) (by kernel_rfl) ((((congrArg (fun x_1 => Out.val (V.tup [V.agg [V.t (T.int IntKind.i64 x_1), V.t (T.int IntKind.i64 x.num), V.t (T.str x.text), V.t (T.seq (4 : Nat) [[T.int IntKind.i64 a.kind, T.int IntKind.i64 a.nm, T.str a.text, T.seq (4 : Nat) a.kids], [T.int IntKind.i64 b.kind, T.int IntKind.i64 b.nm, T.str b.text, T.seq (4 : Nat) b.kids]])], V.t (T.int IntKind.i64 ((↑l.length : Int) - (↑r2.length : Int)))]) []) (show (x.kind) = ((5 : Int)) by assumption)).trans (congrArg (fun x_1 => Out.val (V.tup [V.agg [V.t (T.int IntKind.i64 (5 : Int)), V.t (T.int IntKind.i64 x_1), V.t (T.str x.text), V.t (T.seq (4 : Nat) [[T.int IntKind.i64 a.kind, T.int IntKind.i64 a.nm, T.str a.text, T.seq (4 : Nat) a.kids], [T.int IntKind.i64 b.kind, T.int IntKind.i64 b.nm, T.str b.text, T.seq (4 : Nat) b.kids]])], V.t (T.int IntKind.i64 ((↑l.length : Int) - (↑r2.length : Int)))]) []) (show (x.num) = ((0 : Int)) by assumption))).trans (congrArg (fun x_1 => Out.val (V.tup [V.agg [V.t (T.int IntKind.i64 (5 : Int)), V.t (T.int IntKind.i64 (0 : Int)), V.t (T.str x.text), V.t (T.seq (4 : Nat) [[T.int IntKind.i64 a.kind, T.int IntKind.i64 a.nm, T.str a.text, T.seq (4 : Nat) a.kids], [T.int IntKind.i64 b.kind, T.int IntKind.i64 b.nm, T.str b.text, T.seq (4 : Nat) b.kids]])], V.t (T.int IntKind.i64 x_1)]) []) (show ((↑l.length : Int) - (↑r2.length : Int)) = ((↑done.length : Int) + ((↑r.length : Int) + (1 : Int)) - (↑r2.length : Int)) by omega))).trans (show (Out.val (V.tup [V.agg [V.t (T.int IntKind.i64 (5 : Int)), V.t (T.int IntKind.i64 (0 : Int)), V.t (T.str x.text), V.t (T.seq (4 : Nat) [[T.int IntKind.i64 a.kind, T.int IntKind.i64 a.nm, T.str a.text, T.seq (4 : Nat) a.kids], [T.int IntKind.i64 b.kind, T.int IntKind.i64 b.nm, T.str b.text, T.seq (4 : Nat) b.kids]])], V.t (T.int IntKind.i64 ((↑done.length : Int) + ((↑r.length : Int) + (1 : Int)) - (↑r2.length : Int)))]) []) = Out.val (outS l.length (readE (n + (1 : Nat)) (x :: r))) [] by simp [readE, outS, vs, E.ts, E.kids, *]))
                    · let t8 : Tp pr := .b (show (decide (x.num = (0 : Int))) = false by simpa using hc8)
                      exact .tpe [t0, t1, t2, t3, t4, t5, t6, t7, t8, .b (rfl : true = true)] (Out.val (V.tup [V.agg [V.t (T.int IntKind.i64 (0 : Int)), V.t (T.int IntKind.i64 (0 : Int)), V.t (T.str (ByteArray.mk #[])), V.t (T.seq (4 : Nat) [])], V.t (T.int IntKind.i64 (0 : Int))]) []) (by kernel_rfl) ((rfl).trans (show (Out.val (V.tup [V.agg [V.t (T.int IntKind.i64 (0 : Int)), V.t (T.int IntKind.i64 (0 : Int)), V.t (T.str (ByteArray.mk #[])), V.t (T.seq (4 : Nat) [])], V.t (T.int IntKind.i64 (0 : Int))]) []) = Out.val (outS l.length (readE (n + (1 : Nat)) (x :: r))) [] by simp [readE, outS, vs, E.ts, E.kids, *]))
                  · let t7 : Tp pr := .b (show (decide (x.kind = (5 : Int))) = false by simpa using hc7)
                    exact .tpe [t0, t1, t2, t3, t4, t5, t6, t7, .b (rfl : true = true)] (Out.val (V.tup [V.agg [V.t (T.int IntKind.i64 (0 : Int)), V.t (T.int IntKind.i64 (0 : Int)), V.t (T.str (ByteArray.mk #[])), V.t (T.seq (4 : Nat) [])], V.t (T.int IntKind.i64 (0 : Int))]) []) (by kernel_rfl) ((rfl).trans (show (Out.val (V.tup [V.agg [V.t (T.int IntKind.i64 (0 : Int)), V.t (T.int IntKind.i64 (0 : Int)), V.t (T.str (ByteArray.mk #[])), V.t (T.seq (4 : Nat) [])], V.t (T.int IntKind.i64 (0 : Int))]) []) = Out.val (outS l.length (readE (n + (1 : Nat)) (x :: r))) [] by simp [readE, outS, vs, E.ts, E.kids, *]))
end Go.Ev

/- Expressions of locals. -/
namespace Go.Ev
set_option linter.unusedVariables false
set_option linter.unusedSimpArgs false
open Go.Proofs
set_option maxRecDepth 100000
set_option linter.unusedVariables false
set_option maxHeartbeats 1000000
theorem exprOf_ev (l : List Ex) (hl : l.length ≤ 1048576) (hs : ∀ x ∈ l, x.text.size ≤ 9223372036854775807) : Ev pr (.call 58 [exs l] []) (.val (outE (parse l)) []) := by
  have h := exprFrom_ev l.length l (Nat.le_refl _) hl hs
  by_cases h40 : l.length ≤ 40
  · have h41 : ¬ (l.length : Int) > 40 := by omega
    cases h1 : readE l.length l with
    | none =>
      rw [h1] at h
      let t0 : Tp pr := .i (show ((↑(List.map Ex.ce l).length : Int) : Int) = (↑l.length : Int) by simp)
      let t1 : Tp pr := .b (show (decide ((↑l.length : Int) > (40 : Int))) = false by (simp; omega))
      let t3 : Tp pr := .i (rfl : ((0 : Int) : Int) = (0 : Int))
      exact .tpe [t0, t1, .a (h), t3, .b (rfl : false = false)] (Out.val (V.t T.nilp) []) (by kernel_rfl) ((rfl).trans (show (Out.val (V.t T.nilp) []) = Out.val (outE (parse l)) [] by simp [parse, outE, *]))
    | some p =>
      obtain ⟨e, r⟩ := p
      rw [h1] at h
      cases r with
      | nil => (
        let t0 : Tp pr := .i (show ((↑(List.map Ex.ce l).length : Int) : Int) = (↑l.length : Int) by simp)
        let t1 : Tp pr := .b (show (decide ((↑l.length : Int) > (40 : Int))) = false by (simp; omega))
        let t3 : Tp pr := .i (rfl : ((0 : Int) : Int) = (0 : Int))
        exact .tpe [t0, t1, .a (h), t3, .b (rfl : false = false)] (Out.val (V.t (T.ptr [T.int IntKind.i64 e.kind, T.int IntKind.i64 e.nm, T.str e.text, e.tab.fst, e.tab.snd] (0 : Nat))) []) (by kernel_rfl) ((rfl).trans (show (Out.val (V.t (T.ptr [T.int IntKind.i64 e.kind, T.int IntKind.i64 e.nm, T.str e.text, e.tab.fst, e.tab.snd] (0 : Nat))) []) = Out.val (outE (parse l)) [] by simp [parse, outE, E.tp, *])))
      | cons y r => (
        let t0 : Tp pr := .i (show ((↑(List.map Ex.ce l).length : Int) : Int) = (↑l.length : Int) by simp)
        let t1 : Tp pr := .b (show (decide ((↑l.length : Int) > (40 : Int))) = false by (simp; omega))
        let t3 : Tp pr := .i (show ((↑(List.map Ex.ce (y :: r)).length : Int) : Int) = (↑r.length : Int) + (1 : Int) by simp)
        let t4 : Tp pr := .b (show (decide ((↑r.length : Int) + (1 : Int) > (0 : Int))) = true by simp)
        exact .tpe [t0, t1, .a (h), t3, t4] (Out.val (V.t T.nilp) []) (by kernel_rfl) ((rfl).trans (show (Out.val (V.t T.nilp) []) = Out.val (outE (parse l)) [] by simp [parse, outE, E.tp, *])))
  · have h41 : (l.length : Int) > 40 := by omega
    let t0 : Tp pr := .i (show ((↑(List.map Ex.ce l).length : Int) : Int) = (↑l.length : Int) by simp)
    let t1 : Tp pr := .b (show (decide ((↑l.length : Int) > (40 : Int))) = true by (simp; omega))
    exact .tpe [t0, t1] (Out.val (V.t T.nilp) []) (by kernel_rfl) ((rfl).trans (show (Out.val (V.t T.nilp) []) = Out.val (outE (parse l)) [] by simp [parse, outE, *]))
theorem l2Tree_ev (l : List Ex) (hl : l.length ≤ 1048576) (hs : ∀ x ∈ l, x.text.size ≤ 9223372036854775807) : Ev pr (.call 55 [exs l] []) (.val (.tup [vs (oe (tree? l)), bl (parse l).isSome]) []) := by
  have h := l2Read_ev l hl hs l.length l [] 0 rfl rfl (Nat.le_refl _)
  by_cases h40 : l.length ≤ 40
  · have h41 : ¬ (l.length : Int) > 40 := by omega
    cases h1 : readE l.length l with
    | none =>
      rw [h1] at h
      let t0 : Tp pr := .i (show ((↑(List.map Ex.ce l).length : Int) : Int) = (↑l.length : Int) by simp)
      let t1 : Tp pr := .b (show (decide ((↑l.length : Int) > (40 : Int))) = false by (simp; omega))
      exact .tpe [t0, t1, .a (h), .b (rfl : false = false)] (Out.val (V.tup [V.agg [V.t (T.int IntKind.i64 (0 : Int)), V.t (T.int IntKind.i64 (0 : Int)), V.t (T.str (ByteArray.mk #[])), V.t (T.seq (4 : Nat) [])], V.t (T.bool false)]) []) (by kernel_rfl) ((rfl).trans (show (Out.val (V.tup [V.agg [V.t (T.int IntKind.i64 (0 : Int)), V.t (T.int IntKind.i64 (0 : Int)), V.t (T.str (ByteArray.mk #[])), V.t (T.seq (4 : Nat) [])], V.t (T.bool false)]) []) = Out.val (V.tup [vs (oe (tree? l)), bl (parse l).isSome]) [] by simp [tree?, parse, oe, *]))
    | some p =>
      obtain ⟨e, r⟩ := p
      have hlt := readE_lt _ _ _ _ h1
      rw [h1] at h
      cases r with
      | nil => (
        let t0 : Tp pr := .i (show ((↑(List.map Ex.ce l).length : Int) : Int) = (↑l.length : Int) by simp)
        let t1 : Tp pr := .b (show (decide ((↑l.length : Int) > (40 : Int))) = false by (simp; omega))
        let t3 : Tp pr := .b (show (decide ((↑l.length : Int) - (0 : Int) > (0 : Int))) = true by (simp; omega))
        let t4 : Tp pr := .i (show ((↑(List.map Ex.ce l).length : Int) : Int) = (↑l.length : Int) by simp)
        exact .tpe [t0, t1, .a (h), t3, t4] (Out.val (V.tup [V.agg [V.t (T.int IntKind.i64 e.kind), V.t (T.int IntKind.i64 e.nm), V.t (T.str e.text), V.t (T.seq (4 : Nat) e.kids)], V.t (T.bool (decide ((↑l.length : Int) - (0 : Int) = (↑l.length : Int))))]) []) (by kernel_rfl) ((congrArg (fun x => Out.val (V.tup [V.agg [V.t (T.int IntKind.i64 e.kind), V.t (T.int IntKind.i64 e.nm), V.t (T.str e.text), V.t (T.seq (4 : Nat) e.kids)], V.t (T.bool x)]) []) (show (decide ((↑l.length : Int) - (0 : Int) = (↑l.length : Int))) = (true) by simp)).trans (show (Out.val (V.tup [V.agg [V.t (T.int IntKind.i64 e.kind), V.t (T.int IntKind.i64 e.nm), V.t (T.str e.text), V.t (T.seq (4 : Nat) e.kids)], V.t (T.bool true)]) []) = Out.val (V.tup [vs (oe (tree? l)), bl (parse l).isSome]) [] by simp [tree?, parse, oe, *])))
      | cons y r => simp at hlt; (
        let t0 : Tp pr := .i (show ((↑(List.map Ex.ce l).length : Int) : Int) = (↑l.length : Int) by simp)
        let t1 : Tp pr := .b (show (decide ((↑l.length : Int) > (40 : Int))) = false by (simp; omega))
        let t3 : Tp pr := .b (show (decide ((↑l.length : Int) - (↑(y :: r).length : Int) > (0 : Int))) = true by (simp; omega))
        let t4 : Tp pr := .i (show ((↑(List.map Ex.ce l).length : Int) : Int) = (↑l.length : Int) by simp)
        exact .tpe [t0, t1, .a (h), t3, t4] (Out.val (V.tup [V.agg [V.t (T.int IntKind.i64 e.kind), V.t (T.int IntKind.i64 e.nm), V.t (T.str e.text), V.t (T.seq (4 : Nat) e.kids)], V.t (T.bool (decide ((↑l.length : Int) - (↑(y :: r).length : Int) = (↑l.length : Int))))]) []) (by kernel_rfl) ((congrArg (fun x => Out.val (V.tup [V.agg [V.t (T.int IntKind.i64 e.kind), V.t (T.int IntKind.i64 e.nm), V.t (T.str e.text), V.t (T.seq (4 : Nat) e.kids)], V.t (T.bool x)]) []) (show (decide ((↑l.length : Int) - (↑(y :: r).length : Int) = (↑l.length : Int))) = (false) by (simp <;> omega))).trans (show (Out.val (V.tup [V.agg [V.t (T.int IntKind.i64 e.kind), V.t (T.int IntKind.i64 e.nm), V.t (T.str e.text), V.t (T.seq (4 : Nat) e.kids)], V.t (T.bool false)]) []) = Out.val (V.tup [vs (oe (tree? l)), bl (parse l).isSome]) [] by simp [tree?, parse, oe, *])))
  · have h41 : (l.length : Int) > 40 := by omega
    let t0 : Tp pr := .i (show ((↑(List.map Ex.ce l).length : Int) : Int) = (↑l.length : Int) by simp)
    let t1 : Tp pr := .b (show (decide ((↑l.length : Int) > (40 : Int))) = true by (simp; omega))
    exact .tpe [t0, t1] (Out.val (V.tup [V.agg [V.t (T.int IntKind.i64 (0 : Int)), V.t (T.int IntKind.i64 (0 : Int)), V.t (T.str (ByteArray.mk #[])), V.t (T.seq (4 : Nat) [])], V.t (T.bool false)]) []) (by kernel_rfl) ((rfl).trans (show (Out.val (V.tup [V.agg [V.t (T.int IntKind.i64 (0 : Int)), V.t (T.int IntKind.i64 (0 : Int)), V.t (T.str (ByteArray.mk #[])), V.t (T.seq (4 : Nat) [])], V.t (T.bool false)]) []) = Out.val (V.tup [vs (oe (tree? l)), bl (parse l).isSome]) [] by simp [tree?, parse, oe, *]))
theorem nameNo_ev (s : ByteArray) : Ev pr (.call 77 [.t (.str s)] []) (.val (i64 (nameNo s)) []) := by
  by_cases h : s.size = 1
  · obtain ⟨b, hb, hg⟩ := one_byte h
    let t1 : Tp pr := .b (show ((↑s.size : Int) != (1 : Int)) = false by (simp; omega))
    let t2 : Tp pr := .g .u8 (show (lkpS s (0 : Int)) = some (b) from hg)
    by_cases hc3 : (↑b.toNat : Int) < (97 : Int)
    · let t3 : Tp pr := .b (show (decide ((↑b.toNat : Int) < (97 : Int))) = true by simpa using hc3)
      exact .tpe [.i (rfl : ((↑s.size : Int)) = _), t1, t2, t3, .b (rfl : true = true)] (Out.val (V.t (T.int IntKind.i64 (-1 : Int))) []) (by kernel_rfl) ((congrArg (fun x => Out.val (V.t (T.int IntKind.i64 x)) []) (show ((-1 : Int)) = (if (97 : Int) ≤ (↑b.toNat : Int) ∧ (↑b.toNat : Int) ≤ (106 : Int) then (↑b.toNat : Int) - (97 : Int) else (-1 : Int)) by omega)).trans (show (Out.val (V.t (T.int IntKind.i64 (if (97 : Int) ≤ (↑b.toNat : Int) ∧ (↑b.toNat : Int) ≤ (106 : Int) then (↑b.toNat : Int) - (97 : Int) else (-1 : Int)))) []) = Out.val (i64 (nameNo s)) [] by simp [nameNo, *]))
    · let t3 : Tp pr := .b (show (decide ((↑b.toNat : Int) < (97 : Int))) = false by simpa using hc3)
      let t4 : Tp pr := .g .u8 (show (lkpS s (0 : Int)) = some (b) from hg)
      by_cases hc5 : (106 : Int) < (↑b.toNat : Int)
      · let t5 : Tp pr := .b (show (decide ((↑b.toNat : Int) > (106 : Int))) = true by simpa using hc5)
        exact .tpe [.i (rfl : ((↑s.size : Int)) = _), t1, t2, t3, t4, t5] (Out.val (V.t (T.int IntKind.i64 (-1 : Int))) []) (by kernel_rfl) ((congrArg (fun x => Out.val (V.t (T.int IntKind.i64 x)) []) (show ((-1 : Int)) = (if (97 : Int) ≤ (↑b.toNat : Int) ∧ (↑b.toNat : Int) ≤ (106 : Int) then (↑b.toNat : Int) - (97 : Int) else (-1 : Int)) by omega)).trans (show (Out.val (V.t (T.int IntKind.i64 (if (97 : Int) ≤ (↑b.toNat : Int) ∧ (↑b.toNat : Int) ≤ (106 : Int) then (↑b.toNat : Int) - (97 : Int) else (-1 : Int)))) []) = Out.val (i64 (nameNo s)) [] by simp [nameNo, *]))
      · let t5 : Tp pr := .b (show (decide ((↑b.toNat : Int) > (106 : Int))) = false by simpa using hc5)
        let t6 : Tp pr := .g .u8 (show (lkpS s (0 : Int)) = some (b) from hg)
        let t7 : Tp pr := .i (wrap_u8 (a := (↑b.toNat : Int) - (97 : Int)) (by omega) (by omega))
        let t8 : Tp pr := .i (wrap_i64 (a := (↑b.toNat : Int) - (97 : Int)) (by omega) (by omega))
        exact .tpe [.i (rfl : ((↑s.size : Int)) = _), t1, t2, t3, t4, t5, t6, t7, t8] (Out.val (V.t (T.int IntKind.i64 ((↑b.toNat : Int) - (97 : Int)))) []) (by kernel_rfl) ((congrArg (fun x => Out.val (V.t (T.int IntKind.i64 x)) []) (show ((↑b.toNat : Int) - (97 : Int)) = (if (97 : Int) ≤ (↑b.toNat : Int) ∧ (↑b.toNat : Int) ≤ (106 : Int) then (↑b.toNat : Int) - (97 : Int) else (-1 : Int)) by omega)).trans (show (Out.val (V.t (T.int IntKind.i64 (if (97 : Int) ≤ (↑b.toNat : Int) ∧ (↑b.toNat : Int) ≤ (106 : Int) then (↑b.toNat : Int) - (97 : Int) else (-1 : Int)))) []) = Out.val (i64 (nameNo s)) [] by simp [nameNo, *]))
  · have h2 := nameNo_size h
    rw [h2]
    let t1 : Tp pr := .b (show ((↑s.size : Int) != (1 : Int)) = true by (simp; omega))
    exact .tp [.i (rfl : ((↑s.size : Int)) = _), t1, .b (rfl : true = true), .b (rfl : true = true)] (by kernel_rfl)
theorem localBad_ev (x : Ex) : Ev pr (.call 76 [vs x.ce] []) (.val (bl (bad x)) []) := by
  by_cases hc0 : x.kind = (2 : Int)
  · let t0 : Tp pr := .b (show (decide (x.kind = (2 : Int))) = true by simpa using hc0)
    exact .tpe [t0, .a (nameNo_ev (x.text))] (Out.val (V.t (T.bool (decide (nameNo x.text < (0 : Int))))) []) (by kernel_rfl) (congrArg (fun x => Out.val (V.t (T.bool x)) []) (show (decide (nameNo x.text < (0 : Int))) = (bad x) by simp [bad, *]))
  · let t0 : Tp pr := .b (show (decide (x.kind = (2 : Int))) = false by simpa using hc0)
    exact .tpe [t0] (Out.val (V.t (T.bool false)) []) (by kernel_rfl) (congrArg (fun x => Out.val (V.t (T.bool x)) []) (show (false) = (bad x) by simp [bad, *]))
theorem idxEx_ev (l : List Ex) (hl : l.length ≤ 1048576) : ∀ (rest done : List Ex) (i : Int), l = done ++ rest → i = done.length →
    Ev pr (.loop (lq pr 94 0) (at_ [(0, exs l), (1, .t (.clo 76 [])), (7, i64 l.length), (8, i64 i)] [] 0))
      (if 0 ≤ idxFrom bad i rest then .ret (at_ [(4, i64 (idxFrom bad i rest))] [] 0) else .exit 0 (at_ [] [] 0))
  | [], done, i, h, hi => by
    have hll : (l.length : Int) = done.length := by simp [h]
    let t0 : Tp pr := .b (show (decide (i < (↑l.length : Int))) = false by (simp; omega))
    exact .tp [t0] (by kernel_rfl)
  | x :: rest, done, i, h, hi => by
    have hll : (l.length : Int) = done.length + 1 + rest.length := by simp [h]; omega
    have hg : lkp (l.map Ex.ce) i = some x.ce := by subst hi; subst h; simp
    have ih := idxEx_ev l hl rest (done ++ [x]) (i + 1) (by simp [h]) (by simp [hi])
    have hi0 : 0 ≤ i := by omega
    cases hb : bad x with
    | true => (
      let t0 : Tp pr := .b (show (decide (i < (↑l.length : Int))) = true by (simp; omega))
      let t1 : Tp pr := .g .row (show (lkp (List.map Ex.ce l) i) = some (x.ce) from hg)
      exact .tpe [t0, t1, .a (localBad_ev (x)), .b (show (bad x) = true by assumption)] (Out.ret (at_ [((4 : Nat), V.t (T.int IntKind.i64 i))] [] (0 : Nat))) (by kernel_rfl) ((rfl).trans (show (Out.ret (at_ [((4 : Nat), V.t (T.int IntKind.i64 i))] [] (0 : Nat))) = if (0 : Int) ≤ idxFrom bad i (x :: rest) then Out.ret (at_ [((4 : Nat), i64 (idxFrom bad i (x :: rest)))] [] (0 : Nat)) else Out.exit (0 : Nat) (at_ [] [] (0 : Nat)) by simp [idxFrom, hb, hi0])))
    | false =>
      have hI : idxFrom bad i (x :: rest) = idxFrom bad (i + 1) rest := by simp [idxFrom, hb]
      rw [hI]
      by_cases h0 : 0 ≤ idxFrom bad (i + 1) rest
      · rw [if_pos h0] at ih ⊢; (
        let t0 : Tp pr := .b (show (decide (i < (↑l.length : Int))) = true by (simp; omega))
        let t1 : Tp pr := .g .row (show (lkp (List.map Ex.ce l) i) = some (x.ce) from hg)
        let t4 : Tp pr := .i (wrap_i64 (a := i + (1 : Int)) (by omega) (by omega))
        exact .tp [t0, t1, .a (localBad_ev (x)), .b (show (bad x) = false by assumption), t4, .a (ih)] (by kernel_rfl))
      · rw [if_neg h0] at ih ⊢; (
        let t0 : Tp pr := .b (show (decide (i < (↑l.length : Int))) = true by (simp; omega))
        let t1 : Tp pr := .g .row (show (lkp (List.map Ex.ce l) i) = some (x.ce) from hg)
        let t4 : Tp pr := .i (wrap_i64 (a := i + (1 : Int)) (by omega) (by omega))
        exact .tp [t0, t1, .a (localBad_ev (x)), .b (show (bad x) = false by assumption), t4, .a (ih)] (by kernel_rfl))
theorem idxExs_ev (l : List Ex) (hl : l.length ≤ 1048576) : Ev pr (.call 94 [exs l, .t (.clo 76 [])] []) (.val (i64 (idxFrom bad 0 l)) []) := by
  have h := idxEx_ev l hl l [] 0 rfl rfl
  have h2 := idxFrom_neg bad l 0 (Int.le_refl _)
  by_cases h0 : 0 ≤ idxFrom bad 0 l
  · rw [if_pos h0] at h; (
    let t0 : Tp pr := .i (show ((↑(List.map Ex.ce l).length : Int) : Int) = (↑l.length : Int) by simp)
    exact .tp [t0, .a (h)] (by kernel_rfl))
  · rw [if_neg h0] at h; rw [h2 h0]; (
    let t0 : Tp pr := .i (show ((↑(List.map Ex.ce l).length : Int) : Int) = (↑l.length : Int) by simp)
    exact .tp [t0, .a (h)] (by kernel_rfl))
theorem anyBad_ev (l : List Ex) (hl : l.length ≤ 1048576) : Ev pr (.call 75 [exs l, .t (.clo 76 [])] []) (.val (bl (l.any bad)) []) := by
  rw [← idxFrom_any bad l 0 (by omega)]
  exact .tp [.a (idxExs_ev (l) (by assumption))] (by kernel_rfl)
theorem localExpr_ev (l : List Ex) (hl : l.length ≤ 1048576) (hs : ∀ x ∈ l, x.text.size ≤ 9223372036854775807) : Ev pr (.call 50 [exs l] []) (.val (outE (parseL l)) []) := by
  have h := exprOf_ev l hl hs
  cases hp : parse l with
  | none => rw [hp] at h; (
    by_cases hc1 : ∃ x, x ∈ l ∧ bad x = true
    · let t1 : Tp pr := .b (show (l.any bad) = true by simpa using hc1)
      exact .tpe [.a (anyBad_ev (l) (by assumption)), t1] (Out.val (V.t T.nilp) []) (by kernel_rfl) ((rfl).trans (show (Out.val (V.t T.nilp) []) = Out.val (outE (parseL l)) [] by simp [parseL, outE, *]))
    · let t1 : Tp pr := .b (show (l.any bad) = false by simpa using hc1)
      exact .tpe [.a (anyBad_ev (l) (by assumption)), t1, .a (h)] (Out.val (V.t T.nilp) []) (by kernel_rfl) ((rfl).trans (show (Out.val (V.t T.nilp) []) = Out.val (outE (parseL l)) [] by simp [parseL, outE, *])))
  | some e => rw [hp] at h; (
    by_cases hc1 : ∃ x, x ∈ l ∧ bad x = true
    · let t1 : Tp pr := .b (show (l.any bad) = true by simpa using hc1)
      exact .tpe [.a (anyBad_ev (l) (by assumption)), t1] (Out.val (V.t T.nilp) []) (by kernel_rfl) ((rfl).trans (show (Out.val (V.t T.nilp) []) = Out.val (outE (parseL l)) [] by simp [parseL, outE, E.tp, *]))
    · let t1 : Tp pr := .b (show (l.any bad) = false by simpa using hc1)
      exact .tpe [.a (anyBad_ev (l) (by assumption)), t1, .a (h)] (Out.val (V.t (T.ptr [T.int IntKind.i64 e.kind, T.int IntKind.i64 e.nm, T.str e.text, e.tab.fst, e.tab.snd] (0 : Nat))) []) (by kernel_rfl) ((rfl).trans (show (Out.val (V.t (T.ptr [T.int IntKind.i64 e.kind, T.int IntKind.i64 e.nm, T.str e.text, e.tab.fst, e.tab.snd] (0 : Nat))) []) = Out.val (outE (parseL l)) [] by simp [parseL, outE, E.tp, *])))
theorem NameNoS_ev (s : ByteArray) : Ev pr (.call 73 [.t (.str s)] []) (.val (if nameNo s < 0 then .tup [i64 0, bl false] else .tup [i64 (nameNo s), bl true]) []) := by
  by_cases h : s.size = 1
  · obtain ⟨b, hb, hg⟩ := one_byte h
    by_cases hr : 97 ≤ (b.toNat : Int) ∧ (b.toNat : Int) ≤ 106
    · have hn : nameNo s = b.toNat - 97 := by simp [nameNo, hb, hr]
      have h97 : ¬ (b.toNat : Int) < 97 := by omega
      have h106 : ¬ (b.toNat : Int) > 106 := by omega
      rw [hn, if_neg (by omega)]
      let t1 : Tp pr := .b (show ((↑s.size : Int) != (1 : Int)) = false by (simp; omega))
      let t2 : Tp pr := .g .u8 (show (lkpS s (0 : Int)) = some (b) from hg)
      let t3 : Tp pr := .b (show (decide ((↑b.toNat : Int) < (97 : Int))) = false by (simp; omega))
      let t4 : Tp pr := .g .u8 (show (lkpS s (0 : Int)) = some (b) from hg)
      let t5 : Tp pr := .b (show (decide ((↑b.toNat : Int) > (106 : Int))) = false by (simp; omega))
      let t6 : Tp pr := .g .u8 (show (lkpS s (0 : Int)) = some (b) from hg)
      let t7 : Tp pr := .i (wrap_u8 (a := (↑b.toNat : Int) - (97 : Int)) (by omega) (by omega))
      let t8 : Tp pr := .i (wrap_i64 (a := (↑b.toNat : Int) - (97 : Int)) (by omega) (by omega))
      exact .tp [.i (rfl : ((↑s.size : Int)) = _), t1, t2, t3, t4, t5, t6, t7, t8] (by kernel_rfl)
    · have hn : nameNo s = -1 := by simp [nameNo, hb, hr]
      rw [hn, if_pos (by omega)]
      by_cases h97 : (b.toNat : Int) < 97
      · let t1 : Tp pr := .b (show ((↑s.size : Int) != (1 : Int)) = false by (simp; omega))
        let t2 : Tp pr := .g .u8 (show (lkpS s (0 : Int)) = some (b) from hg)
        let t3 : Tp pr := .b (show (decide ((↑b.toNat : Int) < (97 : Int))) = true by (simp; omega))
        exact .tp [.i (rfl : ((↑s.size : Int)) = _), t1, t2, t3, .b (rfl : true = true)] (by kernel_rfl)
      · have h106 : (b.toNat : Int) > 106 := by omega
        let t1 : Tp pr := .b (show ((↑s.size : Int) != (1 : Int)) = false by (simp; omega))
        let t2 : Tp pr := .g .u8 (show (lkpS s (0 : Int)) = some (b) from hg)
        let t3 : Tp pr := .b (show (decide ((↑b.toNat : Int) < (97 : Int))) = false by (simp; omega))
        let t4 : Tp pr := .g .u8 (show (lkpS s (0 : Int)) = some (b) from hg)
        let t5 : Tp pr := .b (show (decide ((↑b.toNat : Int) > (106 : Int))) = true by (simp; omega))
        exact .tp [.i (rfl : ((↑s.size : Int)) = _), t1, t2, t3, t4, t5] (by kernel_rfl)
  · have h2 := nameNo_size h
    rw [h2]
    let t1 : Tp pr := .b (show ((↑s.size : Int) != (1 : Int)) = true by (simp; omega))
    exact .tp [.i (rfl : ((↑s.size : Int)) = _), t1, .b (rfl : true = true), .b (rfl : true = true)] (by kernel_rfl)
end Go.Ev

/- Lines: which are good. -/
namespace Go.Ev
set_option linter.unusedVariables false
set_option linter.unusedSimpArgs false
open Go.Proofs
set_option maxRecDepth 100000
set_option linter.unusedVariables false
set_option maxHeartbeats 1000000
theorem l17L_ev (ks : List E) (hk : ks.length ≤ 2) (hn : ∀ k ∈ ks, Ev pr (.call 71 [vs k.ts] []) (.val (bl k.names) [])) : ∀ (rest done : List E) (i : Int), ks = done ++ rest → i = done.length →
    Ev pr (.loop (lq pr 71 0) (at_ [(18, .t (.seq 4 (ks.map E.ts))), (19, i64 ks.length), (20, i64 i)] [] 0))
      (bif rest.all E.names then .exit 0 (at_ [] [] 0) else .ret (at_ [(2, bl false)] [] 0))
  | [], done, i, h, hi => by
    have hll : (ks.length : Int) = done.length := by simp [h]
    let t0 : Tp pr := .b (show (decide (i < (↑ks.length : Int))) = false by (simp; omega))
    exact .tp [t0] (by kernel_rfl)
  | x :: rest, done, i, h, hi => by
    have hll : (ks.length : Int) = done.length + 1 + rest.length := by simp [h]; omega
    have hg : lkp (ks.map E.ts) i = some x.ts := by subst hi; subst h; simp
    have hx := hn x (by simp [h])
    have ih := l17L_ev ks hk hn rest (done ++ [x]) (i + 1) (by simp [h]) (by simp [hi])
    cases hb : x.names with
    | true =>
      simp only [List.all_cons, hb, Bool.true_and]
      cases hr : rest.all E.names with
      | true => rw [hr] at ih; (
        let t0 : Tp pr := .b (show (decide (i < (↑ks.length : Int))) = true by (simp; omega))
        let t1 : Tp pr := .g .row (show (lkp (List.map E.ts ks) i) = some (x.ts) from hg)
        let t3 : Tp pr := .b (show (!x.names) = false by (simp; omega))
        let t4 : Tp pr := .i (wrap_i64 (a := i + (1 : Int)) (by omega) (by omega))
        exact .tp [t0, t1, .a (hn (x) (by simp [*])), t3, t4, .a (ih)] (by kernel_rfl))
      | false => rw [hr] at ih; (
        let t0 : Tp pr := .b (show (decide (i < (↑ks.length : Int))) = true by (simp; omega))
        let t1 : Tp pr := .g .row (show (lkp (List.map E.ts ks) i) = some (x.ts) from hg)
        let t3 : Tp pr := .b (show (!x.names) = false by (simp; omega))
        let t4 : Tp pr := .i (wrap_i64 (a := i + (1 : Int)) (by omega) (by omega))
        exact .tp [t0, t1, .a (hn (x) (by simp [*])), t3, t4, .a (ih)] (by kernel_rfl))
    | false =>
      simp only [List.all_cons, hb, Bool.false_and]
      let t0 : Tp pr := .b (show (decide (i < (↑ks.length : Int))) = true by (simp; omega))
      let t1 : Tp pr := .g .row (show (lkp (List.map E.ts ks) i) = some (x.ts) from hg)
      let t3 : Tp pr := .b (show (!x.names) = true by (simp; omega))
      exact .tp [t0, t1, .a (hn (x) (by simp [*])), t3] (by kernel_rfl)
theorem l17Names_ev : ∀ e : E, Ev pr (.call 71 [vs e.ts] []) (.val (bl e.names) [])
  | .num n => by
    have h := l17L_ev [] (by simp) (by simp) [] [] 0 rfl rfl
    let t1 : Tp pr := .i (rfl : ((0 : Int) : Int) = (0 : Int))
    exact .tp [.b (rfl : false = false), t1, .a (h)] (by kernel_rfl)
  | .name s => by
    have h := NameNoS_ev s
    by_cases h0 : nameNo s < 0
    · rw [if_pos h0] at h; exact .tpe [.b (rfl : true = true), .a (h)] (Out.val (V.t (T.bool false)) []) (by kernel_rfl) (congrArg (fun x => Out.val (V.t (T.bool x)) []) (show (false) = ((E.name s).names) by simp [E.names]; omega))
    · rw [if_neg h0] at h; exact .tpe [.b (rfl : true = true), .a (h)] (Out.val (V.t (T.bool true)) []) (by kernel_rfl) (congrArg (fun x => Out.val (V.t (T.bool x)) []) (show (true) = ((E.name s).names) by simp [E.names]; omega))
  | .neg a => by
    have ih := l17Names_ev a
    have h := l17L_ev [a] (by simp) (by simpa using ih) [a] [] 0 rfl rfl
    cases ha : a.names with
    | true => simp only [List.all_cons, ha, List.all_nil, Bool.and_self, cond_true] at h; (
      let t1 : Tp pr := .i (rfl : ((1 : Int) : Int) = (1 : Int))
      exact .tpe [.b (rfl : false = false), t1, .a (h)] (Out.val (V.t (T.bool true)) []) (by kernel_rfl) (congrArg (fun x => Out.val (V.t (T.bool x)) []) (show (true) = (a.neg.names) by simp [E.names, ha])))
    | false => simp only [List.all_cons, ha, List.all_nil, Bool.false_and, cond_false] at h; (
      let t1 : Tp pr := .i (rfl : ((1 : Int) : Int) = (1 : Int))
      exact .tpe [.b (rfl : false = false), t1, .a (h)] (Out.val (V.t (T.bool false)) []) (by kernel_rfl) (congrArg (fun x => Out.val (V.t (T.bool x)) []) (show (false) = (a.neg.names) by simp [E.names, ha])))
  | .not a => by
    have ih := l17Names_ev a
    have h := l17L_ev [a] (by simp) (by simpa using ih) [a] [] 0 rfl rfl
    cases ha : a.names with
    | true => simp only [List.all_cons, ha, List.all_nil, Bool.and_self, cond_true] at h; (
      let t1 : Tp pr := .i (rfl : ((1 : Int) : Int) = (1 : Int))
      exact .tpe [.b (rfl : false = false), t1, .a (h)] (Out.val (V.t (T.bool true)) []) (by kernel_rfl) (congrArg (fun x => Out.val (V.t (T.bool x)) []) (show (true) = (a.not.names) by simp [E.names, ha])))
    | false => simp only [List.all_cons, ha, List.all_nil, Bool.false_and, cond_false] at h; (
      let t1 : Tp pr := .i (rfl : ((1 : Int) : Int) = (1 : Int))
      exact .tpe [.b (rfl : false = false), t1, .a (h)] (Out.val (V.t (T.bool false)) []) (by kernel_rfl) (congrArg (fun x => Out.val (V.t (T.bool x)) []) (show (false) = (a.not.names) by simp [E.names, ha])))
  | .two s a b => by
    have ih := l17Names_ev a
    have ih2 := l17Names_ev b
    have h := l17L_ev [a, b] (by simp) (by intro k hk; simp at hk; rcases hk with rfl | rfl <;> assumption) [a, b] [] 0 rfl rfl
    cases ha : (a.names && b.names) with
    | true => simp only [List.all_cons, List.all_nil, Bool.and_true, ha, cond_true] at h; (
      let t1 : Tp pr := .i (rfl : ((2 : Int) : Int) = (2 : Int))
      exact .tpe [.b (rfl : false = false), t1, .a (h)] (Out.val (V.t (T.bool true)) []) (by kernel_rfl) (congrArg (fun x => Out.val (V.t (T.bool x)) []) (show (true) = ((E.two s a b).names) by simp [E.names, ha])))
    | false => simp only [List.all_cons, List.all_nil, Bool.and_true, ha, cond_false] at h; (
      let t1 : Tp pr := .i (rfl : ((2 : Int) : Int) = (2 : Int))
      exact .tpe [.b (rfl : false = false), t1, .a (h)] (Out.val (V.t (T.bool false)) []) (by kernel_rfl) (congrArg (fun x => Out.val (V.t (T.bool x)) []) (show (false) = ((E.two s a b).names) by simp only [E.names, ha])))
theorem l17Expr_ev (l : List Ex) (hl : l.length ≤ 1048576) (hs : ∀ x ∈ l, x.text.size ≤ 9223372036854775807) : Ev pr (.call 38 [exs l] []) (.val (.tup [vs (oe (tree? l)), bl (parseL l).isSome]) []) := by
  rw [parseL_isSome]
  cases hp : parse l with
  | none => (
    let t0 : Tp pr := .a (l2Tree_ev (l) (by assumption) (by assumption))
    let t1 : Tp pr := .b (show (match parse l with
    | some val => true
    | none => false) = false by simp [*])
    exact .tp [t0, t1] (by kernel_rfl))
  | some e =>
    have ht := parse_tree hp
    have h := l17Names_ev e
    rw [ht]
    let t0 : Tp pr := .a (l2Tree_ev (l) (by assumption) (by assumption))
    let t1 : Tp pr := .b (show (match parse l with
    | some val => true
    | none => false) = true by simp [*])
    let t2 : Tp pr := .a (Ev.castq ((((congrArg (fun x => Q.call (71 : Nat) [V.agg [V.t (T.int IntKind.i64 e.kind), V.t (T.int IntKind.i64 e.nm), V.t (T.str e.text), V.t (T.seq (4 : Nat) x)]] []) (show (e.kids) = (oKids (tree? l)) by simp [*])).trans (congrArg (fun x => Q.call (71 : Nat) [V.agg [V.t (T.int IntKind.i64 e.kind), V.t (T.int IntKind.i64 e.nm), V.t (T.str x), V.t (T.seq (4 : Nat) (oKids (tree? l)))]] []) (show (e.text) = (oText (tree? l)) by simp [*]))).trans (congrArg (fun x => Q.call (71 : Nat) [V.agg [V.t (T.int IntKind.i64 e.kind), V.t (T.int IntKind.i64 x), V.t (T.str (oText (tree? l))), V.t (T.seq (4 : Nat) (oKids (tree? l)))]] []) (show (e.nm) = (oNm (tree? l)) by simp [*]))).trans (congrArg (fun x => Q.call (71 : Nat) [V.agg [V.t (T.int IntKind.i64 x), V.t (T.int IntKind.i64 (oNm (tree? l))), V.t (T.str (oText (tree? l))), V.t (T.seq (4 : Nat) (oKids (tree? l)))]] []) (show (e.kind) = (oKind (tree? l)) by simp [*]))) (h))
    exact .tpe [t0, t1, t2] (Out.val (V.tup [V.agg [V.t (T.int IntKind.i64 (oKind (tree? l))), V.t (T.int IntKind.i64 (oNm (tree? l))), V.t (T.str (oText (tree? l))), V.t (T.seq (4 : Nat) (oKids (tree? l)))], V.t (T.bool e.names)]) []) (by kernel_rfl) (((((congrArg (fun x => Out.val (V.tup [V.agg [V.t (T.int IntKind.i64 x), V.t (T.int IntKind.i64 (oNm (tree? l))), V.t (T.str (oText (tree? l))), V.t (T.seq (4 : Nat) (oKids (tree? l)))], V.t (T.bool e.names)]) []) (show (oKind (tree? l)) = (oKind (some e)) by simp [*])).trans (congrArg (fun x => Out.val (V.tup [V.agg [V.t (T.int IntKind.i64 (oKind (some e))), V.t (T.int IntKind.i64 x), V.t (T.str (oText (tree? l))), V.t (T.seq (4 : Nat) (oKids (tree? l)))], V.t (T.bool e.names)]) []) (show (oNm (tree? l)) = (oNm (some e)) by simp [*]))).trans (congrArg (fun x => Out.val (V.tup [V.agg [V.t (T.int IntKind.i64 (oKind (some e))), V.t (T.int IntKind.i64 (oNm (some e))), V.t (T.str x), V.t (T.seq (4 : Nat) (oKids (tree? l)))], V.t (T.bool e.names)]) []) (show (oText (tree? l)) = (oText (some e)) by simp [*]))).trans (congrArg (fun x => Out.val (V.tup [V.agg [V.t (T.int IntKind.i64 (oKind (some e))), V.t (T.int IntKind.i64 (oNm (some e))), V.t (T.str (oText (some e))), V.t (T.seq (4 : Nat) x)], V.t (T.bool e.names)]) []) (show (oKids (tree? l)) = (oKids (some e)) by simp [*]))).trans (congrArg (fun x => Out.val (V.tup [V.agg [V.t (T.int IntKind.i64 (oKind (some e))), V.t (T.int IntKind.i64 (oNm (some e))), V.t (T.str (oText (some e))), V.t (T.seq (4 : Nat) (oKids (some e)))], V.t (T.bool x)]) []) (show (e.names) = (true && e.names) by simp [hp])))
theorem lineOk_ev (x : Line) (hl : x.expr.length ≤ 1048576) (hs : ∀ y ∈ x.expr, y.text.size ≤ 9223372036854775807) : Ev pr (.call 44 [vs x.ce] []) (.val (bl (lineOk x)) []) := by
  have h := localExpr_ev x.expr hl hs
  unfold lineOk
  cases hp : parseL x.expr with
  | none => rw [hp] at h; (
    by_cases hc0 : x.kind = (1 : Int)
    · let t0 : Tp pr := .b (show (decide (x.kind = (1 : Int))) = true by simpa using hc0)
      let t1 : Tp pr := .a (within_ev (x.name) ((0 : Int)) ((9 : Int)))
      by_cases hc2 : (0 : Int) ≤ x.name ∧ x.name ≤ (9 : Int)
      · let t2 : Tp pr := .b (show (decide (x.name ≥ (0 : Int)) && decide (x.name ≤ (9 : Int))) = true by simpa using hc2)
        exact .tpe [t0, t1, t2, .a (h)] (Out.val (V.t (T.bool false)) []) (by kernel_rfl) ((rfl).trans (show (Out.val (V.t (T.bool false)) []) = Out.val (bl (if x.kind = (1 : Int) then decide (x.name ≥ (0 : Int)) && decide (x.name ≤ (9 : Int)) && none.isSome else if x.kind = (2 : Int) then decide (x.name = (0 : Int)) && none.isSome else decide (x.kind = (3 : Int)) && decide (x.name = (0 : Int)) && decide (x.expr.length = (0 : Nat)))) [] by simp [*]))
      · let t2 : Tp pr := .b (show (decide (x.name ≥ (0 : Int)) && decide (x.name ≤ (9 : Int))) = false by simpa using hc2)
        exact .tpe [t0, t1, t2] (Out.val (V.t (T.bool false)) []) (by kernel_rfl) ((rfl).trans (show (Out.val (V.t (T.bool false)) []) = Out.val (bl (if x.kind = (1 : Int) then decide (x.name ≥ (0 : Int)) && decide (x.name ≤ (9 : Int)) && none.isSome else if x.kind = (2 : Int) then decide (x.name = (0 : Int)) && none.isSome else decide (x.kind = (3 : Int)) && decide (x.name = (0 : Int)) && decide (x.expr.length = (0 : Nat)))) [] by simp [*]))
    · let t0 : Tp pr := .b (show (decide (x.kind = (1 : Int))) = false by simpa using hc0)
      by_cases hc1 : x.kind = (2 : Int)
      · let t1 : Tp pr := .b (show (decide (x.kind = (2 : Int))) = true by simpa using hc1)
        by_cases hc2 : x.name = (0 : Int)
        · let t2 : Tp pr := .b (show (decide (x.name = (0 : Int))) = true by simpa using hc2)
          exact .tpe [t0, t1, t2, .a (h)] (Out.val (V.t (T.bool false)) []) (by kernel_rfl) ((rfl).trans (show (Out.val (V.t (T.bool false)) []) = Out.val (bl (if x.kind = (1 : Int) then decide (x.name ≥ (0 : Int)) && decide (x.name ≤ (9 : Int)) && none.isSome else if x.kind = (2 : Int) then decide (x.name = (0 : Int)) && none.isSome else decide (x.kind = (3 : Int)) && decide (x.name = (0 : Int)) && decide (x.expr.length = (0 : Nat)))) [] by simp [*]))
        · let t2 : Tp pr := .b (show (decide (x.name = (0 : Int))) = false by simpa using hc2)
          exact .tpe [t0, t1, t2] (Out.val (V.t (T.bool false)) []) (by kernel_rfl) ((rfl).trans (show (Out.val (V.t (T.bool false)) []) = Out.val (bl (if x.kind = (1 : Int) then decide (x.name ≥ (0 : Int)) && decide (x.name ≤ (9 : Int)) && none.isSome else if x.kind = (2 : Int) then decide (x.name = (0 : Int)) && none.isSome else decide (x.kind = (3 : Int)) && decide (x.name = (0 : Int)) && decide (x.expr.length = (0 : Nat)))) [] by simp [*]))
      · let t1 : Tp pr := .b (show (decide (x.kind = (2 : Int))) = false by simpa using hc1)
        by_cases hc2 : x.kind = (3 : Int)
        · let t2 : Tp pr := .b (show (decide (x.kind = (3 : Int))) = true by simpa using hc2)
          by_cases hc3 : x.name = (0 : Int)
          · let t3 : Tp pr := .b (show (decide (x.name = (0 : Int))) = true by simpa using hc3)
            let t4 : Tp pr := .i (show ((↑(List.map Ex.ce x.expr).length : Int) : Int) = (↑x.expr.length : Int) by simp)
            exact .tpe [t0, t1, t2, t3, t4] (Out.val (V.t (T.bool (decide ((↑x.expr.length : Int) = (0 : Int))))) []) (by kernel_rfl) ((congrArg (fun x => Out.val (V.t (T.bool x)) []) (show (decide ((↑x.expr.length : Int) = (0 : Int))) = (decide (x.expr = [])) by simp)).trans (show (Out.val (V.t (T.bool (decide (x.expr = [])))) []) = Out.val (bl (if x.kind = (1 : Int) then decide (x.name ≥ (0 : Int)) && decide (x.name ≤ (9 : Int)) && none.isSome else if x.kind = (2 : Int) then decide (x.name = (0 : Int)) && none.isSome else decide (x.kind = (3 : Int)) && decide (x.name = (0 : Int)) && decide (x.expr.length = (0 : Nat)))) [] by simp [*]))
          · let t3 : Tp pr := .b (show (decide (x.name = (0 : Int))) = false by simpa using hc3)
            exact .tpe [t0, t1, t2, t3] (Out.val (V.t (T.bool false)) []) (by kernel_rfl) ((rfl).trans (show (Out.val (V.t (T.bool false)) []) = Out.val (bl (if x.kind = (1 : Int) then decide (x.name ≥ (0 : Int)) && decide (x.name ≤ (9 : Int)) && none.isSome else if x.kind = (2 : Int) then decide (x.name = (0 : Int)) && none.isSome else decide (x.kind = (3 : Int)) && decide (x.name = (0 : Int)) && decide (x.expr.length = (0 : Nat)))) [] by simp [*]))
        · let t2 : Tp pr := .b (show (decide (x.kind = (3 : Int))) = false by simpa using hc2)
          exact .tpe [t0, t1, t2, .b (rfl : false = false)] (Out.val (V.t (T.bool false)) []) (by kernel_rfl) ((rfl).trans (show (Out.val (V.t (T.bool false)) []) = Out.val (bl (if x.kind = (1 : Int) then decide (x.name ≥ (0 : Int)) && decide (x.name ≤ (9 : Int)) && none.isSome else if x.kind = (2 : Int) then decide (x.name = (0 : Int)) && none.isSome else decide (x.kind = (3 : Int)) && decide (x.name = (0 : Int)) && decide (x.expr.length = (0 : Nat)))) [] by simp [*])))
  | some e => rw [hp] at h; (
    by_cases hc0 : x.kind = (1 : Int)
    · let t0 : Tp pr := .b (show (decide (x.kind = (1 : Int))) = true by simpa using hc0)
      let t1 : Tp pr := .a (within_ev (x.name) ((0 : Int)) ((9 : Int)))
      by_cases hc2 : (0 : Int) ≤ x.name ∧ x.name ≤ (9 : Int)
      · let t2 : Tp pr := .b (show (decide (x.name ≥ (0 : Int)) && decide (x.name ≤ (9 : Int))) = true by simpa using hc2)
        exact .tpe [t0, t1, t2, .a (h)] (Out.val (V.t (T.bool true)) []) (by kernel_rfl) ((rfl).trans (show (Out.val (V.t (T.bool true)) []) = Out.val (bl (if x.kind = (1 : Int) then decide (x.name ≥ (0 : Int)) && decide (x.name ≤ (9 : Int)) && (some e).isSome else if x.kind = (2 : Int) then decide (x.name = (0 : Int)) && (some e).isSome else decide (x.kind = (3 : Int)) && decide (x.name = (0 : Int)) && decide (x.expr.length = (0 : Nat)))) [] by simp [*]))
      · let t2 : Tp pr := .b (show (decide (x.name ≥ (0 : Int)) && decide (x.name ≤ (9 : Int))) = false by simpa using hc2)
        exact .tpe [t0, t1, t2] (Out.val (V.t (T.bool false)) []) (by kernel_rfl) ((congrArg (fun x => Out.val (V.t (T.bool x)) []) (show (false) = (decide ((0 : Int) ≤ x.name) && decide (x.name ≤ (9 : Int))) by (simp; omega))).trans (show (Out.val (V.t (T.bool (decide ((0 : Int) ≤ x.name) && decide (x.name ≤ (9 : Int))))) []) = Out.val (bl (if x.kind = (1 : Int) then decide (x.name ≥ (0 : Int)) && decide (x.name ≤ (9 : Int)) && (some e).isSome else if x.kind = (2 : Int) then decide (x.name = (0 : Int)) && (some e).isSome else decide (x.kind = (3 : Int)) && decide (x.name = (0 : Int)) && decide (x.expr.length = (0 : Nat)))) [] by simp [*]))
    · let t0 : Tp pr := .b (show (decide (x.kind = (1 : Int))) = false by simpa using hc0)
      by_cases hc1 : x.kind = (2 : Int)
      · let t1 : Tp pr := .b (show (decide (x.kind = (2 : Int))) = true by simpa using hc1)
        by_cases hc2 : x.name = (0 : Int)
        · let t2 : Tp pr := .b (show (decide (x.name = (0 : Int))) = true by simpa using hc2)
          exact .tpe [t0, t1, t2, .a (h)] (Out.val (V.t (T.bool true)) []) (by kernel_rfl) ((rfl).trans (show (Out.val (V.t (T.bool true)) []) = Out.val (bl (if x.kind = (1 : Int) then decide (x.name ≥ (0 : Int)) && decide (x.name ≤ (9 : Int)) && (some e).isSome else if x.kind = (2 : Int) then decide (x.name = (0 : Int)) && (some e).isSome else decide (x.kind = (3 : Int)) && decide (x.name = (0 : Int)) && decide (x.expr.length = (0 : Nat)))) [] by simp [*]))
        · let t2 : Tp pr := .b (show (decide (x.name = (0 : Int))) = false by simpa using hc2)
          exact .tpe [t0, t1, t2] (Out.val (V.t (T.bool false)) []) (by kernel_rfl) ((rfl).trans (show (Out.val (V.t (T.bool false)) []) = Out.val (bl (if x.kind = (1 : Int) then decide (x.name ≥ (0 : Int)) && decide (x.name ≤ (9 : Int)) && (some e).isSome else if x.kind = (2 : Int) then decide (x.name = (0 : Int)) && (some e).isSome else decide (x.kind = (3 : Int)) && decide (x.name = (0 : Int)) && decide (x.expr.length = (0 : Nat)))) [] by simp [*]))
      · let t1 : Tp pr := .b (show (decide (x.kind = (2 : Int))) = false by simpa using hc1)
        by_cases hc2 : x.kind = (3 : Int)
        · let t2 : Tp pr := .b (show (decide (x.kind = (3 : Int))) = true by simpa using hc2)
          by_cases hc3 : x.name = (0 : Int)
          · let t3 : Tp pr := .b (show (decide (x.name = (0 : Int))) = true by simpa using hc3)
            let t4 : Tp pr := .i (show ((↑(List.map Ex.ce x.expr).length : Int) : Int) = (↑x.expr.length : Int) by simp)
            exact .tpe [t0, t1, t2, t3, t4] (Out.val (V.t (T.bool (decide ((↑x.expr.length : Int) = (0 : Int))))) []) (by kernel_rfl) ((congrArg (fun x => Out.val (V.t (T.bool x)) []) (show (decide ((↑x.expr.length : Int) = (0 : Int))) = (decide (x.expr = [])) by simp)).trans (show (Out.val (V.t (T.bool (decide (x.expr = [])))) []) = Out.val (bl (if x.kind = (1 : Int) then decide (x.name ≥ (0 : Int)) && decide (x.name ≤ (9 : Int)) && (some e).isSome else if x.kind = (2 : Int) then decide (x.name = (0 : Int)) && (some e).isSome else decide (x.kind = (3 : Int)) && decide (x.name = (0 : Int)) && decide (x.expr.length = (0 : Nat)))) [] by simp [*]))
          · let t3 : Tp pr := .b (show (decide (x.name = (0 : Int))) = false by simpa using hc3)
            exact .tpe [t0, t1, t2, t3] (Out.val (V.t (T.bool false)) []) (by kernel_rfl) ((rfl).trans (show (Out.val (V.t (T.bool false)) []) = Out.val (bl (if x.kind = (1 : Int) then decide (x.name ≥ (0 : Int)) && decide (x.name ≤ (9 : Int)) && (some e).isSome else if x.kind = (2 : Int) then decide (x.name = (0 : Int)) && (some e).isSome else decide (x.kind = (3 : Int)) && decide (x.name = (0 : Int)) && decide (x.expr.length = (0 : Nat)))) [] by simp [*]))
        · let t2 : Tp pr := .b (show (decide (x.kind = (3 : Int))) = false by simpa using hc2)
          exact .tpe [t0, t1, t2, .b (rfl : false = false)] (Out.val (V.t (T.bool false)) []) (by kernel_rfl) ((rfl).trans (show (Out.val (V.t (T.bool false)) []) = Out.val (bl (if x.kind = (1 : Int) then decide (x.name ≥ (0 : Int)) && decide (x.name ≤ (9 : Int)) && (some e).isSome else if x.kind = (2 : Int) then decide (x.name = (0 : Int)) && (some e).isSome else decide (x.kind = (3 : Int)) && decide (x.name = (0 : Int)) && decide (x.expr.length = (0 : Nat)))) [] by simp [*])))
end Go.Ev

/- Programs: which are good. -/
namespace Go.Ev
set_option linter.unusedVariables false
set_option linter.unusedSimpArgs false
open Go.Proofs
set_option maxRecDepth 100000
set_option linter.unusedVariables false
set_option maxHeartbeats 1000000
def endsOut (l : List Line) : Option (List Int × List Int × List Int) → Out
  | some (out, st, junk) => .exit 0 (at_ [(4, .vec 0 l.length 1 0 l.length), (5, .vec 1 (st.length + junk.length) 1 0 st.length)] [.vec true 1 (ints out), .vec true 1 (ints (st.reverse ++ junk))] 0)
  | none => .ret (at_ [(2, .t .nils), (3, bl false)] [] 0)
theorem endsL_ev (l : List Line) (hl : l.length ≤ 1048576) : ∀ (rest done : List Line) (i : Int) (out st junk : List Int), l = done ++ rest → i = done.length → out.length = l.length → (∀ k ∈ st, 0 ≤ k ∧ k < l.length) → st.length ≤ done.length →
    Ev pr (.loop (lq pr 45 0) (at_ [(4, .vec 0 l.length 1 0 l.length), (5, .vec 1 (st.length + junk.length) 1 0 st.length), (13, lines l), (14, i64 l.length), (15, i64 i)] [.vec true 1 (ints out), .vec true 1 (ints (st.reverse ++ junk))] 0))
      (endsOut l (endsGo rest i out st junk))
  | [], done, i, out, st, junk, h, hi, ho, hs, hd => by
    have hll : (l.length : Int) = done.length := by simp [h]
    let t0 : Tp pr := .b (show (decide (i < (↑l.length : Int))) = false by (simp; omega))
    exact .tp [t0] (by kernel_rfl)
  | x :: rest, done, i, out, st, junk, h, hi, ho, hs, hd => by
    have hll : (l.length : Int) = done.length + 1 + rest.length := by simp [h]; omega
    have hg : lkp (l.map Line.ce) i = some x.ce := by subst hi; subst h; simp
    have hdl : (done ++ [x]).length = done.length + 1 := by simp
    by_cases h2 : x.kind = 2
    · have ih := endsL_ev l hl rest (done ++ [x]) (i + 1) out (i :: st) junk.tail (by simp [h]) (by simp [hi]) ho (List.forall_mem_cons.2 ⟨by omega, hs⟩) (by simp; omega)
      cases junk with
      | nil => 
        let t0 : Tp pr := .b (show (decide (i < (↑l.length : Int))) = true by (simp; omega))
        let t1 : Tp pr := .g .row (show (lkp (List.map Line.ce l) i) = some (x.ce) from hg)
        let t2 : Tp pr := .b (show (decide (x.kind = (2 : Int))) = true by (simp; omega))
        let t4 : Tp pr := .m (show (decide ((ints (st.reverse ++ [])).length = st.length + (0 : Nat) ∧ (0 : Nat) + st.length ≤ st.length + (0 : Nat) ∧ st.length + (1 : Nat) ≤ (4294967296 : Nat))) = true by (simp; omega))
        let t5 : Tp pr := .b (show (decide (st.length + (1 : Nat) ≤ st.length + (0 : Nat))) = false by simp)
        let t7 : Tp pr := .n .crows (show ((List.take st.length (ints (st.reverse ++ []))).append (List.take (1 : Nat) (List.drop (0 : Nat) [[C.t (T.int IntKind.i64 i)]]))) = ints st.reverse ++ [[C.t (T.int IntKind.i64 i)]] by simp)
        let t8 : Tp pr := .i (wrap_i64 (a := i + (1 : Int)) (by omega) (by omega))
        let t9 : Tp pr := .a (Ev.castq (congrArg (fun x => Q.loop (lq pr (45 : FuncId) (0 : Nat)) (at_ [((4 : Nat), V.vec (0 : Nat) l.length (1 : Nat) (0 : Nat) l.length), ((5 : Nat), V.vec (1 : Nat) (st.length + (1 : Nat)) (1 : Nat) (0 : Nat) (st.length + (1 : Nat))), ((13 : Nat), V.t (T.seq (3 : Nat) (List.map Line.ce l))), ((14 : Nat), V.t (T.int IntKind.i64 (↑l.length : Int))), ((15 : Nat), V.t (T.int IntKind.i64 (i + (1 : Int))))] [Ob.vec true (1 : Nat) (ints out), Ob.vec true (1 : Nat) x] (0 : Nat))) (show (ints ((i :: st).reverse ++ [].tail)) = ((ints st.reverse).append [[C.t (T.int IntKind.i64 i)]]) by simp [ints_app, ints_cons, intc])) (ih))
        exact .tpe [t0, t1, t2, .m (rfl : true = true), t4, t5, .c (rfl : (st.length + (1 : Nat)) = _), t7, t8, t9] (endsOut l (endsGo rest (i + (1 : Int)) out (i :: st) [].tail)) (by kernel_rfl) ((congrArg (fun x => x) (show (endsOut l (endsGo rest (i + (1 : Int)) out (i :: st) [].tail)) = (endsOut (done ++ x :: rest) (endsGo rest ((↑done.length : Int) + (1 : Int)) out ((↑done.length : Int) :: st) [])) by simp [*])).trans (show (endsOut (done ++ x :: rest) (endsGo rest ((↑done.length : Int) + (1 : Int)) out ((↑done.length : Int) :: st) [])) = endsOut l (endsGo (x :: rest) i out st []) by simp [endsGo, *]))
      | cons j junk => 
        let t0 : Tp pr := .b (show (decide (i < (↑l.length : Int))) = true by (simp; omega))
        let t1 : Tp pr := .g .row (show (lkp (List.map Line.ce l) i) = some (x.ce) from hg)
        let t2 : Tp pr := .b (show (decide (x.kind = (2 : Int))) = true by (simp; omega))
        let t4 : Tp pr := .m (show (decide ((ints (st.reverse ++ j :: junk)).length = st.length + (j :: junk).length ∧ (0 : Nat) + st.length ≤ st.length + (j :: junk).length ∧ st.length + (1 : Nat) ≤ (4294967296 : Nat))) = true by (simp; omega))
        let t5 : Tp pr := .b (show (decide (st.length + (1 : Nat) ≤ st.length + (j :: junk).length)) = true by simp)
        let t7 : Tp pr := .n .crows (show (((List.take st.length (ints (st.reverse ++ j :: junk))).append (List.take (1 : Nat) (List.drop (0 : Nat) [[C.t (T.int IntKind.i64 i)]]))).append (List.drop (st.length + (1 : Nat)) (ints (st.reverse ++ j :: junk)))) = ints st.reverse ++ [C.t (T.int IntKind.i64 i)] :: ints junk by simp)
        let t8 : Tp pr := .i (wrap_i64 (a := i + (1 : Int)) (by omega) (by omega))
        let t9 : Tp pr := .a (Ev.castq ((congrArg (fun x => Q.loop (lq pr (45 : FuncId) (0 : Nat)) (at_ [((4 : Nat), V.vec (0 : Nat) l.length (1 : Nat) (0 : Nat) l.length), ((5 : Nat), V.vec (1 : Nat) ((i :: st).length + (j :: junk).tail.length) (1 : Nat) (0 : Nat) (st.length + (1 : Nat))), ((13 : Nat), V.t (T.seq (3 : Nat) (List.map Line.ce l))), ((14 : Nat), V.t (T.int IntKind.i64 (↑l.length : Int))), ((15 : Nat), V.t (T.int IntKind.i64 (i + (1 : Int))))] [Ob.vec true (1 : Nat) (ints out), Ob.vec true (1 : Nat) x] (0 : Nat))) (show (ints ((i :: st).reverse ++ (j :: junk).tail)) = ((ints st.reverse).append ([C.t (T.int IntKind.i64 i)] :: ints junk)) by simp [ints_app, ints_cons, intc])).trans (congrArg (fun x => Q.loop (lq pr (45 : FuncId) (0 : Nat)) (at_ [((4 : Nat), V.vec (0 : Nat) l.length (1 : Nat) (0 : Nat) l.length), ((5 : Nat), V.vec (1 : Nat) x (1 : Nat) (0 : Nat) (st.length + (1 : Nat))), ((13 : Nat), V.t (T.seq (3 : Nat) (List.map Line.ce l))), ((14 : Nat), V.t (T.int IntKind.i64 (↑l.length : Int))), ((15 : Nat), V.t (T.int IntKind.i64 (i + (1 : Int))))] [Ob.vec true (1 : Nat) (ints out), Ob.vec true (1 : Nat) ((ints st.reverse).append ([C.t (T.int IntKind.i64 i)] :: ints junk))] (0 : Nat))) (show ((i :: st).length + (j :: junk).tail.length) = (st.length + (j :: junk).length) by (simp; omega)))) (ih))
        exact .tpe [t0, t1, t2, .m (rfl : true = true), t4, t5, .c (rfl : (st.length + (1 : Nat)) = _), t7, t8, t9] (endsOut l (endsGo rest (i + (1 : Int)) out (i :: st) (j :: junk).tail)) (by kernel_rfl) ((congrArg (fun x => x) (show (endsOut l (endsGo rest (i + (1 : Int)) out (i :: st) (j :: junk).tail)) = (endsOut (done ++ x :: rest) (endsGo rest ((↑done.length : Int) + (1 : Int)) out ((↑done.length : Int) :: st) junk)) by simp [*])).trans (show (endsOut (done ++ x :: rest) (endsGo rest ((↑done.length : Int) + (1 : Int)) out ((↑done.length : Int) :: st) junk)) = endsOut l (endsGo (x :: rest) i out st (j :: junk)) by simp [endsGo, *]))
    · by_cases h3 : x.kind = 3
      · cases st with
        | nil => (
          let t0 : Tp pr := .b (show (decide (i < (↑l.length : Int))) = true by (simp; omega))
          let t1 : Tp pr := .g .row (show (lkp (List.map Line.ce l) i) = some (x.ce) from hg)
          let t2 : Tp pr := .b (show (decide (x.kind = (2 : Int))) = false by (simp; omega))
          let t3 : Tp pr := .b (show (decide (x.kind = (3 : Int))) = true by (simp; omega))
          let t4 : Tp pr := .i (rfl : ((0 : Int) : Int) = (0 : Int))
          let t5 : Tp pr := .i (rfl : ((-1 : Int) : Int) = (-1 : Int))
          exact .tpe [t0, t1, t2, t3, t4, t5, .b (rfl : true = true)] (Out.ret (at_ [((2 : Nat), V.t T.nils), ((3 : Nat), V.t (T.bool false))] [] (0 : Nat))) (by kernel_rfl) ((rfl).trans (show (Out.ret (at_ [((2 : Nat), V.t T.nils), ((3 : Nat), V.t (T.bool false))] [] (0 : Nat))) = endsOut l (endsGo (x :: rest) i out [] junk) by simp [endsGo, endsOut, *])))
        | cons j st' =>
          have hj := hs j (by simp)
          have ih := endsL_ev l hl rest (done ++ [x]) (i + 1) ((out.set i.toNat j).set j.toNat i) st' (j :: junk) (by simp [h]) (by simp [hi]) (by simp [ho]) (by intro k hk; exact hs k (by simp [hk])) (by simp at hd ⊢; omega)
          have g1 := ints_get (l := out) (k := i.toNat) (by omega)
          have g2 := ints_get (l := out.set i.toNat j) (k := j.toNat) (by simp; omega)
          let t0 : Tp pr := .b (show (decide (i < (↑l.length : Int))) = true by (simp; omega))
          let t1 : Tp pr := .g .row (show (lkp (List.map Line.ce l) i) = some (x.ce) from hg)
          let t2 : Tp pr := .b (show (decide (x.kind = (2 : Int))) = false by (simp; omega))
          let t3 : Tp pr := .b (show (decide (x.kind = (3 : Int))) = true by (simp; omega))
          let t4 : Tp pr := .i (show ((↑(j :: st').length : Int) : Int) = (↑st'.length : Int) + (1 : Int) by simp)
          let t5 : Tp pr := .i (wrap_i64 (a := (↑st'.length : Int) + (1 : Int) - (1 : Int)) (by omega) (by (simp at *; omega)))
          let t6 : Tp pr := .b (show (decide ((↑st'.length : Int) + (1 : Int) - (1 : Int) < (0 : Int))) = false by simp)
          let t7 : Tp pr := .m (show (decide ((0 : Int) ≤ (↑st'.length : Int) + (1 : Int) - (1 : Int) ∧ ((↑st'.length : Int) + (1 : Int) - (1 : Int)).toNat < (j :: st').length)) = true by simp)
          let t8 : Tp pr := .c (show ((0 : Nat) + ((↑st'.length : Int) + (1 : Int) - (1 : Int)).toNat : Nat) = st'.length by omega)
          let t9 : Tp pr := .m (show (decide ((ints ((j :: st').reverse ++ junk)).length = (j :: st').length + junk.length)) = true by (simp; omega))
          let t10 : Tp pr := .g .crow (show ((ints ((j :: st').reverse ++ junk))[st'.length]?) = some (intc j) by simp)
          let t11 : Tp pr := .m (show (decide ((0 : Int) ≤ (↑st'.length : Int) + (1 : Int) - (1 : Int) ∧ ((↑st'.length : Int) + (1 : Int) - (1 : Int)).toNat < (j :: st').length)) = true by simp)
          let t12 : Tp pr := .c (show ((0 : Nat) + ((↑st'.length : Int) + (1 : Int) - (1 : Int)).toNat : Nat) = st'.length by omega)
          let t13 : Tp pr := .m (show (decide ((ints ((j :: st').reverse ++ junk)).length = (j :: st').length + junk.length)) = true by (simp; omega))
          let t14 : Tp pr := .g .crow (show ((ints ((j :: st').reverse ++ junk))[st'.length]?) = some (intc j) by simp)
          let t15 : Tp pr := .m (show (decide ((0 : Int) ≤ i ∧ i.toNat < l.length)) = true by simp [*])
          let t16 : Tp pr := .c (show ((0 : Nat) + i.toNat : Nat) = i.toNat by omega)
          let t17 : Tp pr := .m (show (decide ((ints out).length = l.length)) = true by simp [*])
          let t18 : Tp pr := .g .crow (show ((ints out)[i.toNat]?) = some (intc (out.getD i.toNat (0 : Int))) from g1)
          let t19 : Tp pr := .n .crows (show ((ints out).set i.toNat [C.t (T.int IntKind.i64 j)]) = ints (out.set i.toNat j) by simp)
          let t20 : Tp pr := .m (show (decide ((0 : Int) ≤ j ∧ j.toNat < l.length)) = true by (simp; omega))
          let t21 : Tp pr := .c (show ((0 : Nat) + j.toNat : Nat) = j.toNat by omega)
          let t22 : Tp pr := .m (show (decide ((ints (out.set i.toNat j)).length = l.length)) = true by simp [*])
          let t23 : Tp pr := .g .crow (show ((ints (out.set i.toNat j))[j.toNat]?) = some (intc ((out.set i.toNat j).getD j.toNat (0 : Int))) from g2)
          let t24 : Tp pr := .n .crows (show ((ints (out.set i.toNat j)).set j.toNat [C.t (T.int IntKind.i64 i)]) = ints ((out.set i.toNat j).set j.toNat i) by simp)
          let t25 : Tp pr := .m (show (decide ((0 : Int) ≤ (0 : Int) ∧ (0 : Int) ≤ (↑st'.length : Int) + (1 : Int) - (1 : Int) ∧ (0 : Nat) + ((↑st'.length : Int) + (1 : Int) - (1 : Int)).toNat ≤ (j :: st').length + junk.length)) = true by (simp; omega))
          let t27 : Tp pr := .c (show (((↑st'.length : Int) + (1 : Int) - (1 : Int)).toNat - (0 : Nat) : Nat) = st'.length by omega)
          let t28 : Tp pr := .i (wrap_i64 (a := i + (1 : Int)) (by omega) (by omega))
          let t29 : Tp pr := .a (Ev.castq ((congrArg (fun x => Q.loop (lq pr (45 : FuncId) (0 : Nat)) (at_ [((4 : Nat), V.vec (0 : Nat) l.length (1 : Nat) (0 : Nat) l.length), ((5 : Nat), V.vec (1 : Nat) (st'.length + (j :: junk).length) (1 : Nat) (0 : Nat) st'.length), ((13 : Nat), V.t (T.seq (3 : Nat) (List.map Line.ce l))), ((14 : Nat), V.t (T.int IntKind.i64 (↑l.length : Int))), ((15 : Nat), V.t (T.int IntKind.i64 (i + (1 : Int))))] [Ob.vec true (1 : Nat) (ints ((out.set i.toNat j).set j.toNat i)), Ob.vec true (1 : Nat) x] (0 : Nat))) (show (ints (st'.reverse ++ j :: junk)) = (ints ((j :: st').reverse ++ junk)) by simp [ints_app, ints_cons, intc])).trans (congrArg (fun x => Q.loop (lq pr (45 : FuncId) (0 : Nat)) (at_ [((4 : Nat), V.vec (0 : Nat) l.length (1 : Nat) (0 : Nat) l.length), ((5 : Nat), V.vec (1 : Nat) x (1 : Nat) (0 : Nat) st'.length), ((13 : Nat), V.t (T.seq (3 : Nat) (List.map Line.ce l))), ((14 : Nat), V.t (T.int IntKind.i64 (↑l.length : Int))), ((15 : Nat), V.t (T.int IntKind.i64 (i + (1 : Int))))] [Ob.vec true (1 : Nat) (ints ((out.set i.toNat j).set j.toNat i)), Ob.vec true (1 : Nat) (ints ((j :: st').reverse ++ junk))] (0 : Nat))) (show (st'.length + (j :: junk).length) = ((j :: st').length + junk.length) by (simp; omega)))) (ih))
          exact .tpe [t0, t1, t2, t3, t4, t5, t6, t7, t8, t9, t10, t11, t12, t13, t14, t15, t16, t17, t18, t19, t20, t21, t22, t23, t24, t25, .c (rfl : ((0 : Nat)) = _), t27, t28, t29] (endsOut l (endsGo rest (i + (1 : Int)) ((out.set i.toNat j).set j.toNat i) st' (j :: junk))) (by kernel_rfl) ((congrArg (fun x => x) (show (endsOut l (endsGo rest (i + (1 : Int)) ((out.set i.toNat j).set j.toNat i) st' (j :: junk))) = (endsOut (done ++ x :: rest) (endsGo rest ((↑done.length : Int) + (1 : Int)) ((out.set done.length j).set j.toNat (↑done.length : Int)) st' (j :: junk))) by simp [*])).trans (show (endsOut (done ++ x :: rest) (endsGo rest ((↑done.length : Int) + (1 : Int)) ((out.set done.length j).set j.toNat (↑done.length : Int)) st' (j :: junk))) = endsOut l (endsGo (x :: rest) i out (j :: st') junk) by simp [endsGo, *]))
      · have ih := endsL_ev l hl rest (done ++ [x]) (i + 1) out st junk (by simp [h]) (by simp [hi]) ho hs (by simp; omega)
        let t0 : Tp pr := .b (show (decide (i < (↑l.length : Int))) = true by (simp; omega))
        let t1 : Tp pr := .g .row (show (lkp (List.map Line.ce l) i) = some (x.ce) from hg)
        let t2 : Tp pr := .b (show (decide (x.kind = (2 : Int))) = false by (simp; omega))
        let t3 : Tp pr := .b (show (decide (x.kind = (3 : Int))) = false by (simp; omega))
        let t4 : Tp pr := .i (wrap_i64 (a := i + (1 : Int)) (by omega) (by omega))
        exact .tpe [t0, t1, t2, t3, t4, .a (ih)] (endsOut l (endsGo rest (i + (1 : Int)) out st junk)) (by kernel_rfl) ((congrArg (fun x => x) (show (endsOut l (endsGo rest (i + (1 : Int)) out st junk)) = (endsOut (done ++ x :: rest) (endsGo rest ((↑done.length : Int) + (1 : Int)) out st junk)) by simp [*])).trans (show (endsOut (done ++ x :: rest) (endsGo rest ((↑done.length : Int) + (1 : Int)) out st junk)) = endsOut l (endsGo (x :: rest) i out st junk) by simp [endsGo, *]))
theorem ends_ev (l : List Line) (hl : l.length ≤ 1048576) : Ev pr (.call 45 [lines l] []) (.val (match endsGo l 0 (List.replicate l.length 0) [] [] with
    | some (out, st, junk) => .tup [.t (.seq 1 (out.map intt)), bl (decide (st.length = 0))]
    | none => .tup [.t (.seq 1 []), bl false]) []) := by
  have h := endsL_ev l hl l [] 0 (List.replicate l.length 0) [] [] rfl rfl (by simp) (by simp) (by simp)
  cases hr : endsGo l 0 (List.replicate l.length 0) [] [] with
  | none => rw [hr] at h; unfold endsOut at h; (
    let t0 : Tp pr := .i (show ((↑(List.map Line.ce l).length : Int) : Int) = (↑l.length : Int) by simp)
    let t1 : Tp pr := .m (show (decide ((0 : Int) ≤ (↑l.length : Int) ∧ (↑l.length : Int) ≤ (↑l.length : Int) ∧ (↑l.length : Int) ≤ (4294967296 : Int))) = true by (simp; omega))
    let t2 : Tp pr := .c (show ((↑l.length : Int).toNat : Nat) = l.length by omega)
    let t3 : Tp pr := .n .crows (rfl : (List.replicate l.length [C.t (T.int IntKind.i64 (0 : Int))]) = _)
    let t4 : Tp pr := .i (show ((↑(List.map Line.ce l).length : Int) : Int) = (↑l.length : Int) by simp)
    let t5 : Tp pr := .a (Ev.castq (congrArg (fun x => Q.loop (lq pr (45 : Nat) (0 : Nat)) (at_ [((4 : Nat), V.vec (0 : Nat) l.length (1 : Nat) (0 : Nat) l.length), ((5 : Nat), V.vec (1 : Nat) (0 : Nat) (1 : Nat) (0 : Nat) (0 : Nat)), ((13 : Nat), V.t (T.seq (3 : Nat) (List.map Line.ce l))), ((14 : Nat), V.t (T.int IntKind.i64 (↑l.length : Int))), ((15 : Nat), V.t (T.int IntKind.i64 (0 : Int)))] [Ob.vec true (1 : Nat) x, Ob.vec true (1 : Nat) []] (0 : Nat))) (show (ints (List.replicate l.length (0 : Int))) = (List.replicate l.length [C.t (T.int IntKind.i64 (0 : Int))]) by simp [ints, intc])) (h))
    exact .tp [t0, t1, t2, t3, t4, t5] (by kernel_rfl))
  | some p =>
    obtain ⟨out, st, junk⟩ := p
    have hol := endsGo_len _ _ _ _ _ _ _ _ hr
    simp at hol
    rw [hr] at h; unfold endsOut at h; (
      let t0 : Tp pr := .i (show ((↑(List.map Line.ce l).length : Int) : Int) = (↑l.length : Int) by simp)
      let t1 : Tp pr := .m (show (decide ((0 : Int) ≤ (↑l.length : Int) ∧ (↑l.length : Int) ≤ (↑l.length : Int) ∧ (↑l.length : Int) ≤ (4294967296 : Int))) = true by (simp; omega))
      let t2 : Tp pr := .c (show ((↑l.length : Int).toNat : Nat) = l.length by omega)
      let t3 : Tp pr := .n .crows (rfl : (List.replicate l.length [C.t (T.int IntKind.i64 (0 : Int))]) = _)
      let t4 : Tp pr := .i (show ((↑(List.map Line.ce l).length : Int) : Int) = (↑l.length : Int) by simp)
      let t5 : Tp pr := .a (Ev.castq (congrArg (fun x => Q.loop (lq pr (45 : Nat) (0 : Nat)) (at_ [((4 : Nat), V.vec (0 : Nat) l.length (1 : Nat) (0 : Nat) l.length), ((5 : Nat), V.vec (1 : Nat) (0 : Nat) (1 : Nat) (0 : Nat) (0 : Nat)), ((13 : Nat), V.t (T.seq (3 : Nat) (List.map Line.ce l))), ((14 : Nat), V.t (T.int IntKind.i64 (↑l.length : Int))), ((15 : Nat), V.t (T.int IntKind.i64 (0 : Int)))] [Ob.vec true (1 : Nat) x, Ob.vec true (1 : Nat) []] (0 : Nat))) (show (ints (List.replicate l.length (0 : Int))) = (List.replicate l.length [C.t (T.int IntKind.i64 (0 : Int))]) by simp [intt, ← hol])) (h))
      let t7 : Tp pr := .m (show (decide ((ints out).length = l.length ∧ (0 : Nat) + l.length ≤ l.length)) = true by simp [*])
      let t8 : Tp pr := .n .rows (show (List.map (fun x => List.map C.fz x) (List.take l.length (List.drop (0 : Nat) (ints out)))) = List.take l.length (List.map intt out) by simp)
      exact .tpe [t0, t1, t2, t3, t4, t5, .i (rfl : ((↑st.length : Int)) = _), t7, t8] (Out.val (V.tup [V.t (T.seq (1 : Nat) (List.take l.length (List.map intt out))), V.t (T.bool (decide ((↑st.length : Int) = (0 : Int))))]) []) (by kernel_rfl) ((congrArg (fun x => Out.val (V.tup [V.t (T.seq (1 : Nat) x), V.t (T.bool (decide ((↑st.length : Int) = (0 : Int))))]) []) (show (List.take l.length (List.map intt out)) = (List.map intt out) by simp [intt, ← hol])).trans (congrArg (fun x => Out.val (V.tup [V.t (T.seq (1 : Nat) (List.map intt out)), V.t (T.bool x)]) []) (show (decide ((↑st.length : Int) = (0 : Int))) = (decide (st.length = (0 : Nat))) by simp [intt, ← hol]))))
theorem notOk_ev (x : Line) (hl : x.expr.length ≤ 1048576) (hs : ∀ y ∈ x.expr, y.text.size ≤ 9223372036854775807) : Ev pr (.call 43 [vs x.ce] []) (.val (bl (!lineOk x)) []) := by
  let t0 : Tp pr := .a (lineOk_ev (x) (by assumption) (by assumption))
  exact .tp [t0] (by kernel_rfl)
theorem idxLine_ev (l : List Line) (hl : l.length ≤ 1048576) (hs : ∀ x ∈ l, x.expr.length ≤ 1048576 ∧ ∀ y ∈ x.expr, y.text.size ≤ 9223372036854775807) : ∀ (rest done : List Line) (i : Int), l = done ++ rest → i = done.length →
    Ev pr (.loop (lq pr 72 0) (at_ [(0, lines l), (1, .t (.clo 43 [])), (7, i64 l.length), (8, i64 i)] [] 0))
      (if 0 ≤ idxFrom (fun x => !lineOk x) i rest then .ret (at_ [(4, i64 (idxFrom (fun x => !lineOk x) i rest))] [] 0) else .exit 0 (at_ [] [] 0))
  | [], done, i, h, hi => by
    have hll : (l.length : Int) = done.length := by simp [h]
    let t0 : Tp pr := .b (show (decide (i < (↑l.length : Int))) = false by (simp; omega))
    exact .tp [t0] (by kernel_rfl)
  | x :: rest, done, i, h, hi => by
    have hll : (l.length : Int) = done.length + 1 + rest.length := by simp [h]; omega
    have hg : lkp (l.map Line.ce) i = some x.ce := by subst hi; subst h; simp
    have ih := idxLine_ev l hl hs rest (done ++ [x]) (i + 1) (by simp [h]) (by simp [hi])
    have hi0 : 0 ≤ i := by omega
    have hx := notOk_ev x (hs x (by simp [h])).1 (hs x (by simp [h])).2
    cases hb : lineOk x with
    | false => rw [hb] at hx; (
      let t0 : Tp pr := .b (show (decide (i < (↑l.length : Int))) = true by (simp; omega))
      let t1 : Tp pr := .g .row (show (lkp (List.map Line.ce l) i) = some (x.ce) from hg)
      exact .tpe [t0, t1, .a (hx), .b (rfl : true = true)] (Out.ret (at_ [((4 : Nat), V.t (T.int IntKind.i64 i))] [] (0 : Nat))) (by kernel_rfl) ((rfl).trans (show (Out.ret (at_ [((4 : Nat), V.t (T.int IntKind.i64 i))] [] (0 : Nat))) = if (0 : Int) ≤ idxFrom (fun x => !lineOk x) i (x :: rest) then Out.ret (at_ [((4 : Nat), i64 (idxFrom (fun x => !lineOk x) i (x :: rest)))] [] (0 : Nat)) else Out.exit (0 : Nat) (at_ [] [] (0 : Nat)) by simp [idxFrom, hb, hi0])))
    | true =>
      rw [hb] at hx
      have hI : idxFrom (fun x => !lineOk x) i (x :: rest) = idxFrom (fun x => !lineOk x) (i + 1) rest := by simp [idxFrom, hb]
      rw [hI]
      by_cases h0 : 0 ≤ idxFrom (fun x => !lineOk x) (i + 1) rest
      · rw [if_pos h0] at ih ⊢; (
        let t0 : Tp pr := .b (show (decide (i < (↑l.length : Int))) = true by (simp; omega))
        let t1 : Tp pr := .g .row (show (lkp (List.map Line.ce l) i) = some (x.ce) from hg)
        let t4 : Tp pr := .i (wrap_i64 (a := i + (1 : Int)) (by omega) (by omega))
        exact .tp [t0, t1, .a (hx), .b (rfl : false = false), t4, .a (ih)] (by kernel_rfl))
      · rw [if_neg h0] at ih ⊢; (
        let t0 : Tp pr := .b (show (decide (i < (↑l.length : Int))) = true by (simp; omega))
        let t1 : Tp pr := .g .row (show (lkp (List.map Line.ce l) i) = some (x.ce) from hg)
        let t4 : Tp pr := .i (wrap_i64 (a := i + (1 : Int)) (by omega) (by omega))
        exact .tp [t0, t1, .a (hx), .b (rfl : false = false), t4, .a (ih)] (by kernel_rfl))
theorem idxLines_ev (l : List Line) (hl : l.length ≤ 1048576) (hs : ∀ x ∈ l, x.expr.length ≤ 1048576 ∧ ∀ y ∈ x.expr, y.text.size ≤ 9223372036854775807) : Ev pr (.call 72 [lines l, .t (.clo 43 [])] []) (.val (i64 (idxFrom (fun x => !lineOk x) 0 l)) []) := by
  have h := idxLine_ev l hl hs l [] 0 rfl rfl
  have h2 := idxFrom_neg (fun x => !lineOk x) l 0 (Int.le_refl _)
  by_cases h0 : 0 ≤ idxFrom (fun x => !lineOk x) 0 l
  · rw [if_pos h0] at h; (
    let t0 : Tp pr := .i (show ((↑(List.map Line.ce l).length : Int) : Int) = (↑l.length : Int) by simp)
    exact .tp [t0, .a (h)] (by kernel_rfl))
  · rw [if_neg h0] at h; rw [h2 h0]; (
    let t0 : Tp pr := .i (show ((↑(List.map Line.ce l).length : Int) : Int) = (↑l.length : Int) by simp)
    exact .tp [t0, .a (h)] (by kernel_rfl))
theorem anyLine_ev (l : List Line) (hl : l.length ≤ 1048576) (hs : ∀ x ∈ l, x.expr.length ≤ 1048576 ∧ ∀ y ∈ x.expr, y.text.size ≤ 9223372036854775807) : Ev pr (.call 42 [lines l, .t (.clo 43 [])] []) (.val (bl (l.any fun x => !lineOk x)) []) := by
  rw [← idxFrom_any (fun x => !lineOk x) l 0 (by omega)]
  let t0 : Tp pr := .a (idxLines_ev (l) (by assumption) (by assumption))
  exact .tp [t0] (by kernel_rfl)
theorem GoodProgramI_ev (l : List Line) (hl : l.length ≤ 1048576) (hs : ∀ x ∈ l, x.expr.length ≤ 1048576 ∧ ∀ y ∈ x.expr, y.text.size ≤ 9223372036854775807) : Ev pr (.call 12 [lines l] []) (.val (bl (goodProgram l)) []) := by
  have h := ends_ev l hl
  have h2 := anyLine_ev l hl hs
  unfold goodProgram endsOk
  cases ha : l.any fun x => !lineOk x with
  | true => rw [ha] at h2; (
    let t0 : Tp pr := .i (show ((↑(List.map Line.ce l).length : Int) : Int) = (↑l.length : Int) by simp)
    let t1 : Tp pr := .a (within_ev ((↑l.length : Int)) ((1 : Int)) ((12 : Int)))
    by_cases hc2 : (↑l.length : Int) < (1 : Int) ∨ (12 : Int) < (↑l.length : Int)
    · let t2 : Tp pr := .b (show (!(decide ((↑l.length : Int) ≥ (1 : Int)) && decide ((↑l.length : Int) ≤ (12 : Int)))) = true by simpa using hc2)
      exact .tpe [t0, t1, t2, .b (rfl : true = true)] (Out.val (V.t (T.bool false)) []) (by kernel_rfl) (congrArg (fun x => Out.val (V.t (T.bool x)) []) (show (false) = (decide ((↑l.length : Int) ≥ (1 : Int)) && decide ((↑l.length : Int) ≤ (12 : Int)) && false &&
        match endsGo l (0 : Int) (List.replicate l.length (0 : Int)) [] [] with
        | some (fst, st, snd) => decide (st.length = (0 : Nat))
        | none => false) by simp))
    · let t2 : Tp pr := .b (show (!(decide ((↑l.length : Int) ≥ (1 : Int)) && decide ((↑l.length : Int) ≤ (12 : Int)))) = false by simpa using hc2)
      exact .tpe [t0, t1, t2, .a (h2), .b (rfl : true = true)] (Out.val (V.t (T.bool false)) []) (by kernel_rfl) (congrArg (fun x => Out.val (V.t (T.bool x)) []) (show (false) = (decide ((↑l.length : Int) ≥ (1 : Int)) && decide ((↑l.length : Int) ≤ (12 : Int)) && false &&
        match endsGo l (0 : Int) (List.replicate l.length (0 : Int)) [] [] with
        | some (fst, st, snd) => decide (st.length = (0 : Nat))
        | none => false) by simp)))
  | false =>
    rw [ha] at h2
    cases hr : endsGo l 0 (List.replicate l.length 0) [] [] with
    | none => rw [hr] at h; (
      let t0 : Tp pr := .i (show ((↑(List.map Line.ce l).length : Int) : Int) = (↑l.length : Int) by simp)
      let t1 : Tp pr := .a (within_ev ((↑l.length : Int)) ((1 : Int)) ((12 : Int)))
      by_cases hc2 : (↑l.length : Int) < (1 : Int) ∨ (12 : Int) < (↑l.length : Int)
      · let t2 : Tp pr := .b (show (!(decide ((↑l.length : Int) ≥ (1 : Int)) && decide ((↑l.length : Int) ≤ (12 : Int)))) = true by simpa using hc2)
        exact .tpe [t0, t1, t2, .b (rfl : true = true)] (Out.val (V.t (T.bool false)) []) (by kernel_rfl) (congrArg (fun x => Out.val (V.t (T.bool x)) []) (show (false) = (decide ((↑l.length : Int) ≥ (1 : Int)) && decide ((↑l.length : Int) ≤ (12 : Int)) && true && false) by simp))
      · let t2 : Tp pr := .b (show (!(decide ((↑l.length : Int) ≥ (1 : Int)) && decide ((↑l.length : Int) ≤ (12 : Int)))) = false by simpa using hc2)
        exact .tpe [t0, t1, t2, .a (h2), .b (rfl : false = false), .a (h)] (Out.val (V.t (T.bool false)) []) (by kernel_rfl) (congrArg (fun x => Out.val (V.t (T.bool x)) []) (show (false) = (decide ((↑l.length : Int) ≥ (1 : Int)) && decide ((↑l.length : Int) ≤ (12 : Int)) && true && false) by simp)))
    | some p =>
      obtain ⟨out, st, junk⟩ := p
      rw [hr] at h; (
        let t0 : Tp pr := .i (show ((↑(List.map Line.ce l).length : Int) : Int) = (↑l.length : Int) by simp)
        let t1 : Tp pr := .a (within_ev ((↑l.length : Int)) ((1 : Int)) ((12 : Int)))
        by_cases hc2 : (↑l.length : Int) < (1 : Int) ∨ (12 : Int) < (↑l.length : Int)
        · let t2 : Tp pr := .b (show (!(decide ((↑l.length : Int) ≥ (1 : Int)) && decide ((↑l.length : Int) ≤ (12 : Int)))) = true by simpa using hc2)
          exact .tpe [t0, t1, t2, .b (rfl : true = true)] (Out.val (V.t (T.bool false)) []) (by kernel_rfl) (congrArg (fun x => Out.val (V.t (T.bool x)) []) (show (false) = (decide ((↑l.length : Int) ≥ (1 : Int)) && decide ((↑l.length : Int) ≤ (12 : Int)) && true && decide (st.length = (0 : Nat))) by (simp [*] <;> omega)))
        · let t2 : Tp pr := .b (show (!(decide ((↑l.length : Int) ≥ (1 : Int)) && decide ((↑l.length : Int) ≤ (12 : Int)))) = false by simpa using hc2)
          exact .tpe [t0, t1, t2, .a (h2), .b (rfl : false = false), .a (h)] (Out.val (V.t (T.bool (decide (st.length = (0 : Nat))))) []) (by kernel_rfl) (congrArg (fun x => Out.val (V.t (T.bool x)) []) (show (decide (st.length = (0 : Nat))) = (decide ((↑l.length : Int) ≥ (1 : Int)) && decide ((↑l.length : Int) ≤ (12 : Int)) && true && decide (st.length = (0 : Nat))) by (simp [*] <;> omega))))
end Go.Ev
