/- Tables of the given program for the evaluator: functions in the evaluator's form, each as the compiler gives it; no condition. -/
import Derived.Test.YtbpfpjcacmgfeaaGreatDoorFlTabS
set_option linter.unusedVariables false
set_option linter.unusedSimpArgs false
namespace Go.SE
open Go.Proofs
noncomputable def f3 : SFn := ⟨4, 148, [p4_0, p4_1, p4_2], [(p4_6, none)],
 (.seq (.reg [⟨q4_6, .p (pMv (.cst (.b false))), none, 0⟩])
 (.seq (.reg [⟨q4_16, .p (pBld z24 [(0, 1, c1), (1, 1, c1)]), none, 0⟩,
  ⟨q4_7, .a (aAlloc z24 24), none, 0⟩,
  ⟨none, .e (eSt 2 t4_7 t4_16), none, 3⟩])
 (.seq (.reg [⟨q4_18, .r (rLdn 2 t4_7), none, 0⟩,
  ⟨q4_19, .call (.cst (.f 6 [])) [t4_18, c3], none, 1⟩,
  ⟨q4_17, .p (pMv t4_19), none, 3⟩,
  ⟨q4_20, .p (pExt t4_17 0), none, 7⟩,
  ⟨q4_21, .p (pExt t4_17 1), none, 7⟩,
  ⟨q4_22, .p (pExt t4_17 2), none, 7⟩,
  ⟨q4_8, .p (pMv t4_20), none, 15⟩,
  ⟨q4_9, .p (pMv t4_21), none, 95⟩,
  ⟨q4_10, .p (pMv t4_22), none, 255⟩])
 (.seq (.seq (.reg [⟨q4_23, .p (pMv t4_10), none, 0⟩,
  ⟨q4_24, .p (pNot t4_23), none, 1⟩])
 (.cond t4_24
 (.seq (.reg [⟨q4_6, .p (pMv (.cst (.b false))), none, 0⟩])
 .ret)
 .skip))
 (.seq (.reg [⟨q4_25, .p (pMv t4_0), none, 0⟩,
  ⟨q4_26, .call (.cst (.f 7 [])) [t4_25, c9], none, 1⟩,
  ⟨q4_27, .p (pAdd c1 t4_26), none, 3⟩,
  ⟨q4_28, .p (pMv t4_1), none, 0⟩,
  ⟨q4_29, .call (.cst (.f 7 [])) [t4_28, c3], none, 11⟩,
  ⟨q4_0, .p (pMv t4_27), none, 31⟩,
  ⟨q4_1, .p (pMv t4_29), none, 63⟩])
 (.seq (.reg [⟨q4_30, .p (pMv t4_8), none, 0⟩,
  ⟨q4_31, .p (pMv t4_0), none, 0⟩,
  ⟨q4_32, .p (pBld z72 [(0, 1, t4_31)]), none, 2⟩,
  ⟨q4_33, .call (.cst (.f 8 [])) [t4_30, t4_32], none, 7⟩])
 (.seq (.reg [⟨q4_34, .p (pMv t4_2), none, 0⟩,
  ⟨q4_35, .p (pRem t4_34 (.cst (.i .u64 (.lit (.ofNat 14))))), none, 1⟩,
  ⟨q4_2, .p (pMv t4_35), none, 3⟩])
 (.seq (.reg [⟨q4_36, .p (pMv t4_8), none, 0⟩,
  ⟨q4_37, .p (pMv t4_1), none, 0⟩,
  ⟨q4_38, .p (pMv t4_1), none, 0⟩,
  ⟨q4_39, .p (pMv t4_2), none, 0⟩,
  ⟨q4_40, .p (pBld z70 [(0, 1, c5), (1, 1, t4_37), (2, 1, c3), (155, 1, t4_38), (156, 1, t4_39)]), none, 14⟩,
  ⟨q4_41, .p (pBld z72 [(1, 295, t4_40)]), none, 30⟩,
  ⟨q4_42, .call (.cst (.f 8 [])) [t4_36, t4_41], none, 63⟩,
  ⟨q4_11, .p (pMv t4_42), none, 127⟩])
 (.seq (.reg [⟨q4_43, .p (pMv t4_2), none, 0⟩,
  ⟨q4_44, .p (pGe t4_43 (.cst (.i .u64 (.lit (.ofNat 1))))), none, 1⟩,
  ⟨q4_45, .p (pMv t4_44), none, 3⟩,
  ⟨q4_46, .p (pMv t4_2), (some (p4_45, true)), 7⟩,
  ⟨q4_47, .p (pMv t4_0), (some (p4_45, true)), 7⟩,
  ⟨q4_48, .p (pMax [t4_47, c1]), (some (p4_45, true)), 23⟩,
  ⟨q4_49, .p (pCvi .u64 t4_48), (some (p4_45, true)), 55⟩,
  ⟨q4_50, .p (pLe t4_46 t4_49), (some (p4_45, true)), 127⟩,
  ⟨q4_51, .p (pPick t4_45 t4_50 (.cst (.b false))), none, 255⟩,
  ⟨q4_12, .p (pMv t4_51), none, 511⟩])
 (.seq (.seq (.reg [⟨q4_52, .p (pMv t4_11), none, 0⟩,
  ⟨q4_53, .p (pLen t4_52), none, 1⟩,
  ⟨q4_54, .p (pEq k3 t4_53 c1), none, 3⟩,
  ⟨q4_55, .p (pMv t4_12), none, 0⟩,
  ⟨q4_56, .p (pNe k4 t4_54 t4_55), none, 15⟩,
  ⟨q4_57, .p (pMv t4_56), none, 31⟩,
  ⟨q4_58, .p (pMv t4_11), (some (p4_57, false)), 63⟩,
  ⟨q4_59, .p (pLen t4_58), (some (p4_57, false)), 127⟩,
  ⟨q4_60, .p (pGt t4_59 c1), (some (p4_57, false)), 255⟩,
  ⟨q4_61, .p (pPick t4_57 (.cst (.b true)) t4_60), none, 511⟩])
 (.cond t4_61
 (.seq (.reg [⟨q4_6, .p (pMv (.cst (.b false))), none, 0⟩])
 .ret)
 .skip))
 (.seq (.seq (.reg [⟨q4_62, .p (pMv t4_8), none, 0⟩,
  ⟨q4_63, .p (pMv t4_1), none, 0⟩,
  ⟨q4_64, .p (pMv t4_1), none, 0⟩,
  ⟨q4_65, .p (pAdd t4_64 c1), none, 4⟩,
  ⟨q4_66, .p (pBld z70 [(0, 1, c5), (1, 1, t4_63), (2, 1, c3), (155, 1, t4_65), (156, 1, (.cst (.i .u64 (.lit (.ofNat 1)))))]), none, 14⟩,
  ⟨q4_67, .p (pBld z72 [(1, 295, t4_66)]), none, 30⟩,
  ⟨q4_68, .call (.cst (.f 8 [])) [t4_62, t4_67], none, 63⟩,
  ⟨q4_69, .p (pLen t4_68), none, 127⟩,
  ⟨q4_70, .p (pNe k3 t4_69 c0), none, 255⟩])
 (.cond t4_70
 (.seq (.reg [⟨q4_6, .p (pMv (.cst (.b false))), none, 0⟩])
 .ret)
 .skip))
 (.seq (.seq (.reg [⟨q4_71, .p (pMv t4_12), none, 0⟩,
  ⟨q4_72, .p (pNot t4_71), none, 1⟩])
 (.cond t4_72
 (.seq (.reg [⟨q4_73, .p (pMv t4_8), none, 0⟩,
  ⟨q4_74, .call (.cst (.f 9 [])) [t4_73], none, 1⟩,
  ⟨q4_75, .p (pEq k22 t4_74 (.cst (.i .u64 (.lit (.ofNat 0))))), none, 3⟩,
  ⟨q4_76, .p (pMv t4_75), none, 7⟩,
  ⟨q4_77, .call (.cst (.f 10 [])) [], (some (p4_76, true)), 15⟩,
  ⟨q4_78, .p (pPick t4_76 t4_77 (.cst (.b false))), none, 31⟩,
  ⟨q4_6, .p (pMv t4_78), none, 63⟩])
 .ret)
 .skip))
 (.seq (.seq (.reg [⟨q4_79, .p (pMv t4_11), none, 0⟩,
  ⟨q4_80, .p (pIxL 295 t4_79 c0), none, 1⟩,
  ⟨q4_81, .p (pFa 0 t4_80), none, 3⟩,
  ⟨q4_82, .r (rLd1 t4_81), none, 7⟩,
  ⟨q4_83, .p (pNe k3 t4_82 c6), none, 15⟩,
  ⟨q4_84, .p (pMv t4_83), none, 31⟩,
  ⟨q4_85, .p (pMv t4_11), (some (p4_84, false)), 63⟩,
  ⟨q4_86, .p (pIxL 295 t4_85 c0), (some (p4_84, false)), 127⟩,
  ⟨q4_87, .p (pFa 2 t4_86), (some (p4_84, false)), 255⟩,
  ⟨q4_88, .r (rLd1 t4_87), (some (p4_84, false)), 511⟩,
  ⟨q4_89, .p (pMv t4_1), (some (p4_84, false)), 63⟩,
  ⟨q4_90, .p (pNe k3 t4_88 t4_89), (some (p4_84, false)), 2047⟩,
  ⟨q4_91, .p (pPick t4_84 (.cst (.b true)) t4_90), none, 4095⟩,
  ⟨q4_92, .p (pMv t4_91), none, 8191⟩,
  ⟨q4_93, .p (pMv t4_11), (some (p4_92, false)), 16383⟩,
  ⟨q4_94, .p (pIxL 295 t4_93 c0), (some (p4_92, false)), 32767⟩,
  ⟨q4_95, .p (pFa 157 t4_94), (some (p4_92, false)), 65535⟩,
  ⟨q4_96, .p (pFa 2 t4_95), (some (p4_92, false)), 131071⟩,
  ⟨q4_97, .r (rLd1 t4_96), (some (p4_92, false)), 262143⟩,
  ⟨q4_98, .p (pMv t4_2), (some (p4_92, false)), 16383⟩,
  ⟨q4_99, .p (pNe k22 t4_97 t4_98), (some (p4_92, false)), 1048575⟩,
  ⟨q4_100, .p (pPick t4_92 (.cst (.b true)) t4_99), none, 2097151⟩,
  ⟨q4_101, .p (pMv t4_100), none, 4194303⟩,
  ⟨q4_102, .p (pMv t4_8), (some (p4_101, false)), 8388607⟩,
  ⟨q4_103, .call (.cst (.f 9 [])) [t4_102], (some (p4_101, false)), 16777215⟩,
  ⟨q4_104, .p (pMv t4_2), (some (p4_101, false)), 8388607⟩,
  ⟨q4_105, .p (pNe k22 t4_103 t4_104), (some (p4_101, false)), 67108863⟩,
  ⟨q4_106, .p (pPick t4_101 (.cst (.b true)) t4_105), none, 134217727⟩])
 (.cond t4_106
 (.seq (.reg [⟨q4_6, .p (pMv (.cst (.b false))), none, 0⟩])
 .ret)
 .skip))
 (.seq (.reg [⟨q4_107, .p (pBld z78 []), none, 0⟩,
  ⟨q4_108, .a (aBox 78 t4_107), none, 1⟩,
  ⟨q4_13, .p (pMv t4_108), none, 3⟩])
 (.seq (.reg [⟨q4_109, .p (pMv t4_13), none, 0⟩,
  ⟨q4_110, .p (pBld z33 [(1, 1, c1)]), none, 0⟩,
  ⟨q4_111, .p (pBld z35 []), none, 0⟩,
  ⟨q4_112, .call (.cst (.f 11 [])) [t4_109, t4_110, t4_111, (.cst .ns)], none, 7⟩,
  ⟨q4_14, .a (aAlloc z39 39), none, 0⟩,
  ⟨none, .e (eSt 37 t4_14 t4_112), none, 31⟩])
 (.seq (.reg [⟨q4_113, .p (pMv t4_9), none, 0⟩,
  ⟨q4_114, .r (rLdn 37 t4_14), none, 0⟩,
  ⟨q4_115, .call (.cst (.f 13 [])) [t4_114], none, 2⟩,
  ⟨q4_116, .call (.cst (.f 12 [])) [t4_113, (.cst (.i .i64 (.lit (.ofNat 1000)))), t4_115], none, 7⟩,
  ⟨q4_117, .p (pFa 35 t4_14), none, 15⟩,
  ⟨none, .e (eSt 2 t4_117 t4_116), none, 31⟩])
 (.seq (.reg [⟨q4_118, .p (pMv t4_8), none, 0⟩,
  ⟨q4_119, .r (rLdn 37 t4_14), none, 0⟩,
  ⟨q4_120, .p (pBld z70 [(0, 1, c1), (1, 1, (.cst (.i .i64 (.lit (.ofNat 1000))))), (2, 1, c3), (3, 37, t4_119)]), none, 2⟩,
  ⟨q4_121, .p (pBld z72 [(1, 295, t4_120)]), none, 6⟩,
  ⟨q4_122, .call (.cst (.f 8 [])) [t4_118, t4_121], none, 15⟩,
  ⟨q4_15, .p (pMv t4_122), none, 31⟩])
 (.seq (.reg [⟨q4_123, .p (pMv t4_15), none, 0⟩,
  ⟨q4_124, .p (pLen t4_123), none, 1⟩,
  ⟨q4_125, .p (pEq k3 t4_124 c1), none, 3⟩,
  ⟨q4_126, .p (pMv t4_125), none, 7⟩,
  ⟨q4_127, .p (pMv t4_15), (some (p4_126, true)), 15⟩,
  ⟨q4_128, .p (pIxL 295 t4_127 c0), (some (p4_126, true)), 31⟩,
  ⟨q4_129, .p (pFa 40 t4_128), (some (p4_126, true)), 63⟩,
  ⟨q4_130, .p (pFa 35 t4_129), (some (p4_126, true)), 127⟩,
  ⟨q4_131, .r (rLd1 t4_130), (some (p4_126, true)), 255⟩,
  ⟨q4_132, .p (pMv t4_2), (some (p4_126, true)), 15⟩,
  ⟨q4_133, .p (pGt t4_131 t4_132), (some (p4_126, true)), 1023⟩,
  ⟨q4_134, .p (pPick t4_126 t4_133 (.cst (.b false))), none, 2047⟩,
  ⟨q4_135, .p (pMv t4_134), none, 4095⟩,
  ⟨q4_136, .p (pMv t4_15), (some (p4_135, true)), 8191⟩,
  ⟨q4_137, .p (pIxL 295 t4_136 c0), (some (p4_135, true)), 16383⟩,
  ⟨q4_138, .p (pFa 40 t4_137), (some (p4_135, true)), 32767⟩,
  ⟨q4_139, .p (pFa 35 t4_138), (some (p4_135, true)), 65535⟩,
  ⟨q4_140, .r (rLd1 t4_139), (some (p4_135, true)), 131071⟩,
  ⟨q4_141, .p (pMv t4_0), (some (p4_135, true)), 8191⟩,
  ⟨q4_142, .p (pCvi .u64 t4_141), (some (p4_135, true)), 270335⟩,
  ⟨q4_143, .p (pGe t4_140 t4_142), (some (p4_135, true)), 1048575⟩,
  ⟨q4_144, .p (pPick t4_135 t4_143 (.cst (.b false))), none, 2097151⟩,
  ⟨q4_145, .p (pMv t4_144), none, 4194303⟩,
  ⟨q4_146, .call (.cst (.f 10 [])) [], (some (p4_145, true)), 8388607⟩,
  ⟨q4_147, .p (pPick t4_145 t4_146 (.cst (.b false))), none, 16777215⟩,
  ⟨q4_6, .p (pMv t4_147), none, 33554431⟩])
 .ret))))))))))))))))))⟩
theorem f3_ok : cFunc Cx0 Tryz.f3 = some f3 := by kernel_rfl
noncomputable def f6 : SFn := ⟨3, 30, [p3_0, p3_1], [(p3_4, none), (p3_5, none), (p3_6, none)],
 (.seq (.reg [⟨q3_2, .a (aBox 24 t3_0), none, 0⟩,
  ⟨q3_4, .p (pMv (.cst .np)), none, 0⟩,
  ⟨q3_5, .p (pMv (.cst .np)), none, 2⟩,
  ⟨q3_6, .p (pMv (.cst (.b false))), none, 6⟩])
 (.seq (.reg [⟨q3_10, .call (.cst (.f 16 [])) [], none, 0⟩,
  ⟨q3_7, .p (pMv t3_10), none, 1⟩])
 (.seq (.seq (.reg [⟨q3_11, .p (pMv t3_7), none, 0⟩,
  ⟨q3_12, .r (rPeq false t3_11 (.cst .np)), none, 1⟩])
 (.cond t3_12
 (.seq (.reg [⟨q3_4, .p (pMv (.cst .np)), none, 0⟩,
  ⟨q3_5, .p (pMv (.cst .np)), none, 1⟩,
  ⟨q3_6, .p (pMv (.cst (.b false))), none, 3⟩])
 .ret)
 .skip))
 (.seq (.reg [⟨q3_14, .r (rLdn 2 t3_2), none, 0⟩,
  ⟨q3_15, .p (pMv t3_1), none, 0⟩,
  ⟨q3_16, .p (pMv t3_7), none, 0⟩,
  ⟨q3_17, .call (.cst (.f 17 [])) [t3_14, t3_15, t3_16], none, 7⟩,
  ⟨q3_13, .p (pMv t3_17), none, 15⟩,
  ⟨q3_18, .p (pExt t3_13 0), none, 31⟩,
  ⟨q3_19, .p (pExt t3_13 1), none, 31⟩,
  ⟨q3_8, .p (pMv t3_18), none, 63⟩,
  ⟨q3_9, .p (pMv t3_19), none, 255⟩])
 (.seq (.seq (.reg [⟨q3_20, .p (pMv t3_9), none, 0⟩,
  ⟨q3_21, .p (pNe k86 t3_20 c0), none, 1⟩,
  ⟨q3_22, .p (pMv t3_21), none, 3⟩,
  ⟨q3_23, .p (pMv t3_8), (some (p3_22, false)), 7⟩,
  ⟨q3_24, .r (rPeq false t3_23 (.cst .np)), (some (p3_22, false)), 15⟩,
  ⟨q3_25, .p (pPick t3_22 (.cst (.b true)) t3_24), none, 31⟩])
 (.cond t3_25
 (.seq (.reg [⟨q3_4, .p (pMv (.cst .np)), none, 0⟩,
  ⟨q3_5, .p (pMv (.cst .np)), none, 1⟩,
  ⟨q3_6, .p (pMv (.cst (.b false))), none, 3⟩])
 .ret)
 .skip))
 (.seq (.reg [⟨q3_26, .p (pMv t3_8), none, 0⟩,
  ⟨q3_27, .call (.cst (.f 19 [])) [t3_26], none, 1⟩])
 (.seq (.reg [⟨q3_28, .p (pMv t3_8), none, 0⟩,
  ⟨q3_29, .p (pMv t3_7), none, 0⟩,
  ⟨q3_4, .p (pMv t3_28), none, 1⟩,
  ⟨q3_5, .p (pMv t3_29), none, 7⟩,
  ⟨q3_6, .p (pMv (.cst (.b true))), none, 15⟩])
 .ret)))))))⟩
theorem f6_ok : cFunc Cx0 Tryz.f6 = some f6 := by kernel_rfl
noncomputable def f7 : SFn := ⟨3, 17, [p3_0, p3_1], [(p3_4, none)],
 (.seq (.reg [⟨q3_4, .p (pMv c0), none, 0⟩])
 (.seq (.seq (.reg [⟨q3_6, .p (pMv t3_1), none, 0⟩,
  ⟨q3_7, .p (pLt t3_6 c1), none, 1⟩])
 (.cond t3_7
 (.seq (.reg [⟨q3_4, .p (pMv c0), none, 0⟩])
 .ret)
 .skip))
 (.seq (.reg [⟨q3_8, .p (pMv t3_0), none, 0⟩,
  ⟨q3_9, .p (pMv t3_1), none, 0⟩,
  ⟨q3_10, .p (pRem t3_8 t3_9), none, 3⟩,
  ⟨q3_5, .p (pMv t3_10), none, 7⟩])
 (.seq (.seq (.reg [⟨q3_11, .p (pMv t3_5), none, 0⟩,
  ⟨q3_12, .p (pLt t3_11 c0), none, 1⟩])
 (.cond t3_12
 (.reg [⟨q3_13, .p (pMv t3_5), none, 0⟩,
  ⟨q3_14, .p (pMv t3_1), none, 0⟩,
  ⟨q3_15, .p (pAdd t3_13 t3_14), none, 3⟩,
  ⟨q3_5, .p (pMv t3_15), none, 7⟩])
 .skip))
 (.seq (.reg [⟨q3_16, .p (pMv t3_5), none, 0⟩,
  ⟨q3_4, .p (pMv t3_16), none, 1⟩])
 .ret)))))⟩
theorem f7_ok : cFunc Cx0 Tryz.f7 = some f7 := by kernel_rfl
noncomputable def f8 : SFn := ⟨3, 40, [p3_0, p3_1], [(p3_4, none)],
 (.seq (.reg [⟨q3_3, .a (aBox 72 t3_1), none, 0⟩,
  ⟨q3_4, .p (pMv (.cst .ns)), none, 0⟩])
 (.seq (.block 0 (.seq (.reg [⟨q3_6, .p (pMv t3_0), none, 0⟩,
  ⟨q3_7, .p (pNilc t3_6), none, 1⟩,
  ⟨q3_8, .p (pFa 4 t3_7), none, 3⟩,
  ⟨q3_9, .r (rLd1 t3_8), none, 7⟩,
  ⟨q3_10, .p (pNot t3_9), none, 15⟩,
  ⟨q3_5, .p (pMv t3_10), none, 31⟩])
 (.cond t3_5
 (.seq (.reg [⟨q3_4, .p (pMv (.cst .ns)), none, 0⟩])
 .ret)
 (.seq (.reg [⟨q3_12, .p (pFa 1 t3_3), none, 0⟩,
  ⟨q3_13, .p (pFa 0 t3_12), none, 1⟩,
  ⟨q3_14, .r (rLd1 t3_13), none, 3⟩,
  ⟨q3_15, .p (pEq k3 t3_14 c0), none, 7⟩,
  ⟨q3_11, .p (pMv t3_15), none, 15⟩])
 (.cond t3_11
 (.seq (.reg [⟨q3_16, .p (pFa 0 t3_3), none, 0⟩,
  ⟨q3_17, .r (rLd1 t3_16), none, 1⟩,
  ⟨q3_18, .p (pMin [t3_17, (.cst (.i .i64 (.lit (.ofNat 1000))))]), none, 3⟩,
  ⟨q3_19, .p (pMv c0), none, 0⟩])
 (.block 1 (.loop (.seq (.reg [⟨q3_20, .p (pLt t3_19 t3_18), none, 0⟩])
 (.seq (.cond t3_20
 .skip
 (.exit 1))
 (.seq (.block 2 (.reg [⟨q3_21, .p (pMv t3_0), none, 0⟩,
  ⟨q3_22, .call (.cst (.f 24 [])) [t3_21], none, 1⟩]))
 (.reg [⟨q3_23, .p (pAdd t3_19 c1), none, 0⟩,
  ⟨q3_19, .p (pMv t3_23), none, 1⟩])))))))
 (.seq (.dreg [⟨q3_25, .p (pFa 1 t3_3), none, 0⟩,
  ⟨q3_26, .p (pFa 2 t3_25), none, 1⟩,
  ⟨q3_27, .r (rLd1 t3_26), none, 3⟩,
  ⟨q3_28, .p (pMv t3_0), none, 0⟩,
  ⟨q3_29, .p (pNilc t3_28), none, 8⟩,
  ⟨q3_30, .p (pFa 2 t3_29), none, 24⟩,
  ⟨q3_31, .r (rLd1 t3_30), none, 56⟩,
  ⟨q3_32, .p (pEq k3 t3_27 t3_31), none, 127⟩,
  ⟨q3_24, .p (pMv t3_32), none, 255⟩])
 (.cond t3_24
 (.reg [⟨q3_33, .p (pMv t3_0), none, 0⟩,
  ⟨q3_34, .p (pFa 1 t3_3), none, 0⟩,
  ⟨q3_35, .r (rLdn 295 t3_34), none, 2⟩,
  ⟨q3_36, .call (.cst (.f 26 [])) [t3_35], none, 6⟩,
  ⟨q3_37, .call (.cst (.f 25 [])) [t3_33, t3_36], none, 15⟩])
 .skip)))))))
 (.seq (.reg [⟨q3_38, .p (pMv t3_0), none, 0⟩,
  ⟨q3_39, .call (.cst (.f 27 [])) [t3_38], none, 1⟩,
  ⟨q3_4, .p (pMv t3_39), none, 3⟩])
 .ret)))⟩
theorem f8_ok : cFunc Cx0 Tryz.f8 = some f8 := by kernel_rfl
noncomputable def f9 : SFn := ⟨2, 8, [p2_0], [(p2_2, none)],
 (.seq (.reg [⟨q2_2, .p (pMv (.cst (.i .u64 (.lit (.ofNat 0))))), none, 0⟩])
 (.seq (.reg [⟨q2_3, .p (pMv t2_0), none, 0⟩,
  ⟨q2_4, .p (pNilc t2_3), none, 1⟩,
  ⟨q2_5, .p (pFa 5 t2_4), none, 3⟩,
  ⟨q2_6, .r (rLd1 t2_5), none, 7⟩,
  ⟨q2_7, .call (.cst (.f 28 [])) [t2_6], none, 15⟩,
  ⟨q2_2, .p (pMv t2_7), none, 31⟩])
 .ret))⟩
theorem f9_ok : cFunc Cx0 Tryz.f9 = some f9 := by kernel_rfl
noncomputable def f10 : SFn := ⟨3, 39, [], [(p3_0, none)],
 (.seq (.reg [⟨q3_0, .p (pMv (.cst (.b false))), none, 0⟩])
 (.seq (.reg [⟨q3_5, .call (.cst (.f 16 [])) [], none, 0⟩,
  ⟨q3_1, .p (pMv t3_5), none, 1⟩])
 (.seq (.seq (.reg [⟨q3_6, .p (pMv t3_1), none, 0⟩,
  ⟨q3_7, .r (rPeq false t3_6 (.cst .np)), none, 1⟩])
 (.cond t3_7
 (.seq (.reg [⟨q3_0, .p (pMv (.cst (.b false))), none, 0⟩])
 .ret)
 .skip))
 (.seq (.reg [⟨q3_9, .p (pBld z24 [(0, 1, c1), (1, 1, c1)]), none, 0⟩,
  ⟨q3_10, .p (pMv t3_1), none, 0⟩,
  ⟨q3_11, .call (.cst (.f 17 [])) [t3_9, c0, t3_10], none, 3⟩,
  ⟨q3_8, .p (pMv t3_11), none, 7⟩,
  ⟨q3_12, .p (pExt t3_8 0), none, 15⟩,
  ⟨q3_13, .p (pExt t3_8 1), none, 15⟩,
  ⟨q3_2, .p (pMv t3_12), none, 31⟩,
  ⟨q3_3, .p (pMv t3_13), none, 127⟩])
 (.seq (.seq (.reg [⟨q3_14, .p (pMv t3_3), none, 0⟩,
  ⟨q3_15, .p (pNe k86 t3_14 c0), none, 1⟩,
  ⟨q3_16, .p (pMv t3_15), none, 3⟩,
  ⟨q3_17, .p (pMv t3_2), (some (p3_16, false)), 7⟩,
  ⟨q3_18, .r (rPeq false t3_17 (.cst .np)), (some (p3_16, false)), 15⟩,
  ⟨q3_19, .p (pPick t3_16 (.cst (.b true)) t3_18), none, 31⟩])
 (.cond t3_19
 (.seq (.reg [⟨q3_0, .p (pMv (.cst (.b false))), none, 0⟩])
 .ret)
 .skip))
 (.seq (.reg [⟨q3_20, .p (pMv t3_2), none, 0⟩,
  ⟨q3_21, .call (.cst (.f 19 [])) [t3_20], none, 1⟩,
  ⟨q3_4, .p (pMv t3_21), none, 3⟩])
 (.seq (.reg [⟨q3_22, .p (pMv t3_4), none, 0⟩,
  ⟨q3_23, .p (pLen t3_22), none, 1⟩,
  ⟨q3_24, .p (pEq k3 t3_23 c3), none, 3⟩,
  ⟨q3_25, .p (pMv t3_24), none, 7⟩,
  ⟨q3_26, .p (pMv t3_4), (some (p3_25, true)), 15⟩,
  ⟨q3_27, .p (pIxL 295 t3_26 c0), (some (p3_25, true)), 31⟩,
  ⟨q3_28, .p (pFa 0 t3_27), (some (p3_25, true)), 63⟩,
  ⟨q3_29, .r (rLd1 t3_28), (some (p3_25, true)), 127⟩,
  ⟨q3_30, .p (pEq k3 t3_29 c5), (some (p3_25, true)), 255⟩,
  ⟨q3_31, .p (pPick t3_25 t3_30 (.cst (.b false))), none, 511⟩,
  ⟨q3_32, .p (pMv t3_31), none, 1023⟩,
  ⟨q3_33, .p (pMv t3_4), (some (p3_32, true)), 2047⟩,
  ⟨q3_34, .p (pIxL 295 t3_33 c2), (some (p3_32, true)), 4095⟩,
  ⟨q3_35, .p (pFa 2 t3_34), (some (p3_32, true)), 8191⟩,
  ⟨q3_36, .r (rLd1 t3_35), (some (p3_32, true)), 16383⟩,
  ⟨q3_37, .p (pEq k3 t3_36 c3), (some (p3_32, true)), 32767⟩,
  ⟨q3_38, .p (pPick t3_32 t3_37 (.cst (.b false))), none, 65535⟩,
  ⟨q3_0, .p (pMv t3_38), none, 131071⟩])
 .ret)))))))⟩
theorem f10_ok : cFunc Cx0 Tryz.f10 = some f10 := by kernel_rfl
noncomputable def f11 : SFn := ⟨3, 27, [p3_0, p3_1, p3_2, p3_3], [(p3_8, some 37)],
 (.seq (.reg [⟨q3_5, .a (aBox 33 t3_1), none, 0⟩,
  ⟨q3_6, .a (aBox 35 t3_2), none, 0⟩,
  ⟨q3_8, .a (aAlloc z39 39), none, 0⟩])
 (.seq (.dreg [⟨q3_10, .r (rLdn 2 t3_5), none, 0⟩,
  ⟨q3_11, .r (rLdn 2 t3_5), none, 0⟩,
  ⟨q3_12, .r (rLdn 32 t3_6), none, 0⟩,
  ⟨q3_13, .p (pMv t3_3), none, 0⟩,
  ⟨q3_14, .call (.cst (.f 29 [])) [t3_11, t3_12, t3_13], none, 14⟩,
  ⟨q3_15, .p (pMv t3_3), none, 0⟩,
  ⟨q3_16, .p (pLen t3_15), none, 32⟩,
  ⟨q3_17, .p (pBld z39 [(0, 2, t3_10), (2, 32, t3_14), (34, 1, t3_16)]), none, 127⟩,
  ⟨q3_9, .a (aAlloc z39 39), none, 0⟩,
  ⟨none, .e (eSt 37 t3_9 t3_17), none, 511⟩])
 (.seq (.dreg [⟨q3_18, .p (pMv t3_0), none, 0⟩,
  ⟨q3_19, .p (pFa 0 t3_5), none, 0⟩,
  ⟨q3_20, .r (rLd1 t3_19), none, 2⟩,
  ⟨q3_21, .p (pAdd (.cst (.i .i64 (.lit (.ofNat 1000)))) t3_20), none, 6⟩,
  ⟨q3_22, .r (rLdn 37 t3_9), none, 0⟩,
  ⟨q3_23, .call (.cst (.f 13 [])) [t3_22], none, 16⟩,
  ⟨q3_24, .call (.cst (.f 30 [])) [t3_18, t3_21, t3_23], none, 63⟩,
  ⟨q3_25, .p (pFa 35 t3_9), none, 127⟩,
  ⟨none, .e (eSt 2 t3_25 t3_24), none, 255⟩])
 (.seq (.reg [⟨q3_26, .r (rLdn 37 t3_9), none, 0⟩,
  ⟨none, .e (eSt 37 t3_8 t3_26), none, 1⟩])
 .ret))))⟩
theorem f11_ok : cFunc Cx0 Tryz.f11 = some f11 := by kernel_rfl
noncomputable def f12 : SFn := ⟨3, 38, [p3_0, p3_1, p3_2], [(p3_6, some 2)],
 (.seq (.reg [⟨q3_6, .a (aAlloc z37 37), none, 0⟩])
 (.seq (.reg [⟨q3_8, .p (pMv t3_1), none, 0⟩,
  ⟨q3_9, .p (pMv t3_2), none, 0⟩,
  ⟨q3_10, .r (rB2s t3_9), none, 2⟩,
  ⟨q3_11, .p (pBld z111 [(0, 1, t3_8), (1, 1, t3_10)]), none, 7⟩,
  ⟨q3_7, .a (aAlloc z111 111), none, 0⟩,
  ⟨none, .e (eSt 2 t3_7 t3_11), none, 31⟩])
 (.seq (.seq (.dreg [⟨q3_12, .p (pMv t3_0), none, 0⟩,
  ⟨q3_13, .p (pNilc t3_12), none, 1⟩,
  ⟨q3_14, .p (pFa 0 t3_13), none, 3⟩,
  ⟨q3_15, .r (rLd1 t3_14), none, 7⟩,
  ⟨q3_16, .r (rLdn 2 t3_7), none, 0⟩,
  ⟨q3_17, .r (rLk k111 (.i .i64 (.lit (.ofNat 0))) t3_15 t3_16 false), none, 31⟩,
  ⟨q3_18, .p (pEq k3 t3_17 c0), none, 63⟩])
 (.cond t3_18
 (.dreg [⟨q3_19, .p (pMv t3_0), none, 0⟩,
  ⟨q3_20, .p (pNilc t3_19), none, 1⟩,
  ⟨q3_21, .p (pFa 0 t3_20), none, 3⟩,
  ⟨q3_22, .r (rLd1 t3_21), none, 7⟩,
  ⟨q3_23, .r (rLdn 2 t3_7), none, 0⟩,
  ⟨q3_24, .p (pMv t3_0), none, 0⟩,
  ⟨q3_25, .p (pNilc t3_24), none, 32⟩,
  ⟨q3_26, .p (pFa 0 t3_25), none, 96⟩,
  ⟨q3_27, .r (rLd1 t3_26), none, 224⟩,
  ⟨q3_28, .r (rLenM t3_27), none, 480⟩,
  ⟨q3_29, .p (pAdd t3_28 c1), none, 992⟩,
  ⟨none, .e (eMu k111 t3_22 t3_23 t3_29), none, 2047⟩])
 .skip))
 (.seq (.dreg [⟨q3_30, .p (pMv t3_1), none, 0⟩,
  ⟨q3_31, .p (pMv t3_0), none, 0⟩,
  ⟨q3_32, .p (pNilc t3_31), none, 2⟩,
  ⟨q3_33, .p (pFa 0 t3_32), none, 6⟩,
  ⟨q3_34, .r (rLd1 t3_33), none, 14⟩,
  ⟨q3_35, .r (rLdn 2 t3_7), none, 0⟩,
  ⟨q3_36, .r (rLk k111 (.i .i64 (.lit (.ofNat 0))) t3_34 t3_35 false), none, 62⟩,
  ⟨q3_37, .p (pBld z37 [(0, 1, t3_30), (1, 1, t3_36)]), none, 127⟩,
  ⟨none, .e (eSt 2 t3_6 t3_37), none, 255⟩])
 .ret))))⟩
theorem f12_ok : cFunc Cx0 Tryz.f12 = some f12 := by kernel_rfl
noncomputable def f13 : SFn := ⟨3, 21, [p3_0], [(p3_2, none)],
 (.seq (.reg [⟨q3_1, .a (aBox 39 t3_0), none, 0⟩,
  ⟨q3_2, .p (pMv (.cst .ns)), none, 0⟩])
 (.seq (.dreg [⟨q3_3, .a (aBsl (zeros z5 7) 5 7 [(0, 1, (.cst (.i .u8 (.lit (.ofNat 114))))), (1, 1, (.cst (.i .u8 (.lit (.ofNat 101))))), (2, 1, (.cst (.i .u8 (.lit (.ofNat 113))))), (3, 1, (.cst (.i .u8 (.lit (.ofNat 117))))), (4, 1, (.cst (.i .u8 (.lit (.ofNat 101))))), (5, 1, (.cst (.i .u8 (.lit (.ofNat 115))))), (6, 1, (.cst (.i .u8 (.lit (.ofNat 116)))))]), none, 0⟩,
  ⟨q3_4, .r (rCvm t3_3), none, 1⟩,
  ⟨q3_5, .call (.cst (.f 32 [])) [t3_4], none, 3⟩,
  ⟨q3_6, .p (pFa 0 t3_1), none, 0⟩,
  ⟨q3_7, .p (pFa 0 t3_6), none, 8⟩,
  ⟨q3_8, .r (rLd1 t3_7), none, 24⟩,
  ⟨q3_9, .call (.cst (.f 33 [])) [t3_8], none, 63⟩,
  ⟨q3_10, .p (pFa 0 t3_1), none, 0⟩,
  ⟨q3_11, .p (pFa 1 t3_10), none, 128⟩,
  ⟨q3_12, .r (rLd1 t3_11), none, 384⟩,
  ⟨q3_13, .call (.cst (.f 33 [])) [t3_12], none, 1023⟩,
  ⟨q3_14, .p (pFa 2 t3_1), none, 0⟩,
  ⟨q3_15, .p (pSlA 32 1 t3_14 none none none), none, 2048⟩,
  ⟨q3_16, .p (pFa 34 t3_1), none, 0⟩,
  ⟨q3_17, .r (rLd1 t3_16), none, 8192⟩,
  ⟨q3_18, .call (.cst (.f 33 [])) [t3_17], none, 26623⟩,
  ⟨q3_19, .a (aBsl (zeros z61 5) 61 5 [(0, 1, t3_5), (1, 1, t3_9), (2, 1, t3_13), (3, 1, t3_15), (4, 1, t3_18)]), none, 65535⟩,
  ⟨q3_20, .call (.cst (.f 31 [])) [t3_19], none, 131071⟩,
  ⟨q3_2, .p (pMv t3_20), none, 262143⟩])
 .ret))⟩
theorem f13_ok : cFunc Cx0 Tryz.f13 = some f13 := by kernel_rfl
noncomputable def f16 : SFn := ⟨2, 4, [], [(p2_0, none)],
 (.seq (.reg [⟨q2_0, .p (pMv (.cst .np)), none, 0⟩])
 (.seq (.reg [⟨q2_1, .a aMkm, none, 0⟩,
  ⟨q2_2, .p (pBld z114 [(0, 1, t2_1)]), none, 1⟩,
  ⟨q2_3, .a (aBox 114 t2_2), none, 3⟩,
  ⟨q2_0, .p (pMv t2_3), none, 7⟩])
 .ret))⟩
theorem f16_ok : cFunc Cx0 Tryz.f16 = some f16 := by kernel_rfl
noncomputable def f17 : SFn := ⟨3, 49, [p3_0, p3_1, p3_2], [(p3_6, none), (p3_7, none)],
 (.seq (.reg [⟨q3_3, .a (aBox 24 t3_0), none, 0⟩,
  ⟨q3_6, .p (pMv (.cst .np)), none, 0⟩,
  ⟨q3_7, .p (pMv c0), none, 2⟩])
 (.seq (.reg [⟨q3_16, .r (rLdn 2 t3_3), none, 0⟩,
  ⟨q3_17, .p (pMv t3_1), none, 0⟩,
  ⟨q3_18, .call (.cst (.f 36 [])) [t3_16, t3_17], none, 3⟩,
  ⟨q3_15, .p (pMv t3_18), none, 7⟩,
  ⟨q3_19, .p (pExt t3_15 0), none, 15⟩,
  ⟨q3_20, .p (pExt t3_15 1), none, 15⟩,
  ⟨q3_8, .p (pMv t3_19), none, 31⟩,
  ⟨q3_9, .p (pMv t3_20), none, 127⟩])
 (.seq (.seq (.reg [⟨q3_21, .p (pMv t3_9), none, 0⟩,
  ⟨q3_22, .p (pNe k86 t3_21 c0), none, 1⟩])
 (.cond t3_22
 (.seq (.reg [⟨q3_23, .p (pMv t3_9), none, 0⟩,
  ⟨q3_6, .p (pMv (.cst .np)), none, 0⟩,
  ⟨q3_7, .p (pMv t3_23), none, 3⟩])
 .ret)
 .skip))
 (.seq (.reg [⟨q3_25, .r (rLdn 2 t3_3), none, 0⟩,
  ⟨q3_26, .p (pMv t3_1), none, 0⟩,
  ⟨q3_27, .call (.cst (.f 37 [])) [t3_25, t3_26], none, 3⟩,
  ⟨q3_24, .p (pMv t3_27), none, 7⟩,
  ⟨q3_28, .p (pExt t3_24 0), none, 15⟩,
  ⟨q3_29, .p (pExt t3_24 1), none, 15⟩,
  ⟨q3_10, .p (pMv t3_28), none, 31⟩,
  ⟨q3_11, .p (pMv t3_29), none, 127⟩])
 (.seq (.reg [⟨q3_31, .r (rLdn 2 t3_3), none, 0⟩,
  ⟨q3_32, .p (pMv t3_1), none, 0⟩,
  ⟨q3_33, .call (.cst (.f 38 [])) [t3_31, t3_32], none, 3⟩,
  ⟨q3_30, .p (pMv t3_33), none, 7⟩,
  ⟨q3_34, .p (pExt t3_30 0), none, 15⟩,
  ⟨q3_35, .p (pExt t3_30 1), none, 15⟩,
  ⟨q3_12, .p (pMv t3_34), none, 31⟩,
  ⟨q3_13, .p (pMv t3_35), none, 127⟩])
 (.seq (.dreg [⟨q3_36, .r (rLdn 2 t3_3), none, 0⟩,
  ⟨q3_37, .p (pMv t3_1), none, 0⟩,
  ⟨q3_38, .p (pMv t3_2), none, 0⟩,
  ⟨q3_39, .p (pMv t3_8), none, 0⟩,
  ⟨q3_40, .p (pMv t3_10), none, 0⟩,
  ⟨q3_41, .call (.cst (.f 39 [])) [], none, 0⟩,
  ⟨q3_42, .p (pMv t3_12), none, 0⟩,
  ⟨q3_43, .call (.cst (.f 40 [])) [], none, 32⟩,
  ⟨q3_44, .p (pBld z106 [(0, 2, t3_36), (2, 1, t3_37), (3, 1, t3_38), (5, 1, t3_39), (6, 1, t3_40), (7, 1, t3_41), (8, 1, t3_42), (9, 1, t3_43)]), none, 255⟩,
  ⟨q3_45, .a (aBox 106 t3_44), none, 511⟩,
  ⟨q3_14, .p (pMv t3_45), none, 1023⟩])
 (.seq (.reg [⟨q3_46, .p (pMv t3_14), none, 0⟩,
  ⟨q3_47, .call (.cst (.f 41 [])) [t3_46], none, 1⟩])
 (.seq (.reg [⟨q3_48, .p (pMv t3_14), none, 0⟩,
  ⟨q3_6, .p (pMv t3_48), none, 1⟩,
  ⟨q3_7, .p (pMv c0), none, 3⟩])
 .ret))))))))⟩
theorem f17_ok : cFunc Cx0 Tryz.f17 = some f17 := by kernel_rfl
noncomputable def f19 : SFn := ⟨3, 18, [p3_0], [(p3_2, none)],
 (.seq (.reg [⟨q3_2, .p (pMv (.cst .ns)), none, 0⟩])
 (.seq (.reg [⟨q3_3, .p (pMv t3_0), none, 0⟩,
  ⟨q3_4, .p (pNilc t3_3), none, 1⟩,
  ⟨q3_5, .p (pFa 4 t3_4), none, 3⟩,
  ⟨none, .e (eSt 1 t3_5 (.cst (.b true))), none, 7⟩])
 (.seq (.reg [⟨q3_6, .p (pMv t3_0), none, 0⟩,
  ⟨q3_7, .p (pMv t3_0), none, 0⟩,
  ⟨q3_8, .p (pNilc t3_7), none, 2⟩,
  ⟨q3_9, .p (pFa 10 t3_8), none, 6⟩,
  ⟨q3_10, .r (rLd1 t3_9), none, 14⟩,
  ⟨q3_11, .p (pNilc t3_10), none, 30⟩,
  ⟨q3_12, .p (pFa 0 t3_11), none, 62⟩,
  ⟨q3_13, .r (rLd1 t3_12), none, 126⟩,
  ⟨q3_14, .call (.cst (.f 44 [])) [t3_13], none, 254⟩,
  ⟨q3_15, .call (.cst (.f 43 [])) [t3_6, t3_14], none, 511⟩])
 (.seq (.reg [⟨q3_16, .p (pMv t3_0), none, 0⟩,
  ⟨q3_17, .call (.cst (.f 27 [])) [t3_16], none, 1⟩,
  ⟨q3_2, .p (pMv t3_17), none, 3⟩])
 .ret))))⟩
theorem f19_ok : cFunc Cx0 Tryz.f19 = some f19 := by kernel_rfl
noncomputable def f24 : SFn := ⟨4, 92, [p4_0], [],
 (.seq (.reg [⟨q4_7, .p (pMv t4_0), none, 0⟩,
  ⟨q4_8, .p (pNilc t4_7), none, 1⟩,
  ⟨q4_9, .p (pFa 5 t4_8), none, 3⟩,
  ⟨q4_10, .r (rLd1 t4_9), none, 7⟩,
  ⟨q4_11, .call (.cst (.f 47 [])) [t4_10, (.cst (.i .u64 (.lit (.ofNat 1))))], none, 15⟩])
 (.seq (.reg [⟨q4_12, .p (pMv t4_0), none, 0⟩,
  ⟨q4_13, .p (pNilc t4_12), none, 1⟩,
  ⟨q4_14, .p (pFa 5 t4_13), none, 3⟩,
  ⟨q4_15, .r (rLd1 t4_14), none, 7⟩,
  ⟨q4_16, .call (.cst (.f 35 [])) [t4_15], none, 15⟩,
  ⟨q4_2, .a (aAlloc z22 22), none, 0⟩,
  ⟨none, .e (eSt 1 t4_2 t4_16), none, 63⟩])
 (.seq (.block 0 (.loop (.block 1 (.seq (.reg [⟨q4_17, .p (pMv t4_0), none, 0⟩,
  ⟨q4_18, .p (pNilc t4_17), none, 1⟩,
  ⟨q4_19, .p (pFa 10 t4_18), none, 3⟩,
  ⟨q4_20, .r (rLd1 t4_19), none, 7⟩,
  ⟨q4_21, .p (pNilc t4_20), none, 15⟩,
  ⟨q4_22, .p (pFa 3 t4_21), none, 31⟩,
  ⟨q4_23, .r (rLd1 t4_22), none, 63⟩,
  ⟨q4_24, .p (pMkf 49 [t4_2]), none, 0⟩,
  ⟨q4_25, .call (.cst (.f 48 [])) [t4_23, t4_24], none, 255⟩,
  ⟨q4_3, .p (pMv t4_25), none, 511⟩])
 (.seq (.seq (.reg [⟨q4_26, .p (pMv t4_3), none, 0⟩,
  ⟨q4_27, .p (pLt t4_26 c0), none, 1⟩])
 (.cond t4_27
 (.exit 0)
 .skip))
 (.seq (.reg [⟨q4_28, .p (pMv t4_0), none, 0⟩,
  ⟨q4_29, .p (pNilc t4_28), none, 1⟩,
  ⟨q4_30, .p (pFa 10 t4_29), none, 3⟩,
  ⟨q4_31, .r (rLd1 t4_30), none, 7⟩,
  ⟨q4_32, .p (pNilc t4_31), none, 15⟩,
  ⟨q4_33, .p (pFa 3 t4_32), none, 31⟩,
  ⟨q4_34, .r (rLd1 t4_33), none, 63⟩,
  ⟨q4_35, .p (pMv t4_3), none, 0⟩,
  ⟨q4_36, .p (pIxL 3 t4_34 t4_35), none, 255⟩,
  ⟨q4_37, .p (pFa 1 t4_36), none, 511⟩,
  ⟨q4_38, .r (rLdn 2 t4_37), none, 1023⟩,
  ⟨q4_4, .a (aAlloc z145 145), none, 0⟩,
  ⟨none, .e (eSt 2 t4_4 t4_38), none, 4095⟩])
 (.seq (.dreg [⟨q4_39, .p (pMv t4_0), none, 0⟩,
  ⟨q4_40, .p (pNilc t4_39), none, 1⟩,
  ⟨q4_41, .p (pFa 10 t4_40), none, 3⟩,
  ⟨q4_42, .r (rLd1 t4_41), none, 7⟩,
  ⟨q4_43, .p (pMv t4_0), none, 0⟩,
  ⟨q4_44, .p (pNilc t4_43), none, 16⟩,
  ⟨q4_45, .p (pFa 10 t4_44), none, 48⟩,
  ⟨q4_46, .r (rLd1 t4_45), none, 112⟩,
  ⟨q4_47, .p (pNilc t4_46), none, 240⟩,
  ⟨q4_48, .p (pFa 3 t4_47), none, 496⟩,
  ⟨q4_49, .r (rLd1 t4_48), none, 1008⟩,
  ⟨q4_50, .p (pMv t4_3), none, 0⟩,
  ⟨q4_51, .p (pMv t4_3), none, 0⟩,
  ⟨q4_52, .p (pAdd t4_51 c1), none, 4096⟩,
  ⟨q4_53, .call (.cst (.f 50 [])) [t4_49, t4_50, t4_52], none, 16368⟩,
  ⟨q4_54, .p (pNilc t4_42), none, 32767⟩,
  ⟨q4_55, .p (pFa 3 t4_54), none, 65535⟩,
  ⟨none, .e (eSt 1 t4_55 t4_53), none, 131071⟩])
 (.dreg [⟨q4_56, .p (pMv t4_0), none, 0⟩,
  ⟨q4_57, .p (pMv t4_0), none, 0⟩,
  ⟨q4_58, .p (pNilc t4_57), none, 2⟩,
  ⟨q4_59, .p (pFa 10 t4_58), none, 6⟩,
  ⟨q4_60, .r (rLd1 t4_59), none, 14⟩,
  ⟨q4_61, .p (pNilc t4_60), none, 30⟩,
  ⟨q4_62, .p (pFa 0 t4_61), none, 62⟩,
  ⟨q4_63, .r (rLd1 t4_62), none, 126⟩,
  ⟨q4_64, .r (rLdn 2 t4_4), none, 0⟩,
  ⟨q4_65, .call (.cst (.f 51 [])) [t4_63, t4_64], none, 510⟩,
  ⟨q4_66, .call (.cst (.f 43 [])) [t4_56, t4_65], none, 1023⟩]))))))))
 (.seq (.seq (.dreg [⟨q4_67, .p (pMv t4_0), none, 0⟩,
  ⟨q4_68, .p (pNilc t4_67), none, 1⟩,
  ⟨q4_69, .p (pFa 8 t4_68), none, 3⟩,
  ⟨q4_70, .r (rLd1 t4_69), none, 7⟩,
  ⟨q4_71, .p (pMv t4_0), none, 0⟩,
  ⟨q4_72, .p (pNilc t4_71), none, 16⟩,
  ⟨q4_73, .p (pFa 3 t4_72), none, 48⟩,
  ⟨q4_74, .r (rLd1 t4_73), none, 112⟩,
  ⟨q4_75, .r (rLd1 t4_2), none, 0⟩,
  ⟨q4_76, .call (.cst (.f 52 [])) [t4_70, t4_74, t4_75], none, 511⟩,
  ⟨q4_77, .p (pLen t4_76), none, 1023⟩,
  ⟨q4_78, .p (pMv c0), none, 0⟩])
 (.block 2 (.loop (.seq (.reg [⟨q4_79, .p (pLt t4_78 t4_77), none, 0⟩])
 (.seq (.cond t4_79
 .skip
 (.exit 2))
 (.seq (.block 3 (.seq (.reg [⟨q4_80, .p (pIxL 4 t4_76 t4_78), none, 0⟩,
  ⟨q4_81, .r (rLdn 4 t4_80), none, 1⟩,
  ⟨q4_6, .a (aAlloc z65 65), none, 0⟩,
  ⟨none, .e (eSt 4 t4_6 t4_81), none, 7⟩])
 (.reg [⟨q4_82, .p (pMv t4_0), none, 0⟩,
  ⟨q4_83, .r (rLdn 4 t4_6), none, 0⟩,
  ⟨q4_84, .p (pBld z70 [(0, 1, c12), (282, 4, t4_83)]), none, 2⟩,
  ⟨q4_85, .call (.cst (.f 53 [])) [t4_82, t4_84], none, 7⟩])))
 (.reg [⟨q4_86, .p (pAdd t4_78 c1), none, 0⟩,
  ⟨q4_78, .p (pMv t4_86), none, 1⟩])))))))
 (.seq (.reg [⟨q4_87, .r (rLd1 t4_2), none, 0⟩,
  ⟨q4_88, .p (pRem t4_87 (.cst (.i .u64 (.lit (.ofNat 10))))), none, 1⟩,
  ⟨q4_89, .p (pEq k22 t4_88 (.cst (.i .u64 (.lit (.ofNat 0))))), none, 3⟩])
 (.cond t4_89
 (.reg [⟨q4_90, .p (pMv t4_0), none, 0⟩,
  ⟨q4_91, .call (.cst (.f 54 [])) [t4_90], none, 1⟩])
 .skip))))))⟩
theorem f24_ok : cFunc Cx0 Tryz.f24 = some f24 := by kernel_rfl
noncomputable def f25 : SFn := ⟨4, 101, [p4_0, p4_1], [],
 (.seq (.reg [⟨q4_3, .a (aBox 70 t4_1), none, 0⟩])
 (.seq (.seq (.reg [⟨q4_4, .p (pMv t4_0), none, 0⟩,
  ⟨q4_5, .r (rLdn 295 t4_3), none, 0⟩,
  ⟨q4_6, .call (.cst (.f 55 [])) [t4_4, t4_5], none, 3⟩])
 (.cond t4_6
 .ret
 .skip))
 (.seq (.reg [⟨q4_7, .p (pFa 0 t4_3), none, 0⟩,
  ⟨q4_8, .r (rLd1 t4_7), none, 1⟩])
 (.block 0 (.seq (.reg [⟨q4_10, .p (pEq k3 t4_8 c1), none, 0⟩,
  ⟨q4_9, .p (pMv t4_10), none, 1⟩])
 (.cond t4_9
 (.reg [⟨q4_11, .p (pMv t4_0), none, 0⟩,
  ⟨q4_12, .r (rLdn 295 t4_3), none, 0⟩,
  ⟨q4_13, .call (.cst (.f 56 [])) [t4_11, t4_12], none, 3⟩])
 (.seq (.reg [⟨q4_15, .p (pEq k3 t4_8 c3), none, 0⟩,
  ⟨q4_14, .p (pMv t4_15), none, 1⟩])
 (.cond t4_14
 (.reg [⟨q4_16, .p (pMv t4_0), none, 0⟩,
  ⟨q4_17, .r (rLdn 295 t4_3), none, 0⟩,
  ⟨q4_18, .call (.cst (.f 57 [])) [t4_16, t4_17], none, 3⟩])
 (.seq (.reg [⟨q4_20, .p (pEq k3 t4_8 c5), none, 0⟩,
  ⟨q4_19, .p (pMv t4_20), none, 1⟩])
 (.cond t4_19
 (.reg [⟨q4_21, .p (pMv t4_0), none, 0⟩,
  ⟨q4_22, .r (rLdn 295 t4_3), none, 0⟩,
  ⟨q4_23, .call (.cst (.f 58 [])) [t4_21, t4_22], none, 3⟩])
 (.seq (.reg [⟨q4_25, .p (pEq k3 t4_8 c6), none, 0⟩,
  ⟨q4_24, .p (pMv t4_25), none, 1⟩])
 (.cond t4_24
 (.reg [⟨q4_26, .p (pMv t4_0), none, 0⟩,
  ⟨q4_27, .p (pFa 157 t4_3), none, 0⟩,
  ⟨q4_28, .r (rLdn 6 t4_27), none, 2⟩,
  ⟨q4_29, .call (.cst (.f 59 [])) [t4_26, t4_28], none, 7⟩])
 (.seq (.reg [⟨q4_31, .p (pEq k3 t4_8 c7), none, 0⟩,
  ⟨q4_30, .p (pMv t4_31), none, 1⟩])
 (.cond t4_30
 (.reg [⟨q4_32, .p (pMv t4_0), none, 0⟩,
  ⟨q4_33, .p (pFa 1 t4_3), none, 0⟩,
  ⟨q4_34, .r (rLd1 t4_33), none, 2⟩,
  ⟨q4_35, .p (pFa 163 t4_3), none, 0⟩,
  ⟨q4_36, .r (rLdn 11 t4_35), none, 8⟩,
  ⟨q4_37, .call (.cst (.f 60 [])) [t4_32, t4_34, t4_36], none, 31⟩])
 (.seq (.reg [⟨q4_39, .p (pEq k3 t4_8 c8), none, 0⟩,
  ⟨q4_38, .p (pMv t4_39), none, 1⟩])
 (.cond t4_38
 (.reg [⟨q4_40, .p (pMv t4_0), none, 0⟩,
  ⟨q4_41, .p (pFa 1 t4_3), none, 0⟩,
  ⟨q4_42, .r (rLd1 t4_41), none, 2⟩,
  ⟨q4_43, .p (pFa 174 t4_3), none, 0⟩,
  ⟨q4_44, .r (rLdn 38 t4_43), none, 8⟩,
  ⟨q4_45, .call (.cst (.f 61 [])) [t4_40, t4_42, t4_44], none, 31⟩])
 (.seq (.reg [⟨q4_47, .p (pEq k3 t4_8 c14), none, 0⟩,
  ⟨q4_46, .p (pMv t4_47), none, 1⟩])
 (.cond t4_46
 (.reg [⟨q4_48, .p (pMv t4_0), none, 0⟩,
  ⟨q4_49, .p (pFa 287 t4_3), none, 0⟩,
  ⟨q4_50, .r (rLdn 8 t4_49), none, 2⟩,
  ⟨q4_51, .call (.cst (.f 62 [])) [t4_48, t4_50], none, 7⟩])
 (.seq (.reg [⟨q4_53, .p (pEq k3 t4_8 c10), none, 0⟩,
  ⟨q4_52, .p (pMv t4_53), none, 1⟩])
 (.cond t4_52
 (.seq (.dreg [⟨q4_54, .p (pMv t4_0), none, 0⟩,
  ⟨q4_55, .p (pFa 1 t4_3), none, 0⟩,
  ⟨q4_56, .r (rLd1 t4_55), none, 2⟩,
  ⟨q4_57, .call (.cst (.f 63 [])) [t4_54, t4_56], none, 7⟩,
  ⟨q4_58, .p (pMv t4_57), none, 15⟩,
  ⟨q4_59, .p (pMv t4_0), (some (p4_58, true)), 31⟩,
  ⟨q4_60, .p (pNilc t4_59), (some (p4_58, true)), 63⟩,
  ⟨q4_61, .p (pFa 8 t4_60), (some (p4_58, true)), 127⟩,
  ⟨q4_62, .r (rLd1 t4_61), (some (p4_58, true)), 255⟩,
  ⟨q4_63, .p (pFa 248 t4_3), (some (p4_58, true)), 31⟩,
  ⟨q4_64, .r (rLdn 34 t4_63), (some (p4_58, true)), 543⟩,
  ⟨q4_65, .call (.cst (.f 64 [])) [t4_62, t4_64], (some (p4_58, true)), 2047⟩,
  ⟨q4_66, .p (pEq k86 t4_65 c0), (some (p4_58, true)), 4095⟩,
  ⟨q4_67, .p (pPick t4_58 t4_66 (.cst (.b false))), none, 8191⟩])
 (.cond t4_67
 (.reg [⟨q4_68, .p (pMv t4_0), none, 0⟩,
  ⟨q4_69, .p (pFa 1 t4_3), none, 0⟩,
  ⟨q4_70, .r (rLd1 t4_69), none, 2⟩,
  ⟨q4_71, .p (pFa 248 t4_3), none, 0⟩,
  ⟨q4_72, .p (pFa 0 t4_71), none, 8⟩,
  ⟨q4_73, .r (rLd1 t4_72), none, 24⟩,
  ⟨q4_74, .p (pBld z70 [(0, 1, c11), (212, 1, t4_73)]), none, 56⟩,
  ⟨q4_75, .call (.cst (.f 65 [])) [t4_68, t4_70, t4_74], none, 127⟩])
 .skip))
 (.seq (.reg [⟨q4_77, .p (pEq k3 t4_8 c12), none, 0⟩,
  ⟨q4_76, .p (pMv t4_77), none, 1⟩])
 (.cond t4_76
 (.seq (.reg [⟨q4_78, .p (pMv t4_0), none, 0⟩,
  ⟨q4_79, .p (pFa 1 t4_3), none, 0⟩,
  ⟨q4_80, .r (rLd1 t4_79), none, 2⟩,
  ⟨q4_81, .call (.cst (.f 66 [])) [t4_78, t4_80], none, 7⟩,
  ⟨q4_82, .p (pMv t4_81), none, 15⟩,
  ⟨q4_83, .p (pFa 282 t4_3), (some (p4_82, true)), 31⟩,
  ⟨q4_84, .p (pFa 0 t4_83), (some (p4_82, true)), 63⟩,
  ⟨q4_85, .r (rLd1 t4_84), (some (p4_82, true)), 127⟩,
  ⟨q4_86, .p (pFa 1 t4_3), (some (p4_82, true)), 31⟩,
  ⟨q4_87, .r (rLd1 t4_86), (some (p4_82, true)), 287⟩,
  ⟨q4_88, .p (pEq k3 t4_85 t4_87), (some (p4_82, true)), 1023⟩,
  ⟨q4_89, .p (pPick t4_82 t4_88 (.cst (.b false))), none, 2047⟩])
 (.cond t4_89
 (.dreg [⟨q4_90, .p (pMv t4_0), none, 0⟩,
  ⟨q4_91, .p (pNilc t4_90), none, 1⟩,
  ⟨q4_92, .p (pFa 8 t4_91), none, 3⟩,
  ⟨q4_93, .r (rLd1 t4_92), none, 7⟩,
  ⟨q4_94, .p (pMv t4_0), none, 0⟩,
  ⟨q4_95, .p (pNilc t4_94), none, 16⟩,
  ⟨q4_96, .p (pFa 3 t4_95), none, 48⟩,
  ⟨q4_97, .r (rLd1 t4_96), none, 112⟩,
  ⟨q4_98, .p (pFa 282 t4_3), none, 0⟩,
  ⟨q4_99, .r (rLdn 4 t4_98), none, 256⟩,
  ⟨q4_100, .call (.cst (.f 67 [])) [t4_93, t4_97, t4_99], none, 1023⟩])
 .skip))
 .skip))))))))))))))))))))))⟩
theorem f25_ok : cFunc Cx0 Tryz.f25 = some f25 := by kernel_rfl
noncomputable def f26 : SFn := ⟨4, 98, [p4_0], [(p4_2, some 295)],
 (.seq (.reg [⟨q4_1, .a (aBox 70 t4_0), none, 0⟩,
  ⟨q4_2, .a (aAlloc z70 70), none, 0⟩])
 (.seq (.reg [⟨q4_4, .p (pFa 0 t4_1), none, 0⟩,
  ⟨q4_5, .r (rLd1 t4_4), none, 1⟩,
  ⟨q4_6, .p (pFa 1 t4_1), none, 0⟩,
  ⟨q4_7, .r (rLd1 t4_6), none, 4⟩,
  ⟨q4_8, .p (pFa 2 t4_1), none, 0⟩,
  ⟨q4_9, .r (rLd1 t4_8), none, 16⟩,
  ⟨q4_10, .p (pBld z70 [(0, 1, t4_5), (1, 1, t4_7), (2, 1, t4_9)]), none, 63⟩,
  ⟨q4_3, .a (aAlloc z70 70), none, 0⟩,
  ⟨none, .e (eSt 295 t4_3 t4_10), none, 255⟩])
 (.seq (.seq (.reg [⟨q4_11, .p (pFa 0 t4_1), none, 0⟩,
  ⟨q4_12, .r (rLd1 t4_11), none, 1⟩])
 (.block 0 (.seq (.reg [⟨q4_15, .p (pEq k3 t4_12 c1), none, 0⟩,
  ⟨q4_14, .p (pMv t4_15), none, 1⟩])
 (.cond t4_14
 (.reg [⟨q4_16, .p (pFa 3 t4_1), none, 0⟩,
  ⟨q4_17, .r (rLdn 37 t4_16), none, 1⟩,
  ⟨q4_18, .p (pFa 3 t4_3), none, 3⟩,
  ⟨none, .e (eSt 37 t4_18 t4_17), none, 7⟩])
 (.seq (.reg [⟨q4_20, .p (pEq k3 t4_12 c2), none, 0⟩,
  ⟨q4_19, .p (pMv t4_20), none, 1⟩])
 (.cond t4_19
 (.reg [⟨q4_21, .p (pFa 40 t4_1), none, 0⟩,
  ⟨q4_22, .r (rLdn 38 t4_21), none, 1⟩,
  ⟨q4_23, .p (pFa 40 t4_3), none, 3⟩,
  ⟨none, .e (eSt 38 t4_23 t4_22), none, 7⟩])
 (.seq (.reg [⟨q4_25, .p (pEq k3 t4_12 c3), none, 0⟩,
  ⟨q4_24, .p (pMv t4_25), none, 1⟩])
 (.cond t4_24
 (.reg [⟨q4_26, .p (pFa 78 t4_1), none, 0⟩,
  ⟨q4_27, .r (rLdn 38 t4_26), none, 1⟩,
  ⟨q4_28, .p (pFa 78 t4_3), none, 3⟩,
  ⟨none, .e (eSt 38 t4_28 t4_27), none, 7⟩])
 (.seq (.reg [⟨q4_30, .p (pEq k3 t4_12 c4), none, 0⟩,
  ⟨q4_29, .p (pMv t4_30), none, 1⟩])
 (.cond t4_29
 (.reg [⟨q4_31, .p (pFa 116 t4_1), none, 0⟩,
  ⟨q4_32, .r (rLdn 38 t4_31), none, 1⟩,
  ⟨q4_33, .p (pFa 116 t4_3), none, 3⟩,
  ⟨none, .e (eSt 38 t4_33 t4_32), none, 7⟩])
 (.seq (.reg [⟨q4_35, .p (pEq k3 t4_12 c5), none, 0⟩,
  ⟨q4_34, .p (pMv t4_35), none, 1⟩])
 (.cond t4_34
 (.dreg [⟨q4_36, .p (pFa 154 t4_1), none, 0⟩,
  ⟨q4_37, .r (rLd1 t4_36), none, 1⟩,
  ⟨q4_38, .p (pFa 155 t4_1), none, 0⟩,
  ⟨q4_39, .r (rLd1 t4_38), none, 4⟩,
  ⟨q4_40, .p (pFa 156 t4_1), none, 0⟩,
  ⟨q4_41, .r (rLd1 t4_40), none, 16⟩,
  ⟨q4_42, .p (pFa 154 t4_3), none, 3⟩,
  ⟨none, .e (eSt 1 t4_42 t4_37), none, 67⟩,
  ⟨q4_43, .p (pFa 155 t4_3), none, 207⟩,
  ⟨none, .e (eSt 1 t4_43 t4_39), none, 463⟩,
  ⟨q4_44, .p (pFa 156 t4_3), none, 1023⟩,
  ⟨none, .e (eSt 1 t4_44 t4_41), none, 2047⟩])
 (.seq (.reg [⟨q4_46, .p (pEq k3 t4_12 c6), none, 0⟩,
  ⟨q4_45, .p (pMv t4_46), none, 1⟩])
 (.cond t4_45
 (.reg [⟨q4_47, .p (pFa 157 t4_1), none, 0⟩,
  ⟨q4_48, .r (rLdn 6 t4_47), none, 1⟩,
  ⟨q4_49, .p (pFa 157 t4_3), none, 3⟩,
  ⟨none, .e (eSt 6 t4_49 t4_48), none, 7⟩])
 (.seq (.reg [⟨q4_51, .p (pEq k3 t4_12 c7), none, 0⟩,
  ⟨q4_50, .p (pMv t4_51), none, 1⟩])
 (.cond t4_50
 (.reg [⟨q4_52, .p (pFa 163 t4_1), none, 0⟩,
  ⟨q4_53, .r (rLdn 11 t4_52), none, 1⟩,
  ⟨q4_54, .p (pFa 163 t4_3), none, 3⟩,
  ⟨none, .e (eSt 11 t4_54 t4_53), none, 7⟩])
 (.seq (.reg [⟨q4_56, .p (pEq k3 t4_12 c8), none, 0⟩,
  ⟨q4_55, .p (pMv t4_56), none, 1⟩])
 (.cond t4_55
 (.reg [⟨q4_57, .p (pFa 174 t4_1), none, 0⟩,
  ⟨q4_58, .r (rLdn 38 t4_57), none, 1⟩,
  ⟨q4_59, .p (pFa 174 t4_3), none, 3⟩,
  ⟨none, .e (eSt 38 t4_59 t4_58), none, 7⟩])
 (.seq (.reg [⟨q4_61, .p (pEq k3 t4_12 c9), none, 0⟩,
  ⟨q4_60, .p (pMv t4_61), none, 1⟩])
 (.cond t4_60
 (.dreg [⟨q4_62, .p (pFa 212 t4_1), none, 0⟩,
  ⟨q4_63, .r (rLd1 t4_62), none, 1⟩,
  ⟨q4_64, .p (pFa 213 t4_1), none, 0⟩,
  ⟨q4_65, .r (rLdn 35 t4_64), none, 4⟩,
  ⟨q4_66, .p (pFa 212 t4_3), none, 3⟩,
  ⟨none, .e (eSt 1 t4_66 t4_63), none, 19⟩,
  ⟨q4_67, .p (pFa 213 t4_3), none, 63⟩,
  ⟨none, .e (eSt 35 t4_67 t4_65), none, 127⟩])
 (.seq (.reg [⟨q4_69, .p (pEq k3 t4_12 c10), none, 0⟩,
  ⟨q4_68, .p (pMv t4_69), none, 1⟩])
 (.cond t4_68
 (.reg [⟨q4_70, .p (pFa 248 t4_1), none, 0⟩,
  ⟨q4_71, .r (rLdn 34 t4_70), none, 1⟩,
  ⟨q4_72, .p (pFa 248 t4_3), none, 3⟩,
  ⟨none, .e (eSt 34 t4_72 t4_71), none, 7⟩])
 (.seq (.reg [⟨q4_74, .p (pEq k3 t4_12 c11), none, 0⟩,
  ⟨q4_73, .p (pMv t4_74), none, 1⟩])
 (.cond t4_73
 (.reg [⟨q4_75, .p (pFa 212 t4_1), none, 0⟩,
  ⟨q4_76, .r (rLd1 t4_75), none, 1⟩,
  ⟨q4_77, .p (pFa 212 t4_3), none, 3⟩,
  ⟨none, .e (eSt 1 t4_77 t4_76), none, 7⟩])
 (.seq (.reg [⟨q4_79, .p (pEq k3 t4_12 c12), none, 0⟩,
  ⟨q4_78, .p (pMv t4_79), none, 1⟩])
 (.cond t4_78
 (.reg [⟨q4_80, .p (pFa 282 t4_1), none, 0⟩,
  ⟨q4_81, .r (rLdn 4 t4_80), none, 1⟩,
  ⟨q4_82, .p (pFa 282 t4_3), none, 3⟩,
  ⟨none, .e (eSt 4 t4_82 t4_81), none, 7⟩])
 (.seq (.reg [⟨q4_84, .p (pEq k3 t4_12 c13), none, 0⟩,
  ⟨q4_83, .p (pMv t4_84), none, 1⟩])
 (.cond t4_83
 (.dreg [⟨q4_85, .p (pFa 212 t4_1), none, 0⟩,
  ⟨q4_86, .r (rLd1 t4_85), none, 1⟩,
  ⟨q4_87, .p (pFa 286 t4_1), none, 0⟩,
  ⟨q4_88, .r (rLd1 t4_87), none, 4⟩,
  ⟨q4_89, .p (pFa 212 t4_3), none, 3⟩,
  ⟨none, .e (eSt 1 t4_89 t4_86), none, 19⟩,
  ⟨q4_90, .p (pFa 286 t4_3), none, 63⟩,
  ⟨none, .e (eSt 1 t4_90 t4_88), none, 127⟩])
 (.seq (.reg [⟨q4_92, .p (pEq k3 t4_12 c14), none, 0⟩,
  ⟨q4_91, .p (pMv t4_92), none, 1⟩])
 (.cond t4_91
 (.reg [⟨q4_93, .p (pFa 287 t4_1), none, 0⟩,
  ⟨q4_94, .r (rLdn 8 t4_93), none, 1⟩,
  ⟨q4_95, .p (pFa 287 t4_3), none, 3⟩,
  ⟨none, .e (eSt 8 t4_95 t4_94), none, 7⟩])
 (.seq (.reg [⟨q4_13, .p (pBld z70 []), none, 0⟩,
  ⟨none, .e (eSt 295 t4_2 t4_13), none, 1⟩])
 .ret)))))))))))))))))))))))))))))))
 (.seq (.reg [⟨q4_96, .r (rLdn 295 t4_3), none, 0⟩,
  ⟨q4_97, .call (.cst (.f 68 [])) [t4_96], none, 1⟩,
  ⟨none, .e (eSt 295 t4_2 t4_97), none, 3⟩])
 .ret))))⟩
theorem f26_ok : cFunc Cx0 Tryz.f26 = some f26 := by kernel_rfl
noncomputable def f27 : SFn := ⟨2, 12, [p2_0], [(p2_2, none)],
 (.seq (.reg [⟨q2_2, .p (pMv (.cst .ns)), none, 0⟩])
 (.seq (.reg [⟨q2_4, .p (pMv t2_0), none, 0⟩,
  ⟨q2_5, .p (pNilc t2_4), none, 1⟩,
  ⟨q2_6, .p (pFa 13 t2_5), none, 3⟩,
  ⟨q2_7, .r (rLd1 t2_6), none, 7⟩,
  ⟨q2_3, .p (pMv t2_7), none, 15⟩])
 (.seq (.reg [⟨q2_8, .p (pMv t2_0), none, 0⟩,
  ⟨q2_9, .p (pNilc t2_8), none, 1⟩,
  ⟨q2_10, .p (pFa 13 t2_9), none, 3⟩,
  ⟨none, .e (eSt 1 t2_10 (.cst .ns)), none, 7⟩])
 (.seq (.reg [⟨q2_11, .p (pMv t2_3), none, 0⟩,
  ⟨q2_2, .p (pMv t2_11), none, 1⟩])
 .ret))))⟩
theorem f27_ok : cFunc Cx0 Tryz.f27 = some f27 := by kernel_rfl
noncomputable def f28 : SFn := ⟨2, 7, [p2_0], [(p2_2, none)],
 (.seq (.reg [⟨q2_2, .p (pMv (.cst (.i .u64 (.lit (.ofNat 0))))), none, 0⟩])
 (.seq (.reg [⟨q2_3, .p (pMv t2_0), none, 0⟩,
  ⟨q2_4, .p (pNilc t2_3), none, 1⟩,
  ⟨q2_5, .p (pFa 4 t2_4), none, 3⟩,
  ⟨q2_6, .r (rLd1 t2_5), none, 7⟩,
  ⟨q2_2, .p (pMv t2_6), none, 15⟩])
 .ret))⟩
theorem f28_ok : cFunc Cx0 Tryz.f28 = some f28 := by kernel_rfl
noncomputable def f29 : SFn := ⟨3, 22, [p3_0, p3_1, p3_2], [(p3_6, some 32)],
 (.seq (.reg [⟨q3_3, .a (aBox 33 t3_0), none, 0⟩,
  ⟨q3_4, .a (aBox 35 t3_1), none, 0⟩,
  ⟨q3_6, .a (aAlloc z35 35), none, 0⟩])
 (.seq (.dreg [⟨q3_7, .a (aBsl (zeros z5 6) 5 6 [(0, 1, (.cst (.i .u8 (.lit (.ofNat 99))))), (1, 1, (.cst (.i .u8 (.lit (.ofNat 111))))), (2, 1, (.cst (.i .u8 (.lit (.ofNat 109))))), (3, 1, (.cst (.i .u8 (.lit (.ofNat 109))))), (4, 1, (.cst (.i .u8 (.lit (.ofNat 105))))), (5, 1, (.cst (.i .u8 (.lit (.ofNat 116)))))]), none, 0⟩,
  ⟨q3_8, .r (rCvm t3_7), none, 1⟩,
  ⟨q3_9, .call (.cst (.f 32 [])) [t3_8], none, 3⟩,
  ⟨q3_10, .p (pFa 0 t3_3), none, 0⟩,
  ⟨q3_11, .r (rLd1 t3_10), none, 8⟩,
  ⟨q3_12, .call (.cst (.f 33 [])) [t3_11], none, 31⟩,
  ⟨q3_13, .p (pFa 1 t3_3), none, 0⟩,
  ⟨q3_14, .r (rLd1 t3_13), none, 64⟩,
  ⟨q3_15, .call (.cst (.f 33 [])) [t3_14], none, 255⟩,
  ⟨q3_16, .p (pSlA 32 1 t3_4 none none none), none, 0⟩,
  ⟨q3_17, .p (pMv t3_2), none, 0⟩,
  ⟨q3_18, .call (.cst (.f 32 [])) [t3_17], none, 1535⟩,
  ⟨q3_19, .a (aBsl (zeros z61 5) 61 5 [(0, 1, t3_9), (1, 1, t3_12), (2, 1, t3_15), (3, 1, t3_16), (4, 1, t3_18)]), none, 4095⟩,
  ⟨q3_20, .call (.cst (.f 31 [])) [t3_19], none, 8191⟩,
  ⟨q3_21, .call (.cst (.f 69 [])) [t3_20], none, 16383⟩,
  ⟨none, .e (eSt 32 t3_6 t3_21), none, 32767⟩])
 .ret))⟩
theorem f29_ok : cFunc Cx0 Tryz.f29 = some f29 := by kernel_rfl
noncomputable def f30 : SFn := ⟨3, 64, [p3_0, p3_1, p3_2], [(p3_6, some 2)],
 (.seq (.reg [⟨q3_6, .a (aAlloc z37 37), none, 0⟩])
 (.seq (.seq (.reg [⟨q3_8, .p (pMv t3_0), none, 0⟩,
  ⟨q3_9, .p (pNilc t3_8), none, 1⟩,
  ⟨q3_10, .p (pFa 0 t3_9), none, 3⟩,
  ⟨q3_11, .r (rLd1 t3_10), none, 7⟩,
  ⟨q3_12, .p (pLen t3_11), none, 15⟩,
  ⟨q3_13, .p (pMv c0), none, 0⟩])
 (.block 0 (.loop (.seq (.reg [⟨q3_14, .p (pLt t3_13 t3_12), none, 0⟩])
 (.seq (.cond t3_14
 .skip
 (.exit 0))
 (.seq (.block 1 (.seq (.reg [⟨q3_15, .p (pMv t3_13), none, 0⟩,
  ⟨q3_7, .p (pMv t3_15), none, 1⟩])
 (.seq (.dreg [⟨q3_16, .p (pMv t3_0), none, 0⟩,
  ⟨q3_17, .p (pNilc t3_16), none, 1⟩,
  ⟨q3_18, .p (pFa 0 t3_17), none, 3⟩,
  ⟨q3_19, .r (rLd1 t3_18), none, 7⟩,
  ⟨q3_20, .p (pMv t3_7), none, 0⟩,
  ⟨q3_21, .p (pIxL 2 t3_19 t3_20), none, 31⟩,
  ⟨q3_22, .p (pFa 0 t3_21), none, 63⟩,
  ⟨q3_23, .r (rLd1 t3_22), none, 127⟩,
  ⟨q3_24, .p (pMv t3_1), none, 0⟩,
  ⟨q3_25, .p (pEq k3 t3_23 t3_24), none, 511⟩,
  ⟨q3_26, .p (pMv t3_25), none, 1023⟩,
  ⟨q3_27, .p (pMv t3_0), (some (p3_26, true)), 2047⟩,
  ⟨q3_28, .p (pNilc t3_27), (some (p3_26, true)), 4095⟩,
  ⟨q3_29, .p (pFa 0 t3_28), (some (p3_26, true)), 8191⟩,
  ⟨q3_30, .r (rLd1 t3_29), (some (p3_26, true)), 16383⟩,
  ⟨q3_31, .p (pMv t3_7), (some (p3_26, true)), 2047⟩,
  ⟨q3_32, .p (pIxL 2 t3_30 t3_31), (some (p3_26, true)), 65535⟩,
  ⟨q3_33, .p (pFa 1 t3_32), (some (p3_26, true)), 131071⟩,
  ⟨q3_34, .r (rLd1 t3_33), (some (p3_26, true)), 262143⟩,
  ⟨q3_35, .p (pMv t3_2), (some (p3_26, true)), 2047⟩,
  ⟨q3_36, .r (rB2s t3_35), (some (p3_26, true)), 526335⟩,
  ⟨q3_37, .p (pEq k9 t3_34 t3_36), (some (p3_26, true)), 2097151⟩,
  ⟨q3_38, .p (pPick t3_26 t3_37 (.cst (.b false))), none, 4194303⟩])
 (.cond t3_38
 (.seq (.reg [⟨q3_39, .p (pMv t3_1), none, 0⟩,
  ⟨q3_40, .p (pMv t3_7), none, 0⟩,
  ⟨q3_41, .p (pAdd t3_40 c1), none, 2⟩,
  ⟨q3_42, .p (pBld z37 [(0, 1, t3_39), (1, 1, t3_41)]), none, 7⟩,
  ⟨none, .e (eSt 2 t3_6 t3_42), none, 15⟩])
 .ret)
 .skip))))
 (.reg [⟨q3_43, .p (pAdd t3_13 c1), none, 0⟩,
  ⟨q3_13, .p (pMv t3_43), none, 1⟩])))))))
 (.seq (.dreg [⟨q3_44, .p (pMv t3_0), none, 0⟩,
  ⟨q3_45, .p (pMv t3_0), none, 0⟩,
  ⟨q3_46, .p (pNilc t3_45), none, 2⟩,
  ⟨q3_47, .p (pFa 0 t3_46), none, 6⟩,
  ⟨q3_48, .r (rLd1 t3_47), none, 14⟩,
  ⟨q3_49, .p (pMv t3_1), none, 0⟩,
  ⟨q3_50, .p (pMv t3_2), none, 0⟩,
  ⟨q3_51, .r (rB2s t3_50), none, 64⟩,
  ⟨q3_52, .p (pBld z167 [(0, 1, t3_49), (1, 1, t3_51)]), none, 224⟩,
  ⟨q3_53, .a (aBsl (zeros z167 1) 167 1 [(0, 2, t3_52)]), none, 480⟩,
  ⟨q3_54, .e (eApp 167 2 24 t3_48 t3_53), none, 1022⟩,
  ⟨q3_55, .p (pNilc t3_44), none, 2047⟩,
  ⟨q3_56, .p (pFa 0 t3_55), none, 4095⟩,
  ⟨none, .e (eSt 1 t3_56 t3_54), none, 8191⟩])
 (.seq (.reg [⟨q3_57, .p (pMv t3_1), none, 0⟩,
  ⟨q3_58, .p (pMv t3_0), none, 0⟩,
  ⟨q3_59, .p (pNilc t3_58), none, 2⟩,
  ⟨q3_60, .p (pFa 0 t3_59), none, 6⟩,
  ⟨q3_61, .r (rLd1 t3_60), none, 14⟩,
  ⟨q3_62, .p (pLen t3_61), none, 30⟩,
  ⟨q3_63, .p (pBld z37 [(0, 1, t3_57), (1, 1, t3_62)]), none, 63⟩,
  ⟨none, .e (eSt 2 t3_6 t3_63), none, 127⟩])
 .ret))))⟩
theorem f30_ok : cFunc Cx0 Tryz.f30 = some f30 := by kernel_rfl
noncomputable def f31 : SFn := ⟨3, 18, [p3_0], [(p3_2, none)],
 (.seq (.reg [⟨q3_2, .p (pMv (.cst .ns)), none, 0⟩])
 (.seq (.reg [⟨q3_3, .p (pMv (.cst .ns)), none, 0⟩])
 (.seq (.seq (.reg [⟨q3_5, .p (pMv t3_0), none, 0⟩,
  ⟨q3_6, .p (pLen t3_5), none, 1⟩,
  ⟨q3_7, .p (pMv c0), none, 0⟩])
 (.block 0 (.loop (.seq (.reg [⟨q3_8, .p (pLt t3_7 t3_6), none, 0⟩])
 (.seq (.cond t3_8
 .skip
 (.exit 0))
 (.seq (.block 1 (.seq (.reg [⟨q3_9, .p (pMv t3_7), none, 0⟩,
  ⟨q3_4, .p (pMv t3_9), none, 1⟩])
 (.reg [⟨q3_10, .p (pMv t3_3), none, 0⟩,
  ⟨q3_11, .p (pMv t3_0), none, 0⟩,
  ⟨q3_12, .p (pMv t3_4), none, 0⟩,
  ⟨q3_13, .p (pIxL 1 t3_11 t3_12), none, 6⟩,
  ⟨q3_14, .r (rLd1 t3_13), none, 14⟩,
  ⟨q3_15, .e (eApp 5 1 1 t3_10 t3_14), none, 31⟩,
  ⟨q3_3, .p (pMv t3_15), none, 63⟩])))
 (.reg [⟨q3_16, .p (pAdd t3_7 c1), none, 0⟩,
  ⟨q3_7, .p (pMv t3_16), none, 1⟩])))))))
 (.seq (.reg [⟨q3_17, .p (pMv t3_3), none, 0⟩,
  ⟨q3_2, .p (pMv t3_17), none, 1⟩])
 .ret))))⟩
theorem f31_ok : cFunc Cx0 Tryz.f31 = some f31 := by kernel_rfl
noncomputable def f32 : SFn := ⟨2, 8, [p2_0], [(p2_2, none)],
 (.seq (.reg [⟨q2_2, .p (pMv (.cst .ns)), none, 0⟩])
 (.seq (.reg [⟨q2_3, .p (pMv t2_0), none, 0⟩,
  ⟨q2_4, .p (pLen t2_3), none, 1⟩,
  ⟨q2_5, .call (.cst (.f 33 [])) [t2_4], none, 3⟩,
  ⟨q2_6, .p (pMv t2_0), none, 0⟩,
  ⟨q2_7, .e (eApp 5 1 1 t2_5 t2_6), none, 15⟩,
  ⟨q2_2, .p (pMv t2_7), none, 31⟩])
 .ret))⟩
theorem f32_ok : cFunc Cx0 Tryz.f32 = some f32 := by kernel_rfl
noncomputable def f33 : SFn := ⟨2, 7, [p2_0], [(p2_2, none)],
 (.seq (.reg [⟨q2_2, .p (pMv (.cst .ns)), none, 0⟩])
 (.seq (.reg [⟨q2_3, .p (pMv t2_0), none, 0⟩,
  ⟨q2_4, .p (pMax [t2_3, c0]), none, 1⟩,
  ⟨q2_5, .p (pCvi .u64 t2_4), none, 3⟩,
  ⟨q2_6, .call (.cst (.f 70 [])) [t2_5], none, 7⟩,
  ⟨q2_2, .p (pMv t2_6), none, 15⟩])
 .ret))⟩
theorem f33_ok : cFunc Cx0 Tryz.f33 = some f33 := by kernel_rfl
noncomputable def f35 : SFn := ⟨2, 7, [p2_0], [(p2_2, none)],
 (.seq (.reg [⟨q2_2, .p (pMv (.cst (.i .u64 (.lit (.ofNat 0))))), none, 0⟩])
 (.seq (.reg [⟨q2_3, .p (pMv t2_0), none, 0⟩,
  ⟨q2_4, .p (pNilc t2_3), none, 1⟩,
  ⟨q2_5, .p (pFa 3 t2_4), none, 3⟩,
  ⟨q2_6, .r (rLd1 t2_5), none, 7⟩,
  ⟨q2_2, .p (pMv t2_6), none, 15⟩])
 .ret))⟩
theorem f35_ok : cFunc Cx0 Tryz.f35 = some f35 := by kernel_rfl
noncomputable def f36 : SFn := ⟨3, 20, [p3_0, p3_1], [(p3_4, none), (p3_5, none)],
 (.seq (.reg [⟨q3_2, .a (aBox 24 t3_0), none, 0⟩,
  ⟨q3_4, .p (pMv (.cst .np)), none, 0⟩,
  ⟨q3_5, .p (pMv c0), none, 2⟩])
 (.seq (.seq (.reg [⟨q3_6, .r (rLdn 2 t3_2), none, 0⟩,
  ⟨q3_7, .call (.cst (.f 77 [])) [t3_6], none, 1⟩,
  ⟨q3_8, .p (pNot t3_7), none, 3⟩,
  ⟨q3_9, .p (pMv t3_8), none, 7⟩,
  ⟨q3_10, .r (rLdn 2 t3_2), (some (p3_9, false)), 15⟩,
  ⟨q3_11, .p (pMv t3_1), (some (p3_9, false)), 15⟩,
  ⟨q3_12, .call (.cst (.f 78 [])) [t3_10, t3_11], (some (p3_9, false)), 63⟩,
  ⟨q3_13, .p (pNot t3_12), (some (p3_9, false)), 127⟩,
  ⟨q3_14, .p (pPick t3_9 (.cst (.b true)) t3_13), none, 255⟩])
 (.cond t3_14
 (.seq (.reg [⟨q3_4, .p (pMv (.cst .np)), none, 0⟩,
  ⟨q3_5, .p (pMv c1), none, 1⟩])
 .ret)
 .skip))
 (.seq (.reg [⟨q3_15, .r (rLdn 2 t3_2), none, 0⟩,
  ⟨q3_16, .p (pMv t3_1), none, 0⟩,
  ⟨q3_17, .a aMkm, none, 0⟩,
  ⟨q3_18, .p (pBld z164 [(0, 2, t3_15), (2, 1, t3_16), (6, 1, t3_17)]), none, 7⟩,
  ⟨q3_19, .a (aBox 164 t3_18), none, 15⟩,
  ⟨q3_4, .p (pMv t3_19), none, 31⟩,
  ⟨q3_5, .p (pMv c0), none, 63⟩])
 .ret)))⟩
theorem f36_ok : cFunc Cx0 Tryz.f36 = some f36 := by kernel_rfl
noncomputable def f37 : SFn := ⟨3, 20, [p3_0, p3_1], [(p3_4, none), (p3_5, none)],
 (.seq (.reg [⟨q3_2, .a (aBox 24 t3_0), none, 0⟩,
  ⟨q3_4, .p (pMv (.cst .np)), none, 0⟩,
  ⟨q3_5, .p (pMv c0), none, 2⟩])
 (.seq (.seq (.reg [⟨q3_6, .r (rLdn 2 t3_2), none, 0⟩,
  ⟨q3_7, .call (.cst (.f 77 [])) [t3_6], none, 1⟩,
  ⟨q3_8, .p (pNot t3_7), none, 3⟩,
  ⟨q3_9, .p (pMv t3_8), none, 7⟩,
  ⟨q3_10, .r (rLdn 2 t3_2), (some (p3_9, false)), 15⟩,
  ⟨q3_11, .p (pMv t3_1), (some (p3_9, false)), 15⟩,
  ⟨q3_12, .call (.cst (.f 78 [])) [t3_10, t3_11], (some (p3_9, false)), 63⟩,
  ⟨q3_13, .p (pNot t3_12), (some (p3_9, false)), 127⟩,
  ⟨q3_14, .p (pPick t3_9 (.cst (.b true)) t3_13), none, 255⟩])
 (.cond t3_14
 (.seq (.reg [⟨q3_4, .p (pMv (.cst .np)), none, 0⟩,
  ⟨q3_5, .p (pMv c1), none, 1⟩])
 .ret)
 .skip))
 (.seq (.reg [⟨q3_15, .r (rLdn 2 t3_2), none, 0⟩,
  ⟨q3_16, .p (pMv t3_1), none, 0⟩,
  ⟨q3_17, .a aMkm, none, 0⟩,
  ⟨q3_18, .p (pBld z178 [(0, 2, t3_15), (2, 1, t3_16), (3, 1, t3_17)]), none, 7⟩,
  ⟨q3_19, .a (aBox 178 t3_18), none, 15⟩,
  ⟨q3_4, .p (pMv t3_19), none, 31⟩,
  ⟨q3_5, .p (pMv c0), none, 63⟩])
 .ret)))⟩
theorem f37_ok : cFunc Cx0 Tryz.f37 = some f37 := by kernel_rfl
noncomputable def f38 : SFn := ⟨3, 20, [p3_0, p3_1], [(p3_4, none), (p3_5, none)],
 (.seq (.reg [⟨q3_2, .a (aBox 24 t3_0), none, 0⟩,
  ⟨q3_4, .p (pMv (.cst .np)), none, 0⟩,
  ⟨q3_5, .p (pMv c0), none, 2⟩])
 (.seq (.seq (.reg [⟨q3_6, .r (rLdn 2 t3_2), none, 0⟩,
  ⟨q3_7, .call (.cst (.f 77 [])) [t3_6], none, 1⟩,
  ⟨q3_8, .p (pNot t3_7), none, 3⟩,
  ⟨q3_9, .p (pMv t3_8), none, 7⟩,
  ⟨q3_10, .r (rLdn 2 t3_2), (some (p3_9, false)), 15⟩,
  ⟨q3_11, .p (pMv t3_1), (some (p3_9, false)), 15⟩,
  ⟨q3_12, .call (.cst (.f 78 [])) [t3_10, t3_11], (some (p3_9, false)), 63⟩,
  ⟨q3_13, .p (pNot t3_12), (some (p3_9, false)), 127⟩,
  ⟨q3_14, .p (pPick t3_9 (.cst (.b true)) t3_13), none, 255⟩])
 (.cond t3_14
 (.seq (.reg [⟨q3_4, .p (pMv (.cst .np)), none, 0⟩,
  ⟨q3_5, .p (pMv c1), none, 1⟩])
 .ret)
 .skip))
 (.seq (.reg [⟨q3_15, .r (rLdn 2 t3_2), none, 0⟩,
  ⟨q3_16, .p (pMv t3_1), none, 0⟩,
  ⟨q3_17, .a aMkm, none, 0⟩,
  ⟨q3_18, .p (pBld z181 [(0, 2, t3_15), (2, 1, t3_16), (3, 1, t3_17)]), none, 7⟩,
  ⟨q3_19, .a (aBox 181 t3_18), none, 15⟩,
  ⟨q3_4, .p (pMv t3_19), none, 31⟩,
  ⟨q3_5, .p (pMv c0), none, 63⟩])
 .ret)))⟩
theorem f38_ok : cFunc Cx0 Tryz.f38 = some f38 := by kernel_rfl
noncomputable def f39 : SFn := ⟨2, 4, [], [(p2_0, none)],
 (.seq (.reg [⟨q2_0, .p (pMv (.cst .np)), none, 0⟩])
 (.seq (.reg [⟨q2_1, .a aMkm, none, 0⟩,
  ⟨q2_2, .p (pBld z141 [(3, 1, t2_1)]), none, 1⟩,
  ⟨q2_3, .a (aBox 141 t2_2), none, 3⟩,
  ⟨q2_0, .p (pMv t2_3), none, 7⟩])
 .ret))⟩
theorem f39_ok : cFunc Cx0 Tryz.f39 = some f39 := by kernel_rfl
noncomputable def f40 : SFn := ⟨2, 5, [], [(p2_0, none)],
 (.seq (.reg [⟨q2_0, .p (pMv (.cst .np)), none, 0⟩])
 (.seq (.reg [⟨q2_1, .call (.cst (.f 79 [])) [], none, 0⟩,
  ⟨q2_2, .call (.cst (.f 80 [])) [], none, 1⟩,
  ⟨q2_3, .p (pBld z187 [(0, 1, t2_1), (1, 1, t2_2)]), none, 3⟩,
  ⟨q2_4, .a (aBox 187 t2_3), none, 7⟩,
  ⟨q2_0, .p (pMv t2_4), none, 15⟩])
 .ret))⟩
theorem f40_ok : cFunc Cx0 Tryz.f40 = some f40 := by kernel_rfl
noncomputable def f41 : SFn := ⟨3, 30, [p3_0], [],
 (.seq (.dreg [⟨q3_5, .p (pMv t3_0), none, 0⟩,
  ⟨q3_6, .p (pNilc t3_5), none, 1⟩,
  ⟨q3_7, .p (pFa 0 t3_6), none, 3⟩,
  ⟨q3_8, .r (rLdn 2 t3_7), none, 7⟩,
  ⟨q3_9, .p (pMv t3_0), none, 0⟩,
  ⟨q3_10, .p (pNilc t3_9), none, 16⟩,
  ⟨q3_11, .p (pFa 7 t3_10), none, 48⟩,
  ⟨q3_12, .r (rLd1 t3_11), none, 112⟩,
  ⟨q3_13, .call (.cst (.f 82 [])) [t3_12], none, 240⟩,
  ⟨q3_14, .p (pMin [t3_13, (.cst (.i .i64 (.lit (.ofNat 1048576))))]), none, 496⟩,
  ⟨q3_15, .p (pMv t3_0), none, 0⟩,
  ⟨q3_16, .p (pNilc t3_15), none, 1024⟩,
  ⟨q3_17, .p (pFa 2 t3_16), none, 3072⟩,
  ⟨q3_18, .r (rLd1 t3_17), none, 7168⟩,
  ⟨q3_19, .call (.cst (.f 81 [])) [t3_8, t3_14, t3_18], none, 16383⟩,
  ⟨q3_4, .p (pMv t3_19), none, 32767⟩,
  ⟨q3_20, .p (pExt t3_4 0), none, 65535⟩,
  ⟨q3_21, .p (pExt t3_4 1), none, 65535⟩,
  ⟨q3_2, .p (pMv t3_20), none, 131071⟩,
  ⟨q3_3, .p (pMv t3_21), none, 524287⟩])
 (.reg [⟨q3_22, .p (pMv t3_0), none, 0⟩,
  ⟨q3_23, .p (pMv t3_2), none, 0⟩,
  ⟨q3_24, .a aMkm, none, 0⟩,
  ⟨q3_25, .a aMkm, none, 0⟩,
  ⟨q3_26, .p (pBld z136 [(0, 1, t3_23), (1, 1, t3_24), (2, 1, t3_25)]), none, 14⟩,
  ⟨q3_27, .a (aBox 136 t3_26), none, 30⟩,
  ⟨q3_28, .p (pNilc t3_22), none, 63⟩,
  ⟨q3_29, .p (pFa 10 t3_28), none, 127⟩,
  ⟨none, .e (eSt 1 t3_29 t3_27), none, 255⟩]))⟩
theorem f41_ok : cFunc Cx0 Tryz.f41 = some f41 := by kernel_rfl
noncomputable def f43 : SFn := ⟨4, 82, [p4_0, p4_1], [],
 (.seq (.reg [⟨q4_8, .p (pMv t4_0), none, 0⟩,
  ⟨q4_9, .p (pNilc t4_8), none, 1⟩,
  ⟨q4_10, .p (pFa 10 t4_9), none, 3⟩,
  ⟨q4_11, .r (rLd1 t4_10), none, 7⟩,
  ⟨q4_4, .p (pMv t4_11), none, 15⟩])
 (.seq (.reg [⟨q4_12, .p (pMv t4_1), none, 0⟩,
  ⟨q4_13, .p (pLen t4_12), none, 1⟩,
  ⟨q4_14, .p (pMv c0), none, 0⟩])
 (.block 0 (.loop (.seq (.reg [⟨q4_15, .p (pLt t4_14 t4_13), none, 0⟩])
 (.seq (.cond t4_15
 .skip
 (.exit 0))
 (.seq (.block 1 (.seq (.reg [⟨q4_16, .p (pIxL 35 t4_12 t4_14), none, 0⟩,
  ⟨q4_17, .r (rLdn 35 t4_16), none, 1⟩,
  ⟨q4_6, .a (aAlloc z191 191), none, 0⟩,
  ⟨none, .e (eSt 35 t4_6 t4_17), none, 7⟩])
 (.seq (.seq (.reg [⟨q4_18, .p (pMv t4_0), none, 0⟩,
  ⟨q4_19, .p (pNilc t4_18), none, 1⟩,
  ⟨q4_20, .p (pFa 10 t4_19), none, 3⟩,
  ⟨q4_21, .r (rLd1 t4_20), none, 7⟩,
  ⟨q4_22, .p (pMv t4_4), none, 0⟩,
  ⟨q4_23, .r (rPeq true t4_21 t4_22), none, 31⟩])
 (.cond t4_23
 .ret
 .skip))
 (.seq (.reg [⟨q4_24, .p (pFa 0 t4_6), none, 0⟩,
  ⟨q4_25, .r (rLd1 t4_24), none, 1⟩])
 (.block 2 (.seq (.reg [⟨q4_27, .p (pEq k3 t4_25 c1), none, 0⟩,
  ⟨q4_26, .p (pMv t4_27), none, 1⟩])
 (.cond t4_26
 (.reg [⟨q4_28, .p (pMv t4_0), none, 0⟩,
  ⟨q4_29, .r (rLdn 35 t4_6), none, 0⟩,
  ⟨q4_30, .call (.cst (.f 83 [])) [t4_28, t4_29], none, 3⟩])
 (.seq (.reg [⟨q4_32, .p (pEq k3 t4_25 c2), none, 0⟩,
  ⟨q4_31, .p (pMv t4_32), none, 1⟩])
 (.cond t4_31
 (.reg [⟨q4_33, .p (pMv t4_0), none, 0⟩,
  ⟨q4_34, .r (rLdn 35 t4_6), none, 0⟩,
  ⟨q4_35, .call (.cst (.f 84 [])) [t4_33, c1, t4_34], none, 3⟩])
 (.seq (.reg [⟨q4_37, .p (pEq k3 t4_25 c3), none, 0⟩,
  ⟨q4_36, .p (pMv t4_37), none, 1⟩])
 (.cond t4_36
 (.reg [⟨q4_38, .p (pMv t4_0), none, 0⟩,
  ⟨q4_39, .r (rLdn 35 t4_6), none, 0⟩,
  ⟨q4_40, .call (.cst (.f 84 [])) [t4_38, c2, t4_39], none, 3⟩])
 (.seq (.reg [⟨q4_42, .p (pEq k3 t4_25 c4), none, 0⟩,
  ⟨q4_41, .p (pMv t4_42), none, 1⟩])
 (.cond t4_41
 (.seq (.dreg [⟨q4_43, .p (pMv t4_0), none, 0⟩,
  ⟨q4_44, .p (pNilc t4_43), none, 1⟩,
  ⟨q4_45, .p (pFa 5 t4_44), none, 3⟩,
  ⟨q4_46, .r (rLd1 t4_45), none, 7⟩,
  ⟨q4_47, .call (.cst (.f 35 [])) [t4_46], none, 15⟩,
  ⟨q4_48, .p (pAdd t4_47 (.cst (.i .u64 (.lit (.ofNat 10))))), none, 31⟩,
  ⟨q4_49, .p (pFa 1 t4_6), none, 0⟩,
  ⟨q4_50, .r (rLd1 t4_49), none, 64⟩,
  ⟨q4_51, .p (pCvi .u64 t4_50), none, 192⟩,
  ⟨q4_52, .p (pMul (.cst (.i .u64 (.lit (.ofNat 5)))) t4_51), none, 448⟩,
  ⟨q4_53, .p (pAdd t4_48 t4_52), none, 1023⟩,
  ⟨q4_7, .p (pMv t4_53), none, 2047⟩])
 (.dreg [⟨q4_54, .p (pMv t4_0), none, 0⟩,
  ⟨q4_55, .p (pNilc t4_54), none, 1⟩,
  ⟨q4_56, .p (pFa 10 t4_55), none, 3⟩,
  ⟨q4_57, .r (rLd1 t4_56), none, 7⟩,
  ⟨q4_58, .p (pMv t4_0), none, 0⟩,
  ⟨q4_59, .p (pNilc t4_58), none, 16⟩,
  ⟨q4_60, .p (pFa 10 t4_59), none, 48⟩,
  ⟨q4_61, .r (rLd1 t4_60), none, 112⟩,
  ⟨q4_62, .p (pNilc t4_61), none, 240⟩,
  ⟨q4_63, .p (pFa 3 t4_62), none, 496⟩,
  ⟨q4_64, .r (rLd1 t4_63), none, 1008⟩,
  ⟨q4_65, .p (pMv t4_7), none, 0⟩,
  ⟨q4_66, .p (pFa 2 t4_6), none, 0⟩,
  ⟨q4_67, .r (rLd1 t4_66), none, 4096⟩,
  ⟨q4_68, .p (pFa 1 t4_6), none, 0⟩,
  ⟨q4_69, .r (rLd1 t4_68), none, 16384⟩,
  ⟨q4_70, .p (pBld z145 [(0, 1, t4_67), (1, 1, t4_69)]), none, 61440⟩,
  ⟨q4_71, .p (pBld z147 [(0, 1, t4_65), (1, 2, t4_70)]), none, 129024⟩,
  ⟨q4_72, .a (aBsl (zeros z147 1) 147 1 [(0, 3, t4_71)]), none, 260096⟩,
  ⟨q4_73, .e (eApp 147 3 24 t4_64 t4_72), none, 524272⟩,
  ⟨q4_74, .p (pNilc t4_57), none, 1048575⟩,
  ⟨q4_75, .p (pFa 3 t4_74), none, 2097151⟩,
  ⟨none, .e (eSt 1 t4_75 t4_73), none, 4194303⟩]))
 (.seq (.reg [⟨q4_77, .p (pEq k3 t4_25 c5), none, 0⟩,
  ⟨q4_76, .p (pMv t4_77), none, 1⟩])
 (.cond t4_76
 (.reg [⟨q4_78, .p (pMv t4_0), none, 0⟩,
  ⟨q4_79, .r (rLdn 35 t4_6), none, 0⟩,
  ⟨q4_80, .call (.cst (.f 85 [])) [t4_78, t4_79], none, 3⟩])
 .skip)))))))))))))))
 (.reg [⟨q4_81, .p (pAdd t4_14 c1), none, 0⟩,
  ⟨q4_14, .p (pMv t4_81), none, 1⟩]))))))))⟩
theorem f43_ok : cFunc Cx0 Tryz.f43 = some f43 := by kernel_rfl
noncomputable def f44 : SFn := ⟨2, 14, [p2_0], [(p2_2, none)],
 (.seq (.reg [⟨q2_2, .p (pMv (.cst .ns)), none, 0⟩])
 (.seq (.seq (.reg [⟨q2_3, .p (pMv t2_0), none, 0⟩,
  ⟨q2_4, .p (pNilc t2_3), none, 1⟩,
  ⟨q2_5, .p (pFa 4 t2_4), none, 3⟩,
  ⟨q2_6, .p (pFa 1 t2_5), none, 7⟩,
  ⟨q2_7, .r (rLd1 t2_6), none, 15⟩,
  ⟨q2_8, .p (pGt t2_7 c0), none, 31⟩])
 (.cond t2_8
 (.seq (.reg [⟨q2_2, .p (pMv (.cst .ns)), none, 0⟩])
 .ret)
 .skip))
 (.seq (.reg [⟨q2_9, .p (pMv t2_0), none, 0⟩,
  ⟨q2_10, .call (.cst (.f 86 [])) [t2_9, c0], none, 1⟩,
  ⟨q2_11, .p (pMv t2_0), none, 0⟩,
  ⟨q2_12, .call (.cst (.f 87 [])) [t2_11], none, 7⟩,
  ⟨q2_13, .e (eApp 191 35 56 t2_10 t2_12), none, 15⟩,
  ⟨q2_2, .p (pMv t2_13), none, 31⟩])
 .ret)))⟩
theorem f44_ok : cFunc Cx0 Tryz.f44 = some f44 := by kernel_rfl
noncomputable def f47 : SFn := ⟨3, 19, [p3_0, p3_1], [],
 (.dreg [⟨q3_4, .p (pMv t3_0), none, 0⟩,
  ⟨q3_5, .p (pMv t3_0), none, 0⟩,
  ⟨q3_6, .p (pNilc t3_5), none, 2⟩,
  ⟨q3_7, .p (pFa 3 t3_6), none, 6⟩,
  ⟨q3_8, .r (rLd1 t3_7), none, 14⟩,
  ⟨q3_9, .p (pMv t3_1), none, 0⟩,
  ⟨q3_10, .p (pMv t3_0), none, 0⟩,
  ⟨q3_11, .p (pNilc t3_10), none, 64⟩,
  ⟨q3_12, .p (pFa 3 t3_11), none, 192⟩,
  ⟨q3_13, .r (rLd1 t3_12), none, 448⟩,
  ⟨q3_14, .p (pSub (.cst (.i .u64 (.lit (.ofNat 18446744073709551615)))) t3_13), none, 960⟩,
  ⟨q3_15, .p (pMin [t3_9, t3_14]), none, 2016⟩,
  ⟨q3_16, .p (pAdd t3_8 t3_15), none, 4094⟩,
  ⟨q3_17, .p (pNilc t3_4), none, 8191⟩,
  ⟨q3_18, .p (pFa 3 t3_17), none, 16383⟩,
  ⟨none, .e (eSt 1 t3_18 t3_16), none, 32767⟩])⟩
theorem f47_ok : cFunc Cx0 Tryz.f47 = some f47 := by kernel_rfl
noncomputable def f48 : SFn := ⟨3, 19, [p3_0, p3_1], [(p3_4, none)],
 (.seq (.reg [⟨q3_4, .p (pMv c0), none, 0⟩])
 (.seq (.seq (.reg [⟨q3_6, .p (pMv t3_0), none, 0⟩,
  ⟨q3_7, .p (pLen t3_6), none, 1⟩,
  ⟨q3_8, .p (pMv c0), none, 0⟩])
 (.block 0 (.loop (.seq (.reg [⟨q3_9, .p (pLt t3_8 t3_7), none, 0⟩])
 (.seq (.cond t3_9
 .skip
 (.exit 0))
 (.seq (.block 1 (.seq (.reg [⟨q3_10, .p (pMv t3_8), none, 0⟩,
  ⟨q3_5, .p (pMv t3_10), none, 1⟩])
 (.seq (.reg [⟨q3_11, .p (pMv t3_1), none, 0⟩,
  ⟨q3_12, .p (pMv t3_0), none, 0⟩,
  ⟨q3_13, .p (pMv t3_5), none, 0⟩,
  ⟨q3_14, .p (pIxL 3 t3_12 t3_13), none, 6⟩,
  ⟨q3_15, .r (rLdn 3 t3_14), none, 14⟩,
  ⟨q3_16, .call t3_11 [t3_15], none, 31⟩])
 (.cond t3_16
 (.seq (.reg [⟨q3_17, .p (pMv t3_5), none, 0⟩,
  ⟨q3_4, .p (pMv t3_17), none, 1⟩])
 .ret)
 .skip))))
 (.reg [⟨q3_18, .p (pAdd t3_8 c1), none, 0⟩,
  ⟨q3_8, .p (pMv t3_18), none, 1⟩])))))))
 (.seq (.reg [⟨q3_4, .p (pMv (.cst (.i .i64 (.lit (.negSucc 0))))), none, 0⟩])
 .ret)))⟩
theorem f48_ok : cFunc Cx0 Tryz.f48 = some f48 := by kernel_rfl
noncomputable def f49 : SFn := ⟨2, 8, [p2_0, p2_1], [(p2_3, none)],
 (.seq (.reg [⟨q2_2, .a (aBox 147 t2_0), none, 0⟩,
  ⟨q2_3, .p (pMv (.cst (.b false))), none, 0⟩])
 (.seq (.reg [⟨q2_4, .p (pFa 0 t2_2), none, 0⟩,
  ⟨q2_5, .r (rLd1 t2_4), none, 1⟩,
  ⟨q2_6, .r (rLd1 t2_1), none, 0⟩,
  ⟨q2_7, .p (pLe t2_5 t2_6), none, 7⟩,
  ⟨q2_3, .p (pMv t2_7), none, 15⟩])
 .ret))⟩
theorem f49_ok : cFunc Cx0 Tryz.f49 = some f49 := by kernel_rfl
noncomputable def f52 : SFn := ⟨4, 75, [p4_0, p4_1, p4_2], [(p4_6, none)],
 (.seq (.reg [⟨q4_6, .p (pMv (.cst .ns)), none, 0⟩])
 (.seq (.reg [⟨q4_7, .p (pMv (.cst .ns)), none, 0⟩])
 (.seq (.seq (.reg [⟨q4_12, .p (pMv t4_0), none, 0⟩,
  ⟨q4_13, .call (.cst (.f 92 [])) [t4_12], none, 1⟩,
  ⟨q4_14, .p (pLen t4_13), none, 3⟩,
  ⟨q4_15, .p (pMv c0), none, 0⟩])
 (.block 0 (.loop (.seq (.reg [⟨q4_16, .p (pLt t4_15 t4_14), none, 0⟩])
 (.seq (.cond t4_16
 .skip
 (.exit 0))
 (.seq (.block 1 (.seq (.reg [⟨q4_17, .p (pIxL 1 t4_13 t4_15), none, 0⟩,
  ⟨q4_18, .r (rLd1 t4_17), none, 1⟩,
  ⟨q4_9, .p (pMv t4_18), none, 3⟩])
 (.seq (.reg [⟨q4_19, .p (pMv t4_0), none, 0⟩,
  ⟨q4_20, .p (pNilc t4_19), none, 1⟩,
  ⟨q4_21, .p (pFa 3 t4_20), none, 3⟩,
  ⟨q4_22, .r (rLd1 t4_21), none, 7⟩,
  ⟨q4_23, .p (pMv t4_9), none, 0⟩,
  ⟨q4_24, .r (rLk k3 (.ag z208) t4_22 t4_23 false), none, 31⟩,
  ⟨q4_10, .a (aAlloc z208 208), none, 0⟩,
  ⟨none, .e (eSt 73 t4_10 t4_24), none, 127⟩])
 (.seq (.seq (.reg [⟨q4_25, .p (pFa 70 t4_10), none, 0⟩,
  ⟨q4_26, .r (rLd1 t4_25), none, 1⟩,
  ⟨q4_27, .p (pMv t4_26), none, 3⟩,
  ⟨q4_28, .p (pFa 71 t4_10), (some (p4_27, false)), 7⟩,
  ⟨q4_29, .r (rLd1 t4_28), (some (p4_27, false)), 15⟩,
  ⟨q4_30, .p (pPick t4_27 (.cst (.b true)) t4_29), none, 31⟩,
  ⟨q4_31, .p (pMv t4_30), none, 63⟩,
  ⟨q4_32, .p (pMv t4_2), (some (p4_31, false)), 127⟩,
  ⟨q4_33, .p (pFa 35 t4_10), (some (p4_31, false)), 127⟩,
  ⟨q4_34, .r (rLd1 t4_33), (some (p4_31, false)), 383⟩,
  ⟨q4_35, .p (pLt t4_32 t4_34), (some (p4_31, false)), 1023⟩,
  ⟨q4_36, .p (pPick t4_31 (.cst (.b true)) t4_35), none, 2047⟩,
  ⟨q4_37, .p (pMv t4_36), none, 4095⟩,
  ⟨q4_38, .p (pMv t4_2), (some (p4_37, false)), 8191⟩,
  ⟨q4_39, .p (pFa 35 t4_10), (some (p4_37, false)), 8191⟩,
  ⟨q4_40, .r (rLd1 t4_39), (some (p4_37, false)), 24575⟩,
  ⟨q4_41, .p (pSub t4_38 t4_40), (some (p4_37, false)), 65535⟩,
  ⟨q4_42, .p (pLt t4_41 (.cst (.i .u64 (.lit (.ofNat 20))))), (some (p4_37, false)), 131071⟩,
  ⟨q4_43, .p (pPick t4_37 (.cst (.b true)) t4_42), none, 262143⟩])
 (.cond t4_43
 (.exit 1)
 .skip))
 (.seq (.reg [⟨q4_44, .p (pMv t4_0), none, 0⟩,
  ⟨q4_45, .p (pNilc t4_44), none, 1⟩,
  ⟨q4_46, .p (pFa 2 t4_45), none, 3⟩,
  ⟨q4_47, .r (rLd1 t4_46), none, 7⟩,
  ⟨q4_48, .p (pMv t4_9), none, 0⟩,
  ⟨q4_49, .p (pBld z65 [(0, 1, t4_47), (1, 1, t4_48)]), none, 31⟩,
  ⟨q4_11, .a (aAlloc z65 65), none, 0⟩,
  ⟨none, .e (eSt 4 t4_11 t4_49), none, 127⟩])
 (.seq (.dreg [⟨q4_50, .p (pMv t4_1), none, 0⟩,
  ⟨q4_51, .p (pMv t4_0), none, 0⟩,
  ⟨q4_52, .p (pNilc t4_51), none, 2⟩,
  ⟨q4_53, .p (pFa 2 t4_52), none, 6⟩,
  ⟨q4_54, .r (rLd1 t4_53), none, 14⟩,
  ⟨q4_55, .r (rLdn 4 t4_11), none, 0⟩,
  ⟨q4_56, .call (.cst (.f 93 [])) [t4_55], none, 32⟩,
  ⟨q4_57, .call (.cst (.f 12 [])) [t4_50, t4_54, t4_56], none, 127⟩,
  ⟨q4_58, .p (pFa 2 t4_11), none, 255⟩,
  ⟨none, .e (eSt 2 t4_58 t4_57), none, 511⟩])
 (.seq (.reg [⟨q4_59, .p (pFa 71 t4_10), none, 0⟩,
  ⟨none, .e (eSt 1 t4_59 (.cst (.b true))), none, 1⟩])
 (.seq (.dreg [⟨q4_60, .p (pMv t4_0), none, 0⟩,
  ⟨q4_61, .p (pNilc t4_60), none, 1⟩,
  ⟨q4_62, .p (pFa 3 t4_61), none, 3⟩,
  ⟨q4_63, .r (rLd1 t4_62), none, 7⟩,
  ⟨q4_64, .p (pMv t4_9), none, 0⟩,
  ⟨q4_65, .r (rLdn 73 t4_10), none, 0⟩,
  ⟨none, .e (eMu k3 t4_63 t4_64 t4_65), none, 63⟩])
 (.seq (.reg [⟨q4_66, .p (pMv t4_0), none, 0⟩,
  ⟨q4_67, .r (rLdn 4 t4_11), none, 0⟩,
  ⟨q4_68, .call (.cst (.f 94 [])) [t4_66, t4_67], none, 3⟩])
 (.reg [⟨q4_69, .p (pMv t4_7), none, 0⟩,
  ⟨q4_70, .r (rLdn 4 t4_11), none, 0⟩,
  ⟨q4_71, .a (aBsl (zeros z65 1) 65 1 [(0, 4, t4_70)]), none, 2⟩,
  ⟨q4_72, .e (eApp 65 4 32 t4_69 t4_71), none, 7⟩,
  ⟨q4_7, .p (pMv t4_72), none, 15⟩]))))))))))
 (.reg [⟨q4_73, .p (pAdd t4_15 c1), none, 0⟩,
  ⟨q4_15, .p (pMv t4_73), none, 1⟩])))))))
 (.seq (.reg [⟨q4_74, .p (pMv t4_7), none, 0⟩,
  ⟨q4_6, .p (pMv t4_74), none, 1⟩])
 .ret))))⟩
theorem f52_ok : cFunc Cx0 Tryz.f52 = some f52 := by kernel_rfl
noncomputable def f53 : SFn := ⟨3, 24, [p3_0, p3_1], [],
 (.seq (.reg [⟨q3_3, .a (aBox 70 t3_1), none, 0⟩])
 (.seq (.reg [⟨q3_5, .p (pMv t3_0), none, 0⟩,
  ⟨q3_6, .p (pNilc t3_5), none, 1⟩,
  ⟨q3_7, .p (pFa 0 t3_6), none, 3⟩,
  ⟨q3_8, .r (rLdn 2 t3_7), none, 7⟩,
  ⟨q3_9, .call (.cst (.f 95 [])) [t3_8], none, 15⟩,
  ⟨q3_10, .p (pMv c0), none, 0⟩])
 (.block 0 (.loop (.seq (.reg [⟨q3_11, .p (pLt t3_10 t3_9), none, 0⟩])
 (.seq (.cond t3_11
 .skip
 (.exit 0))
 (.seq (.block 1 (.seq (.reg [⟨q3_12, .p (pMv t3_10), none, 0⟩,
  ⟨q3_4, .p (pMv t3_12), none, 1⟩])
 (.seq (.reg [⟨q3_13, .p (pMv t3_4), none, 0⟩,
  ⟨q3_14, .p (pMv t3_0), none, 0⟩,
  ⟨q3_15, .p (pNilc t3_14), none, 2⟩,
  ⟨q3_16, .p (pFa 2 t3_15), none, 6⟩,
  ⟨q3_17, .r (rLd1 t3_16), none, 14⟩,
  ⟨q3_18, .p (pNe k3 t3_13 t3_17), none, 31⟩])
 (.cond t3_18
 (.reg [⟨q3_19, .p (pMv t3_0), none, 0⟩,
  ⟨q3_20, .p (pMv t3_4), none, 0⟩,
  ⟨q3_21, .r (rLdn 295 t3_3), none, 0⟩,
  ⟨q3_22, .call (.cst (.f 65 [])) [t3_19, t3_20, t3_21], none, 7⟩])
 .skip))))
 (.reg [⟨q3_23, .p (pAdd t3_10 c1), none, 0⟩,
  ⟨q3_10, .p (pMv t3_23), none, 1⟩]))))))))⟩
theorem f53_ok : cFunc Cx0 Tryz.f53 = some f53 := by kernel_rfl
noncomputable def f55 : SFn := ⟨3, 46, [p3_0, p3_1], [(p3_4, none)],
 (.seq (.reg [⟨q3_3, .a (aBox 70 t3_1), none, 0⟩,
  ⟨q3_4, .p (pMv (.cst (.b false))), none, 0⟩])
 (.seq (.reg [⟨q3_8, .r (rLdn 295 t3_3), none, 0⟩,
  ⟨q3_9, .call (.cst (.f 99 [])) [t3_8], none, 1⟩,
  ⟨q3_7, .p (pMv t3_9), none, 3⟩,
  ⟨q3_10, .p (pExt t3_7 0), none, 7⟩,
  ⟨q3_11, .p (pExt t3_7 1), none, 7⟩,
  ⟨q3_5, .p (pMv t3_10), none, 15⟩,
  ⟨q3_6, .p (pMv t3_11), none, 63⟩])
 (.seq (.seq (.reg [⟨q3_12, .p (pMv t3_6), none, 0⟩,
  ⟨q3_13, .p (pNot t3_12), none, 1⟩,
  ⟨q3_14, .p (pMv t3_13), none, 3⟩,
  ⟨q3_15, .p (pMv t3_0), (some (p3_14, false)), 7⟩,
  ⟨q3_16, .p (pFa 1 t3_3), (some (p3_14, false)), 7⟩,
  ⟨q3_17, .r (rLd1 t3_16), (some (p3_14, false)), 23⟩,
  ⟨q3_18, .call (.cst (.f 66 [])) [t3_15, t3_17], (some (p3_14, false)), 63⟩,
  ⟨q3_19, .p (pNot t3_18), (some (p3_14, false)), 127⟩,
  ⟨q3_20, .p (pPick t3_14 (.cst (.b true)) t3_19), none, 255⟩,
  ⟨q3_21, .p (pMv t3_20), none, 511⟩,
  ⟨q3_22, .p (pMv t3_5), (some (p3_21, false)), 1023⟩,
  ⟨q3_23, .p (pLt t3_22 c0), (some (p3_21, false)), 2047⟩,
  ⟨q3_24, .p (pPick t3_21 (.cst (.b true)) t3_23), none, 4095⟩,
  ⟨q3_25, .p (pMv t3_24), none, 8191⟩,
  ⟨q3_26, .p (pMv t3_5), (some (p3_25, false)), 16383⟩,
  ⟨q3_27, .p (pMv t3_0), (some (p3_25, false)), 16383⟩,
  ⟨q3_28, .p (pNilc t3_27), (some (p3_25, false)), 49151⟩,
  ⟨q3_29, .p (pFa 7 t3_28), (some (p3_25, false)), 114687⟩,
  ⟨q3_30, .r (rLd1 t3_29), (some (p3_25, false)), 245759⟩,
  ⟨q3_31, .call (.cst (.f 82 [])) [t3_30], (some (p3_25, false)), 507903⟩,
  ⟨q3_32, .p (pGe t3_26 t3_31), (some (p3_25, false)), 1048575⟩,
  ⟨q3_33, .p (pPick t3_25 (.cst (.b true)) t3_32), none, 2097151⟩])
 (.cond t3_33
 (.seq (.reg [⟨q3_4, .p (pMv (.cst (.b false))), none, 0⟩])
 .ret)
 .skip))
 (.seq (.dreg [⟨q3_34, .p (pMv t3_0), none, 0⟩,
  ⟨q3_35, .p (pFa 1 t3_3), none, 0⟩,
  ⟨q3_36, .r (rLd1 t3_35), none, 2⟩,
  ⟨q3_37, .p (pMv t3_0), none, 0⟩,
  ⟨q3_38, .p (pNilc t3_37), none, 8⟩,
  ⟨q3_39, .p (pFa 11 t3_38), none, 24⟩,
  ⟨q3_40, .r (rLd1 t3_39), none, 56⟩,
  ⟨q3_41, .p (pMv t3_5), none, 0⟩,
  ⟨q3_42, .p (pIxL 8 t3_40 t3_41), none, 248⟩,
  ⟨q3_43, .r (rLdn 8 t3_42), none, 504⟩,
  ⟨q3_44, .p (pBld z70 [(0, 1, c14), (287, 8, t3_43)]), none, 1016⟩,
  ⟨q3_45, .call (.cst (.f 65 [])) [t3_34, t3_36, t3_44], none, 2047⟩])
 (.seq (.reg [⟨q3_4, .p (pMv (.cst (.b true))), none, 0⟩])
 .ret)))))⟩
theorem f55_ok : cFunc Cx0 Tryz.f55 = some f55 := by kernel_rfl
noncomputable def f56 : SFn := ⟨3, 36, [p3_0, p3_1], [],
 (.seq (.reg [⟨q3_3, .a (aBox 70 t3_1), none, 0⟩])
 (.seq (.seq (.reg [⟨q3_6, .p (pFa 1 t3_3), none, 0⟩,
  ⟨q3_7, .r (rLd1 t3_6), none, 1⟩,
  ⟨q3_8, .p (pFa 3 t3_3), none, 0⟩,
  ⟨q3_9, .p (pFa 0 t3_8), none, 4⟩,
  ⟨q3_10, .p (pFa 0 t3_9), none, 12⟩,
  ⟨q3_11, .r (rLd1 t3_10), none, 28⟩,
  ⟨q3_12, .p (pAdd (.cst (.i .i64 (.lit (.ofNat 1000)))) t3_11), none, 60⟩,
  ⟨q3_13, .p (pNe k3 t3_7 t3_12), none, 127⟩])
 (.cond t3_13
 .ret
 .skip))
 (.seq (.dreg [⟨q3_15, .p (pMv t3_0), none, 0⟩,
  ⟨q3_16, .p (pNilc t3_15), none, 1⟩,
  ⟨q3_17, .p (pFa 5 t3_16), none, 3⟩,
  ⟨q3_18, .r (rLd1 t3_17), none, 7⟩,
  ⟨q3_19, .p (pMv t3_0), none, 0⟩,
  ⟨q3_20, .p (pNilc t3_19), none, 16⟩,
  ⟨q3_21, .p (pFa 3 t3_20), none, 48⟩,
  ⟨q3_22, .r (rLd1 t3_21), none, 112⟩,
  ⟨q3_23, .p (pFa 3 t3_3), none, 0⟩,
  ⟨q3_24, .r (rLdn 37 t3_23), none, 256⟩,
  ⟨q3_25, .call (.cst (.f 100 [])) [t3_18, t3_22, t3_24], none, 1023⟩,
  ⟨q3_14, .p (pMv t3_25), none, 2047⟩,
  ⟨q3_26, .p (pExt t3_14 0), none, 4095⟩,
  ⟨q3_27, .p (pExt t3_14 1), none, 4095⟩,
  ⟨q3_4, .a (aAlloc z41 41), none, 0⟩,
  ⟨none, .e (eSt 38 t3_4 t3_26), none, 24575⟩,
  ⟨q3_5, .p (pMv t3_27), none, 65535⟩])
 (.seq (.reg [⟨q3_28, .p (pMv t3_5), none, 0⟩,
  ⟨q3_29, .p (pEq k86 t3_28 c0), none, 1⟩])
 (.cond t3_29
 (.reg [⟨q3_30, .p (pMv t3_0), none, 0⟩,
  ⟨q3_31, .p (pFa 1 t3_3), none, 0⟩,
  ⟨q3_32, .r (rLd1 t3_31), none, 2⟩,
  ⟨q3_33, .r (rLdn 38 t3_4), none, 0⟩,
  ⟨q3_34, .p (pBld z70 [(0, 1, c2), (40, 38, t3_33)]), none, 8⟩,
  ⟨q3_35, .call (.cst (.f 65 [])) [t3_30, t3_32, t3_34], none, 31⟩])
 .skip)))))⟩
theorem f56_ok : cFunc Cx0 Tryz.f56 = some f56 := by kernel_rfl
noncomputable def f58 : SFn := ⟨4, 76, [p4_0, p4_1], [],
 (.seq (.reg [⟨q4_3, .a (aBox 70 t4_1), none, 0⟩])
 (.seq (.seq (.dreg [⟨q4_6, .p (pMv t4_0), none, 0⟩,
  ⟨q4_7, .p (pFa 1 t4_3), none, 0⟩,
  ⟨q4_8, .r (rLd1 t4_7), none, 2⟩,
  ⟨q4_9, .call (.cst (.f 66 [])) [t4_6, t4_8], none, 7⟩,
  ⟨q4_10, .p (pNot t4_9), none, 15⟩,
  ⟨q4_11, .p (pMv t4_10), none, 31⟩,
  ⟨q4_12, .p (pFa 154 t4_3), (some (p4_11, false)), 63⟩,
  ⟨q4_13, .r (rLd1 t4_12), (some (p4_11, false)), 127⟩,
  ⟨q4_14, .p (pMv t4_0), (some (p4_11, false)), 63⟩,
  ⟨q4_15, .p (pNilc t4_14), (some (p4_11, false)), 319⟩,
  ⟨q4_16, .p (pFa 7 t4_15), (some (p4_11, false)), 831⟩,
  ⟨q4_17, .r (rLd1 t4_16), (some (p4_11, false)), 1855⟩,
  ⟨q4_18, .call (.cst (.f 82 [])) [t4_17], (some (p4_11, false)), 3903⟩,
  ⟨q4_19, .p (pNe k3 t4_13 t4_18), (some (p4_11, false)), 8191⟩,
  ⟨q4_20, .p (pPick t4_11 (.cst (.b true)) t4_19), none, 16383⟩,
  ⟨q4_21, .p (pMv t4_20), none, 32767⟩,
  ⟨q4_22, .p (pFa 155 t4_3), (some (p4_21, false)), 65535⟩,
  ⟨q4_23, .r (rLd1 t4_22), (some (p4_21, false)), 131071⟩,
  ⟨q4_24, .p (pLt t4_23 c0), (some (p4_21, false)), 262143⟩,
  ⟨q4_25, .p (pPick t4_21 (.cst (.b true)) t4_24), none, 524287⟩,
  ⟨q4_26, .p (pMv t4_25), none, 1048575⟩,
  ⟨q4_27, .p (pFa 155 t4_3), (some (p4_26, false)), 2097151⟩,
  ⟨q4_28, .r (rLd1 t4_27), (some (p4_26, false)), 4194303⟩,
  ⟨q4_29, .p (pGt t4_28 (.cst (.i .i64 (.lit (.ofNat 1048576))))), (some (p4_26, false)), 8388607⟩,
  ⟨q4_30, .p (pPick t4_26 (.cst (.b true)) t4_29), none, 16777215⟩,
  ⟨q4_31, .p (pMv t4_30), none, 33554431⟩,
  ⟨q4_32, .p (pFa 1 t4_3), (some (p4_31, false)), 67108863⟩,
  ⟨q4_33, .r (rLd1 t4_32), (some (p4_31, false)), 134217727⟩,
  ⟨q4_34, .p (pMv t4_0), (some (p4_31, false)), 67108863⟩,
  ⟨q4_35, .p (pNilc t4_34), (some (p4_31, false)), 335544319⟩,
  ⟨q4_36, .p (pFa 0 t4_35), (some (p4_31, false)), 872415231⟩,
  ⟨q4_37, .r (rLdn 2 t4_36), (some (p4_31, false)), 1946157055⟩,
  ⟨q4_38, .p (pFa 154 t4_3), (some (p4_31, false)), 67108863⟩,
  ⟨q4_39, .r (rLd1 t4_38), (some (p4_31, false)), 4362076159⟩,
  ⟨q4_40, .p (pFa 155 t4_3), (some (p4_31, false)), 67108863⟩,
  ⟨q4_41, .r (rLd1 t4_40), (some (p4_31, false)), 17246978047⟩,
  ⟨q4_42, .call (.cst (.f 103 [])) [t4_37, t4_39, t4_41], (some (p4_31, false)), 68518150143⟩,
  ⟨q4_43, .p (pNe k3 t4_33 t4_42), (some (p4_31, false)), 137438953471⟩,
  ⟨q4_44, .p (pPick t4_31 (.cst (.b true)) t4_43), none, 274877906943⟩,
  ⟨q4_45, .p (pMv t4_44), none, 549755813887⟩,
  ⟨q4_46, .p (pFa 156 t4_3), (some (p4_45, false)), 1099511627775⟩,
  ⟨q4_47, .r (rLd1 t4_46), (some (p4_45, false)), 2199023255551⟩,
  ⟨q4_48, .p (pMv t4_0), (some (p4_45, false)), 1099511627775⟩,
  ⟨q4_49, .p (pNilc t4_48), (some (p4_45, false)), 5497558138879⟩,
  ⟨q4_50, .p (pFa 5 t4_49), (some (p4_45, false)), 14293651161087⟩,
  ⟨q4_51, .r (rLd1 t4_50), (some (p4_45, false)), 31885837205503⟩,
  ⟨q4_52, .call (.cst (.f 35 [])) [t4_51], (some (p4_45, false)), 67070209294335⟩,
  ⟨q4_53, .p (pMv t4_0), (some (p4_45, false)), 1099511627775⟩,
  ⟨q4_54, .p (pNilc t4_53), (some (p4_45, false)), 141836999983103⟩,
  ⟨q4_55, .p (pFa 7 t4_54), (some (p4_45, false)), 423311976693759⟩,
  ⟨q4_56, .r (rLd1 t4_55), (some (p4_45, false)), 986261930115071⟩,
  ⟨q4_57, .call (.cst (.f 104 [])) [t4_56], (some (p4_45, false)), 2248501278801919⟩,
  ⟨q4_58, .p (pAdd t4_57 (.cst (.i .u64 (.lit (.ofNat 1))))), (some (p4_45, false)), 4500301092487167⟩,
  ⟨q4_59, .p (pMax [t4_52, t4_58]), (some (p4_45, false)), 9003900719857663⟩,
  ⟨q4_60, .p (pGt t4_47 t4_59), (some (p4_45, false)), 18014398509481983⟩,
  ⟨q4_61, .p (pPick t4_45 (.cst (.b true)) t4_60), none, 36028797018963967⟩])
 (.cond t4_61
 .ret
 .skip))
 (.seq (.reg [⟨q4_63, .p (pMv t4_0), none, 0⟩,
  ⟨q4_64, .p (pFa 156 t4_3), none, 0⟩,
  ⟨q4_65, .r (rLd1 t4_64), none, 2⟩,
  ⟨q4_66, .call (.cst (.f 105 [])) [t4_63, t4_65], none, 7⟩,
  ⟨q4_62, .p (pMv t4_66), none, 15⟩,
  ⟨q4_67, .p (pExt t4_62 0), none, 31⟩,
  ⟨q4_68, .p (pExt t4_62 1), none, 31⟩,
  ⟨q4_4, .a (aAlloc z49 49), none, 0⟩,
  ⟨none, .e (eSt 6 t4_4 t4_67), none, 191⟩,
  ⟨q4_5, .p (pMv t4_68), none, 511⟩])
 (.seq (.reg [⟨q4_69, .p (pMv t4_5), none, 0⟩])
 (.cond t4_69
 (.reg [⟨q4_70, .p (pMv t4_0), none, 0⟩,
  ⟨q4_71, .p (pFa 1 t4_3), none, 0⟩,
  ⟨q4_72, .r (rLd1 t4_71), none, 2⟩,
  ⟨q4_73, .r (rLdn 6 t4_4), none, 0⟩,
  ⟨q4_74, .p (pBld z70 [(0, 1, c6), (157, 6, t4_73)]), none, 8⟩,
  ⟨q4_75, .call (.cst (.f 65 [])) [t4_70, t4_72, t4_74], none, 31⟩])
 .skip)))))⟩
theorem f58_ok : cFunc Cx0 Tryz.f58 = some f58 := by kernel_rfl
noncomputable def f65 : SFn := ⟨3, 24, [p3_0, p3_1, p3_2], [],
 (.seq (.reg [⟨q3_5, .a (aBox 70 t3_2), none, 0⟩])
 (.seq (.reg [⟨q3_6, .p (pMv t3_0), none, 0⟩,
  ⟨q3_7, .p (pNilc t3_6), none, 1⟩,
  ⟨q3_8, .p (pFa 2 t3_7), none, 3⟩,
  ⟨q3_9, .r (rLd1 t3_8), none, 7⟩,
  ⟨q3_10, .p (pMv t3_1), none, 0⟩,
  ⟨q3_11, .p (pFa 1 t3_5), none, 15⟩,
  ⟨none, .e (eSt 1 t3_11 t3_9), none, 47⟩,
  ⟨q3_12, .p (pFa 2 t3_5), none, 127⟩,
  ⟨none, .e (eSt 1 t3_12 t3_10), none, 255⟩])
 (.dreg [⟨q3_13, .p (pMv t3_0), none, 0⟩,
  ⟨q3_14, .p (pMv t3_0), none, 0⟩,
  ⟨q3_15, .p (pNilc t3_14), none, 2⟩,
  ⟨q3_16, .p (pFa 13 t3_15), none, 6⟩,
  ⟨q3_17, .r (rLd1 t3_16), none, 14⟩,
  ⟨q3_18, .r (rLdn 295 t3_5), none, 0⟩,
  ⟨q3_19, .call (.cst (.f 68 [])) [t3_18], none, 32⟩,
  ⟨q3_20, .a (aBsl (zeros z70 1) 70 1 [(0, 295, t3_19)]), none, 96⟩,
  ⟨q3_21, .e (eApp 70 295 960 t3_17 t3_20), none, 254⟩,
  ⟨q3_22, .p (pNilc t3_13), none, 511⟩,
  ⟨q3_23, .p (pFa 13 t3_22), none, 1023⟩,
  ⟨none, .e (eSt 1 t3_23 t3_21), none, 2047⟩])))⟩
theorem f65_ok : cFunc Cx0 Tryz.f65 = some f65 := by kernel_rfl
noncomputable def f66 : SFn := ⟨3, 19, [p3_0, p3_1], [(p3_4, none)],
 (.seq (.reg [⟨q3_4, .p (pMv (.cst (.b false))), none, 0⟩])
 (.seq (.reg [⟨q3_5, .p (pMv t3_0), none, 0⟩,
  ⟨q3_6, .p (pNilc t3_5), none, 1⟩,
  ⟨q3_7, .p (pFa 0 t3_6), none, 3⟩,
  ⟨q3_8, .r (rLdn 2 t3_7), none, 7⟩,
  ⟨q3_9, .p (pMv t3_1), none, 0⟩,
  ⟨q3_10, .call (.cst (.f 78 [])) [t3_8, t3_9], none, 31⟩,
  ⟨q3_11, .p (pMv t3_10), none, 63⟩,
  ⟨q3_12, .p (pMv t3_1), (some (p3_11, true)), 127⟩,
  ⟨q3_13, .p (pMv t3_0), (some (p3_11, true)), 127⟩,
  ⟨q3_14, .p (pNilc t3_13), (some (p3_11, true)), 383⟩,
  ⟨q3_15, .p (pFa 2 t3_14), (some (p3_11, true)), 895⟩,
  ⟨q3_16, .r (rLd1 t3_15), (some (p3_11, true)), 1919⟩,
  ⟨q3_17, .p (pNe k3 t3_12 t3_16), (some (p3_11, true)), 4095⟩,
  ⟨q3_18, .p (pPick t3_11 t3_17 (.cst (.b false))), none, 8191⟩,
  ⟨q3_4, .p (pMv t3_18), none, 16383⟩])
 .ret))⟩
theorem f66_ok : cFunc Cx0 Tryz.f66 = some f66 := by kernel_rfl
noncomputable def f68 : SFn := ⟨3, 34, [p3_0], [(p3_2, some 295)],
 (.seq (.reg [⟨q3_1, .a (aBox 70 t3_0), none, 0⟩,
  ⟨q3_2, .a (aAlloc z70 70), none, 0⟩])
 (.seq (.dreg [⟨q3_3, .p (pFa 78 t3_1), none, 0⟩,
  ⟨q3_4, .r (rLdn 38 t3_3), none, 1⟩,
  ⟨q3_5, .call (.cst (.f 122 [])) [t3_4], none, 3⟩,
  ⟨q3_6, .p (pFa 157 t3_1), none, 0⟩,
  ⟨q3_7, .r (rLdn 6 t3_6), none, 8⟩,
  ⟨q3_8, .call (.cst (.f 123 [])) [t3_7], none, 31⟩,
  ⟨q3_9, .p (pFa 248 t3_1), none, 0⟩,
  ⟨q3_10, .r (rLdn 34 t3_9), none, 64⟩,
  ⟨q3_11, .call (.cst (.f 124 [])) [t3_10], none, 255⟩,
  ⟨q3_12, .p (pFa 78 t3_1), none, 223⟩,
  ⟨none, .e (eSt 38 t3_12 t3_5), none, 1023⟩,
  ⟨q3_13, .p (pFa 157 t3_1), none, 2047⟩,
  ⟨none, .e (eSt 6 t3_13 t3_8), none, 4095⟩,
  ⟨q3_14, .p (pFa 248 t3_1), none, 8191⟩,
  ⟨none, .e (eSt 34 t3_14 t3_11), none, 16383⟩])
 (.seq (.reg [⟨q3_15, .p (pFa 163 t3_1), none, 0⟩,
  ⟨q3_16, .p (pFa 4 t3_15), none, 1⟩,
  ⟨q3_17, .r (rLdn 5 t3_16), none, 3⟩,
  ⟨q3_18, .call (.cst (.f 125 [])) [t3_17], none, 7⟩,
  ⟨q3_19, .p (pFa 163 t3_1), none, 15⟩,
  ⟨q3_20, .p (pFa 4 t3_19), none, 31⟩,
  ⟨none, .e (eSt 5 t3_20 t3_18), none, 63⟩])
 (.seq (.dreg [⟨q3_21, .p (pFa 287 t3_1), none, 0⟩,
  ⟨q3_22, .p (pFa 2 t3_21), none, 1⟩,
  ⟨q3_23, .r (rLdn 5 t3_22), none, 3⟩,
  ⟨q3_24, .call (.cst (.f 125 [])) [t3_23], none, 7⟩,
  ⟨q3_25, .p (pFa 287 t3_1), none, 0⟩,
  ⟨q3_26, .p (pFa 7 t3_25), none, 16⟩,
  ⟨q3_27, .r (rLd1 t3_26), none, 48⟩,
  ⟨q3_28, .call (.cst (.f 126 [])) [t3_27, (.cst (.f 127 []))], none, 127⟩,
  ⟨q3_29, .p (pFa 287 t3_1), none, 127⟩,
  ⟨q3_30, .p (pFa 2 t3_29), none, 383⟩,
  ⟨none, .e (eSt 5 t3_30 t3_24), none, 1023⟩,
  ⟨q3_31, .p (pFa 287 t3_1), none, 2047⟩,
  ⟨q3_32, .p (pFa 7 t3_31), none, 4095⟩,
  ⟨none, .e (eSt 1 t3_32 t3_28), none, 8191⟩])
 (.seq (.reg [⟨q3_33, .r (rLdn 295 t3_1), none, 0⟩,
  ⟨none, .e (eSt 295 t3_2 t3_33), none, 1⟩])
 .ret)))))⟩
theorem f68_ok : cFunc Cx0 Tryz.f68 = some f68 := by kernel_rfl
noncomputable def f69 : SFn := ⟨5, 269, [p5_0], [(p5_2, some 32)],
 (.seq (.reg [⟨q5_2, .a (aAlloc z35 35), none, 0⟩])
 (.seq (.reg [⟨q5_24, .call (.cst (.f 128 [])) [], none, 0⟩,
  ⟨q5_3, .a (aAlloc z249 249), none, 0⟩,
  ⟨none, .e (eSt 64 t5_3 t5_24), none, 3⟩])
 (.seq (.reg [⟨q5_25, .p (pBld z251 [(0, 1, (.cst (.i .u32 (.lit (.ofNat 1779033703))))), (1, 1, (.cst (.i .u32 (.lit (.ofNat 3144134277))))), (2, 1, (.cst (.i .u32 (.lit (.ofNat 1013904242))))), (3, 1, (.cst (.i .u32 (.lit (.ofNat 2773480762))))), (4, 1, (.cst (.i .u32 (.lit (.ofNat 1359893119))))), (5, 1, (.cst (.i .u32 (.lit (.ofNat 2600822924))))), (6, 1, (.cst (.i .u32 (.lit (.ofNat 528734635))))), (7, 1, (.cst (.i .u32 (.lit (.ofNat 1541459225)))))]), none, 0⟩,
  ⟨q5_4, .a (aAlloc z251 251), none, 0⟩,
  ⟨none, .e (eSt 8 t5_4 t5_25), none, 3⟩])
 (.seq (.reg [⟨q5_26, .p (pMv t5_0), none, 0⟩,
  ⟨q5_27, .e (eApp 5 1 1 (.cst .ns) t5_26), none, 1⟩,
  ⟨q5_28, .a (aBsl (zeros z5 1) 5 1 [(0, 1, (.cst (.i .u8 (.lit (.ofNat 128)))))]), none, 0⟩,
  ⟨q5_29, .e (eApp 5 1 1 t5_27 t5_28), none, 7⟩,
  ⟨q5_5, .p (pMv t5_29), none, 15⟩])
 (.seq (.block 0 (.loop (.seq (.seq (.reg [⟨q5_30, .p (pMv t5_5), none, 0⟩,
  ⟨q5_31, .p (pLen t5_30), none, 1⟩,
  ⟨q5_32, .p (pRem t5_31 c64), none, 3⟩,
  ⟨q5_33, .p (pNe k3 t5_32 c56), none, 7⟩])
 (.cond t5_33
 .skip
 (.exit 0)))
 (.block 1 (.reg [⟨q5_34, .p (pMv t5_5), none, 0⟩,
  ⟨q5_35, .a (aBsl (zeros z5 1) 5 1 [(0, 1, (.cst (.i .u8 (.lit (.ofNat 0)))))]), none, 0⟩,
  ⟨q5_36, .e (eApp 5 1 1 t5_34 t5_35), none, 3⟩,
  ⟨q5_5, .p (pMv t5_36), none, 7⟩])))))
 (.seq (.reg [⟨q5_37, .p (pMv t5_0), none, 0⟩,
  ⟨q5_38, .p (pLen t5_37), none, 1⟩,
  ⟨q5_39, .p (pCvi .u64 t5_38), none, 3⟩,
  ⟨q5_40, .p (pMul t5_39 (.cst (.i .u64 (.lit (.ofNat 8))))), none, 7⟩,
  ⟨q5_6, .p (pMv t5_40), none, 15⟩])
 (.seq (.seq (.reg [⟨q5_7, .p (pMv c7), none, 0⟩])
 (.block 2 (.loop (.seq (.seq (.reg [⟨q5_41, .p (pMv t5_7), none, 0⟩,
  ⟨q5_42, .p (pGe t5_41 c0), none, 1⟩])
 (.cond t5_42
 .skip
 (.exit 2)))
 (.seq (.block 3 (.reg [⟨q5_45, .p (pMv t5_5), none, 0⟩,
  ⟨q5_46, .p (pMv t5_6), none, 0⟩,
  ⟨q5_47, .p (pMv t5_7), none, 0⟩,
  ⟨q5_48, .p (pMul c8 t5_47), none, 4⟩,
  ⟨q5_49, .p (pCvi .u64 t5_48), none, 12⟩,
  ⟨q5_50, .p (pShr t5_46 t5_49), none, 30⟩,
  ⟨q5_51, .p (pCvi .u8 t5_50), none, 62⟩,
  ⟨q5_52, .a (aBsl (zeros z5 1) 5 1 [(0, 1, t5_51)]), none, 126⟩,
  ⟨q5_53, .e (eApp 5 1 1 t5_45 t5_52), none, 255⟩,
  ⟨q5_5, .p (pMv t5_53), none, 511⟩]))
 (.reg [⟨q5_43, .p (pMv t5_7), none, 0⟩,
  ⟨q5_44, .p (pSub t5_43 c1), none, 1⟩,
  ⟨q5_7, .p (pMv t5_44), none, 3⟩]))))))
 (.seq (.seq (.reg [⟨q5_8, .p (pMv c0), none, 0⟩])
 (.block 4 (.loop (.seq (.seq (.reg [⟨q5_54, .p (pMv t5_8), none, 0⟩,
  ⟨q5_55, .p (pMv t5_5), none, 0⟩,
  ⟨q5_56, .p (pLen t5_55), none, 2⟩,
  ⟨q5_57, .p (pLt t5_54 t5_56), none, 7⟩])
 (.cond t5_57
 .skip
 (.exit 4)))
 (.seq (.block 5 (.seq (.reg [⟨q5_9, .a (aAlloc z249 249), none, 0⟩])
 (.seq (.seq (.reg [⟨q5_10, .p (pMv c0), none, 0⟩])
 (.block 6 (.loop (.seq (.seq (.reg [⟨q5_60, .p (pMv t5_10), none, 0⟩,
  ⟨q5_61, .p (pLt t5_60 c16), none, 1⟩])
 (.cond t5_61
 .skip
 (.exit 6)))
 (.seq (.block 7 (.seq (.reg [⟨q5_64, .p (pMv t5_5), none, 0⟩,
  ⟨q5_65, .p (pMv t5_8), none, 0⟩,
  ⟨q5_66, .p (pMv t5_10), none, 0⟩,
  ⟨q5_67, .p (pMul c4 t5_66), none, 4⟩,
  ⟨q5_68, .p (pAdd t5_65 t5_67), none, 14⟩,
  ⟨q5_69, .r (rSlL 1 t5_64 (some t5_68) none none), none, 31⟩,
  ⟨q5_11, .p (pMv t5_69), none, 63⟩])
 (.dreg [⟨q5_70, .p (pMv t5_10), none, 0⟩,
  ⟨q5_71, .p (pMv t5_11), none, 0⟩,
  ⟨q5_72, .p (pIxL 1 t5_71 c0), none, 2⟩,
  ⟨q5_73, .r (rLd1 t5_72), none, 6⟩,
  ⟨q5_74, .p (pCvi .u32 t5_73), none, 14⟩,
  ⟨q5_75, .p (pShl t5_74 (.cst (.i .u64 (.lit (.ofNat 24))))), none, 30⟩,
  ⟨q5_76, .p (pMv t5_11), none, 0⟩,
  ⟨q5_77, .p (pIxL 1 t5_76 c1), none, 64⟩,
  ⟨q5_78, .r (rLd1 t5_77), none, 192⟩,
  ⟨q5_79, .p (pCvi .u32 t5_78), none, 448⟩,
  ⟨q5_80, .p (pShl t5_79 (.cst (.i .u64 (.lit (.ofNat 16))))), none, 960⟩,
  ⟨q5_81, .p (pBits .or t5_75 t5_80), none, 2046⟩,
  ⟨q5_82, .p (pMv t5_11), none, 0⟩,
  ⟨q5_83, .p (pIxL 1 t5_82 c2), none, 4096⟩,
  ⟨q5_84, .r (rLd1 t5_83), none, 12288⟩,
  ⟨q5_85, .p (pCvi .u32 t5_84), none, 28672⟩,
  ⟨q5_86, .p (pShl t5_85 (.cst (.i .u64 (.lit (.ofNat 8))))), none, 61440⟩,
  ⟨q5_87, .p (pBits .or t5_81 t5_86), none, 131070⟩,
  ⟨q5_88, .p (pMv t5_11), none, 0⟩,
  ⟨q5_89, .p (pIxL 1 t5_88 c3), none, 262144⟩,
  ⟨q5_90, .r (rLd1 t5_89), none, 786432⟩,
  ⟨q5_91, .p (pCvi .u32 t5_90), none, 1835008⟩,
  ⟨q5_92, .p (pBits .or t5_87 t5_91), none, 4194302⟩,
  ⟨q5_93, .p (pIxA 64 1 t5_9 t5_70), none, 8388607⟩,
  ⟨none, .e (eSt 1 t5_93 t5_92), none, 16777215⟩])))
 (.reg [⟨q5_62, .p (pMv t5_10), none, 0⟩,
  ⟨q5_63, .p (pAdd t5_62 c1), none, 1⟩,
  ⟨q5_10, .p (pMv t5_63), none, 3⟩]))))))
 (.seq (.seq (.reg [⟨q5_12, .p (pMv c16), none, 0⟩])
 (.block 8 (.loop (.seq (.seq (.reg [⟨q5_94, .p (pMv t5_12), none, 0⟩,
  ⟨q5_95, .p (pLt t5_94 c64), none, 1⟩])
 (.cond t5_95
 .skip
 (.exit 8)))
 (.seq (.block 9 (.seq (.dreg [⟨q5_98, .p (pMv t5_12), none, 0⟩,
  ⟨q5_99, .p (pSub t5_98 c15), none, 1⟩,
  ⟨q5_100, .p (pIxA 64 1 t5_9 t5_99), none, 3⟩,
  ⟨q5_101, .r (rLd1 t5_100), none, 7⟩,
  ⟨q5_102, .p (pMv t5_12), none, 0⟩,
  ⟨q5_103, .p (pSub t5_102 c2), none, 16⟩,
  ⟨q5_104, .p (pIxA 64 1 t5_9 t5_103), none, 48⟩,
  ⟨q5_105, .r (rLd1 t5_104), none, 112⟩,
  ⟨q5_13, .p (pMv t5_101), none, 15⟩,
  ⟨q5_14, .p (pMv t5_105), none, 511⟩])
 (.dreg [⟨q5_106, .p (pMv t5_12), none, 0⟩,
  ⟨q5_107, .p (pMv t5_12), none, 0⟩,
  ⟨q5_108, .p (pSub t5_107 c16), none, 2⟩,
  ⟨q5_109, .p (pIxA 64 1 t5_9 t5_108), none, 6⟩,
  ⟨q5_110, .r (rLd1 t5_109), none, 14⟩,
  ⟨q5_111, .p (pMv t5_13), none, 0⟩,
  ⟨q5_112, .call (.cst (.f 129 [])) [t5_111, (.cst (.i .u64 (.lit (.ofNat 7))))], none, 32⟩,
  ⟨q5_113, .p (pMv t5_13), none, 0⟩,
  ⟨q5_114, .call (.cst (.f 129 [])) [t5_113, (.cst (.i .u64 (.lit (.ofNat 18))))], none, 224⟩,
  ⟨q5_115, .p (pBits .xor t5_112 t5_114), none, 480⟩,
  ⟨q5_116, .p (pMv t5_13), none, 0⟩,
  ⟨q5_117, .p (pShr t5_116 (.cst (.i .u64 (.lit (.ofNat 3))))), none, 1024⟩,
  ⟨q5_118, .p (pBits .xor t5_115 t5_117), none, 4064⟩,
  ⟨q5_119, .p (pAdd t5_110 t5_118), none, 8190⟩,
  ⟨q5_120, .p (pMv t5_12), none, 0⟩,
  ⟨q5_121, .p (pSub t5_120 c7), none, 16384⟩,
  ⟨q5_122, .p (pIxA 64 1 t5_9 t5_121), none, 49152⟩,
  ⟨q5_123, .r (rLd1 t5_122), none, 114688⟩,
  ⟨q5_124, .p (pAdd t5_119 t5_123), none, 262142⟩,
  ⟨q5_125, .p (pMv t5_14), none, 0⟩,
  ⟨q5_126, .call (.cst (.f 129 [])) [t5_125, (.cst (.i .u64 (.lit (.ofNat 17))))], none, 524768⟩,
  ⟨q5_127, .p (pMv t5_14), none, 0⟩,
  ⟨q5_128, .call (.cst (.f 129 [])) [t5_127, (.cst (.i .u64 (.lit (.ofNat 19))))], none, 3670496⟩,
  ⟨q5_129, .p (pBits .xor t5_126 t5_128), none, 7864800⟩,
  ⟨q5_130, .p (pMv t5_14), none, 0⟩,
  ⟨q5_131, .p (pShr t5_130 (.cst (.i .u64 (.lit (.ofNat 10))))), none, 16777216⟩,
  ⟨q5_132, .p (pBits .xor t5_129 t5_131), none, 66585056⟩,
  ⟨q5_133, .p (pAdd t5_124 t5_132), none, 134217726⟩,
  ⟨q5_134, .p (pIxA 64 1 t5_9 t5_106), none, 268435455⟩,
  ⟨none, .e (eSt 1 t5_134 t5_133), none, 536870911⟩])))
 (.reg [⟨q5_96, .p (pMv t5_12), none, 0⟩,
  ⟨q5_97, .p (pAdd t5_96 c1), none, 1⟩,
  ⟨q5_12, .p (pMv t5_97), none, 3⟩]))))))
 (.seq (.reg [⟨q5_135, .r (rLdn 8 t5_4), none, 0⟩,
  ⟨q5_15, .a (aAlloc z251 251), none, 0⟩,
  ⟨none, .e (eSt 8 t5_15 t5_135), none, 3⟩])
 (.seq (.seq (.reg [⟨q5_16, .p (pMv c0), none, 0⟩])
 (.block 10 (.loop (.seq (.seq (.reg [⟨q5_136, .p (pMv t5_16), none, 0⟩,
  ⟨q5_137, .p (pLt t5_136 c64), none, 1⟩])
 (.cond t5_137
 .skip
 (.exit 10)))
 (.seq (.block 11 (.seq (.dreg [⟨q5_140, .p (pIxA 8 1 t5_15 c4), none, 0⟩,
  ⟨q5_141, .r (rLd1 t5_140), none, 1⟩,
  ⟨q5_142, .p (pIxA 8 1 t5_15 c0), none, 0⟩,
  ⟨q5_143, .r (rLd1 t5_142), none, 4⟩,
  ⟨q5_17, .p (pMv t5_141), none, 3⟩,
  ⟨q5_18, .p (pMv t5_143), none, 31⟩])
 (.seq (.dreg [⟨q5_144, .p (pIxA 8 1 t5_15 c7), none, 0⟩,
  ⟨q5_145, .r (rLd1 t5_144), none, 1⟩,
  ⟨q5_146, .p (pMv t5_17), none, 0⟩,
  ⟨q5_147, .call (.cst (.f 129 [])) [t5_146, (.cst (.i .u64 (.lit (.ofNat 6))))], none, 4⟩,
  ⟨q5_148, .p (pMv t5_17), none, 0⟩,
  ⟨q5_149, .call (.cst (.f 129 [])) [t5_148, (.cst (.i .u64 (.lit (.ofNat 11))))], none, 28⟩,
  ⟨q5_150, .p (pBits .xor t5_147 t5_149), none, 60⟩,
  ⟨q5_151, .p (pMv t5_17), none, 0⟩,
  ⟨q5_152, .call (.cst (.f 129 [])) [t5_151, (.cst (.i .u64 (.lit (.ofNat 25))))], none, 188⟩,
  ⟨q5_153, .p (pBits .xor t5_150 t5_152), none, 508⟩,
  ⟨q5_154, .p (pAdd t5_145 t5_153), none, 1023⟩,
  ⟨q5_155, .p (pMv t5_17), none, 0⟩,
  ⟨q5_156, .p (pIxA 8 1 t5_15 c5), none, 0⟩,
  ⟨q5_157, .r (rLd1 t5_156), none, 4096⟩,
  ⟨q5_158, .p (pBits .and t5_155 t5_157), none, 14336⟩,
  ⟨q5_159, .p (pMv t5_17), none, 0⟩,
  ⟨q5_160, .p (pCom t5_159), none, 32768⟩,
  ⟨q5_161, .p (pIxA 8 1 t5_15 c6), none, 0⟩,
  ⟨q5_162, .r (rLd1 t5_161), none, 131072⟩,
  ⟨q5_163, .p (pBits .and t5_160 t5_162), none, 491520⟩,
  ⟨q5_164, .p (pBits .xor t5_158 t5_163), none, 1046528⟩,
  ⟨q5_165, .p (pAdd t5_154 t5_164), none, 2097151⟩,
  ⟨q5_166, .p (pMv t5_16), none, 0⟩,
  ⟨q5_167, .p (pIxA 64 1 t5_3 t5_166), none, 4194304⟩,
  ⟨q5_168, .r (rLd1 t5_167), none, 12582912⟩,
  ⟨q5_169, .p (pAdd t5_165 t5_168), none, 33554431⟩,
  ⟨q5_170, .p (pMv t5_16), none, 0⟩,
  ⟨q5_171, .p (pIxA 64 1 t5_9 t5_170), none, 67108864⟩,
  ⟨q5_172, .r (rLd1 t5_171), none, 201326592⟩,
  ⟨q5_173, .p (pAdd t5_169 t5_172), none, 536870911⟩,
  ⟨q5_19, .p (pMv t5_173), none, 1073741823⟩])
 (.seq (.dreg [⟨q5_174, .p (pMv t5_18), none, 0⟩,
  ⟨q5_175, .call (.cst (.f 129 [])) [t5_174, (.cst (.i .u64 (.lit (.ofNat 2))))], none, 1⟩,
  ⟨q5_176, .p (pMv t5_18), none, 0⟩,
  ⟨q5_177, .call (.cst (.f 129 [])) [t5_176, (.cst (.i .u64 (.lit (.ofNat 13))))], none, 7⟩,
  ⟨q5_178, .p (pBits .xor t5_175 t5_177), none, 15⟩,
  ⟨q5_179, .p (pMv t5_18), none, 0⟩,
  ⟨q5_180, .call (.cst (.f 129 [])) [t5_179, (.cst (.i .u64 (.lit (.ofNat 22))))], none, 47⟩,
  ⟨q5_181, .p (pBits .xor t5_178 t5_180), none, 127⟩,
  ⟨q5_182, .p (pMv t5_18), none, 0⟩,
  ⟨q5_183, .p (pIxA 8 1 t5_15 c1), none, 0⟩,
  ⟨q5_184, .r (rLd1 t5_183), none, 512⟩,
  ⟨q5_185, .p (pBits .and t5_182 t5_184), none, 1792⟩,
  ⟨q5_186, .p (pMv t5_18), none, 0⟩,
  ⟨q5_187, .p (pIxA 8 1 t5_15 c2), none, 0⟩,
  ⟨q5_188, .r (rLd1 t5_187), none, 8192⟩,
  ⟨q5_189, .p (pBits .and t5_186 t5_188), none, 28672⟩,
  ⟨q5_190, .p (pBits .xor t5_185 t5_189), none, 65280⟩,
  ⟨q5_191, .p (pIxA 8 1 t5_15 c1), none, 0⟩,
  ⟨q5_192, .r (rLd1 t5_191), none, 131072⟩,
  ⟨q5_193, .p (pIxA 8 1 t5_15 c2), none, 0⟩,
  ⟨q5_194, .r (rLd1 t5_193), none, 524288⟩,
  ⟨q5_195, .p (pBits .and t5_192 t5_194), none, 1966080⟩,
  ⟨q5_196, .p (pBits .xor t5_190 t5_195), none, 4194048⟩,
  ⟨q5_197, .p (pAdd t5_181 t5_196), none, 8388607⟩,
  ⟨q5_20, .p (pMv t5_197), none, 16777215⟩])
 (.reg [⟨q5_198, .p (pMv t5_19), none, 0⟩,
  ⟨q5_199, .p (pMv t5_20), none, 0⟩,
  ⟨q5_200, .p (pAdd t5_198 t5_199), none, 3⟩,
  ⟨q5_201, .p (pIxA 8 1 t5_15 c0), none, 0⟩,
  ⟨q5_202, .r (rLd1 t5_201), none, 8⟩,
  ⟨q5_203, .p (pIxA 8 1 t5_15 c1), none, 0⟩,
  ⟨q5_204, .r (rLd1 t5_203), none, 32⟩,
  ⟨q5_205, .p (pIxA 8 1 t5_15 c2), none, 0⟩,
  ⟨q5_206, .r (rLd1 t5_205), none, 128⟩,
  ⟨q5_207, .p (pIxA 8 1 t5_15 c3), none, 0⟩,
  ⟨q5_208, .r (rLd1 t5_207), none, 512⟩,
  ⟨q5_209, .p (pMv t5_19), none, 0⟩,
  ⟨q5_210, .p (pAdd t5_208 t5_209), none, 3584⟩,
  ⟨q5_211, .p (pIxA 8 1 t5_15 c4), none, 0⟩,
  ⟨q5_212, .r (rLd1 t5_211), none, 8192⟩,
  ⟨q5_213, .p (pIxA 8 1 t5_15 c5), none, 0⟩,
  ⟨q5_214, .r (rLd1 t5_213), none, 32768⟩,
  ⟨q5_215, .p (pIxA 8 1 t5_15 c6), none, 0⟩,
  ⟨q5_216, .r (rLd1 t5_215), none, 131072⟩,
  ⟨q5_217, .p (pBld z251 [(0, 1, t5_200), (1, 1, t5_202), (2, 1, t5_204), (3, 1, t5_206), (4, 1, t5_210), (5, 1, t5_212), (6, 1, t5_214), (7, 1, t5_216)]), none, 524287⟩,
  ⟨none, .e (eSt 8 t5_15 t5_217), none, 1048575⟩])))))
 (.reg [⟨q5_138, .p (pMv t5_16), none, 0⟩,
  ⟨q5_139, .p (pAdd t5_138 c1), none, 1⟩,
  ⟨q5_16, .p (pMv t5_139), none, 3⟩]))))))
 (.seq (.reg [⟨q5_218, .p (pMv c0), none, 0⟩])
 (.block 12 (.loop (.seq (.reg [⟨q5_219, .p (pLt t5_218 c8), none, 0⟩])
 (.seq (.cond t5_219
 .skip
 (.exit 12))
 (.seq (.block 13 (.seq (.reg [⟨q5_220, .p (pMv t5_218), none, 0⟩,
  ⟨q5_21, .p (pMv t5_220), none, 1⟩])
 (.dreg [⟨q5_221, .p (pMv t5_21), none, 0⟩,
  ⟨q5_222, .p (pIxA 8 1 t5_4 t5_221), none, 1⟩,
  ⟨q5_223, .r (rLd1 t5_222), none, 3⟩,
  ⟨q5_224, .p (pMv t5_21), none, 0⟩,
  ⟨q5_225, .p (pIxA 8 1 t5_15 t5_224), none, 8⟩,
  ⟨q5_226, .r (rLd1 t5_225), none, 24⟩,
  ⟨q5_227, .p (pAdd t5_223 t5_226), none, 63⟩,
  ⟨q5_228, .p (pIxA 8 1 t5_4 t5_221), none, 127⟩,
  ⟨none, .e (eSt 1 t5_228 t5_227), none, 255⟩])))
 (.reg [⟨q5_229, .p (pAdd t5_218 c1), none, 0⟩,
  ⟨q5_218, .p (pMv t5_229), none, 1⟩])))))))))))))
 (.reg [⟨q5_58, .p (pMv t5_8), none, 0⟩,
  ⟨q5_59, .p (pAdd t5_58 c64), none, 1⟩,
  ⟨q5_8, .p (pMv t5_59), none, 3⟩]))))))
 (.seq (.reg [⟨q5_22, .a (aAlloc z35 35), none, 0⟩])
 (.seq (.seq (.reg [⟨q5_23, .p (pMv c0), none, 0⟩])
 (.block 14 (.loop (.seq (.seq (.reg [⟨q5_230, .p (pMv t5_23), none, 0⟩,
  ⟨q5_231, .p (pLt t5_230 c8), none, 1⟩])
 (.cond t5_231
 .skip
 (.exit 14)))
 (.seq (.block 15 (.dreg [⟨q5_234, .p (pMv t5_23), none, 0⟩,
  ⟨q5_235, .p (pMul c4 t5_234), none, 1⟩,
  ⟨q5_236, .p (pMv t5_23), none, 0⟩,
  ⟨q5_237, .p (pMul c4 t5_236), none, 4⟩,
  ⟨q5_238, .p (pAdd t5_237 c1), none, 12⟩,
  ⟨q5_239, .p (pMv t5_23), none, 0⟩,
  ⟨q5_240, .p (pMul c4 t5_239), none, 32⟩,
  ⟨q5_241, .p (pAdd t5_240 c2), none, 96⟩,
  ⟨q5_242, .p (pMv t5_23), none, 0⟩,
  ⟨q5_243, .p (pMul c4 t5_242), none, 256⟩,
  ⟨q5_244, .p (pAdd t5_243 c3), none, 768⟩,
  ⟨q5_245, .p (pMv t5_23), none, 0⟩,
  ⟨q5_246, .p (pIxA 8 1 t5_4 t5_245), none, 2048⟩,
  ⟨q5_247, .r (rLd1 t5_246), none, 6144⟩,
  ⟨q5_248, .p (pShr t5_247 (.cst (.i .u64 (.lit (.ofNat 24))))), none, 14336⟩,
  ⟨q5_249, .p (pCvi .u8 t5_248), none, 30720⟩,
  ⟨q5_250, .p (pMv t5_23), none, 0⟩,
  ⟨q5_251, .p (pIxA 8 1 t5_4 t5_250), none, 65536⟩,
  ⟨q5_252, .r (rLd1 t5_251), none, 196608⟩,
  ⟨q5_253, .p (pShr t5_252 (.cst (.i .u64 (.lit (.ofNat 16))))), none, 458752⟩,
  ⟨q5_254, .p (pCvi .u8 t5_253), none, 983040⟩,
  ⟨q5_255, .p (pMv t5_23), none, 0⟩,
  ⟨q5_256, .p (pIxA 8 1 t5_4 t5_255), none, 2097152⟩,
  ⟨q5_257, .r (rLd1 t5_256), none, 6291456⟩,
  ⟨q5_258, .p (pShr t5_257 (.cst (.i .u64 (.lit (.ofNat 8))))), none, 14680064⟩,
  ⟨q5_259, .p (pCvi .u8 t5_258), none, 31457280⟩,
  ⟨q5_260, .p (pMv t5_23), none, 0⟩,
  ⟨q5_261, .p (pIxA 8 1 t5_4 t5_260), none, 67108864⟩,
  ⟨q5_262, .r (rLd1 t5_261), none, 201326592⟩,
  ⟨q5_263, .p (pCvi .u8 t5_262), none, 469762048⟩,
  ⟨q5_264, .p (pIxA 32 1 t5_22 t5_235), none, 63491⟩,
  ⟨none, .e (eSt 1 t5_264 t5_249), none, 1073805315⟩,
  ⟨q5_265, .p (pIxA 32 1 t5_22 t5_238), none, 3223320607⟩,
  ⟨none, .e (eSt 1 t5_265 t5_254), none, 7518287903⟩,
  ⟨q5_266, .p (pIxA 32 1 t5_22 t5_241), none, 16173234431⟩,
  ⟨none, .e (eSt 1 t5_266 t5_259), none, 33353103615⟩,
  ⟨q5_267, .p (pIxA 32 1 t5_22 t5_244), none, 68719476735⟩,
  ⟨none, .e (eSt 1 t5_267 t5_263), none, 137438953471⟩]))
 (.reg [⟨q5_232, .p (pMv t5_23), none, 0⟩,
  ⟨q5_233, .p (pAdd t5_232 c1), none, 1⟩,
  ⟨q5_23, .p (pMv t5_233), none, 3⟩]))))))
 (.seq (.reg [⟨q5_268, .r (rLdn 32 t5_22), none, 0⟩,
  ⟨none, .e (eSt 32 t5_2 t5_268), none, 1⟩])
 .ret)))))))))))⟩
theorem f69_ok : cFunc Cx0 Tryz.f69 = some f69 := by kernel_rfl
noncomputable def f70 : SFn := ⟨3, 20, [p3_0], [(p3_2, none)],
 (.seq (.reg [⟨q3_2, .p (pMv (.cst .ns)), none, 0⟩])
 (.seq (.reg [⟨q3_3, .p (pMv (.cst .ns)), none, 0⟩])
 (.seq (.block 0 (.loop (.seq (.seq (.reg [⟨q3_4, .p (pMv t3_0), none, 0⟩,
  ⟨q3_5, .p (pGe t3_4 (.cst (.i .u64 (.lit (.ofNat 128))))), none, 1⟩])
 (.cond t3_5
 .skip
 (.exit 0)))
 (.block 1 (.seq (.reg [⟨q3_6, .p (pMv t3_3), none, 0⟩,
  ⟨q3_7, .p (pMv t3_0), none, 0⟩,
  ⟨q3_8, .p (pRem t3_7 (.cst (.i .u64 (.lit (.ofNat 128))))), none, 2⟩,
  ⟨q3_9, .p (pCvi .u8 t3_8), none, 6⟩,
  ⟨q3_10, .p (pAdd t3_9 (.cst (.i .u8 (.lit (.ofNat 128))))), none, 14⟩,
  ⟨q3_11, .a (aBsl (zeros z5 1) 5 1 [(0, 1, t3_10)]), none, 30⟩,
  ⟨q3_12, .e (eApp 5 1 1 t3_6 t3_11), none, 63⟩,
  ⟨q3_3, .p (pMv t3_12), none, 127⟩])
 (.reg [⟨q3_13, .p (pMv t3_0), none, 0⟩,
  ⟨q3_14, .p (pQuo t3_13 (.cst (.i .u64 (.lit (.ofNat 128))))), none, 1⟩,
  ⟨q3_0, .p (pMv t3_14), none, 3⟩]))))))
 (.seq (.reg [⟨q3_15, .p (pMv t3_3), none, 0⟩,
  ⟨q3_16, .p (pMv t3_0), none, 0⟩,
  ⟨q3_17, .p (pCvi .u8 t3_16), none, 2⟩,
  ⟨q3_18, .a (aBsl (zeros z5 1) 5 1 [(0, 1, t3_17)]), none, 6⟩,
  ⟨q3_19, .e (eApp 5 1 1 t3_15 t3_18), none, 15⟩,
  ⟨q3_2, .p (pMv t3_19), none, 31⟩])
 .ret))))⟩
theorem f70_ok : cFunc Cx0 Tryz.f70 = some f70 := by kernel_rfl
noncomputable def f77 : SFn := ⟨3, 21, [p3_0], [(p3_2, none)],
 (.seq (.reg [⟨q3_1, .a (aBox 24 t3_0), none, 0⟩,
  ⟨q3_2, .p (pMv (.cst (.b false))), none, 0⟩])
 (.seq (.reg [⟨q3_3, .p (pFa 0 t3_1), none, 0⟩,
  ⟨q3_4, .r (rLd1 t3_3), none, 1⟩,
  ⟨q3_5, .p (pGe t3_4 c1), none, 3⟩,
  ⟨q3_6, .p (pMv t3_5), none, 7⟩,
  ⟨q3_7, .p (pFa 0 t3_1), (some (p3_6, true)), 15⟩,
  ⟨q3_8, .r (rLd1 t3_7), (some (p3_6, true)), 31⟩,
  ⟨q3_9, .p (pLe t3_8 c21), (some (p3_6, true)), 63⟩,
  ⟨q3_10, .p (pPick t3_6 t3_9 (.cst (.b false))), none, 127⟩,
  ⟨q3_11, .p (pMv t3_10), none, 255⟩,
  ⟨q3_12, .p (pFa 1 t3_1), (some (p3_11, true)), 511⟩,
  ⟨q3_13, .r (rLd1 t3_12), (some (p3_11, true)), 1023⟩,
  ⟨q3_14, .p (pGe t3_13 c1), (some (p3_11, true)), 2047⟩,
  ⟨q3_15, .p (pPick t3_11 t3_14 (.cst (.b false))), none, 4095⟩,
  ⟨q3_16, .p (pMv t3_15), none, 8191⟩,
  ⟨q3_17, .p (pFa 1 t3_1), (some (p3_16, true)), 16383⟩,
  ⟨q3_18, .r (rLd1 t3_17), (some (p3_16, true)), 32767⟩,
  ⟨q3_19, .p (pLe t3_18 (.cst (.i .i64 (.lit (.ofNat 100))))), (some (p3_16, true)), 65535⟩,
  ⟨q3_20, .p (pPick t3_16 t3_19 (.cst (.b false))), none, 131071⟩,
  ⟨q3_2, .p (pMv t3_20), none, 262143⟩])
 .ret))⟩
theorem f77_ok : cFunc Cx0 Tryz.f77 = some f77 := by kernel_rfl
noncomputable def f78 : SFn := ⟨2, 13, [p2_0, p2_1], [(p2_4, none)],
 (.seq (.reg [⟨q2_2, .a (aBox 24 t2_0), none, 0⟩,
  ⟨q2_4, .p (pMv (.cst (.b false))), none, 0⟩])
 (.seq (.reg [⟨q2_5, .p (pMv t2_1), none, 0⟩,
  ⟨q2_6, .p (pGe t2_5 c0), none, 1⟩,
  ⟨q2_7, .p (pMv t2_6), none, 3⟩,
  ⟨q2_8, .p (pMv t2_1), (some (p2_7, true)), 7⟩,
  ⟨q2_9, .r (rLdn 2 t2_2), (some (p2_7, true)), 7⟩,
  ⟨q2_10, .call (.cst (.f 95 [])) [t2_9], (some (p2_7, true)), 23⟩,
  ⟨q2_11, .p (pLt t2_8 t2_10), (some (p2_7, true)), 63⟩,
  ⟨q2_12, .p (pPick t2_7 t2_11 (.cst (.b false))), none, 127⟩,
  ⟨q2_4, .p (pMv t2_12), none, 255⟩])
 .ret))⟩
theorem f78_ok : cFunc Cx0 Tryz.f78 = some f78 := by kernel_rfl
noncomputable def f79 : SFn := ⟨2, 4, [], [(p2_0, none)],
 (.seq (.reg [⟨q2_0, .p (pMv (.cst .np)), none, 0⟩])
 (.seq (.reg [⟨q2_1, .a aMkm, none, 0⟩,
  ⟨q2_2, .p (pBld z261 [(0, 1, t2_1)]), none, 1⟩,
  ⟨q2_3, .a (aBox 261 t2_2), none, 3⟩,
  ⟨q2_0, .p (pMv t2_3), none, 7⟩])
 .ret))⟩
theorem f79_ok : cFunc Cx0 Tryz.f79 = some f79 := by kernel_rfl
noncomputable def f80 : SFn := ⟨2, 4, [], [(p2_0, none)],
 (.seq (.reg [⟨q2_0, .p (pMv (.cst .np)), none, 0⟩])
 (.seq (.reg [⟨q2_1, .a aMkm, none, 0⟩,
  ⟨q2_2, .p (pBld z264 [(0, 1, t2_1)]), none, 1⟩,
  ⟨q2_3, .a (aBox 264 t2_2), none, 3⟩,
  ⟨q2_0, .p (pMv t2_3), none, 7⟩])
 .ret))⟩
theorem f80_ok : cFunc Cx0 Tryz.f80 = some f80 := by kernel_rfl
noncomputable def f81 : SFn := ⟨3, 40, [p3_0, p3_1, p3_2], [(p3_6, none), (p3_7, none)],
 (.seq (.reg [⟨q3_3, .a (aBox 24 t3_0), none, 0⟩,
  ⟨q3_6, .p (pMv (.cst .np)), none, 0⟩,
  ⟨q3_7, .p (pMv c0), none, 2⟩])
 (.seq (.seq (.reg [⟨q3_10, .r (rLdn 2 t3_3), none, 0⟩,
  ⟨q3_11, .call (.cst (.f 77 [])) [t3_10], none, 1⟩,
  ⟨q3_12, .p (pNot t3_11), none, 3⟩,
  ⟨q3_13, .p (pMv t3_12), none, 7⟩,
  ⟨q3_14, .p (pMv t3_1), (some (p3_13, false)), 15⟩,
  ⟨q3_15, .p (pLt t3_14 c0), (some (p3_13, false)), 31⟩,
  ⟨q3_16, .p (pPick t3_13 (.cst (.b true)) t3_15), none, 63⟩,
  ⟨q3_17, .p (pMv t3_16), none, 127⟩,
  ⟨q3_18, .p (pMv t3_1), (some (p3_17, false)), 255⟩,
  ⟨q3_19, .p (pGt t3_18 (.cst (.i .i64 (.lit (.ofNat 1048576))))), (some (p3_17, false)), 511⟩,
  ⟨q3_20, .p (pPick t3_17 (.cst (.b true)) t3_19), none, 1023⟩,
  ⟨q3_21, .p (pMv t3_20), none, 2047⟩,
  ⟨q3_22, .r (rLdn 2 t3_3), (some (p3_21, false)), 4095⟩,
  ⟨q3_23, .p (pMv t3_2), (some (p3_21, false)), 4095⟩,
  ⟨q3_24, .call (.cst (.f 78 [])) [t3_22, t3_23], (some (p3_21, false)), 16383⟩,
  ⟨q3_25, .p (pNot t3_24), (some (p3_21, false)), 32767⟩,
  ⟨q3_26, .p (pPick t3_21 (.cst (.b true)) t3_25), none, 65535⟩])
 (.cond t3_26
 (.seq (.reg [⟨q3_6, .p (pMv (.cst .np)), none, 0⟩,
  ⟨q3_7, .p (pMv c1), none, 1⟩])
 .ret)
 .skip))
 (.seq (.reg [⟨q3_28, .r (rLdn 2 t3_3), none, 0⟩,
  ⟨q3_29, .call (.cst (.f 135 [])) [t3_28], none, 1⟩,
  ⟨q3_27, .p (pMv t3_29), none, 3⟩,
  ⟨q3_30, .p (pExt t3_27 0), none, 7⟩,
  ⟨q3_31, .p (pExt t3_27 1), none, 7⟩,
  ⟨q3_8, .p (pMv t3_30), none, 15⟩,
  ⟨q3_9, .p (pMv t3_31), none, 63⟩])
 (.seq (.reg [⟨q3_32, .r (rLdn 2 t3_3), none, 0⟩,
  ⟨q3_33, .p (pMv t3_1), none, 0⟩,
  ⟨q3_34, .p (pMv t3_2), none, 0⟩,
  ⟨q3_35, .p (pBld z96 [(2, 1, (.cst (.i .i64 (.lit (.negSucc 0))))), (3, 1, (.cst (.i .i64 (.lit (.negSucc 0)))))]), none, 0⟩,
  ⟨q3_36, .p (pMv t3_8), none, 0⟩,
  ⟨q3_37, .a aMkm, none, 0⟩,
  ⟨q3_38, .p (pBld z197 [(0, 2, t3_32), (2, 1, t3_33), (3, 1, t3_34), (4, 101, t3_35), (105, 1, t3_36), (106, 1, t3_37)]), none, 63⟩,
  ⟨q3_39, .a (aBox 197 t3_38), none, 127⟩,
  ⟨q3_6, .p (pMv t3_39), none, 255⟩,
  ⟨q3_7, .p (pMv c0), none, 511⟩])
 .ret))))⟩
theorem f81_ok : cFunc Cx0 Tryz.f81 = some f81 := by kernel_rfl
noncomputable def f82 : SFn := ⟨2, 7, [p2_0], [(p2_2, none)],
 (.seq (.reg [⟨q2_2, .p (pMv c0), none, 0⟩])
 (.seq (.reg [⟨q2_3, .p (pMv t2_0), none, 0⟩,
  ⟨q2_4, .p (pNilc t2_3), none, 1⟩,
  ⟨q2_5, .p (pFa 0 t2_4), none, 3⟩,
  ⟨q2_6, .r (rLd1 t2_5), none, 7⟩,
  ⟨q2_2, .p (pMv t2_6), none, 15⟩])
 .ret))⟩
theorem f82_ok : cFunc Cx0 Tryz.f82 = some f82 := by kernel_rfl
noncomputable def f83 : SFn := ⟨4, 93, [p4_0, p4_1], [],
 (.seq (.reg [⟨q4_3, .a (aBox 191 t4_1), none, 0⟩])
 (.seq (.seq (.reg [⟨q4_10, .p (pFa 3 t4_3), none, 0⟩,
  ⟨q4_11, .r (rLdn 32 t4_10), none, 1⟩,
  ⟨q4_12, .p (pBld z35 []), none, 0⟩,
  ⟨q4_13, .p (pNe k35 t4_11 t4_12), none, 7⟩])
 (.cond t4_13
 (.seq (.seq (.dreg [⟨q4_15, .p (pMv t4_0), none, 0⟩,
  ⟨q4_16, .p (pNilc t4_15), none, 1⟩,
  ⟨q4_17, .p (pFa 10 t4_16), none, 3⟩,
  ⟨q4_18, .r (rLd1 t4_17), none, 7⟩,
  ⟨q4_19, .p (pNilc t4_18), none, 15⟩,
  ⟨q4_20, .p (pFa 1 t4_19), none, 31⟩,
  ⟨q4_21, .r (rLd1 t4_20), none, 63⟩,
  ⟨q4_22, .p (pFa 3 t4_3), none, 0⟩,
  ⟨q4_23, .r (rLdn 32 t4_22), none, 128⟩,
  ⟨q4_24, .r (rLk k35 (.ag z54) t4_21 t4_23 true), none, 511⟩,
  ⟨q4_14, .p (pMv t4_24), none, 1023⟩,
  ⟨q4_25, .p (pExt t4_14 0), none, 2047⟩,
  ⟨q4_26, .p (pExt t4_14 1), none, 2047⟩,
  ⟨q4_4, .a (aAlloc z54 54), none, 0⟩,
  ⟨none, .e (eSt 5 t4_4 t4_25), none, 12287⟩,
  ⟨q4_5, .p (pMv t4_26), none, 32767⟩])
 (.seq (.reg [⟨q4_27, .p (pMv t4_5), none, 0⟩])
 (.cond t4_27
 (.reg [⟨q4_28, .p (pMv t4_0), none, 0⟩,
  ⟨q4_29, .p (pFa 1 t4_3), none, 0⟩,
  ⟨q4_30, .r (rLd1 t4_29), none, 2⟩,
  ⟨q4_31, .p (pFa 2 t4_3), none, 0⟩,
  ⟨q4_32, .r (rLd1 t4_31), none, 8⟩,
  ⟨q4_33, .r (rLdn 5 t4_4), none, 0⟩,
  ⟨q4_34, .call (.cst (.f 136 [])) [t4_28, t4_30, t4_32, t4_33], none, 63⟩])
 .skip)))
 .ret)
 .skip))
 (.seq (.reg [⟨q4_35, .p (pMv t4_0), none, 0⟩,
  ⟨q4_36, .p (pNilc t4_35), none, 1⟩,
  ⟨q4_37, .p (pFa 5 t4_36), none, 3⟩,
  ⟨q4_38, .r (rLd1 t4_37), none, 7⟩,
  ⟨q4_39, .call (.cst (.f 35 [])) [t4_38], none, 15⟩,
  ⟨q4_6, .p (pMv t4_39), none, 31⟩])
 (.seq (.reg [⟨q4_40, .p (pMv t4_0), none, 0⟩,
  ⟨q4_41, .p (pNilc t4_40), none, 1⟩,
  ⟨q4_42, .p (pFa 7 t4_41), none, 3⟩,
  ⟨q4_43, .r (rLd1 t4_42), none, 7⟩,
  ⟨q4_44, .call (.cst (.f 104 [])) [t4_43], none, 15⟩,
  ⟨q4_45, .p (pAdd t4_44 (.cst (.i .u64 (.lit (.ofNat 1))))), none, 31⟩,
  ⟨q4_46, .p (pMv t4_6), none, 0⟩,
  ⟨q4_47, .p (pMv t4_6), none, 0⟩,
  ⟨q4_48, .p (pMin [t4_47, (.cst (.i .u64 (.lit (.ofNat 8))))]), none, 128⟩,
  ⟨q4_49, .p (pSub t4_46 t4_48), none, 448⟩,
  ⟨q4_50, .p (pMax [t4_45, t4_49]), none, 1023⟩,
  ⟨q4_7, .p (pMv t4_50), none, 2047⟩])
 (.seq (.seq (.reg [⟨q4_51, .p (pMv t4_7), none, 0⟩,
  ⟨q4_52, .p (pEq k22 t4_51 (.cst (.i .u64 (.lit (.ofNat 18446744073709551615))))), none, 1⟩])
 (.cond t4_52
 .ret
 .skip))
 (.seq (.reg [⟨q4_54, .p (pMv t4_0), none, 0⟩,
  ⟨q4_55, .p (pMv t4_7), none, 0⟩,
  ⟨q4_56, .call (.cst (.f 105 [])) [t4_54, t4_55], none, 3⟩,
  ⟨q4_53, .p (pMv t4_56), none, 7⟩,
  ⟨q4_57, .p (pExt t4_53 0), none, 15⟩,
  ⟨q4_58, .p (pExt t4_53 1), none, 15⟩,
  ⟨q4_8, .a (aAlloc z49 49), none, 0⟩,
  ⟨none, .e (eSt 6 t4_8 t4_57), none, 95⟩,
  ⟨q4_9, .p (pMv t4_58), none, 255⟩])
 (.seq (.seq (.reg [⟨q4_59, .p (pMv t4_9), none, 0⟩,
  ⟨q4_60, .p (pNot t4_59), none, 1⟩])
 (.cond t4_60
 .ret
 .skip))
 (.seq (.dreg [⟨q4_61, .p (pMv t4_0), none, 0⟩,
  ⟨q4_62, .p (pNilc t4_61), none, 1⟩,
  ⟨q4_63, .p (pFa 10 t4_62), none, 3⟩,
  ⟨q4_64, .r (rLd1 t4_63), none, 7⟩,
  ⟨q4_65, .p (pMv t4_0), none, 0⟩,
  ⟨q4_66, .p (pNilc t4_65), none, 16⟩,
  ⟨q4_67, .p (pFa 10 t4_66), none, 48⟩,
  ⟨q4_68, .r (rLd1 t4_67), none, 112⟩,
  ⟨q4_69, .p (pMv t4_0), none, 0⟩,
  ⟨q4_70, .p (pNilc t4_69), none, 256⟩,
  ⟨q4_71, .p (pFa 10 t4_70), none, 768⟩,
  ⟨q4_72, .r (rLd1 t4_71), none, 1792⟩,
  ⟨q4_73, .p (pMv t4_0), none, 0⟩,
  ⟨q4_74, .p (pNilc t4_73), none, 4096⟩,
  ⟨q4_75, .p (pFa 10 t4_74), none, 12288⟩,
  ⟨q4_76, .r (rLd1 t4_75), none, 28672⟩,
  ⟨q4_77, .p (pFa 1 t4_3), none, 0⟩,
  ⟨q4_78, .r (rLd1 t4_77), none, 65536⟩,
  ⟨q4_79, .p (pMv t4_7), none, 0⟩,
  ⟨q4_80, .p (pNilc t4_64), none, 65535⟩,
  ⟨q4_81, .p (pFa 4 t4_80), none, 589823⟩,
  ⟨none, .e (eSt 1 t4_81 (.cst (.b true))), none, 1638399⟩,
  ⟨q4_82, .p (pNilc t4_68), none, 3932159⟩,
  ⟨q4_83, .p (pFa 5 t4_82), none, 8126463⟩,
  ⟨none, .e (eSt 1 t4_83 t4_78), none, 16515071⟩,
  ⟨q4_84, .p (pNilc t4_72), none, 33554431⟩,
  ⟨q4_85, .p (pFa 6 t4_84), none, 67108863⟩,
  ⟨none, .e (eSt 1 t4_85 t4_79), none, 134217727⟩,
  ⟨q4_86, .p (pNilc t4_76), none, 268435455⟩,
  ⟨q4_87, .p (pFa 7 t4_86), none, 536870911⟩,
  ⟨none, .e (eSt 1 t4_87 (.cst .ns)), none, 1073741823⟩])
 (.seq (.reg [⟨q4_88, .p (pMv t4_0), none, 0⟩,
  ⟨q4_89, .call (.cst (.f 98 [])) [t4_88], none, 1⟩])
 (.reg [⟨q4_90, .p (pMv t4_0), none, 0⟩,
  ⟨q4_91, .r (rLdn 6 t4_8), none, 0⟩,
  ⟨q4_92, .call (.cst (.f 107 [])) [t4_90, t4_91], none, 3⟩]))))))))))⟩
theorem f83_ok : cFunc Cx0 Tryz.f83 = some f83 := by kernel_rfl
noncomputable def f86 : SFn := ⟨3, 56, [p3_0, p3_1], [(p3_4, none)],
 (.seq (.reg [⟨q3_4, .p (pMv (.cst .ns)), none, 0⟩])
 (.seq (.seq (.reg [⟨q3_5, .p (pMv t3_1), none, 0⟩,
  ⟨q3_6, .p (pGt t3_5 (.cst (.i .i64 (.lit (.ofNat 1048576))))), none, 1⟩])
 (.cond t3_6
 (.seq (.reg [⟨q3_4, .p (pMv (.cst .ns)), none, 0⟩])
 .ret)
 .skip))
 (.seq (.reg [⟨q3_7, .p (pMv t3_0), none, 0⟩,
  ⟨q3_8, .p (pMv t3_0), none, 0⟩,
  ⟨q3_9, .p (pMv t3_1), none, 0⟩,
  ⟨q3_10, .p (pNilc t3_7), none, 5⟩,
  ⟨q3_11, .p (pFa 4 t3_10), none, 13⟩,
  ⟨q3_12, .p (pFa 0 t3_11), none, 29⟩,
  ⟨none, .e (eSt 1 t3_12 t3_9), none, 61⟩,
  ⟨q3_13, .p (pNilc t3_8), none, 127⟩,
  ⟨q3_14, .p (pFa 4 t3_13), none, 255⟩,
  ⟨q3_15, .p (pFa 1 t3_14), none, 511⟩,
  ⟨none, .e (eSt 1 t3_15 c1), none, 1023⟩])
 (.seq (.reg [⟨q3_16, .p (pMv t3_0), none, 0⟩,
  ⟨q3_17, .p (pMv t3_0), none, 0⟩,
  ⟨q3_18, .p (pMv t3_0), none, 0⟩,
  ⟨q3_19, .p (pNilc t3_16), none, 1⟩,
  ⟨q3_20, .p (pFa 107 t3_19), none, 9⟩,
  ⟨none, .e (eSt 1 t3_20 (.cst (.b false))), none, 25⟩,
  ⟨q3_21, .p (pNilc t3_17), none, 59⟩,
  ⟨q3_22, .p (pFa 108 t3_21), none, 123⟩,
  ⟨none, .e (eSt 1 t3_22 (.cst (.b false))), none, 251⟩,
  ⟨q3_23, .p (pNilc t3_18), none, 511⟩,
  ⟨q3_24, .p (pFa 109 t3_23), none, 1023⟩,
  ⟨none, .e (eSt 1 t3_24 (.cst (.b false))), none, 2047⟩])
 (.seq (.seq (.dreg [⟨q3_25, .p (pMv t3_0), none, 0⟩,
  ⟨q3_26, .p (pNilc t3_25), none, 1⟩,
  ⟨q3_27, .p (pFa 0 t3_26), none, 3⟩,
  ⟨q3_28, .r (rLdn 2 t3_27), none, 7⟩,
  ⟨q3_29, .p (pMv t3_0), none, 0⟩,
  ⟨q3_30, .p (pNilc t3_29), none, 16⟩,
  ⟨q3_31, .p (pFa 2 t3_30), none, 48⟩,
  ⟨q3_32, .r (rLd1 t3_31), none, 112⟩,
  ⟨q3_33, .p (pMv t3_1), none, 0⟩,
  ⟨q3_34, .call (.cst (.f 103 [])) [t3_28, t3_32, t3_33], none, 511⟩,
  ⟨q3_35, .p (pMv t3_0), none, 0⟩,
  ⟨q3_36, .p (pNilc t3_35), none, 1024⟩,
  ⟨q3_37, .p (pFa 3 t3_36), none, 3072⟩,
  ⟨q3_38, .r (rLd1 t3_37), none, 7168⟩,
  ⟨q3_39, .p (pEq k3 t3_34 t3_38), none, 16383⟩])
 (.cond t3_39
 (.seq (.dreg [⟨q3_40, .p (pMv t3_1), none, 0⟩,
  ⟨q3_41, .p (pMv t3_0), none, 0⟩,
  ⟨q3_42, .p (pNilc t3_41), none, 2⟩,
  ⟨q3_43, .p (pFa 4 t3_42), none, 6⟩,
  ⟨q3_44, .p (pFa 3 t3_43), none, 14⟩,
  ⟨q3_45, .r (rLd1 t3_44), none, 30⟩,
  ⟨q3_46, .p (pMv t3_0), none, 0⟩,
  ⟨q3_47, .p (pNilc t3_46), none, 64⟩,
  ⟨q3_48, .p (pFa 4 t3_47), none, 192⟩,
  ⟨q3_49, .p (pFa 36 t3_48), none, 448⟩,
  ⟨q3_50, .r (rLdn 32 t3_49), none, 960⟩,
  ⟨q3_51, .p (pBld z191 [(0, 1, c1), (1, 1, t3_40), (2, 1, t3_45), (3, 32, t3_50)]), none, 2047⟩,
  ⟨q3_52, .a (aBsl (zeros z191 1) 191 1 [(0, 35, t3_51)]), none, 4095⟩,
  ⟨q3_4, .p (pMv t3_52), none, 8191⟩])
 .ret)
 .skip))
 (.seq (.reg [⟨q3_53, .p (pMv t3_0), none, 0⟩,
  ⟨q3_54, .call (.cst (.f 137 [])) [t3_53, c1], none, 1⟩,
  ⟨q3_55, .a (aBsl (zeros z191 1) 191 1 [(0, 35, t3_54)]), none, 3⟩,
  ⟨q3_4, .p (pMv t3_55), none, 7⟩])
 .ret))))))⟩
theorem f86_ok : cFunc Cx0 Tryz.f86 = some f86 := by kernel_rfl
noncomputable def f87 : SFn := ⟨3, 31, [p3_0], [(p3_2, none)],
 (.seq (.reg [⟨q3_2, .p (pMv (.cst .ns)), none, 0⟩])
 (.seq (.reg [⟨q3_3, .p (pMv (.cst .ns)), none, 0⟩])
 (.seq (.block 0 (.loop (.seq (.seq (.reg [⟨q3_6, .p (pMv t3_0), none, 0⟩,
  ⟨q3_7, .p (pNilc t3_6), none, 1⟩,
  ⟨q3_8, .p (pFa 4 t3_7), none, 3⟩,
  ⟨q3_9, .p (pFa 1 t3_8), none, 7⟩,
  ⟨q3_10, .r (rLd1 t3_9), none, 15⟩,
  ⟨q3_11, .p (pGt t3_10 c0), none, 31⟩,
  ⟨q3_12, .p (pMv t3_11), none, 63⟩,
  ⟨q3_13, .p (pMv t3_0), (some (p3_12, true)), 127⟩,
  ⟨q3_14, .p (pNilc t3_13), (some (p3_12, true)), 255⟩,
  ⟨q3_15, .p (pFa 4 t3_14), (some (p3_12, true)), 511⟩,
  ⟨q3_16, .p (pFa 68 t3_15), (some (p3_12, true)), 1023⟩,
  ⟨q3_17, .r (rLd1 t3_16), (some (p3_12, true)), 2047⟩,
  ⟨q3_18, .p (pNot t3_17), (some (p3_12, true)), 4095⟩,
  ⟨q3_19, .p (pPick t3_12 t3_18 (.cst (.b false))), none, 8191⟩])
 (.cond t3_19
 .skip
 (.exit 0)))
 (.block 1 (.seq (.reg [⟨q3_21, .p (pMv t3_0), none, 0⟩,
  ⟨q3_22, .call (.cst (.f 138 [])) [t3_21], none, 1⟩,
  ⟨q3_20, .p (pMv t3_22), none, 3⟩,
  ⟨q3_23, .p (pExt t3_20 0), none, 7⟩,
  ⟨q3_24, .p (pExt t3_20 1), none, 7⟩,
  ⟨q3_4, .p (pMv t3_23), none, 15⟩,
  ⟨q3_5, .p (pMv t3_24), none, 63⟩])
 (.seq (.seq (.reg [⟨q3_25, .p (pMv t3_5), none, 0⟩,
  ⟨q3_26, .p (pNot t3_25), none, 1⟩])
 (.cond t3_26
 (.exit 0)
 .skip))
 (.reg [⟨q3_27, .p (pMv t3_3), none, 0⟩,
  ⟨q3_28, .p (pMv t3_4), none, 0⟩,
  ⟨q3_29, .e (eApp 191 35 56 t3_27 t3_28), none, 3⟩,
  ⟨q3_3, .p (pMv t3_29), none, 7⟩])))))))
 (.seq (.reg [⟨q3_30, .p (pMv t3_3), none, 0⟩,
  ⟨q3_2, .p (pMv t3_30), none, 1⟩])
 .ret))))⟩
theorem f87_ok : cFunc Cx0 Tryz.f87 = some f87 := by kernel_rfl
noncomputable def f92 : SFn := ⟨2, 9, [p2_0], [(p2_2, none)],
 (.seq (.reg [⟨q2_2, .p (pMv (.cst .ns)), none, 0⟩])
 (.seq (.reg [⟨q2_3, .p (pMv t2_0), none, 0⟩,
  ⟨q2_4, .p (pNilc t2_3), none, 1⟩,
  ⟨q2_5, .p (pFa 3 t2_4), none, 3⟩,
  ⟨q2_6, .r (rLd1 t2_5), none, 7⟩,
  ⟨q2_7, .call (.cst (.f 142 [])) [t2_6], none, 15⟩,
  ⟨q2_8, .call (.cst (.f 141 [])) [t2_7], none, 31⟩,
  ⟨q2_2, .p (pMv t2_8), none, 63⟩])
 .ret))⟩
theorem f92_ok : cFunc Cx0 Tryz.f92 = some f92 := by kernel_rfl
noncomputable def f95 : SFn := ⟨2, 7, [p2_0], [(p2_2, none)],
 (.seq (.reg [⟨q2_1, .a (aBox 24 t2_0), none, 0⟩,
  ⟨q2_2, .p (pMv c0), none, 0⟩])
 (.seq (.reg [⟨q2_3, .p (pFa 0 t2_1), none, 0⟩,
  ⟨q2_4, .r (rLd1 t2_3), none, 1⟩,
  ⟨q2_5, .p (pMul c3 t2_4), none, 3⟩,
  ⟨q2_6, .p (pAdd t2_5 c1), none, 7⟩,
  ⟨q2_2, .p (pMv t2_6), none, 15⟩])
 .ret))⟩
theorem f95_ok : cFunc Cx0 Tryz.f95 = some f95 := by kernel_rfl
noncomputable def f98 : SFn := ⟨3, 24, [p3_0], [],
 (.dreg [⟨q3_2, .p (pMv t3_0), none, 0⟩,
  ⟨q3_3, .p (pMv t3_0), none, 0⟩,
  ⟨q3_4, .p (pNilc t3_3), none, 2⟩,
  ⟨q3_5, .p (pFa 7 t3_4), none, 6⟩,
  ⟨q3_6, .r (rLd1 t3_5), none, 14⟩,
  ⟨q3_7, .call (.cst (.f 82 [])) [t3_6], none, 30⟩,
  ⟨q3_8, .p (pMv t3_0), none, 0⟩,
  ⟨q3_9, .p (pNilc t3_8), none, 64⟩,
  ⟨q3_10, .p (pFa 10 t3_9), none, 192⟩,
  ⟨q3_11, .r (rLd1 t3_10), none, 448⟩,
  ⟨q3_12, .p (pNilc t3_11), none, 960⟩,
  ⟨q3_13, .p (pFa 5 t3_12), none, 1984⟩,
  ⟨q3_14, .r (rLd1 t3_13), none, 4032⟩,
  ⟨q3_15, .p (pMv t3_0), none, 0⟩,
  ⟨q3_16, .p (pNilc t3_15), none, 8192⟩,
  ⟨q3_17, .p (pFa 10 t3_16), none, 24576⟩,
  ⟨q3_18, .r (rLd1 t3_17), none, 57344⟩,
  ⟨q3_19, .p (pNilc t3_18), none, 122880⟩,
  ⟨q3_20, .p (pFa 6 t3_19), none, 253952⟩,
  ⟨q3_21, .r (rLd1 t3_20), none, 516096⟩,
  ⟨q3_22, .p (pBld z70 [(0, 1, c5), (154, 1, t3_7), (155, 1, t3_14), (156, 1, t3_21)]), none, 1048574⟩,
  ⟨q3_23, .call (.cst (.f 53 [])) [t3_2, t3_22], none, 2097151⟩])⟩
theorem f98_ok : cFunc Cx0 Tryz.f98 = some f98 := by kernel_rfl
noncomputable def f99 : SFn := ⟨3, 25, [p3_0], [(p3_2, none), (p3_3, none)],
 (.seq (.reg [⟨q3_1, .a (aBox 70 t3_0), none, 0⟩,
  ⟨q3_2, .p (pMv c0), none, 0⟩,
  ⟨q3_3, .p (pMv (.cst (.b false))), none, 2⟩])
 (.seq (.seq (.reg [⟨q3_4, .p (pFa 0 t3_1), none, 0⟩,
  ⟨q3_5, .r (rLd1 t3_4), none, 1⟩])
 (.block 0 (.seq (.reg [⟨q3_7, .p (pEq k3 t3_5 c5), none, 0⟩,
  ⟨q3_6, .p (pMv t3_7), none, 1⟩])
 (.cond t3_6
 (.seq (.reg [⟨q3_8, .p (pFa 154 t3_1), none, 0⟩,
  ⟨q3_9, .r (rLd1 t3_8), none, 1⟩,
  ⟨q3_2, .p (pMv t3_9), none, 3⟩,
  ⟨q3_3, .p (pMv (.cst (.b true))), none, 7⟩])
 .ret)
 (.seq (.reg [⟨q3_11, .p (pEq k3 t3_5 c6), none, 0⟩,
  ⟨q3_10, .p (pMv t3_11), none, 1⟩])
 (.cond t3_10
 (.seq (.reg [⟨q3_12, .p (pFa 157 t3_1), none, 0⟩,
  ⟨q3_13, .p (pFa 1 t3_12), none, 1⟩,
  ⟨q3_14, .r (rLd1 t3_13), none, 3⟩,
  ⟨q3_2, .p (pMv t3_14), none, 7⟩,
  ⟨q3_3, .p (pMv (.cst (.b true))), none, 15⟩])
 .ret)
 (.seq (.reg [⟨q3_16, .p (pEq k3 t3_5 c7), none, 0⟩,
  ⟨q3_15, .p (pMv t3_16), none, 1⟩])
 (.cond t3_15
 (.seq (.reg [⟨q3_17, .p (pFa 163 t3_1), none, 0⟩,
  ⟨q3_18, .p (pFa 0 t3_17), none, 1⟩,
  ⟨q3_19, .r (rLd1 t3_18), none, 3⟩,
  ⟨q3_2, .p (pMv t3_19), none, 7⟩,
  ⟨q3_3, .p (pMv (.cst (.b true))), none, 15⟩])
 .ret)
 (.seq (.reg [⟨q3_21, .p (pEq k3 t3_5 c8), none, 0⟩,
  ⟨q3_20, .p (pMv t3_21), none, 1⟩])
 (.cond t3_20
 (.seq (.reg [⟨q3_22, .p (pFa 174 t3_1), none, 0⟩,
  ⟨q3_23, .p (pFa 1 t3_22), none, 1⟩,
  ⟨q3_24, .r (rLd1 t3_23), none, 3⟩,
  ⟨q3_2, .p (pMv t3_24), none, 7⟩,
  ⟨q3_3, .p (pMv (.cst (.b true))), none, 15⟩])
 .ret)
 .skip))))))))))
 (.seq (.reg [⟨q3_2, .p (pMv c0), none, 0⟩,
  ⟨q3_3, .p (pMv (.cst (.b false))), none, 1⟩])
 .ret)))⟩
theorem f99_ok : cFunc Cx0 Tryz.f99 = some f99 := by kernel_rfl
noncomputable def f100 : SFn := ⟨4, 90, [p4_0, p4_1, p4_2], [(p4_6, some 38), (p4_7, none)],
 (.seq (.reg [⟨q4_5, .a (aBox 39 t4_2), none, 0⟩,
  ⟨q4_6, .a (aAlloc z41 41), none, 0⟩,
  ⟨q4_7, .p (pMv c0), none, 0⟩])
 (.seq (.seq (.dreg [⟨q4_12, .p (pMv t4_0), none, 0⟩,
  ⟨q4_13, .p (pNilc t4_12), none, 1⟩,
  ⟨q4_14, .p (pFa 0 t4_13), none, 3⟩,
  ⟨q4_15, .r (rLdn 2 t4_14), none, 7⟩,
  ⟨q4_16, .p (pMv t4_1), none, 0⟩,
  ⟨q4_17, .r (rLdn 37 t4_5), none, 0⟩,
  ⟨q4_18, .call (.cst (.f 147 [])) [t4_15, t4_16, t4_17], none, 63⟩,
  ⟨q4_19, .p (pNot t4_18), none, 127⟩])
 (.cond t4_19
 (.seq (.reg [⟨q4_20, .p (pBld z41 []), none, 0⟩,
  ⟨none, .e (eSt 38 t4_6 t4_20), none, 1⟩,
  ⟨q4_7, .p (pMv c3), none, 3⟩])
 .ret)
 .skip))
 (.seq (.seq (.dreg [⟨q4_22, .p (pMv t4_0), none, 0⟩,
  ⟨q4_23, .p (pNilc t4_22), none, 1⟩,
  ⟨q4_24, .p (pFa 6 t4_23), none, 3⟩,
  ⟨q4_25, .r (rLd1 t4_24), none, 7⟩,
  ⟨q4_26, .p (pFa 0 t4_5), none, 0⟩,
  ⟨q4_27, .r (rLdn 2 t4_26), none, 16⟩,
  ⟨q4_28, .r (rLk k33 (.ag z41) t4_25 t4_27 true), none, 63⟩,
  ⟨q4_21, .p (pMv t4_28), none, 127⟩,
  ⟨q4_29, .p (pExt t4_21 0), none, 255⟩,
  ⟨q4_30, .p (pExt t4_21 1), none, 255⟩,
  ⟨q4_8, .a (aAlloc z41 41), none, 0⟩,
  ⟨none, .e (eSt 38 t4_8 t4_29), none, 1535⟩,
  ⟨q4_9, .p (pMv t4_30), none, 4095⟩])
 (.seq (.reg [⟨q4_31, .p (pMv t4_9), none, 0⟩])
 (.cond t4_31
 (.seq (.seq (.reg [⟨q4_32, .p (pFa 3 t4_8), none, 0⟩,
  ⟨q4_33, .r (rLdn 32 t4_32), none, 1⟩,
  ⟨q4_34, .p (pFa 2 t4_5), none, 0⟩,
  ⟨q4_35, .r (rLdn 32 t4_34), none, 4⟩,
  ⟨q4_36, .p (pNe k35 t4_33 t4_35), none, 15⟩])
 (.cond t4_36
 (.seq (.reg [⟨q4_37, .p (pBld z41 []), none, 0⟩,
  ⟨none, .e (eSt 38 t4_6 t4_37), none, 1⟩,
  ⟨q4_7, .p (pMv c5), none, 3⟩])
 .ret)
 .skip))
 (.seq (.reg [⟨q4_38, .r (rLdn 38 t4_8), none, 0⟩,
  ⟨none, .e (eSt 38 t4_6 t4_38), none, 1⟩,
  ⟨q4_7, .p (pMv c0), none, 3⟩])
 .ret))
 .skip)))
 (.seq (.dreg [⟨q4_39, .p (pMv t4_0), none, 0⟩,
  ⟨q4_40, .p (pNilc t4_39), none, 1⟩,
  ⟨q4_41, .p (pFa 3 t4_40), none, 3⟩,
  ⟨q4_42, .r (rLd1 t4_41), none, 7⟩,
  ⟨q4_43, .p (pMv t4_0), none, 0⟩,
  ⟨q4_44, .p (pNilc t4_43), none, 16⟩,
  ⟨q4_45, .p (pFa 4 t4_44), none, 48⟩,
  ⟨q4_46, .r (rLd1 t4_45), none, 112⟩,
  ⟨q4_47, .p (pAdd t4_46 (.cst (.i .u64 (.lit (.ofNat 1))))), none, 240⟩,
  ⟨q4_48, .p (pMv t4_0), none, 0⟩,
  ⟨q4_49, .p (pNilc t4_48), none, 512⟩,
  ⟨q4_50, .p (pFa 5 t4_49), none, 1536⟩,
  ⟨q4_51, .r (rLd1 t4_50), none, 3584⟩,
  ⟨q4_52, .p (pAdd t4_51 (.cst (.i .u64 (.lit (.ofNat 1))))), none, 7680⟩,
  ⟨q4_53, .p (pMax [t4_42, t4_47, t4_52]), none, 16383⟩,
  ⟨q4_10, .p (pMv t4_53), none, 32767⟩])
 (.seq (.seq (.reg [⟨q4_54, .p (pMv t4_10), none, 0⟩,
  ⟨q4_55, .p (pGe t4_54 (.cst (.i .u64 (.lit (.ofNat 18446744073709551615))))), none, 1⟩])
 (.cond t4_55
 (.seq (.reg [⟨q4_56, .p (pBld z41 []), none, 0⟩,
  ⟨none, .e (eSt 38 t4_6 t4_56), none, 1⟩,
  ⟨q4_7, .p (pMv c4), none, 3⟩])
 .ret)
 .skip))
 (.seq (.dreg [⟨q4_57, .p (pMv t4_0), none, 0⟩,
  ⟨q4_58, .p (pNilc t4_57), none, 1⟩,
  ⟨q4_59, .p (pFa 2 t4_58), none, 3⟩,
  ⟨q4_60, .r (rLd1 t4_59), none, 7⟩,
  ⟨q4_61, .p (pFa 0 t4_5), none, 0⟩,
  ⟨q4_62, .r (rLdn 2 t4_61), none, 16⟩,
  ⟨q4_63, .p (pFa 2 t4_5), none, 0⟩,
  ⟨q4_64, .r (rLdn 32 t4_63), none, 64⟩,
  ⟨q4_65, .p (pMv t4_10), none, 0⟩,
  ⟨q4_66, .p (pBld z41 [(0, 1, t4_60), (1, 2, t4_62), (3, 32, t4_64), (35, 1, t4_65)]), none, 511⟩,
  ⟨q4_11, .a (aAlloc z41 41), none, 0⟩,
  ⟨none, .e (eSt 38 t4_11 t4_66), none, 2047⟩])
 (.seq (.dreg [⟨q4_67, .p (pMv t4_1), none, 0⟩,
  ⟨q4_68, .p (pMv t4_0), none, 0⟩,
  ⟨q4_69, .p (pNilc t4_68), none, 2⟩,
  ⟨q4_70, .p (pFa 2 t4_69), none, 6⟩,
  ⟨q4_71, .r (rLd1 t4_70), none, 14⟩,
  ⟨q4_72, .r (rLdn 38 t4_11), none, 0⟩,
  ⟨q4_73, .call (.cst (.f 148 [])) [t4_72], none, 32⟩,
  ⟨q4_74, .call (.cst (.f 12 [])) [t4_67, t4_71, t4_73], none, 127⟩,
  ⟨q4_75, .p (pFa 36 t4_11), none, 255⟩,
  ⟨none, .e (eSt 2 t4_75 t4_74), none, 511⟩])
 (.seq (.dreg [⟨q4_76, .p (pMv t4_0), none, 0⟩,
  ⟨q4_77, .p (pMv t4_0), none, 0⟩,
  ⟨q4_78, .p (pNilc t4_77), none, 2⟩,
  ⟨q4_79, .p (pFa 6 t4_78), none, 6⟩,
  ⟨q4_80, .r (rLd1 t4_79), none, 14⟩,
  ⟨q4_81, .p (pFa 0 t4_5), none, 0⟩,
  ⟨q4_82, .r (rLdn 2 t4_81), none, 32⟩,
  ⟨q4_83, .p (pMv t4_10), none, 0⟩,
  ⟨q4_84, .r (rLdn 38 t4_11), none, 0⟩,
  ⟨q4_85, .p (pNilc t4_76), none, 159⟩,
  ⟨q4_86, .p (pFa 5 t4_85), none, 671⟩,
  ⟨none, .e (eSt 1 t4_86 t4_83), none, 1695⟩,
  ⟨q4_87, .e (eMe k33 (.ag z41) t4_80 t4_82), none, 3839⟩,
  ⟨q4_88, .p (pExt t4_87 1), none, 7935⟩,
  ⟨none, .e (eEs k33 t4_80 t4_88 t4_84), none, 16383⟩])
 (.seq (.reg [⟨q4_89, .r (rLdn 38 t4_11), none, 0⟩,
  ⟨none, .e (eSt 38 t4_6 t4_89), none, 1⟩,
  ⟨q4_7, .p (pMv c0), none, 3⟩])
 .ret)))))))))⟩
theorem f100_ok : cFunc Cx0 Tryz.f100 = some f100 := by kernel_rfl
noncomputable def f103 : SFn := ⟨3, 23, [p3_0, p3_1, p3_2], [(p3_6, none)],
 (.seq (.reg [⟨q3_3, .a (aBox 24 t3_0), none, 0⟩,
  ⟨q3_6, .p (pMv c0), none, 0⟩])
 (.seq (.reg [⟨q3_8, .r (rLdn 2 t3_3), none, 0⟩,
  ⟨q3_9, .call (.cst (.f 95 [])) [t3_8], none, 1⟩,
  ⟨q3_7, .p (pMv t3_9), none, 3⟩])
 (.seq (.seq (.reg [⟨q3_10, .p (pMv t3_7), none, 0⟩,
  ⟨q3_11, .p (pLt t3_10 c1), none, 1⟩])
 (.cond t3_11
 (.seq (.reg [⟨q3_6, .p (pMv c0), none, 0⟩])
 .ret)
 .skip))
 (.seq (.dreg [⟨q3_12, .p (pMv t3_1), none, 0⟩,
  ⟨q3_13, .p (pMax [c0, t3_12]), none, 1⟩,
  ⟨q3_14, .p (pMv t3_7), none, 0⟩,
  ⟨q3_15, .p (pRem t3_13 t3_14), none, 7⟩,
  ⟨q3_16, .p (pMv t3_2), none, 0⟩,
  ⟨q3_17, .p (pMax [c0, t3_16]), none, 16⟩,
  ⟨q3_18, .p (pMv t3_7), none, 0⟩,
  ⟨q3_19, .p (pRem t3_17 t3_18), none, 112⟩,
  ⟨q3_20, .p (pAdd t3_15 t3_19), none, 255⟩,
  ⟨q3_21, .p (pMv t3_7), none, 0⟩,
  ⟨q3_22, .p (pRem t3_20 t3_21), none, 1023⟩,
  ⟨q3_6, .p (pMv t3_22), none, 2047⟩])
 .ret))))⟩
theorem f103_ok : cFunc Cx0 Tryz.f103 = some f103 := by kernel_rfl
noncomputable def f104 : SFn := ⟨2, 7, [p2_0], [(p2_2, none)],
 (.seq (.reg [⟨q2_2, .p (pMv (.cst (.i .u64 (.lit (.ofNat 0))))), none, 0⟩])
 (.seq (.reg [⟨q2_3, .p (pMv t2_0), none, 0⟩,
  ⟨q2_4, .p (pNilc t2_3), none, 1⟩,
  ⟨q2_5, .p (pFa 1 t2_4), none, 3⟩,
  ⟨q2_6, .r (rLd1 t2_5), none, 7⟩,
  ⟨q2_2, .p (pMv t2_6), none, 15⟩])
 .ret))⟩
theorem f104_ok : cFunc Cx0 Tryz.f104 = some f104 := by kernel_rfl
noncomputable def f105 : SFn := ⟨3, 41, [p3_0, p3_1], [(p3_4, some 6), (p3_5, none)],
 (.seq (.reg [⟨q3_4, .a (aAlloc z49 49), none, 0⟩,
  ⟨q3_5, .p (pMv (.cst (.b false))), none, 0⟩])
 (.seq (.dreg [⟨q3_9, .p (pMv t3_0), none, 0⟩,
  ⟨q3_10, .p (pNilc t3_9), none, 1⟩,
  ⟨q3_11, .p (pFa 6 t3_10), none, 3⟩,
  ⟨q3_12, .r (rLd1 t3_11), none, 7⟩,
  ⟨q3_13, .p (pMv t3_0), none, 0⟩,
  ⟨q3_14, .p (pNilc t3_13), none, 16⟩,
  ⟨q3_15, .p (pFa 3 t3_14), none, 48⟩,
  ⟨q3_16, .r (rLd1 t3_15), none, 112⟩,
  ⟨q3_17, .p (pMv t3_0), none, 0⟩,
  ⟨q3_18, .p (pNilc t3_17), none, 256⟩,
  ⟨q3_19, .p (pFa 7 t3_18), none, 768⟩,
  ⟨q3_20, .r (rLd1 t3_19), none, 1792⟩,
  ⟨q3_21, .call (.cst (.f 82 [])) [t3_20], none, 3840⟩,
  ⟨q3_22, .p (pMv t3_0), none, 0⟩,
  ⟨q3_23, .p (pNilc t3_22), none, 8192⟩,
  ⟨q3_24, .p (pFa 7 t3_23), none, 24576⟩,
  ⟨q3_25, .r (rLd1 t3_24), none, 57344⟩,
  ⟨q3_26, .call (.cst (.f 104 [])) [t3_25], none, 130816⟩,
  ⟨q3_27, .p (pMv t3_1), none, 0⟩,
  ⟨q3_28, .call (.cst (.f 153 [])) [t3_12, t3_16, t3_21, t3_26, t3_27], none, 524287⟩,
  ⟨q3_8, .p (pMv t3_28), none, 1048575⟩,
  ⟨q3_29, .p (pExt t3_8 0), none, 2097151⟩,
  ⟨q3_30, .p (pExt t3_8 1), none, 2097151⟩,
  ⟨q3_6, .a (aAlloc z49 49), none, 0⟩,
  ⟨none, .e (eSt 6 t3_6 t3_29), none, 12582911⟩,
  ⟨q3_7, .p (pMv t3_30), none, 33554431⟩])
 (.seq (.seq (.reg [⟨q3_31, .p (pMv t3_7), none, 0⟩,
  ⟨q3_32, .p (pNe k86 t3_31 c0), none, 1⟩])
 (.cond t3_32
 (.seq (.reg [⟨q3_33, .p (pBld z49 []), none, 0⟩,
  ⟨none, .e (eSt 6 t3_4 t3_33), none, 1⟩,
  ⟨q3_5, .p (pMv (.cst (.b false))), none, 3⟩])
 .ret)
 .skip))
 (.seq (.reg [⟨q3_34, .p (pMv t3_0), none, 0⟩,
  ⟨q3_35, .p (pNilc t3_34), none, 1⟩,
  ⟨q3_36, .p (pFa 5 t3_35), none, 3⟩,
  ⟨q3_37, .r (rLd1 t3_36), none, 7⟩,
  ⟨q3_38, .p (pMv t3_1), none, 0⟩,
  ⟨q3_39, .call (.cst (.f 154 [])) [t3_37, t3_38], none, 31⟩])
 (.seq (.reg [⟨q3_40, .r (rLdn 6 t3_6), none, 0⟩,
  ⟨none, .e (eSt 6 t3_4 t3_40), none, 1⟩,
  ⟨q3_5, .p (pMv (.cst (.b true))), none, 3⟩])
 .ret)))))⟩
theorem f105_ok : cFunc Cx0 Tryz.f105 = some f105 := by kernel_rfl
noncomputable def f107 : SFn := ⟨4, 97, [p4_0, p4_1], [],
 (.seq (.reg [⟨q4_3, .a (aBox 49 t4_1), none, 0⟩])
 (.seq (.reg [⟨q4_7, .p (pMkf 157 [t4_3]), none, 0⟩,
  ⟨q4_4, .p (pMv t4_7), none, 1⟩])
 (.seq (.seq (.reg [⟨q4_8, .p (pMv t4_0), none, 0⟩,
  ⟨q4_9, .p (pNilc t4_8), none, 1⟩,
  ⟨q4_10, .p (pFa 10 t4_9), none, 3⟩,
  ⟨q4_11, .r (rLd1 t4_10), none, 7⟩,
  ⟨q4_12, .p (pNilc t4_11), none, 15⟩,
  ⟨q4_13, .p (pFa 7 t4_12), none, 31⟩,
  ⟨q4_14, .r (rLd1 t4_13), none, 63⟩,
  ⟨q4_15, .p (pMv t4_4), none, 0⟩,
  ⟨q4_16, .call (.cst (.f 158 [])) [t4_14, t4_15], none, 255⟩,
  ⟨q4_17, .p (pNot t4_16), none, 511⟩])
 (.cond t4_17
 (.dreg [⟨q4_18, .p (pMv t4_0), none, 0⟩,
  ⟨q4_19, .p (pNilc t4_18), none, 1⟩,
  ⟨q4_20, .p (pFa 10 t4_19), none, 3⟩,
  ⟨q4_21, .r (rLd1 t4_20), none, 7⟩,
  ⟨q4_22, .p (pMv t4_0), none, 0⟩,
  ⟨q4_23, .p (pNilc t4_22), none, 16⟩,
  ⟨q4_24, .p (pFa 10 t4_23), none, 48⟩,
  ⟨q4_25, .r (rLd1 t4_24), none, 112⟩,
  ⟨q4_26, .p (pNilc t4_25), none, 240⟩,
  ⟨q4_27, .p (pFa 7 t4_26), none, 496⟩,
  ⟨q4_28, .r (rLd1 t4_27), none, 1008⟩,
  ⟨q4_29, .r (rLdn 6 t4_3), none, 0⟩,
  ⟨q4_30, .a (aBsl (zeros z49 1) 49 1 [(0, 6, t4_29)]), none, 2048⟩,
  ⟨q4_31, .e (eApp 49 6 64 t4_28 t4_30), none, 8176⟩,
  ⟨q4_32, .p (pNilc t4_21), none, 16383⟩,
  ⟨q4_33, .p (pFa 7 t4_32), none, 32767⟩,
  ⟨none, .e (eSt 1 t4_33 t4_31), none, 65535⟩])
 .skip))
 (.seq (.seq (.dreg [⟨q4_34, .p (pMv t4_0), none, 0⟩,
  ⟨q4_35, .p (pNilc t4_34), none, 1⟩,
  ⟨q4_36, .p (pFa 10 t4_35), none, 3⟩,
  ⟨q4_37, .r (rLd1 t4_36), none, 7⟩,
  ⟨q4_38, .p (pNilc t4_37), none, 15⟩,
  ⟨q4_39, .p (pFa 7 t4_38), none, 31⟩,
  ⟨q4_40, .r (rLd1 t4_39), none, 63⟩,
  ⟨q4_41, .p (pLen t4_40), none, 127⟩,
  ⟨q4_42, .p (pMv t4_0), none, 0⟩,
  ⟨q4_43, .p (pNilc t4_42), none, 256⟩,
  ⟨q4_44, .p (pFa 0 t4_43), none, 768⟩,
  ⟨q4_45, .r (rLdn 2 t4_44), none, 1792⟩,
  ⟨q4_46, .call (.cst (.f 117 [])) [t4_45], none, 3840⟩,
  ⟨q4_47, .p (pLt t4_41 t4_46), none, 8191⟩])
 (.cond t4_47
 .ret
 .skip))
 (.seq (.dreg [⟨q4_49, .p (pMv t4_0), none, 0⟩,
  ⟨q4_50, .p (pNilc t4_49), none, 1⟩,
  ⟨q4_51, .p (pFa 7 t4_50), none, 3⟩,
  ⟨q4_52, .r (rLd1 t4_51), none, 7⟩,
  ⟨q4_53, .p (pMv t4_0), none, 0⟩,
  ⟨q4_54, .p (pNilc t4_53), none, 16⟩,
  ⟨q4_55, .p (pFa 0 t4_54), none, 48⟩,
  ⟨q4_56, .r (rLdn 2 t4_55), none, 112⟩,
  ⟨q4_57, .call (.cst (.f 113 [])) [t4_52, t4_56], none, 255⟩,
  ⟨q4_58, .p (pMv t4_0), none, 0⟩,
  ⟨q4_59, .p (pNilc t4_58), none, 512⟩,
  ⟨q4_60, .p (pFa 10 t4_59), none, 1536⟩,
  ⟨q4_61, .r (rLd1 t4_60), none, 3584⟩,
  ⟨q4_62, .p (pNilc t4_61), none, 7680⟩,
  ⟨q4_63, .p (pFa 6 t4_62), none, 15872⟩,
  ⟨q4_64, .r (rLd1 t4_63), none, 32256⟩,
  ⟨q4_65, .p (pMv t4_0), none, 0⟩,
  ⟨q4_66, .p (pNilc t4_65), none, 65536⟩,
  ⟨q4_67, .p (pFa 10 t4_66), none, 196608⟩,
  ⟨q4_68, .r (rLd1 t4_67), none, 458752⟩,
  ⟨q4_69, .p (pNilc t4_68), none, 983040⟩,
  ⟨q4_70, .p (pFa 7 t4_69), none, 2031616⟩,
  ⟨q4_71, .r (rLd1 t4_70), none, 4128768⟩,
  ⟨q4_72, .p (pMv t4_0), none, 0⟩,
  ⟨q4_73, .p (pNilc t4_72), none, 8388608⟩,
  ⟨q4_74, .p (pFa 8 t4_73), none, 25165824⟩,
  ⟨q4_75, .r (rLd1 t4_74), none, 58720256⟩,
  ⟨q4_76, .call (.cst (.f 160 [])) [t4_75], none, 125829631⟩,
  ⟨q4_77, .p (pMv t4_0), none, 0⟩,
  ⟨q4_78, .p (pNilc t4_77), none, 268435456⟩,
  ⟨q4_79, .p (pFa 8 t4_78), none, 805306368⟩,
  ⟨q4_80, .r (rLd1 t4_79), none, 1879048192⟩,
  ⟨q4_81, .call (.cst (.f 161 [])) [t4_80], none, 4286579199⟩,
  ⟨q4_82, .call (.cst (.f 159 [])) [t4_57, t4_64, t4_71, t4_76, t4_81], none, 8589934591⟩,
  ⟨q4_48, .p (pMv t4_82), none, 17179869183⟩,
  ⟨q4_83, .p (pExt t4_48 0), none, 34359738367⟩,
  ⟨q4_84, .p (pExt t4_48 1), none, 34359738367⟩,
  ⟨q4_5, .a (aAlloc z54 54), none, 0⟩,
  ⟨none, .e (eSt 5 t4_5 t4_83), none, 206158430207⟩,
  ⟨q4_6, .p (pMv t4_84), none, 549755813887⟩])
 (.seq (.reg [⟨q4_85, .p (pMv t4_6), none, 0⟩,
  ⟨q4_86, .p (pEq k86 t4_85 c0), none, 1⟩])
 (.cond t4_86
 (.dreg [⟨q4_87, .p (pMv t4_0), none, 0⟩,
  ⟨q4_88, .p (pMv t4_0), none, 0⟩,
  ⟨q4_89, .p (pNilc t4_88), none, 2⟩,
  ⟨q4_90, .p (pFa 10 t4_89), none, 6⟩,
  ⟨q4_91, .r (rLd1 t4_90), none, 14⟩,
  ⟨q4_92, .p (pNilc t4_91), none, 30⟩,
  ⟨q4_93, .p (pFa 5 t4_92), none, 62⟩,
  ⟨q4_94, .r (rLd1 t4_93), none, 126⟩,
  ⟨q4_95, .r (rLdn 5 t4_5), none, 0⟩,
  ⟨q4_96, .call (.cst (.f 136 [])) [t4_87, t4_94, (.cst (.i .i64 (.lit (.negSucc 0)))), t4_95], none, 511⟩])
 .skip)))))))⟩
theorem f107_ok : cFunc Cx0 Tryz.f107 = some f107 := by kernel_rfl
noncomputable def f108 : SFn := ⟨3, 26, [p3_0, p3_1, p3_2], [(p3_6, none)],
 (.seq (.reg [⟨q3_4, .a (aBox 37 t3_1), none, 0⟩,
  ⟨q3_6, .p (pMv (.cst (.b false))), none, 0⟩])
 (.seq (.dreg [⟨q3_8, .p (pMv t3_0), none, 0⟩,
  ⟨q3_9, .p (pNilc t3_8), none, 1⟩,
  ⟨q3_10, .p (pFa 0 t3_9), none, 3⟩,
  ⟨q3_11, .r (rLd1 t3_10), none, 7⟩,
  ⟨q3_12, .p (pFa 0 t3_4), none, 0⟩,
  ⟨q3_13, .r (rLd1 t3_12), none, 16⟩,
  ⟨q3_14, .p (pMv t3_2), none, 0⟩,
  ⟨q3_15, .r (rB2s t3_14), none, 64⟩,
  ⟨q3_16, .p (pBld z111 [(0, 1, t3_13), (1, 1, t3_15)]), none, 240⟩,
  ⟨q3_17, .r (rLk k111 (.i .i64 (.lit (.ofNat 0))) t3_11 t3_16 false), none, 511⟩,
  ⟨q3_7, .p (pMv t3_17), none, 1023⟩])
 (.seq (.reg [⟨q3_18, .p (pMv t3_7), none, 0⟩,
  ⟨q3_19, .p (pGt t3_18 c0), none, 1⟩,
  ⟨q3_20, .p (pMv t3_19), none, 3⟩,
  ⟨q3_21, .p (pMv t3_7), (some (p3_20, true)), 7⟩,
  ⟨q3_22, .p (pFa 1 t3_4), (some (p3_20, true)), 7⟩,
  ⟨q3_23, .r (rLd1 t3_22), (some (p3_20, true)), 23⟩,
  ⟨q3_24, .p (pEq k3 t3_21 t3_23), (some (p3_20, true)), 63⟩,
  ⟨q3_25, .p (pPick t3_20 t3_24 (.cst (.b false))), none, 127⟩,
  ⟨q3_6, .p (pMv t3_25), none, 255⟩])
 .ret)))⟩
theorem f108_ok : cFunc Cx0 Tryz.f108 = some f108 := by kernel_rfl
noncomputable def f117 : SFn := ⟨2, 7, [p2_0], [(p2_2, none)],
 (.seq (.reg [⟨q2_1, .a (aBox 24 t2_0), none, 0⟩,
  ⟨q2_2, .p (pMv c0), none, 0⟩])
 (.seq (.reg [⟨q2_3, .p (pFa 0 t2_1), none, 0⟩,
  ⟨q2_4, .r (rLd1 t2_3), none, 1⟩,
  ⟨q2_5, .p (pMul c2 t2_4), none, 3⟩,
  ⟨q2_6, .p (pAdd t2_5 c1), none, 7⟩,
  ⟨q2_2, .p (pMv t2_6), none, 15⟩])
 .ret))⟩
theorem f117_ok : cFunc Cx0 Tryz.f117 = some f117 := by kernel_rfl
noncomputable def f122 : SFn := ⟨2, 8, [p2_0], [(p2_2, some 38)],
 (.seq (.reg [⟨q2_1, .a (aBox 44 t2_0), none, 0⟩,
  ⟨q2_2, .a (aAlloc z44 44), none, 0⟩])
 (.seq (.reg [⟨q2_3, .p (pFa 37 t2_1), none, 0⟩,
  ⟨q2_4, .r (rLd1 t2_3), none, 1⟩,
  ⟨q2_5, .call (.cst (.f 178 [])) [t2_4, (.cst (.f 179 []))], none, 3⟩,
  ⟨q2_6, .p (pFa 37 t2_1), none, 7⟩,
  ⟨none, .e (eSt 1 t2_6 t2_5), none, 15⟩])
 (.seq (.reg [⟨q2_7, .r (rLdn 38 t2_1), none, 0⟩,
  ⟨none, .e (eSt 38 t2_2 t2_7), none, 1⟩])
 .ret)))⟩
theorem f122_ok : cFunc Cx0 Tryz.f122 = some f122 := by kernel_rfl
noncomputable def f123 : SFn := ⟨2, 8, [p2_0], [(p2_2, some 6)],
 (.seq (.reg [⟨q2_1, .a (aBox 49 t2_0), none, 0⟩,
  ⟨q2_2, .a (aAlloc z49 49), none, 0⟩])
 (.seq (.reg [⟨q2_3, .p (pFa 3 t2_1), none, 0⟩,
  ⟨q2_4, .r (rLd1 t2_3), none, 1⟩,
  ⟨q2_5, .call (.cst (.f 180 [])) [t2_4, (.cst (.f 122 []))], none, 3⟩,
  ⟨q2_6, .p (pFa 3 t2_1), none, 7⟩,
  ⟨none, .e (eSt 1 t2_6 t2_5), none, 15⟩])
 (.seq (.reg [⟨q2_7, .r (rLdn 6 t2_1), none, 0⟩,
  ⟨none, .e (eSt 6 t2_2 t2_7), none, 1⟩])
 .ret)))⟩
theorem f123_ok : cFunc Cx0 Tryz.f123 = some f123 := by kernel_rfl
noncomputable def f124 : SFn := ⟨2, 8, [p2_0], [(p2_2, some 34)],
 (.seq (.reg [⟨q2_1, .a (aBox 63 t2_0), none, 0⟩,
  ⟨q2_2, .a (aAlloc z63 63), none, 0⟩])
 (.seq (.reg [⟨q2_3, .p (pFa 1 t2_1), none, 0⟩,
  ⟨q2_4, .r (rLd1 t2_3), none, 1⟩,
  ⟨q2_5, .e (eApp 5 1 1 (.cst .ns) t2_4), none, 3⟩,
  ⟨q2_6, .p (pFa 1 t2_1), none, 7⟩,
  ⟨none, .e (eSt 1 t2_6 t2_5), none, 15⟩])
 (.seq (.reg [⟨q2_7, .r (rLdn 34 t2_1), none, 0⟩,
  ⟨none, .e (eSt 34 t2_2 t2_7), none, 1⟩])
 .ret)))⟩
theorem f124_ok : cFunc Cx0 Tryz.f124 = some f124 := by kernel_rfl
noncomputable def f125 : SFn := ⟨2, 16, [p2_0], [(p2_2, some 5)],
 (.seq (.reg [⟨q2_1, .a (aBox 54 t2_0), none, 0⟩,
  ⟨q2_2, .a (aAlloc z54 54), none, 0⟩])
 (.seq (.dreg [⟨q2_3, .p (pFa 2 t2_1), none, 0⟩,
  ⟨q2_4, .r (rLd1 t2_3), none, 1⟩,
  ⟨q2_5, .call (.cst (.f 181 [])) [t2_4, (.cst (.f 123 []))], none, 3⟩,
  ⟨q2_6, .p (pFa 3 t2_1), none, 0⟩,
  ⟨q2_7, .r (rLd1 t2_6), none, 8⟩,
  ⟨q2_8, .call (.cst (.f 182 [])) [t2_7, (.cst (.f 124 []))], none, 31⟩,
  ⟨q2_9, .p (pFa 4 t2_1), none, 0⟩,
  ⟨q2_10, .r (rLd1 t2_9), none, 64⟩,
  ⟨q2_11, .call (.cst (.f 183 [])) [t2_10, (.cst (.f 184 []))], none, 255⟩,
  ⟨q2_12, .p (pFa 2 t2_1), none, 223⟩,
  ⟨none, .e (eSt 1 t2_12 t2_5), none, 1023⟩,
  ⟨q2_13, .p (pFa 3 t2_1), none, 2047⟩,
  ⟨none, .e (eSt 1 t2_13 t2_8), none, 4095⟩,
  ⟨q2_14, .p (pFa 4 t2_1), none, 8191⟩,
  ⟨none, .e (eSt 1 t2_14 t2_11), none, 16383⟩])
 (.seq (.reg [⟨q2_15, .r (rLdn 5 t2_1), none, 0⟩,
  ⟨none, .e (eSt 5 t2_2 t2_15), none, 1⟩])
 .ret)))⟩
theorem f125_ok : cFunc Cx0 Tryz.f125 = some f125 := by kernel_rfl
noncomputable def f126 : SFn := ⟨3, 22, [p3_0, p3_1], [(p3_4, none)],
 (.seq (.reg [⟨q3_4, .p (pMv (.cst .ns)), none, 0⟩])
 (.seq (.reg [⟨q3_5, .p (pMv (.cst .ns)), none, 0⟩])
 (.seq (.seq (.reg [⟨q3_8, .p (pMv t3_0), none, 0⟩,
  ⟨q3_9, .p (pLen t3_8), none, 1⟩,
  ⟨q3_10, .p (pMv c0), none, 0⟩])
 (.block 0 (.loop (.seq (.reg [⟨q3_11, .p (pLt t3_10 t3_9), none, 0⟩])
 (.seq (.cond t3_11
 .skip
 (.exit 0))
 (.seq (.block 1 (.seq (.reg [⟨q3_12, .p (pIxL 38 t3_8 t3_10), none, 0⟩,
  ⟨q3_13, .r (rLdn 38 t3_12), none, 1⟩,
  ⟨q3_7, .a (aAlloc z58 58), none, 0⟩,
  ⟨none, .e (eSt 38 t3_7 t3_13), none, 7⟩])
 (.reg [⟨q3_14, .p (pMv t3_5), none, 0⟩,
  ⟨q3_15, .p (pMv t3_1), none, 0⟩,
  ⟨q3_16, .r (rLdn 38 t3_7), none, 0⟩,
  ⟨q3_17, .call t3_15 [t3_16], none, 6⟩,
  ⟨q3_18, .a (aBsl (zeros z58 1) 58 1 [(0, 38, t3_17)]), none, 14⟩,
  ⟨q3_19, .e (eApp 58 38 80 t3_14 t3_18), none, 31⟩,
  ⟨q3_5, .p (pMv t3_19), none, 63⟩])))
 (.reg [⟨q3_20, .p (pAdd t3_10 c1), none, 0⟩,
  ⟨q3_10, .p (pMv t3_20), none, 1⟩])))))))
 (.seq (.reg [⟨q3_21, .p (pMv t3_5), none, 0⟩,
  ⟨q3_4, .p (pMv t3_21), none, 1⟩])
 .ret))))⟩
theorem f126_ok : cFunc Cx0 Tryz.f126 = some f126 := by kernel_rfl
noncomputable def f128 : SFn := ⟨2, 2, [], [(p2_0, some 64)],
 (.seq (.reg [⟨q2_0, .a (aAlloc z249 249), none, 0⟩])
 (.seq (.reg [⟨q2_1, .p (pBld z249 [(0, 1, (.cst (.i .u32 (.lit (.ofNat 1116352408))))), (1, 1, (.cst (.i .u32 (.lit (.ofNat 1899447441))))), (2, 1, (.cst (.i .u32 (.lit (.ofNat 3049323471))))), (3, 1, (.cst (.i .u32 (.lit (.ofNat 3921009573))))), (4, 1, (.cst (.i .u32 (.lit (.ofNat 961987163))))), (5, 1, (.cst (.i .u32 (.lit (.ofNat 1508970993))))), (6, 1, (.cst (.i .u32 (.lit (.ofNat 2453635748))))), (7, 1, (.cst (.i .u32 (.lit (.ofNat 2870763221))))), (8, 1, (.cst (.i .u32 (.lit (.ofNat 3624381080))))), (9, 1, (.cst (.i .u32 (.lit (.ofNat 310598401))))), (10, 1, (.cst (.i .u32 (.lit (.ofNat 607225278))))), (11, 1, (.cst (.i .u32 (.lit (.ofNat 1426881987))))), (12, 1, (.cst (.i .u32 (.lit (.ofNat 1925078388))))), (13, 1, (.cst (.i .u32 (.lit (.ofNat 2162078206))))), (14, 1, (.cst (.i .u32 (.lit (.ofNat 2614888103))))), (15, 1, (.cst (.i .u32 (.lit (.ofNat 3248222580))))), (16, 1, (.cst (.i .u32 (.lit (.ofNat 3835390401))))), (17, 1, (.cst (.i .u32 (.lit (.ofNat 4022224774))))), (18, 1, (.cst (.i .u32 (.lit (.ofNat 264347078))))), (19, 1, (.cst (.i .u32 (.lit (.ofNat 604807628))))), (20, 1, (.cst (.i .u32 (.lit (.ofNat 770255983))))), (21, 1, (.cst (.i .u32 (.lit (.ofNat 1249150122))))), (22, 1, (.cst (.i .u32 (.lit (.ofNat 1555081692))))), (23, 1, (.cst (.i .u32 (.lit (.ofNat 1996064986))))), (24, 1, (.cst (.i .u32 (.lit (.ofNat 2554220882))))), (25, 1, (.cst (.i .u32 (.lit (.ofNat 2821834349))))), (26, 1, (.cst (.i .u32 (.lit (.ofNat 2952996808))))), (27, 1, (.cst (.i .u32 (.lit (.ofNat 3210313671))))), (28, 1, (.cst (.i .u32 (.lit (.ofNat 3336571891))))), (29, 1, (.cst (.i .u32 (.lit (.ofNat 3584528711))))), (30, 1, (.cst (.i .u32 (.lit (.ofNat 113926993))))), (31, 1, (.cst (.i .u32 (.lit (.ofNat 338241895))))), (32, 1, (.cst (.i .u32 (.lit (.ofNat 666307205))))), (33, 1, (.cst (.i .u32 (.lit (.ofNat 773529912))))), (34, 1, (.cst (.i .u32 (.lit (.ofNat 1294757372))))), (35, 1, (.cst (.i .u32 (.lit (.ofNat 1396182291))))), (36, 1, (.cst (.i .u32 (.lit (.ofNat 1695183700))))), (37, 1, (.cst (.i .u32 (.lit (.ofNat 1986661051))))), (38, 1, (.cst (.i .u32 (.lit (.ofNat 2177026350))))), (39, 1, (.cst (.i .u32 (.lit (.ofNat 2456956037))))), (40, 1, (.cst (.i .u32 (.lit (.ofNat 2730485921))))), (41, 1, (.cst (.i .u32 (.lit (.ofNat 2820302411))))), (42, 1, (.cst (.i .u32 (.lit (.ofNat 3259730800))))), (43, 1, (.cst (.i .u32 (.lit (.ofNat 3345764771))))), (44, 1, (.cst (.i .u32 (.lit (.ofNat 3516065817))))), (45, 1, (.cst (.i .u32 (.lit (.ofNat 3600352804))))), (46, 1, (.cst (.i .u32 (.lit (.ofNat 4094571909))))), (47, 1, (.cst (.i .u32 (.lit (.ofNat 275423344))))), (48, 1, (.cst (.i .u32 (.lit (.ofNat 430227734))))), (49, 1, (.cst (.i .u32 (.lit (.ofNat 506948616))))), (50, 1, (.cst (.i .u32 (.lit (.ofNat 659060556))))), (51, 1, (.cst (.i .u32 (.lit (.ofNat 883997877))))), (52, 1, (.cst (.i .u32 (.lit (.ofNat 958139571))))), (53, 1, (.cst (.i .u32 (.lit (.ofNat 1322822218))))), (54, 1, (.cst (.i .u32 (.lit (.ofNat 1537002063))))), (55, 1, (.cst (.i .u32 (.lit (.ofNat 1747873779))))), (56, 1, (.cst (.i .u32 (.lit (.ofNat 1955562222))))), (57, 1, (.cst (.i .u32 (.lit (.ofNat 2024104815))))), (58, 1, (.cst (.i .u32 (.lit (.ofNat 2227730452))))), (59, 1, (.cst (.i .u32 (.lit (.ofNat 2361852424))))), (60, 1, (.cst (.i .u32 (.lit (.ofNat 2428436474))))), (61, 1, (.cst (.i .u32 (.lit (.ofNat 2756734187))))), (62, 1, (.cst (.i .u32 (.lit (.ofNat 3204031479))))), (63, 1, (.cst (.i .u32 (.lit (.ofNat 3329325298)))))]), none, 0⟩,
  ⟨none, .e (eSt 64 t2_0 t2_1), none, 1⟩])
 .ret))⟩
theorem f128_ok : cFunc Cx0 Tryz.f128 = some f128 := by kernel_rfl
noncomputable def f129 : SFn := ⟨2, 13, [p2_0, p2_1], [(p2_4, none)],
 (.seq (.reg [⟨q2_4, .p (pMv (.cst (.i .u32 (.lit (.ofNat 0))))), none, 0⟩])
 (.seq (.reg [⟨q2_5, .p (pMv t2_0), none, 0⟩,
  ⟨q2_6, .p (pMv t2_1), none, 0⟩,
  ⟨q2_7, .p (pShr t2_5 t2_6), none, 3⟩,
  ⟨q2_8, .p (pMv t2_0), none, 0⟩,
  ⟨q2_9, .p (pMv t2_1), none, 0⟩,
  ⟨q2_10, .p (pSub (.cst (.i .u64 (.lit (.ofNat 32)))) t2_9), none, 16⟩,
  ⟨q2_11, .p (pShl t2_8 t2_10), none, 56⟩,
  ⟨q2_12, .p (pBits .or t2_7 t2_11), none, 127⟩,
  ⟨q2_4, .p (pMv t2_12), none, 255⟩])
 .ret))⟩
theorem f129_ok : cFunc Cx0 Tryz.f129 = some f129 := by kernel_rfl
noncomputable def f135 : SFn := ⟨2, 14, [p2_0], [(p2_2, none), (p2_3, none)],
 (.seq (.reg [⟨q2_1, .a (aBox 24 t2_0), none, 0⟩,
  ⟨q2_2, .p (pMv (.cst .np)), none, 0⟩,
  ⟨q2_3, .p (pMv c0), none, 2⟩])
 (.seq (.seq (.reg [⟨q2_4, .r (rLdn 2 t2_1), none, 0⟩,
  ⟨q2_5, .call (.cst (.f 77 [])) [t2_4], none, 1⟩,
  ⟨q2_6, .p (pNot t2_5), none, 3⟩])
 (.cond t2_6
 (.seq (.reg [⟨q2_2, .p (pMv (.cst .np)), none, 0⟩,
  ⟨q2_3, .p (pMv c1), none, 1⟩])
 .ret)
 .skip))
 (.seq (.reg [⟨q2_7, .r (rLdn 2 t2_1), none, 0⟩,
  ⟨q2_8, .a aMkm, none, 0⟩,
  ⟨q2_9, .a aMkm, none, 0⟩,
  ⟨q2_10, .a aMkm, none, 0⟩,
  ⟨q2_11, .a aMkm, none, 0⟩,
  ⟨q2_12, .p (pBld z334 [(0, 2, t2_7), (2, 1, t2_8), (3, 1, t2_9), (4, 1, t2_10), (5, 1, t2_11)]), none, 31⟩,
  ⟨q2_13, .a (aBox 334 t2_12), none, 63⟩,
  ⟨q2_2, .p (pMv t2_13), none, 127⟩,
  ⟨q2_3, .p (pMv c0), none, 255⟩])
 .ret)))⟩
theorem f135_ok : cFunc Cx0 Tryz.f135 = some f135 := by kernel_rfl
noncomputable def f137 : SFn := ⟨2, 12, [p2_0, p2_1], [(p2_4, some 35)],
 (.seq (.reg [⟨q2_4, .a (aAlloc z191 191), none, 0⟩])
 (.seq (.reg [⟨q2_5, .p (pMv t2_0), none, 0⟩,
  ⟨q2_6, .p (pNilc t2_5), none, 1⟩,
  ⟨q2_7, .p (pFa 4 t2_6), none, 3⟩,
  ⟨q2_8, .p (pFa 0 t2_7), none, 7⟩,
  ⟨q2_9, .r (rLd1 t2_8), none, 15⟩,
  ⟨q2_10, .p (pMv t2_1), none, 0⟩,
  ⟨q2_11, .p (pBld z191 [(0, 1, c4), (1, 1, t2_9), (2, 1, t2_10)]), none, 63⟩,
  ⟨none, .e (eSt 35 t2_4 t2_11), none, 127⟩])
 .ret))⟩
theorem f137_ok : cFunc Cx0 Tryz.f137 = some f137 := by kernel_rfl
noncomputable def f138 : SFn := ⟨4, 241, [p4_0], [(p4_2, none), (p4_3, none)],
 (.seq (.reg [⟨q4_2, .p (pMv (.cst .ns)), none, 0⟩,
  ⟨q4_3, .p (pMv (.cst (.b false))), none, 1⟩])
 (.seq (.seq (.reg [⟨q4_13, .p (pMv t4_0), none, 0⟩,
  ⟨q4_14, .call (.cst (.f 186 [])) [t4_13], none, 1⟩,
  ⟨q4_4, .p (pMv t4_14), none, 3⟩])
 (.seq (.reg [⟨q4_15, .p (pMv t4_4), none, 0⟩,
  ⟨q4_16, .p (pGe t4_15 c0), none, 1⟩])
 (.cond t4_16
 (.seq (.reg [⟨q4_17, .p (pMv t4_0), none, 0⟩,
  ⟨q4_18, .p (pMv t4_0), none, 0⟩,
  ⟨q4_19, .p (pMv t4_0), none, 0⟩,
  ⟨q4_20, .p (pNilc t4_19), none, 4⟩,
  ⟨q4_21, .p (pFa 106 t4_20), none, 12⟩,
  ⟨q4_22, .r (rLd1 t4_21), none, 28⟩,
  ⟨q4_23, .p (pMv t4_4), none, 0⟩,
  ⟨q4_24, .r (rLk k3 (.ag z306) t4_22 t4_23 false), none, 124⟩,
  ⟨q4_25, .p (pFn 1 32 t4_24), none, 252⟩,
  ⟨q4_26, .p (pNilc t4_17), none, 253⟩,
  ⟨q4_27, .p (pFa 4 t4_26), none, 765⟩,
  ⟨q4_28, .p (pFa 68 t4_27), none, 1789⟩,
  ⟨none, .e (eSt 1 t4_28 (.cst (.b true))), none, 3837⟩,
  ⟨q4_29, .p (pNilc t4_18), none, 8191⟩,
  ⟨q4_30, .p (pFa 4 t4_29), none, 16383⟩,
  ⟨q4_31, .p (pFa 69 t4_30), none, 32767⟩,
  ⟨none, .e (eSt 32 t4_31 t4_25), none, 65535⟩])
 (.seq (.reg [⟨q4_32, .p (pMv t4_4), none, 0⟩,
  ⟨q4_33, .p (pMv t4_0), none, 0⟩,
  ⟨q4_34, .p (pNilc t4_33), none, 2⟩,
  ⟨q4_35, .p (pFa 4 t4_34), none, 6⟩,
  ⟨q4_36, .p (pFa 69 t4_35), none, 14⟩,
  ⟨q4_37, .r (rLdn 32 t4_36), none, 30⟩,
  ⟨q4_38, .p (pBld z191 [(0, 1, c5), (1, 1, t4_32), (2, 1, (.cst (.i .i64 (.lit (.negSucc 0))))), (3, 32, t4_37)]), none, 63⟩,
  ⟨q4_39, .a (aBsl (zeros z191 1) 191 1 [(0, 35, t4_38)]), none, 127⟩,
  ⟨q4_2, .p (pMv t4_39), none, 255⟩,
  ⟨q4_3, .p (pMv (.cst (.b true))), none, 511⟩])
 .ret))
 .skip)))
 (.seq (.seq (.dreg [⟨q4_40, .p (pMv t4_0), none, 0⟩,
  ⟨q4_41, .p (pNilc t4_40), none, 1⟩,
  ⟨q4_42, .p (pFa 105 t4_41), none, 3⟩,
  ⟨q4_43, .r (rLd1 t4_42), none, 7⟩,
  ⟨q4_44, .p (pMv t4_0), none, 0⟩,
  ⟨q4_45, .p (pNilc t4_44), none, 16⟩,
  ⟨q4_46, .p (pFa 4 t4_45), none, 48⟩,
  ⟨q4_47, .p (pFa 0 t4_46), none, 112⟩,
  ⟨q4_48, .r (rLd1 t4_47), none, 240⟩,
  ⟨q4_49, .p (pMv t4_0), none, 0⟩,
  ⟨q4_50, .p (pNilc t4_49), none, 512⟩,
  ⟨q4_51, .p (pFa 0 t4_50), none, 1536⟩,
  ⟨q4_52, .p (pFa 0 t4_51), none, 3584⟩,
  ⟨q4_53, .r (rLd1 t4_52), none, 7680⟩,
  ⟨q4_54, .p (pAdd t4_53 c1), none, 15872⟩,
  ⟨q4_55, .call (.cst (.f 187 [])) [t4_43, t4_48, t4_54], none, 32767⟩,
  ⟨q4_5, .p (pMv t4_55), none, 65535⟩])
 (.seq (.reg [⟨q4_56, .p (pMv t4_5), none, 0⟩,
  ⟨q4_57, .p (pGe t4_56 c0), none, 1⟩])
 (.cond t4_57
 (.seq (.reg [⟨q4_58, .p (pMv t4_0), none, 0⟩,
  ⟨q4_59, .p (pMv t4_5), none, 0⟩,
  ⟨q4_60, .call (.cst (.f 86 [])) [t4_58, t4_59], none, 3⟩,
  ⟨q4_2, .p (pMv t4_60), none, 7⟩,
  ⟨q4_3, .p (pMv (.cst (.b true))), none, 15⟩])
 .ret)
 .skip)))
 (.seq (.dreg [⟨q4_62, .p (pMv t4_0), none, 0⟩,
  ⟨q4_63, .p (pNilc t4_62), none, 1⟩,
  ⟨q4_64, .p (pFa 106 t4_63), none, 3⟩,
  ⟨q4_65, .r (rLd1 t4_64), none, 7⟩,
  ⟨q4_66, .p (pMv t4_0), none, 0⟩,
  ⟨q4_67, .p (pNilc t4_66), none, 16⟩,
  ⟨q4_68, .p (pFa 4 t4_67), none, 48⟩,
  ⟨q4_69, .p (pFa 0 t4_68), none, 112⟩,
  ⟨q4_70, .r (rLd1 t4_69), none, 240⟩,
  ⟨q4_71, .r (rLk k3 (.ag z306) t4_65 t4_70 true), none, 511⟩,
  ⟨q4_61, .p (pMv t4_71), none, 1023⟩,
  ⟨q4_72, .p (pExt t4_61 0), none, 2047⟩,
  ⟨q4_73, .p (pExt t4_61 1), none, 2047⟩,
  ⟨q4_6, .a (aAlloc z306 306), none, 0⟩,
  ⟨none, .e (eSt 34 t4_6 t4_72), none, 12287⟩,
  ⟨q4_7, .p (pMv t4_73), none, 32767⟩])
 (.seq (.seq (.reg [⟨q4_74, .p (pMv t4_0), none, 0⟩,
  ⟨q4_75, .p (pNilc t4_74), none, 1⟩,
  ⟨q4_76, .p (pFa 4 t4_75), none, 3⟩,
  ⟨q4_77, .p (pFa 1 t4_76), none, 7⟩,
  ⟨q4_78, .r (rLd1 t4_77), none, 15⟩,
  ⟨q4_79, .p (pEq k3 t4_78 c1), none, 31⟩,
  ⟨q4_80, .p (pMv t4_79), none, 63⟩,
  ⟨q4_81, .p (pMv t4_7), (some (p4_80, true)), 127⟩,
  ⟨q4_82, .p (pPick t4_80 t4_81 (.cst (.b false))), none, 255⟩])
 (.cond t4_82
 (.seq (.reg [⟨q4_84, .p (pMv t4_0), none, 0⟩,
  ⟨q4_85, .r (rLdn 34 t4_6), none, 0⟩,
  ⟨q4_86, .call (.cst (.f 188 [])) [t4_84, t4_85], none, 3⟩,
  ⟨q4_83, .p (pMv t4_86), none, 7⟩,
  ⟨q4_87, .p (pExt t4_83 0), none, 15⟩,
  ⟨q4_88, .p (pExt t4_83 1), none, 15⟩,
  ⟨q4_8, .a (aAlloc z35 35), none, 0⟩,
  ⟨none, .e (eSt 32 t4_8 t4_87), none, 95⟩,
  ⟨q4_9, .p (pMv t4_88), none, 255⟩])
 (.seq (.reg [⟨q4_89, .p (pMv t4_9), none, 0⟩])
 (.cond t4_89
 (.seq (.reg [⟨q4_90, .p (pMv t4_0), none, 0⟩,
  ⟨q4_91, .r (rLdn 32 t4_8), none, 0⟩,
  ⟨q4_92, .call (.cst (.f 90 [])) [t4_90, t4_91], none, 3⟩,
  ⟨q4_2, .p (pMv t4_92), none, 7⟩,
  ⟨q4_3, .p (pMv (.cst (.b true))), none, 15⟩])
 .ret)
 .skip)))
 .skip))
 (.seq (.dreg [⟨q4_93, .p (pMv t4_0), none, 0⟩,
  ⟨q4_94, .p (pNilc t4_93), none, 1⟩,
  ⟨q4_95, .p (pFa 0 t4_94), none, 3⟩,
  ⟨q4_96, .r (rLdn 2 t4_95), none, 7⟩,
  ⟨q4_97, .call (.cst (.f 117 [])) [t4_96], none, 15⟩,
  ⟨q4_98, .p (pMv t4_0), none, 0⟩,
  ⟨q4_99, .p (pNilc t4_98), none, 32⟩,
  ⟨q4_100, .p (pFa 4 t4_99), none, 96⟩,
  ⟨q4_101, .p (pFa 0 t4_100), none, 224⟩,
  ⟨q4_102, .r (rLd1 t4_101), none, 480⟩,
  ⟨q4_10, .p (pMv t4_97), none, 31⟩,
  ⟨q4_11, .p (pMv t4_102), none, 2047⟩])
 (.seq (.seq (.dreg [⟨q4_103, .p (pMv t4_0), none, 0⟩,
  ⟨q4_104, .p (pNilc t4_103), none, 1⟩,
  ⟨q4_105, .p (pFa 4 t4_104), none, 3⟩,
  ⟨q4_106, .p (pFa 1 t4_105), none, 7⟩,
  ⟨q4_107, .r (rLd1 t4_106), none, 15⟩,
  ⟨q4_108, .p (pGe t4_107 c2), none, 31⟩,
  ⟨q4_109, .p (pMv t4_108), none, 63⟩,
  ⟨q4_110, .p (pMv t4_7), (some (p4_109, true)), 127⟩,
  ⟨q4_111, .p (pPick t4_109 t4_110 (.cst (.b false))), none, 255⟩,
  ⟨q4_112, .p (pMv t4_111), none, 511⟩,
  ⟨q4_113, .p (pFa 33 t4_6), (some (p4_112, true)), 1023⟩,
  ⟨q4_114, .r (rLd1 t4_113), (some (p4_112, true)), 2047⟩,
  ⟨q4_115, .p (pPick t4_112 t4_114 (.cst (.b false))), none, 4095⟩,
  ⟨q4_116, .p (pMv t4_115), none, 8191⟩,
  ⟨q4_117, .p (pMv t4_0), (some (p4_116, true)), 16383⟩,
  ⟨q4_118, .p (pNilc t4_117), (some (p4_116, true)), 32767⟩,
  ⟨q4_119, .p (pFa 107 t4_118), (some (p4_116, true)), 65535⟩,
  ⟨q4_120, .r (rLd1 t4_119), (some (p4_116, true)), 131071⟩,
  ⟨q4_121, .p (pNot t4_120), (some (p4_116, true)), 262143⟩,
  ⟨q4_122, .p (pPick t4_116 t4_121 (.cst (.b false))), none, 524287⟩,
  ⟨q4_123, .p (pMv t4_122), none, 1048575⟩,
  ⟨q4_124, .p (pMv t4_0), (some (p4_123, true)), 2097151⟩,
  ⟨q4_125, .p (pNilc t4_124), (some (p4_123, true)), 4194303⟩,
  ⟨q4_126, .p (pFa 105 t4_125), (some (p4_123, true)), 8388607⟩,
  ⟨q4_127, .r (rLd1 t4_126), (some (p4_123, true)), 16777215⟩,
  ⟨q4_128, .p (pMv t4_11), (some (p4_123, true)), 2097151⟩,
  ⟨q4_129, .p (pFa 1 t4_6), (some (p4_123, true)), 2097151⟩,
  ⟨q4_130, .r (rLdn 32 t4_129), (some (p4_123, true)), 69206015⟩,
  ⟨q4_131, .call (.cst (.f 189 [])) [t4_127, c1, t4_128, t4_130], (some (p4_123, true)), 268435455⟩,
  ⟨q4_132, .p (pMv t4_10), (some (p4_123, true)), 2097151⟩,
  ⟨q4_133, .p (pGe t4_131 t4_132), (some (p4_123, true)), 1073741823⟩,
  ⟨q4_134, .p (pPick t4_123 t4_133 (.cst (.b false))), none, 2147483647⟩])
 (.cond t4_134
 (.seq (.reg [⟨q4_135, .p (pMv t4_0), none, 0⟩,
  ⟨q4_136, .p (pNilc t4_135), none, 1⟩,
  ⟨q4_137, .p (pFa 107 t4_136), none, 3⟩,
  ⟨none, .e (eSt 1 t4_137 (.cst (.b true))), none, 7⟩])
 (.seq (.reg [⟨q4_12, .p (pMv (.cst .ns)), none, 0⟩])
 (.seq (.seq (.reg [⟨q4_138, .p (pMv t4_0), none, 0⟩,
  ⟨q4_139, .p (pNilc t4_138), none, 1⟩,
  ⟨q4_140, .p (pFa 4 t4_139), none, 3⟩,
  ⟨q4_141, .p (pFa 1 t4_140), none, 7⟩,
  ⟨q4_142, .r (rLd1 t4_141), none, 15⟩,
  ⟨q4_143, .p (pEq k3 t4_142 c2), none, 31⟩])
 (.cond t4_143
 (.seq (.reg [⟨q4_144, .p (pMv t4_0), none, 0⟩,
  ⟨q4_145, .p (pMv t4_0), none, 0⟩,
  ⟨q4_146, .p (pFa 1 t4_6), none, 0⟩,
  ⟨q4_147, .r (rLdn 32 t4_146), none, 4⟩,
  ⟨q4_148, .p (pMv t4_11), none, 0⟩,
  ⟨q4_149, .p (pNilc t4_144), none, 13⟩,
  ⟨q4_150, .p (pFa 4 t4_149), none, 45⟩,
  ⟨q4_151, .p (pFa 4 t4_150), none, 109⟩,
  ⟨none, .e (eSt 32 t4_151 t4_147), none, 237⟩,
  ⟨q4_152, .p (pNilc t4_145), none, 511⟩,
  ⟨q4_153, .p (pFa 4 t4_152), none, 1023⟩,
  ⟨q4_154, .p (pFa 2 t4_153), none, 2047⟩,
  ⟨none, .e (eSt 1 t4_154 t4_148), none, 4095⟩])
 (.reg [⟨q4_155, .p (pMv t4_0), none, 0⟩,
  ⟨q4_156, .p (pFa 1 t4_6), none, 0⟩,
  ⟨q4_157, .r (rLdn 32 t4_156), none, 2⟩,
  ⟨q4_158, .call (.cst (.f 91 [])) [t4_155, t4_157], none, 7⟩,
  ⟨q4_12, .p (pMv t4_158), none, 15⟩]))
 .skip))
 (.seq (.reg [⟨q4_159, .p (pMv t4_0), none, 0⟩,
  ⟨q4_160, .p (pMv t4_0), none, 0⟩,
  ⟨q4_161, .p (pFa 1 t4_6), none, 0⟩,
  ⟨q4_162, .r (rLdn 32 t4_161), none, 4⟩,
  ⟨q4_163, .p (pMv t4_11), none, 0⟩,
  ⟨q4_164, .p (pNilc t4_159), none, 13⟩,
  ⟨q4_165, .p (pFa 4 t4_164), none, 45⟩,
  ⟨q4_166, .p (pFa 36 t4_165), none, 109⟩,
  ⟨none, .e (eSt 32 t4_166 t4_162), none, 237⟩,
  ⟨q4_167, .p (pNilc t4_160), none, 511⟩,
  ⟨q4_168, .p (pFa 4 t4_167), none, 1023⟩,
  ⟨q4_169, .p (pFa 3 t4_168), none, 2047⟩,
  ⟨none, .e (eSt 1 t4_169 t4_163), none, 4095⟩])
 (.seq (.reg [⟨q4_170, .p (pMv t4_12), none, 0⟩,
  ⟨q4_2, .p (pMv t4_170), none, 1⟩,
  ⟨q4_3, .p (pMv (.cst (.b true))), none, 3⟩])
 .ret)))))
 .skip))
 (.seq (.seq (.reg [⟨q4_171, .p (pMv t4_0), none, 0⟩,
  ⟨q4_172, .p (pNilc t4_171), none, 1⟩,
  ⟨q4_173, .p (pFa 4 t4_172), none, 3⟩,
  ⟨q4_174, .p (pFa 1 t4_173), none, 7⟩,
  ⟨q4_175, .r (rLd1 t4_174), none, 15⟩,
  ⟨q4_176, .p (pEq k3 t4_175 c2), none, 31⟩,
  ⟨q4_177, .p (pMv t4_176), none, 63⟩,
  ⟨q4_178, .p (pMv t4_0), (some (p4_177, true)), 127⟩,
  ⟨q4_179, .p (pNilc t4_178), (some (p4_177, true)), 255⟩,
  ⟨q4_180, .p (pFa 105 t4_179), (some (p4_177, true)), 511⟩,
  ⟨q4_181, .r (rLd1 t4_180), (some (p4_177, true)), 1023⟩,
  ⟨q4_182, .p (pMv t4_11), (some (p4_177, true)), 127⟩,
  ⟨q4_183, .p (pBld z35 []), (some (p4_177, true)), 127⟩,
  ⟨q4_184, .call (.cst (.f 189 [])) [t4_181, c1, t4_182, t4_183], (some (p4_177, true)), 8191⟩,
  ⟨q4_185, .p (pMv t4_10), (some (p4_177, true)), 127⟩,
  ⟨q4_186, .p (pGe t4_184 t4_185), (some (p4_177, true)), 32767⟩,
  ⟨q4_187, .p (pPick t4_177 t4_186 (.cst (.b false))), none, 65535⟩])
 (.cond t4_187
 (.seq (.reg [⟨q4_188, .p (pMv t4_0), none, 0⟩,
  ⟨q4_189, .p (pBld z35 []), none, 0⟩,
  ⟨q4_190, .call (.cst (.f 91 [])) [t4_188, t4_189], none, 3⟩,
  ⟨q4_2, .p (pMv t4_190), none, 7⟩,
  ⟨q4_3, .p (pMv (.cst (.b true))), none, 15⟩])
 .ret)
 .skip))
 (.seq (.seq (.reg [⟨q4_191, .p (pMv t4_0), none, 0⟩,
  ⟨q4_192, .p (pNilc t4_191), none, 1⟩,
  ⟨q4_193, .p (pFa 4 t4_192), none, 3⟩,
  ⟨q4_194, .p (pFa 1 t4_193), none, 7⟩,
  ⟨q4_195, .r (rLd1 t4_194), none, 15⟩,
  ⟨q4_196, .p (pEq k3 t4_195 c2), none, 31⟩,
  ⟨q4_197, .p (pMv t4_196), none, 63⟩,
  ⟨q4_198, .p (pMv t4_0), (some (p4_197, true)), 127⟩,
  ⟨q4_199, .p (pNilc t4_198), (some (p4_197, true)), 255⟩,
  ⟨q4_200, .p (pFa 108 t4_199), (some (p4_197, true)), 511⟩,
  ⟨q4_201, .r (rLd1 t4_200), (some (p4_197, true)), 1023⟩,
  ⟨q4_202, .p (pNot t4_201), (some (p4_197, true)), 2047⟩,
  ⟨q4_203, .p (pPick t4_197 t4_202 (.cst (.b false))), none, 4095⟩,
  ⟨q4_204, .p (pMv t4_203), none, 8191⟩,
  ⟨q4_205, .p (pMv t4_0), (some (p4_204, true)), 16383⟩,
  ⟨q4_206, .p (pNilc t4_205), (some (p4_204, true)), 32767⟩,
  ⟨q4_207, .p (pFa 105 t4_206), (some (p4_204, true)), 65535⟩,
  ⟨q4_208, .r (rLd1 t4_207), (some (p4_204, true)), 131071⟩,
  ⟨q4_209, .p (pMv t4_11), (some (p4_204, true)), 16383⟩,
  ⟨q4_210, .call (.cst (.f 190 [])) [t4_208, c1, t4_209], (some (p4_204, true)), 524287⟩,
  ⟨q4_211, .p (pMv t4_10), (some (p4_204, true)), 16383⟩,
  ⟨q4_212, .p (pGe t4_210 t4_211), (some (p4_204, true)), 2097151⟩,
  ⟨q4_213, .p (pPick t4_204 t4_212 (.cst (.b false))), none, 4194303⟩])
 (.cond t4_213
 (.seq (.reg [⟨q4_214, .p (pMv t4_0), none, 0⟩,
  ⟨q4_215, .p (pNilc t4_214), none, 1⟩,
  ⟨q4_216, .p (pFa 108 t4_215), none, 3⟩,
  ⟨none, .e (eSt 1 t4_216 (.cst (.b true))), none, 7⟩])
 (.seq (.reg [⟨q4_217, .p (pMv t4_0), none, 0⟩,
  ⟨q4_218, .call (.cst (.f 137 [])) [t4_217, c2], none, 1⟩,
  ⟨q4_219, .a (aBsl (zeros z191 1) 191 1 [(0, 35, t4_218)]), none, 3⟩,
  ⟨q4_2, .p (pMv t4_219), none, 7⟩,
  ⟨q4_3, .p (pMv (.cst (.b true))), none, 15⟩])
 .ret))
 .skip))
 (.seq (.seq (.reg [⟨q4_220, .p (pMv t4_0), none, 0⟩,
  ⟨q4_221, .p (pNilc t4_220), none, 1⟩,
  ⟨q4_222, .p (pFa 109 t4_221), none, 3⟩,
  ⟨q4_223, .r (rLd1 t4_222), none, 7⟩,
  ⟨q4_224, .p (pNot t4_223), none, 15⟩,
  ⟨q4_225, .p (pMv t4_224), none, 31⟩,
  ⟨q4_226, .p (pMv t4_0), (some (p4_225, true)), 63⟩,
  ⟨q4_227, .p (pNilc t4_226), (some (p4_225, true)), 127⟩,
  ⟨q4_228, .p (pFa 105 t4_227), (some (p4_225, true)), 255⟩,
  ⟨q4_229, .r (rLd1 t4_228), (some (p4_225, true)), 511⟩,
  ⟨q4_230, .p (pMv t4_11), (some (p4_225, true)), 63⟩,
  ⟨q4_231, .call (.cst (.f 190 [])) [t4_229, c2, t4_230], (some (p4_225, true)), 2047⟩,
  ⟨q4_232, .p (pMv t4_10), (some (p4_225, true)), 63⟩,
  ⟨q4_233, .p (pGe t4_231 t4_232), (some (p4_225, true)), 8191⟩,
  ⟨q4_234, .p (pPick t4_225 t4_233 (.cst (.b false))), none, 16383⟩])
 (.cond t4_234
 (.seq (.reg [⟨q4_235, .p (pMv t4_0), none, 0⟩,
  ⟨q4_236, .p (pNilc t4_235), none, 1⟩,
  ⟨q4_237, .p (pFa 109 t4_236), none, 3⟩,
  ⟨none, .e (eSt 1 t4_237 (.cst (.b true))), none, 7⟩])
 (.seq (.reg [⟨q4_238, .p (pMv t4_0), none, 0⟩,
  ⟨q4_239, .call (.cst (.f 137 [])) [t4_238, c3], none, 1⟩,
  ⟨q4_240, .a (aBsl (zeros z191 1) 191 1 [(0, 35, t4_239)]), none, 3⟩,
  ⟨q4_2, .p (pMv t4_240), none, 7⟩,
  ⟨q4_3, .p (pMv (.cst (.b true))), none, 15⟩])
 .ret))
 .skip))
 (.seq (.reg [⟨q4_2, .p (pMv (.cst .ns)), none, 0⟩,
  ⟨q4_3, .p (pMv (.cst (.b false))), none, 1⟩])
 .ret)))))))))))⟩
theorem f138_ok : cFunc Cx0 Tryz.f138 = some f138 := by kernel_rfl
noncomputable def f141 : SFn := ⟨2, 9, [p2_0], [(p2_2, none)],
 (.seq (.reg [⟨q2_2, .p (pMv (.cst .ns)), none, 0⟩])
 (.seq (.reg [⟨q2_4, .p (pMv t2_0), none, 0⟩,
  ⟨q2_5, .call (.cst (.f 191 [])) [t2_4], none, 1⟩,
  ⟨q2_3, .p (pMv t2_5), none, 3⟩])
 (.seq (.reg [⟨q2_6, .p (pMv t2_3), none, 0⟩,
  ⟨q2_7, .call (.cst (.f 192 [])) [t2_6], none, 1⟩])
 (.seq (.reg [⟨q2_8, .p (pMv t2_3), none, 0⟩,
  ⟨q2_2, .p (pMv t2_8), none, 1⟩])
 .ret))))⟩
theorem f141_ok : cFunc Cx0 Tryz.f141 = some f141 := by kernel_rfl
noncomputable def f142 : SFn := ⟨2, 4, [p2_0], [(p2_2, none)],
 (.seq (.reg [⟨q2_1, .a (aBox 179 t2_0), none, 0⟩,
  ⟨q2_2, .p (pMv (.cst .nf)), none, 0⟩])
 (.seq (.reg [⟨q2_3, .p (pMkf 193 [t2_1]), none, 0⟩,
  ⟨q2_2, .p (pMv t2_3), none, 1⟩])
 .ret))⟩
theorem f142_ok : cFunc Cx0 Tryz.f142 = some f142 := by kernel_rfl
noncomputable def f143 : SFn := ⟨2, 7, [p2_0], [(p2_2, none)],
 (.seq (.reg [⟨q2_2, .p (pMv (.cst .np)), none, 0⟩])
 (.seq (.reg [⟨q2_3, .call (.cst (.f 163 [])) [], none, 0⟩,
  ⟨q2_4, .p (pMv t2_0), none, 0⟩,
  ⟨q2_5, .a (aS2b 5 t2_4), none, 2⟩,
  ⟨q2_6, .call (.cst (.f 194 [])) [t2_3, t2_5], none, 7⟩,
  ⟨q2_2, .p (pMv t2_6), none, 15⟩])
 .ret))⟩
theorem f143_ok : cFunc Cx0 Tryz.f143 = some f143 := by kernel_rfl
noncomputable def f144 : SFn := ⟨2, 10, [p2_0, p2_1], [(p2_4, none)],
 (.seq (.reg [⟨q2_4, .p (pMv (.cst .np)), none, 0⟩])
 (.seq (.reg [⟨q2_5, .p (pMv t2_0), none, 0⟩,
  ⟨q2_6, .p (pMv t2_1), none, 0⟩,
  ⟨q2_7, .p (pMax [c0, t2_6]), none, 2⟩,
  ⟨q2_8, .p (pCvi .u64 t2_7), none, 6⟩,
  ⟨q2_9, .call (.cst (.f 195 [])) [t2_5, t2_8], none, 15⟩,
  ⟨q2_4, .p (pMv t2_9), none, 31⟩])
 .ret))⟩
theorem f144_ok : cFunc Cx0 Tryz.f144 = some f144 := by kernel_rfl
noncomputable def f145 : SFn := ⟨2, 8, [p2_0], [(p2_2, none)],
 (.seq (.reg [⟨q2_2, .p (pMv (.cst .ns)), none, 0⟩])
 (.seq (.reg [⟨q2_3, .p (pMv t2_0), none, 0⟩,
  ⟨q2_4, .p (pNilc t2_3), none, 1⟩,
  ⟨q2_5, .p (pFa 0 t2_4), none, 3⟩,
  ⟨q2_6, .r (rLd1 t2_5), none, 7⟩,
  ⟨q2_7, .e (eApp 5 1 1 (.cst .ns) t2_6), none, 15⟩,
  ⟨q2_2, .p (pMv t2_7), none, 31⟩])
 .ret))⟩
theorem f145_ok : cFunc Cx0 Tryz.f145 = some f145 := by kernel_rfl
noncomputable def f147 : SFn := ⟨3, 28, [p3_0, p3_1, p3_2], [(p3_6, none)],
 (.seq (.reg [⟨q3_3, .a (aBox 24 t3_0), none, 0⟩,
  ⟨q3_5, .a (aBox 39 t3_2), none, 0⟩,
  ⟨q3_6, .p (pMv (.cst (.b false))), none, 0⟩])
 (.seq (.dreg [⟨q3_7, .r (rLdn 2 t3_3), none, 0⟩,
  ⟨q3_8, .r (rLdn 37 t3_5), none, 0⟩,
  ⟨q3_9, .call (.cst (.f 196 [])) [t3_7, t3_8], none, 3⟩,
  ⟨q3_10, .p (pMv t3_9), none, 7⟩,
  ⟨q3_11, .p (pFa 35 t3_5), (some (p3_10, true)), 15⟩,
  ⟨q3_12, .p (pFa 0 t3_11), (some (p3_10, true)), 31⟩,
  ⟨q3_13, .r (rLd1 t3_12), (some (p3_10, true)), 63⟩,
  ⟨q3_14, .p (pFa 0 t3_5), (some (p3_10, true)), 15⟩,
  ⟨q3_15, .p (pFa 0 t3_14), (some (p3_10, true)), 143⟩,
  ⟨q3_16, .r (rLd1 t3_15), (some (p3_10, true)), 399⟩,
  ⟨q3_17, .call (.cst (.f 197 [])) [t3_16], (some (p3_10, true)), 911⟩,
  ⟨q3_18, .p (pEq k3 t3_13 t3_17), (some (p3_10, true)), 2047⟩,
  ⟨q3_19, .p (pPick t3_10 t3_18 (.cst (.b false))), none, 4095⟩,
  ⟨q3_20, .p (pMv t3_19), none, 8191⟩,
  ⟨q3_21, .p (pMv t3_1), (some (p3_20, true)), 16383⟩,
  ⟨q3_22, .p (pFa 35 t3_5), (some (p3_20, true)), 16383⟩,
  ⟨q3_23, .r (rLdn 2 t3_22), (some (p3_20, true)), 49151⟩,
  ⟨q3_24, .r (rLdn 37 t3_5), (some (p3_20, true)), 16383⟩,
  ⟨q3_25, .call (.cst (.f 198 [])) [t3_24], (some (p3_20, true)), 147455⟩,
  ⟨q3_26, .call (.cst (.f 108 [])) [t3_21, t3_23, t3_25], (some (p3_20, true)), 524287⟩,
  ⟨q3_27, .p (pPick t3_20 t3_26 (.cst (.b false))), none, 1048575⟩,
  ⟨q3_6, .p (pMv t3_27), none, 2097151⟩])
 .ret))⟩
theorem f147_ok : cFunc Cx0 Tryz.f147 = some f147 := by kernel_rfl
noncomputable def f148 : SFn := ⟨3, 20, [p3_0], [(p3_2, none)],
 (.seq (.reg [⟨q3_1, .a (aBox 41 t3_0), none, 0⟩,
  ⟨q3_2, .p (pMv (.cst .ns)), none, 0⟩])
 (.seq (.dreg [⟨q3_4, .call (.cst (.f 143 [])) [(.cst (.s [.lit (.ofNat 115), .lit (.ofNat 116), .lit (.ofNat 97), .lit (.ofNat 109), .lit (.ofNat 112)]))], none, 0⟩,
  ⟨q3_5, .p (pFa 0 t3_1), none, 0⟩,
  ⟨q3_6, .r (rLd1 t3_5), none, 2⟩,
  ⟨q3_7, .call (.cst (.f 144 [])) [t3_4, t3_6], none, 7⟩,
  ⟨q3_3, .p (pMv t3_7), none, 15⟩])
 (.seq (.reg [⟨q3_8, .p (pMv t3_3), none, 0⟩,
  ⟨q3_9, .p (pFa 1 t3_1), none, 0⟩,
  ⟨q3_10, .r (rLdn 2 t3_9), none, 2⟩,
  ⟨q3_11, .call (.cst (.f 199 [])) [t3_8, t3_10], none, 7⟩])
 (.seq (.dreg [⟨q3_12, .p (pMv t3_3), none, 0⟩,
  ⟨q3_13, .p (pFa 3 t3_1), none, 0⟩,
  ⟨q3_14, .r (rLdn 32 t3_13), none, 2⟩,
  ⟨q3_15, .call (.cst (.f 162 [])) [t3_12, t3_14], none, 7⟩,
  ⟨q3_16, .p (pFa 35 t3_1), none, 0⟩,
  ⟨q3_17, .r (rLd1 t3_16), none, 16⟩,
  ⟨q3_18, .call (.cst (.f 195 [])) [t3_15, t3_17], none, 63⟩,
  ⟨q3_19, .call (.cst (.f 145 [])) [t3_18], none, 127⟩,
  ⟨q3_2, .p (pMv t3_19), none, 255⟩])
 .ret))))⟩
theorem f148_ok : cFunc Cx0 Tryz.f148 = some f148 := by kernel_rfl
noncomputable def f153 : SFn := ⟨4, 74, [p4_0, p4_1, p4_2, p4_3, p4_4], [(p4_10, some 6), (p4_11, none)],
 (.seq (.reg [⟨q4_10, .a (aAlloc z49 49), none, 0⟩,
  ⟨q4_11, .p (pMv c0), none, 0⟩])
 (.seq (.block 0 (.seq (.reg [⟨q4_17, .p (pMv t4_2), none, 0⟩,
  ⟨q4_18, .p (pLt t4_17 c0), none, 1⟩,
  ⟨q4_19, .p (pMv t4_18), none, 3⟩,
  ⟨q4_20, .p (pMv t4_2), (some (p4_19, false)), 7⟩,
  ⟨q4_21, .p (pGt t4_20 (.cst (.i .i64 (.lit (.ofNat 1048576))))), (some (p4_19, false)), 15⟩,
  ⟨q4_22, .p (pPick t4_19 (.cst (.b true)) t4_21), none, 31⟩,
  ⟨q4_16, .p (pMv t4_22), none, 63⟩])
 (.cond t4_16
 (.seq (.reg [⟨q4_23, .p (pBld z49 []), none, 0⟩,
  ⟨none, .e (eSt 6 t4_10 t4_23), none, 1⟩,
  ⟨q4_11, .p (pMv c1), none, 3⟩])
 .ret)
 (.seq (.reg [⟨q4_25, .p (pMv t4_4), none, 0⟩,
  ⟨q4_26, .p (pMv t4_3), none, 0⟩,
  ⟨q4_27, .p (pLe t4_25 t4_26), none, 3⟩,
  ⟨q4_28, .p (pMv t4_27), none, 7⟩,
  ⟨q4_29, .p (pMv t4_4), (some (p4_28, false)), 15⟩,
  ⟨q4_30, .p (pEq k22 t4_29 (.cst (.i .u64 (.lit (.ofNat 18446744073709551615))))), (some (p4_28, false)), 31⟩,
  ⟨q4_31, .p (pPick t4_28 (.cst (.b true)) t4_30), none, 63⟩,
  ⟨q4_24, .p (pMv t4_31), none, 127⟩])
 (.cond t4_24
 (.seq (.reg [⟨q4_32, .p (pBld z49 []), none, 0⟩,
  ⟨none, .e (eSt 6 t4_10 t4_32), none, 1⟩,
  ⟨q4_11, .p (pMv c4), none, 3⟩])
 .ret)
 .skip)))))
 (.seq (.reg [⟨q4_33, .p (pMv t4_0), none, 0⟩,
  ⟨q4_34, .p (pNilc t4_33), none, 1⟩,
  ⟨q4_35, .p (pFa 2 t4_34), none, 3⟩,
  ⟨q4_36, .r (rLd1 t4_35), none, 7⟩,
  ⟨q4_37, .p (pMv t4_2), none, 0⟩,
  ⟨q4_38, .p (pMv t4_4), none, 0⟩,
  ⟨q4_39, .p (pBld z49 [(0, 1, t4_36), (1, 1, t4_37), (2, 1, t4_38)]), none, 63⟩,
  ⟨q4_12, .a (aAlloc z49 49), none, 0⟩,
  ⟨none, .e (eSt 6 t4_12 t4_39), none, 255⟩])
 (.seq (.seq (.reg [⟨q4_40, .p (pMv t4_0), none, 0⟩,
  ⟨q4_41, .call (.cst (.f 172 [])) [t4_40], none, 1⟩,
  ⟨q4_42, .p (pLen t4_41), none, 3⟩,
  ⟨q4_43, .p (pMv c0), none, 0⟩])
 (.block 1 (.loop (.seq (.reg [⟨q4_44, .p (pLt t4_43 t4_42), none, 0⟩])
 (.seq (.cond t4_44
 .skip
 (.exit 1))
 (.seq (.block 2 (.seq (.reg [⟨q4_45, .p (pIxL 38 t4_41 t4_43), none, 0⟩,
  ⟨q4_46, .r (rLdn 38 t4_45), none, 1⟩,
  ⟨q4_14, .a (aAlloc z44 44), none, 0⟩,
  ⟨none, .e (eSt 38 t4_14 t4_46), none, 7⟩])
 (.seq (.reg [⟨q4_47, .r (rLdn 38 t4_14), none, 0⟩,
  ⟨q4_48, .call (.cst (.f 150 [])) [t4_47], none, 1⟩,
  ⟨q4_15, .p (pMv t4_48), none, 3⟩])
 (.seq (.reg [⟨q4_49, .p (pMv t4_15), none, 0⟩,
  ⟨q4_50, .p (pMv t4_3), none, 0⟩,
  ⟨q4_51, .p (pGt t4_49 t4_50), none, 3⟩,
  ⟨q4_52, .p (pMv t4_51), none, 7⟩,
  ⟨q4_53, .p (pMv t4_15), (some (p4_52, true)), 15⟩,
  ⟨q4_54, .p (pMv t4_4), (some (p4_52, true)), 15⟩,
  ⟨q4_55, .p (pLe t4_53 t4_54), (some (p4_52, true)), 63⟩,
  ⟨q4_56, .p (pPick t4_52 t4_55 (.cst (.b false))), none, 127⟩])
 (.cond t4_56
 (.reg [⟨q4_57, .p (pFa 3 t4_12), none, 0⟩,
  ⟨q4_58, .r (rLd1 t4_57), none, 1⟩,
  ⟨q4_59, .r (rLdn 38 t4_14), none, 0⟩,
  ⟨q4_60, .a (aBsl (zeros z44 1) 44 1 [(0, 38, t4_59)]), none, 4⟩,
  ⟨q4_61, .e (eApp 44 38 96 t4_58 t4_60), none, 15⟩,
  ⟨q4_62, .p (pFa 3 t4_12), none, 31⟩,
  ⟨none, .e (eSt 1 t4_62 t4_61), none, 63⟩])
 .skip)))))
 (.reg [⟨q4_63, .p (pAdd t4_43 c1), none, 0⟩,
  ⟨q4_43, .p (pMv t4_63), none, 1⟩])))))))
 (.seq (.dreg [⟨q4_64, .p (pMv t4_1), none, 0⟩,
  ⟨q4_65, .p (pMv t4_0), none, 0⟩,
  ⟨q4_66, .p (pNilc t4_65), none, 2⟩,
  ⟨q4_67, .p (pFa 2 t4_66), none, 6⟩,
  ⟨q4_68, .r (rLd1 t4_67), none, 14⟩,
  ⟨q4_69, .r (rLdn 6 t4_12), none, 0⟩,
  ⟨q4_70, .call (.cst (.f 156 [])) [t4_69], none, 32⟩,
  ⟨q4_71, .call (.cst (.f 12 [])) [t4_64, t4_68, t4_70], none, 127⟩,
  ⟨q4_72, .p (pFa 4 t4_12), none, 255⟩,
  ⟨none, .e (eSt 2 t4_72 t4_71), none, 511⟩])
 (.seq (.reg [⟨q4_73, .r (rLdn 6 t4_12), none, 0⟩,
  ⟨none, .e (eSt 6 t4_10 t4_73), none, 1⟩,
  ⟨q4_11, .p (pMv c0), none, 3⟩])
 .ret))))))⟩
theorem f153_ok : cFunc Cx0 Tryz.f153 = some f153 := by kernel_rfl
noncomputable def f154 : SFn := ⟨2, 16, [p2_0, p2_1], [(p2_4, none)],
 (.seq (.reg [⟨q2_4, .p (pMv c0), none, 0⟩])
 (.seq (.seq (.reg [⟨q2_5, .p (pMv t2_1), none, 0⟩,
  ⟨q2_6, .p (pEq k22 t2_5 (.cst (.i .u64 (.lit (.ofNat 18446744073709551615))))), none, 1⟩])
 (.cond t2_6
 (.seq (.reg [⟨q2_4, .p (pMv c4), none, 0⟩])
 .ret)
 .skip))
 (.seq (.reg [⟨q2_7, .p (pMv t2_0), none, 0⟩,
  ⟨q2_8, .p (pMv t2_0), none, 0⟩,
  ⟨q2_9, .p (pNilc t2_8), none, 2⟩,
  ⟨q2_10, .p (pFa 4 t2_9), none, 6⟩,
  ⟨q2_11, .r (rLd1 t2_10), none, 14⟩,
  ⟨q2_12, .p (pMv t2_1), none, 0⟩,
  ⟨q2_13, .p (pMax [t2_11, t2_12]), none, 62⟩,
  ⟨q2_14, .p (pNilc t2_7), none, 127⟩,
  ⟨q2_15, .p (pFa 4 t2_14), none, 255⟩,
  ⟨none, .e (eSt 1 t2_15 t2_13), none, 511⟩])
 (.seq (.reg [⟨q2_4, .p (pMv c0), none, 0⟩])
 .ret))))⟩
theorem f154_ok : cFunc Cx0 Tryz.f154 = some f154 := by kernel_rfl
noncomputable def f156 : SFn := ⟨3, 20, [p3_0], [(p3_2, none)],
 (.seq (.reg [⟨q3_1, .a (aBox 49 t3_0), none, 0⟩,
  ⟨q3_2, .p (pMv (.cst .ns)), none, 0⟩])
 (.seq (.dreg [⟨q3_4, .call (.cst (.f 143 [])) [(.cst (.s [.lit (.ofNat 112), .lit (.ofNat 114), .lit (.ofNat 111), .lit (.ofNat 109), .lit (.ofNat 105), .lit (.ofNat 115), .lit (.ofNat 101)]))], none, 0⟩,
  ⟨q3_5, .p (pFa 0 t3_1), none, 0⟩,
  ⟨q3_6, .r (rLd1 t3_5), none, 2⟩,
  ⟨q3_7, .call (.cst (.f 144 [])) [t3_4, t3_6], none, 7⟩,
  ⟨q3_8, .p (pFa 1 t3_1), none, 0⟩,
  ⟨q3_9, .r (rLd1 t3_8), none, 16⟩,
  ⟨q3_10, .call (.cst (.f 144 [])) [t3_7, t3_9], none, 63⟩,
  ⟨q3_11, .p (pFa 2 t3_1), none, 0⟩,
  ⟨q3_12, .r (rLd1 t3_11), none, 128⟩,
  ⟨q3_13, .call (.cst (.f 195 [])) [t3_10, t3_12], none, 511⟩,
  ⟨q3_3, .p (pMv t3_13), none, 1023⟩])
 (.seq (.reg [⟨q3_14, .p (pMv t3_3), none, 0⟩,
  ⟨q3_15, .p (pFa 3 t3_1), none, 0⟩,
  ⟨q3_16, .r (rLd1 t3_15), none, 2⟩,
  ⟨q3_17, .call (.cst (.f 206 [])) [t3_14, t3_16, (.cst (.f 207 []))], none, 7⟩])
 (.seq (.reg [⟨q3_18, .p (pMv t3_3), none, 0⟩,
  ⟨q3_19, .call (.cst (.f 145 [])) [t3_18], none, 1⟩,
  ⟨q3_2, .p (pMv t3_19), none, 3⟩])
 .ret))))⟩
theorem f156_ok : cFunc Cx0 Tryz.f156 = some f156 := by kernel_rfl
noncomputable def f158 : SFn := ⟨2, 9, [p2_0, p2_1], [(p2_4, none)],
 (.seq (.reg [⟨q2_4, .p (pMv (.cst (.b false))), none, 0⟩])
 (.seq (.reg [⟨q2_5, .p (pMv t2_0), none, 0⟩,
  ⟨q2_6, .p (pMv t2_1), none, 0⟩,
  ⟨q2_7, .call (.cst (.f 208 [])) [t2_5, t2_6], none, 3⟩,
  ⟨q2_8, .p (pGe t2_7 c0), none, 7⟩,
  ⟨q2_4, .p (pMv t2_8), none, 15⟩])
 .ret))⟩
theorem f158_ok : cFunc Cx0 Tryz.f158 = some f158 := by kernel_rfl
noncomputable def f162 : SFn := ⟨2, 15, [p2_0, p2_1], [(p2_4, none)],
 (.seq (.reg [⟨q2_3, .a (aBox 35 t2_1), none, 0⟩,
  ⟨q2_4, .p (pMv (.cst .np)), none, 0⟩])
 (.seq (.dreg [⟨q2_5, .p (pMv t2_0), none, 0⟩,
  ⟨q2_6, .p (pMv t2_0), none, 0⟩,
  ⟨q2_7, .p (pNilc t2_6), none, 2⟩,
  ⟨q2_8, .p (pFa 0 t2_7), none, 6⟩,
  ⟨q2_9, .r (rLd1 t2_8), none, 14⟩,
  ⟨q2_10, .p (pSlA 32 1 t2_3 none none none), none, 0⟩,
  ⟨q2_11, .e (eApp 5 1 1 t2_9 t2_10), none, 62⟩,
  ⟨q2_12, .p (pNilc t2_5), none, 127⟩,
  ⟨q2_13, .p (pFa 0 t2_12), none, 255⟩,
  ⟨none, .e (eSt 1 t2_13 t2_11), none, 511⟩])
 (.seq (.reg [⟨q2_14, .p (pMv t2_0), none, 0⟩,
  ⟨q2_4, .p (pMv t2_14), none, 1⟩])
 .ret)))⟩
theorem f162_ok : cFunc Cx0 Tryz.f162 = some f162 := by kernel_rfl
noncomputable def f163 : SFn := ⟨2, 3, [], [(p2_0, none)],
 (.seq (.reg [⟨q2_0, .p (pMv (.cst .np)), none, 0⟩])
 (.seq (.reg [⟨q2_1, .p (pBld z348 []), none, 0⟩,
  ⟨q2_2, .a (aBox 348 t2_1), none, 1⟩,
  ⟨q2_0, .p (pMv t2_2), none, 3⟩])
 .ret))⟩
theorem f163_ok : cFunc Cx0 Tryz.f163 = some f163 := by kernel_rfl
noncomputable def f172 : SFn := ⟨3, 29, [p3_0], [(p3_2, none)],
 (.seq (.reg [⟨q3_2, .p (pMv (.cst .ns)), none, 0⟩])
 (.seq (.reg [⟨q3_3, .p (pMv (.cst .ns)), none, 0⟩])
 (.seq (.seq (.reg [⟨q3_6, .p (pMv t3_0), none, 0⟩,
  ⟨q3_7, .p (pNilc t3_6), none, 1⟩,
  ⟨q3_8, .p (pFa 3 t3_7), none, 3⟩,
  ⟨q3_9, .r (rLd1 t3_8), none, 7⟩,
  ⟨q3_10, .call (.cst (.f 232 [])) [t3_9], none, 15⟩,
  ⟨q3_11, .call (.cst (.f 231 [])) [t3_10, (.cst (.f 155 []))], none, 31⟩,
  ⟨q3_12, .p (pLen t3_11), none, 63⟩,
  ⟨q3_13, .p (pMv c0), none, 0⟩])
 (.block 0 (.loop (.seq (.reg [⟨q3_14, .p (pLt t3_13 t3_12), none, 0⟩])
 (.seq (.cond t3_14
 .skip
 (.exit 0))
 (.seq (.block 1 (.seq (.reg [⟨q3_15, .p (pIxL 2 t3_11 t3_13), none, 0⟩,
  ⟨q3_16, .r (rLdn 2 t3_15), none, 1⟩,
  ⟨q3_5, .a (aAlloc z33 33), none, 0⟩,
  ⟨none, .e (eSt 2 t3_5 t3_16), none, 7⟩])
 (.dreg [⟨q3_17, .p (pMv t3_3), none, 0⟩,
  ⟨q3_18, .p (pMv t3_0), none, 0⟩,
  ⟨q3_19, .p (pNilc t3_18), none, 2⟩,
  ⟨q3_20, .p (pFa 3 t3_19), none, 6⟩,
  ⟨q3_21, .r (rLd1 t3_20), none, 14⟩,
  ⟨q3_22, .r (rLdn 2 t3_5), none, 0⟩,
  ⟨q3_23, .r (rLk k33 (.ag z44) t3_21 t3_22 false), none, 62⟩,
  ⟨q3_24, .call (.cst (.f 152 [])) [t3_23], none, 126⟩,
  ⟨q3_25, .a (aBsl (zeros z44 1) 44 1 [(0, 38, t3_24)]), none, 254⟩,
  ⟨q3_26, .e (eApp 44 38 96 t3_17 t3_25), none, 511⟩,
  ⟨q3_3, .p (pMv t3_26), none, 1023⟩])))
 (.reg [⟨q3_27, .p (pAdd t3_13 c1), none, 0⟩,
  ⟨q3_13, .p (pMv t3_27), none, 1⟩])))))))
 (.seq (.reg [⟨q3_28, .p (pMv t3_3), none, 0⟩,
  ⟨q3_2, .p (pMv t3_28), none, 1⟩])
 .ret))))⟩
theorem f172_ok : cFunc Cx0 Tryz.f172 = some f172 := by kernel_rfl
noncomputable def f178 : SFn := ⟨3, 22, [p3_0, p3_1], [(p3_4, none)],
 (.seq (.reg [⟨q3_4, .p (pMv (.cst .ns)), none, 0⟩])
 (.seq (.reg [⟨q3_5, .p (pMv (.cst .ns)), none, 0⟩])
 (.seq (.seq (.reg [⟨q3_8, .p (pMv t3_0), none, 0⟩,
  ⟨q3_9, .p (pLen t3_8), none, 1⟩,
  ⟨q3_10, .p (pMv c0), none, 0⟩])
 (.block 0 (.loop (.seq (.reg [⟨q3_11, .p (pLt t3_10 t3_9), none, 0⟩])
 (.seq (.cond t3_11
 .skip
 (.exit 0))
 (.seq (.block 1 (.seq (.reg [⟨q3_12, .p (pIxL 38 t3_8 t3_10), none, 0⟩,
  ⟨q3_13, .r (rLdn 38 t3_12), none, 1⟩,
  ⟨q3_7, .a (aAlloc z41 41), none, 0⟩,
  ⟨none, .e (eSt 38 t3_7 t3_13), none, 7⟩])
 (.reg [⟨q3_14, .p (pMv t3_5), none, 0⟩,
  ⟨q3_15, .p (pMv t3_1), none, 0⟩,
  ⟨q3_16, .r (rLdn 38 t3_7), none, 0⟩,
  ⟨q3_17, .call t3_15 [t3_16], none, 6⟩,
  ⟨q3_18, .a (aBsl (zeros z41 1) 41 1 [(0, 38, t3_17)]), none, 14⟩,
  ⟨q3_19, .e (eApp 41 38 80 t3_14 t3_18), none, 31⟩,
  ⟨q3_5, .p (pMv t3_19), none, 63⟩])))
 (.reg [⟨q3_20, .p (pAdd t3_10 c1), none, 0⟩,
  ⟨q3_10, .p (pMv t3_20), none, 1⟩])))))))
 (.seq (.reg [⟨q3_21, .p (pMv t3_5), none, 0⟩,
  ⟨q3_4, .p (pMv t3_21), none, 1⟩])
 .ret))))⟩
theorem f178_ok : cFunc Cx0 Tryz.f178 = some f178 := by kernel_rfl
noncomputable def f180 : SFn := ⟨3, 22, [p3_0, p3_1], [(p3_4, none)],
 (.seq (.reg [⟨q3_4, .p (pMv (.cst .ns)), none, 0⟩])
 (.seq (.reg [⟨q3_5, .p (pMv (.cst .ns)), none, 0⟩])
 (.seq (.seq (.reg [⟨q3_8, .p (pMv t3_0), none, 0⟩,
  ⟨q3_9, .p (pLen t3_8), none, 1⟩,
  ⟨q3_10, .p (pMv c0), none, 0⟩])
 (.block 0 (.loop (.seq (.reg [⟨q3_11, .p (pLt t3_10 t3_9), none, 0⟩])
 (.seq (.cond t3_11
 .skip
 (.exit 0))
 (.seq (.block 1 (.seq (.reg [⟨q3_12, .p (pIxL 38 t3_8 t3_10), none, 0⟩,
  ⟨q3_13, .r (rLdn 38 t3_12), none, 1⟩,
  ⟨q3_7, .a (aAlloc z44 44), none, 0⟩,
  ⟨none, .e (eSt 38 t3_7 t3_13), none, 7⟩])
 (.reg [⟨q3_14, .p (pMv t3_5), none, 0⟩,
  ⟨q3_15, .p (pMv t3_1), none, 0⟩,
  ⟨q3_16, .r (rLdn 38 t3_7), none, 0⟩,
  ⟨q3_17, .call t3_15 [t3_16], none, 6⟩,
  ⟨q3_18, .a (aBsl (zeros z44 1) 44 1 [(0, 38, t3_17)]), none, 14⟩,
  ⟨q3_19, .e (eApp 44 38 96 t3_14 t3_18), none, 31⟩,
  ⟨q3_5, .p (pMv t3_19), none, 63⟩])))
 (.reg [⟨q3_20, .p (pAdd t3_10 c1), none, 0⟩,
  ⟨q3_10, .p (pMv t3_20), none, 1⟩])))))))
 (.seq (.reg [⟨q3_21, .p (pMv t3_5), none, 0⟩,
  ⟨q3_4, .p (pMv t3_21), none, 1⟩])
 .ret))))⟩
theorem f180_ok : cFunc Cx0 Tryz.f180 = some f180 := by kernel_rfl
noncomputable def f181 : SFn := ⟨3, 22, [p3_0, p3_1], [(p3_4, none)],
 (.seq (.reg [⟨q3_4, .p (pMv (.cst .ns)), none, 0⟩])
 (.seq (.reg [⟨q3_5, .p (pMv (.cst .ns)), none, 0⟩])
 (.seq (.seq (.reg [⟨q3_8, .p (pMv t3_0), none, 0⟩,
  ⟨q3_9, .p (pLen t3_8), none, 1⟩,
  ⟨q3_10, .p (pMv c0), none, 0⟩])
 (.block 0 (.loop (.seq (.reg [⟨q3_11, .p (pLt t3_10 t3_9), none, 0⟩])
 (.seq (.cond t3_11
 .skip
 (.exit 0))
 (.seq (.block 1 (.seq (.reg [⟨q3_12, .p (pIxL 6 t3_8 t3_10), none, 0⟩,
  ⟨q3_13, .r (rLdn 6 t3_12), none, 1⟩,
  ⟨q3_7, .a (aAlloc z49 49), none, 0⟩,
  ⟨none, .e (eSt 6 t3_7 t3_13), none, 7⟩])
 (.reg [⟨q3_14, .p (pMv t3_5), none, 0⟩,
  ⟨q3_15, .p (pMv t3_1), none, 0⟩,
  ⟨q3_16, .r (rLdn 6 t3_7), none, 0⟩,
  ⟨q3_17, .call t3_15 [t3_16], none, 6⟩,
  ⟨q3_18, .a (aBsl (zeros z49 1) 49 1 [(0, 6, t3_17)]), none, 14⟩,
  ⟨q3_19, .e (eApp 49 6 64 t3_14 t3_18), none, 31⟩,
  ⟨q3_5, .p (pMv t3_19), none, 63⟩])))
 (.reg [⟨q3_20, .p (pAdd t3_10 c1), none, 0⟩,
  ⟨q3_10, .p (pMv t3_20), none, 1⟩])))))))
 (.seq (.reg [⟨q3_21, .p (pMv t3_5), none, 0⟩,
  ⟨q3_4, .p (pMv t3_21), none, 1⟩])
 .ret))))⟩
theorem f181_ok : cFunc Cx0 Tryz.f181 = some f181 := by kernel_rfl
noncomputable def f182 : SFn := ⟨3, 22, [p3_0, p3_1], [(p3_4, none)],
 (.seq (.reg [⟨q3_4, .p (pMv (.cst .ns)), none, 0⟩])
 (.seq (.reg [⟨q3_5, .p (pMv (.cst .ns)), none, 0⟩])
 (.seq (.seq (.reg [⟨q3_8, .p (pMv t3_0), none, 0⟩,
  ⟨q3_9, .p (pLen t3_8), none, 1⟩,
  ⟨q3_10, .p (pMv c0), none, 0⟩])
 (.block 0 (.loop (.seq (.reg [⟨q3_11, .p (pLt t3_10 t3_9), none, 0⟩])
 (.seq (.cond t3_11
 .skip
 (.exit 0))
 (.seq (.block 1 (.seq (.reg [⟨q3_12, .p (pIxL 34 t3_8 t3_10), none, 0⟩,
  ⟨q3_13, .r (rLdn 34 t3_12), none, 1⟩,
  ⟨q3_7, .a (aAlloc z63 63), none, 0⟩,
  ⟨none, .e (eSt 34 t3_7 t3_13), none, 7⟩])
 (.reg [⟨q3_14, .p (pMv t3_5), none, 0⟩,
  ⟨q3_15, .p (pMv t3_1), none, 0⟩,
  ⟨q3_16, .r (rLdn 34 t3_7), none, 0⟩,
  ⟨q3_17, .call t3_15 [t3_16], none, 6⟩,
  ⟨q3_18, .a (aBsl (zeros z63 1) 63 1 [(0, 34, t3_17)]), none, 14⟩,
  ⟨q3_19, .e (eApp 63 34 64 t3_14 t3_18), none, 31⟩,
  ⟨q3_5, .p (pMv t3_19), none, 63⟩])))
 (.reg [⟨q3_20, .p (pAdd t3_10 c1), none, 0⟩,
  ⟨q3_10, .p (pMv t3_20), none, 1⟩])))))))
 (.seq (.reg [⟨q3_21, .p (pMv t3_5), none, 0⟩,
  ⟨q3_4, .p (pMv t3_21), none, 1⟩])
 .ret))))⟩
theorem f182_ok : cFunc Cx0 Tryz.f182 = some f182 := by kernel_rfl
noncomputable def f183 : SFn := ⟨3, 22, [p3_0, p3_1], [(p3_4, none)],
 (.seq (.reg [⟨q3_4, .p (pMv (.cst .ns)), none, 0⟩])
 (.seq (.reg [⟨q3_5, .p (pMv (.cst .ns)), none, 0⟩])
 (.seq (.seq (.reg [⟨q3_8, .p (pMv t3_0), none, 0⟩,
  ⟨q3_9, .p (pLen t3_8), none, 1⟩,
  ⟨q3_10, .p (pMv c0), none, 0⟩])
 (.block 0 (.loop (.seq (.reg [⟨q3_11, .p (pLt t3_10 t3_9), none, 0⟩])
 (.seq (.cond t3_11
 .skip
 (.exit 0))
 (.seq (.block 1 (.seq (.reg [⟨q3_12, .p (pIxL 2 t3_8 t3_10), none, 0⟩,
  ⟨q3_13, .r (rLdn 2 t3_12), none, 1⟩,
  ⟨q3_7, .a (aAlloc z311 311), none, 0⟩,
  ⟨none, .e (eSt 2 t3_7 t3_13), none, 7⟩])
 (.reg [⟨q3_14, .p (pMv t3_5), none, 0⟩,
  ⟨q3_15, .p (pMv t3_1), none, 0⟩,
  ⟨q3_16, .r (rLdn 2 t3_7), none, 0⟩,
  ⟨q3_17, .call t3_15 [t3_16], none, 6⟩,
  ⟨q3_18, .a (aBsl (zeros z311 1) 311 1 [(0, 2, t3_17)]), none, 14⟩,
  ⟨q3_19, .e (eApp 311 2 32 t3_14 t3_18), none, 31⟩,
  ⟨q3_5, .p (pMv t3_19), none, 63⟩])))
 (.reg [⟨q3_20, .p (pAdd t3_10 c1), none, 0⟩,
  ⟨q3_10, .p (pMv t3_20), none, 1⟩])))))))
 (.seq (.reg [⟨q3_21, .p (pMv t3_5), none, 0⟩,
  ⟨q3_4, .p (pMv t3_21), none, 1⟩])
 .ret))))⟩
theorem f183_ok : cFunc Cx0 Tryz.f183 = some f183 := by kernel_rfl
noncomputable def f186 : SFn := ⟨3, 45, [p3_0], [(p3_2, none)],
 (.seq (.reg [⟨q3_2, .p (pMv c0), none, 0⟩])
 (.seq (.reg [⟨q3_3, .p (pMv (.cst (.i .i64 (.lit (.negSucc 0))))), none, 0⟩])
 (.seq (.seq (.reg [⟨q3_6, .p (pMv t3_0), none, 0⟩,
  ⟨q3_7, .p (pNilc t3_6), none, 1⟩,
  ⟨q3_8, .p (pFa 106 t3_7), none, 3⟩,
  ⟨q3_9, .r (rLd1 t3_8), none, 7⟩,
  ⟨q3_10, .e (eRng t3_9), none, 15⟩])
 (.block 0 (.loop (.seq (.reg [⟨q3_11, .nx t3_10, none, 0⟩,
  ⟨q3_12, .p (pExt t3_11 0), none, 1⟩])
 (.seq (.cond t3_12
 .skip
 (.exit 0))
 (.block 1 (.seq (.reg [⟨q3_13, .r (rEnt t3_10), none, 0⟩,
  ⟨q3_14, .p (pExt t3_13 0), none, 1⟩,
  ⟨q3_15, .p (pExt t3_13 1), none, 1⟩,
  ⟨q3_5, .a (aAlloc z306 306), none, 0⟩,
  ⟨q3_4, .p (pMv t3_14), none, 11⟩,
  ⟨none, .e (eSt 34 t3_5 t3_15), none, 31⟩])
 (.seq (.dreg [⟨q3_16, .p (pFa 33 t3_5), none, 0⟩,
  ⟨q3_17, .r (rLd1 t3_16), none, 1⟩,
  ⟨q3_18, .p (pMv t3_17), none, 3⟩,
  ⟨q3_19, .p (pMv t3_3), (some (p3_18, true)), 7⟩,
  ⟨q3_20, .p (pLt t3_19 c0), (some (p3_18, true)), 15⟩,
  ⟨q3_21, .p (pMv t3_20), (some (p3_18, true)), 31⟩,
  ⟨q3_22, .p (pMv t3_4), (some (p3_21, false)), 63⟩,
  ⟨q3_23, .p (pMv t3_3), (some (p3_21, false)), 63⟩,
  ⟨q3_24, .p (pLt t3_22 t3_23), (some (p3_21, false)), 255⟩,
  ⟨q3_25, .p (pPick t3_21 (.cst (.b true)) t3_24), (some (p3_18, true)), 511⟩,
  ⟨q3_26, .p (pPick t3_18 t3_25 (.cst (.b false))), none, 1023⟩,
  ⟨q3_27, .p (pMv t3_26), none, 2047⟩,
  ⟨q3_28, .p (pMv t3_0), (some (p3_27, true)), 4095⟩,
  ⟨q3_29, .p (pNilc t3_28), (some (p3_27, true)), 8191⟩,
  ⟨q3_30, .p (pFa 105 t3_29), (some (p3_27, true)), 16383⟩,
  ⟨q3_31, .r (rLd1 t3_30), (some (p3_27, true)), 32767⟩,
  ⟨q3_32, .p (pMv t3_4), (some (p3_27, true)), 4095⟩,
  ⟨q3_33, .p (pFa 1 t3_5), (some (p3_27, true)), 4095⟩,
  ⟨q3_34, .r (rLdn 32 t3_33), (some (p3_27, true)), 135167⟩,
  ⟨q3_35, .call (.cst (.f 189 [])) [t3_31, c2, t3_32, t3_34], (some (p3_27, true)), 524287⟩,
  ⟨q3_36, .p (pMv t3_0), (some (p3_27, true)), 4095⟩,
  ⟨q3_37, .p (pNilc t3_36), (some (p3_27, true)), 1052671⟩,
  ⟨q3_38, .p (pFa 0 t3_37), (some (p3_27, true)), 3149823⟩,
  ⟨q3_39, .r (rLdn 2 t3_38), (some (p3_27, true)), 7344127⟩,
  ⟨q3_40, .call (.cst (.f 117 [])) [t3_39], (some (p3_27, true)), 16777215⟩,
  ⟨q3_41, .p (pGe t3_35 t3_40), (some (p3_27, true)), 33554431⟩,
  ⟨q3_42, .p (pPick t3_27 t3_41 (.cst (.b false))), none, 67108863⟩])
 (.cond t3_42
 (.reg [⟨q3_43, .p (pMv t3_4), none, 0⟩,
  ⟨q3_3, .p (pMv t3_43), none, 1⟩])
 .skip)))))))))
 (.seq (.reg [⟨q3_44, .p (pMv t3_3), none, 0⟩,
  ⟨q3_2, .p (pMv t3_44), none, 1⟩])
 .ret))))⟩
theorem f186_ok : cFunc Cx0 Tryz.f186 = some f186 := by kernel_rfl
noncomputable def f187 : SFn := ⟨3, 36, [p3_0, p3_1, p3_2], [(p3_6, none)],
 (.seq (.reg [⟨q3_6, .p (pMv c0), none, 0⟩])
 (.seq (.reg [⟨q3_7, .p (pMv (.cst (.i .i64 (.lit (.negSucc 0))))), none, 0⟩])
 (.seq (.seq (.reg [⟨q3_10, .p (pMv t3_0), none, 0⟩,
  ⟨q3_11, .p (pNilc t3_10), none, 1⟩,
  ⟨q3_12, .p (pFa 5 t3_11), none, 3⟩,
  ⟨q3_13, .r (rLd1 t3_12), none, 7⟩,
  ⟨q3_14, .e (eRng t3_13), none, 15⟩])
 (.block 0 (.loop (.seq (.reg [⟨q3_15, .nx t3_14, none, 0⟩,
  ⟨q3_16, .p (pExt t3_15 0), none, 1⟩])
 (.seq (.cond t3_16
 .skip
 (.exit 0))
 (.block 1 (.seq (.reg [⟨q3_17, .r (rEnt t3_14), none, 0⟩,
  ⟨q3_18, .p (pExt t3_17 1), none, 1⟩,
  ⟨q3_9, .p (pMv t3_18), none, 3⟩])
 (.seq (.reg [⟨q3_19, .p (pMv t3_9), none, 0⟩,
  ⟨q3_20, .p (pMv t3_1), none, 0⟩,
  ⟨q3_21, .p (pGt t3_19 t3_20), none, 3⟩,
  ⟨q3_22, .p (pMv t3_21), none, 7⟩,
  ⟨q3_23, .p (pMv t3_9), (some (p3_22, true)), 15⟩,
  ⟨q3_24, .p (pMv t3_7), (some (p3_22, true)), 15⟩,
  ⟨q3_25, .p (pGt t3_23 t3_24), (some (p3_22, true)), 63⟩,
  ⟨q3_26, .p (pPick t3_22 t3_25 (.cst (.b false))), none, 127⟩,
  ⟨q3_27, .p (pMv t3_26), none, 255⟩,
  ⟨q3_28, .p (pMv t3_0), (some (p3_27, true)), 511⟩,
  ⟨q3_29, .p (pMv t3_9), (some (p3_27, true)), 511⟩,
  ⟨q3_30, .call (.cst (.f 241 [])) [t3_28, t3_29], (some (p3_27, true)), 2047⟩,
  ⟨q3_31, .p (pMv t3_2), (some (p3_27, true)), 511⟩,
  ⟨q3_32, .p (pGe t3_30 t3_31), (some (p3_27, true)), 8191⟩,
  ⟨q3_33, .p (pPick t3_27 t3_32 (.cst (.b false))), none, 16383⟩])
 (.cond t3_33
 (.reg [⟨q3_34, .p (pMv t3_9), none, 0⟩,
  ⟨q3_7, .p (pMv t3_34), none, 1⟩])
 .skip)))))))))
 (.seq (.reg [⟨q3_35, .p (pMv t3_7), none, 0⟩,
  ⟨q3_6, .p (pMv t3_35), none, 1⟩])
 .ret))))⟩
theorem f187_ok : cFunc Cx0 Tryz.f187 = some f187 := by kernel_rfl
noncomputable def f190 : SFn := ⟨2, 15, [p2_0, p2_1, p2_2], [(p2_6, none)],
 (.seq (.reg [⟨q2_6, .p (pMv c0), none, 0⟩])
 (.seq (.reg [⟨q2_7, .p (pMv t2_0), none, 0⟩,
  ⟨q2_8, .p (pNilc t2_7), none, 1⟩,
  ⟨q2_9, .p (pFa 4 t2_8), none, 3⟩,
  ⟨q2_10, .r (rLd1 t2_9), none, 7⟩,
  ⟨q2_11, .p (pMv t2_1), none, 0⟩,
  ⟨q2_12, .p (pMv t2_2), none, 0⟩,
  ⟨q2_13, .p (pBld z343 [(0, 1, t2_11), (1, 1, t2_12)]), none, 48⟩,
  ⟨q2_14, .r (rLk k343 (.i .i64 (.lit (.ofNat 0))) t2_10 t2_13 false), none, 127⟩,
  ⟨q2_6, .p (pMv t2_14), none, 255⟩])
 .ret))⟩
theorem f190_ok : cFunc Cx0 Tryz.f190 = some f190 := by kernel_rfl
noncomputable def f191 : SFn := ⟨2, 5, [p2_0], [(p2_2, none)],
 (.seq (.reg [⟨q2_2, .p (pMv (.cst .ns)), none, 0⟩])
 (.seq (.reg [⟨q2_3, .p (pMv t2_0), none, 0⟩,
  ⟨q2_4, .call (.cst (.f 242 [])) [(.cst .ns), t2_3], none, 1⟩,
  ⟨q2_2, .p (pMv t2_4), none, 3⟩])
 .ret))⟩
theorem f191_ok : cFunc Cx0 Tryz.f191 = some f191 := by kernel_rfl
noncomputable def f192 : SFn := ⟨2, 11, [p2_0], [],
 (.seq (.reg [⟨q2_3, .p (pMv t2_0), none, 0⟩,
  ⟨q2_4, .p (pLen t2_3), none, 1⟩,
  ⟨q2_2, .p (pMv t2_4), none, 3⟩])
 (.reg [⟨q2_5, .p (pMv t2_0), none, 0⟩,
  ⟨q2_6, .p (pMv t2_2), none, 0⟩,
  ⟨q2_7, .p (pMv t2_2), none, 0⟩,
  ⟨q2_8, .p (pCvi .u64 t2_7), none, 4⟩,
  ⟨q2_9, .call (.cst (.f 244 [])) [t2_8], none, 12⟩,
  ⟨q2_10, .call (.cst (.f 243 [])) [t2_5, c0, t2_6, t2_9], none, 31⟩]))⟩
theorem f192_ok : cFunc Cx0 Tryz.f192 = some f192 := by kernel_rfl
noncomputable def f193 : SFn := ⟨2, 14, [p2_0, p2_1], [],
 (.seq (.reg [⟨q2_4, .r (rLd1 t2_1), none, 0⟩,
  ⟨q2_5, .e (eRng t2_4), none, 1⟩])
 (.block 0 (.loop (.seq (.reg [⟨q2_6, .nx t2_5, none, 0⟩,
  ⟨q2_7, .p (pExt t2_6 0), none, 1⟩])
 (.seq (.cond t2_7
 .skip
 (.exit 0))
 (.block 1 (.seq (.reg [⟨q2_8, .r (rEnt t2_5), none, 0⟩,
  ⟨q2_9, .p (pExt t2_8 0), none, 1⟩,
  ⟨q2_3, .p (pMv t2_9), none, 3⟩])
 (.seq (.reg [⟨q2_10, .p (pMv t2_0), none, 0⟩,
  ⟨q2_11, .p (pMv t2_3), none, 0⟩,
  ⟨q2_12, .call t2_10 [t2_11], none, 3⟩,
  ⟨q2_13, .p (pNot t2_12), none, 7⟩])
 (.cond t2_13
 .ret
 .skip)))))))))⟩
theorem f193_ok : cFunc Cx0 Tryz.f193 = some f193 := by kernel_rfl
noncomputable def f194 : SFn := ⟨3, 19, [p3_0, p3_1], [(p3_4, none)],
 (.seq (.reg [⟨q3_4, .p (pMv (.cst .np)), none, 0⟩])
 (.seq (.reg [⟨q3_5, .p (pMv t3_0), none, 0⟩,
  ⟨q3_6, .p (pMv t3_1), none, 0⟩,
  ⟨q3_7, .p (pLen t3_6), none, 2⟩,
  ⟨q3_8, .call (.cst (.f 144 [])) [t3_5, t3_7], none, 7⟩])
 (.seq (.reg [⟨q3_9, .p (pMv t3_0), none, 0⟩,
  ⟨q3_10, .p (pMv t3_0), none, 0⟩,
  ⟨q3_11, .p (pNilc t3_10), none, 2⟩,
  ⟨q3_12, .p (pFa 0 t3_11), none, 6⟩,
  ⟨q3_13, .r (rLd1 t3_12), none, 14⟩,
  ⟨q3_14, .p (pMv t3_1), none, 0⟩,
  ⟨q3_15, .e (eApp 5 1 1 t3_13 t3_14), none, 62⟩,
  ⟨q3_16, .p (pNilc t3_9), none, 127⟩,
  ⟨q3_17, .p (pFa 0 t3_16), none, 255⟩,
  ⟨none, .e (eSt 1 t3_17 t3_15), none, 511⟩])
 (.seq (.reg [⟨q3_18, .p (pMv t3_0), none, 0⟩,
  ⟨q3_4, .p (pMv t3_18), none, 1⟩])
 .ret))))⟩
theorem f194_ok : cFunc Cx0 Tryz.f194 = some f194 := by kernel_rfl
noncomputable def f195 : SFn := ⟨3, 33, [p3_0, p3_1], [(p3_4, none)],
 (.seq (.reg [⟨q3_4, .p (pMv (.cst .np)), none, 0⟩])
 (.seq (.block 0 (.loop (.seq (.seq (.reg [⟨q3_5, .p (pMv t3_1), none, 0⟩,
  ⟨q3_6, .p (pGe t3_5 (.cst (.i .u64 (.lit (.ofNat 128))))), none, 1⟩])
 (.cond t3_6
 .skip
 (.exit 0)))
 (.block 1 (.seq (.reg [⟨q3_7, .p (pMv t3_0), none, 0⟩,
  ⟨q3_8, .p (pMv t3_0), none, 0⟩,
  ⟨q3_9, .p (pNilc t3_8), none, 2⟩,
  ⟨q3_10, .p (pFa 0 t3_9), none, 6⟩,
  ⟨q3_11, .r (rLd1 t3_10), none, 14⟩,
  ⟨q3_12, .p (pMv t3_1), none, 0⟩,
  ⟨q3_13, .p (pCvi .u8 t3_12), none, 32⟩,
  ⟨q3_14, .p (pBits .or t3_13 (.cst (.i .u8 (.lit (.ofNat 128))))), none, 96⟩,
  ⟨q3_15, .a (aBsl (zeros z5 1) 5 1 [(0, 1, t3_14)]), none, 224⟩,
  ⟨q3_16, .e (eApp 5 1 1 t3_11 t3_15), none, 510⟩,
  ⟨q3_17, .p (pNilc t3_7), none, 1023⟩,
  ⟨q3_18, .p (pFa 0 t3_17), none, 2047⟩,
  ⟨none, .e (eSt 1 t3_18 t3_16), none, 4095⟩])
 (.reg [⟨q3_19, .p (pMv t3_1), none, 0⟩,
  ⟨q3_20, .p (pShr t3_19 (.cst (.i .u64 (.lit (.ofNat 7))))), none, 1⟩,
  ⟨q3_1, .p (pMv t3_20), none, 3⟩]))))))
 (.seq (.reg [⟨q3_21, .p (pMv t3_0), none, 0⟩,
  ⟨q3_22, .p (pMv t3_0), none, 0⟩,
  ⟨q3_23, .p (pNilc t3_22), none, 2⟩,
  ⟨q3_24, .p (pFa 0 t3_23), none, 6⟩,
  ⟨q3_25, .r (rLd1 t3_24), none, 14⟩,
  ⟨q3_26, .p (pMv t3_1), none, 0⟩,
  ⟨q3_27, .p (pCvi .u8 t3_26), none, 32⟩,
  ⟨q3_28, .a (aBsl (zeros z5 1) 5 1 [(0, 1, t3_27)]), none, 96⟩,
  ⟨q3_29, .e (eApp 5 1 1 t3_25 t3_28), none, 254⟩,
  ⟨q3_30, .p (pNilc t3_21), none, 511⟩,
  ⟨q3_31, .p (pFa 0 t3_30), none, 1023⟩,
  ⟨none, .e (eSt 1 t3_31 t3_29), none, 2047⟩])
 (.seq (.reg [⟨q3_32, .p (pMv t3_0), none, 0⟩,
  ⟨q3_4, .p (pMv t3_32), none, 1⟩])
 .ret))))⟩
theorem f195_ok : cFunc Cx0 Tryz.f195 = some f195 := by kernel_rfl
noncomputable def f196 : SFn := ⟨3, 38, [p3_0, p3_1], [(p3_4, none)],
 (.seq (.reg [⟨q3_2, .a (aBox 24 t3_0), none, 0⟩,
  ⟨q3_3, .a (aBox 39 t3_1), none, 0⟩,
  ⟨q3_4, .p (pMv (.cst (.b false))), none, 0⟩])
 (.seq (.reg [⟨q3_6, .p (pFa 0 t3_3), none, 0⟩,
  ⟨q3_7, .r (rLdn 2 t3_6), none, 1⟩,
  ⟨q3_5, .a (aAlloc z33 33), none, 0⟩,
  ⟨none, .e (eSt 2 t3_5 t3_7), none, 7⟩])
 (.seq (.reg [⟨q3_8, .p (pFa 0 t3_5), none, 0⟩,
  ⟨q3_9, .r (rLd1 t3_8), none, 1⟩,
  ⟨q3_10, .p (pGe t3_9 c0), none, 3⟩,
  ⟨q3_11, .p (pMv t3_10), none, 7⟩,
  ⟨q3_12, .p (pFa 0 t3_5), (some (p3_11, true)), 15⟩,
  ⟨q3_13, .r (rLd1 t3_12), (some (p3_11, true)), 31⟩,
  ⟨q3_14, .p (pFa 1 t3_2), (some (p3_11, true)), 15⟩,
  ⟨q3_15, .r (rLd1 t3_14), (some (p3_11, true)), 79⟩,
  ⟨q3_16, .p (pLt t3_13 t3_15), (some (p3_11, true)), 255⟩,
  ⟨q3_17, .p (pPick t3_11 t3_16 (.cst (.b false))), none, 511⟩,
  ⟨q3_18, .p (pMv t3_17), none, 1023⟩,
  ⟨q3_19, .p (pFa 1 t3_5), (some (p3_18, true)), 2047⟩,
  ⟨q3_20, .r (rLd1 t3_19), (some (p3_18, true)), 4095⟩,
  ⟨q3_21, .p (pGe t3_20 c1), (some (p3_18, true)), 8191⟩,
  ⟨q3_22, .p (pPick t3_18 t3_21 (.cst (.b false))), none, 16383⟩,
  ⟨q3_23, .p (pMv t3_22), none, 32767⟩,
  ⟨q3_24, .p (pFa 1 t3_5), (some (p3_23, true)), 65535⟩,
  ⟨q3_25, .r (rLd1 t3_24), (some (p3_23, true)), 131071⟩,
  ⟨q3_26, .p (pLe t3_25 (.cst (.i .i64 (.lit (.ofNat 1048576))))), (some (p3_23, true)), 262143⟩,
  ⟨q3_27, .p (pPick t3_23 t3_26 (.cst (.b false))), none, 524287⟩,
  ⟨q3_28, .p (pMv t3_27), none, 1048575⟩,
  ⟨q3_29, .p (pFa 34 t3_3), (some (p3_28, true)), 2097151⟩,
  ⟨q3_30, .r (rLd1 t3_29), (some (p3_28, true)), 4194303⟩,
  ⟨q3_31, .p (pGe t3_30 c0), (some (p3_28, true)), 8388607⟩,
  ⟨q3_32, .p (pPick t3_28 t3_31 (.cst (.b false))), none, 16777215⟩,
  ⟨q3_33, .p (pMv t3_32), none, 33554431⟩,
  ⟨q3_34, .p (pFa 34 t3_3), (some (p3_33, true)), 67108863⟩,
  ⟨q3_35, .r (rLd1 t3_34), (some (p3_33, true)), 134217727⟩,
  ⟨q3_36, .p (pLe t3_35 (.cst (.i .i64 (.lit (.ofNat 256))))), (some (p3_33, true)), 268435455⟩,
  ⟨q3_37, .p (pPick t3_33 t3_36 (.cst (.b false))), none, 536870911⟩,
  ⟨q3_4, .p (pMv t3_37), none, 1073741823⟩])
 .ret)))⟩
theorem f196_ok : cFunc Cx0 Tryz.f196 = some f196 := by kernel_rfl
noncomputable def f197 : SFn := ⟨2, 5, [p2_0], [(p2_2, none)],
 (.seq (.reg [⟨q2_2, .p (pMv c0), none, 0⟩])
 (.seq (.reg [⟨q2_3, .p (pMv t2_0), none, 0⟩,
  ⟨q2_4, .p (pAdd (.cst (.i .i64 (.lit (.ofNat 1000)))) t2_3), none, 1⟩,
  ⟨q2_2, .p (pMv t2_4), none, 3⟩])
 .ret))⟩
theorem f197_ok : cFunc Cx0 Tryz.f197 = some f197 := by kernel_rfl
noncomputable def f198 : SFn := ⟨3, 24, [p3_0], [(p3_2, none)],
 (.seq (.reg [⟨q3_1, .a (aBox 39 t3_0), none, 0⟩,
  ⟨q3_2, .p (pMv (.cst .ns)), none, 0⟩])
 (.seq (.dreg [⟨q3_4, .call (.cst (.f 163 [])) [], none, 0⟩,
  ⟨q3_5, .a (aBsl (zeros z5 7) 5 7 [(0, 1, (.cst (.i .u8 (.lit (.ofNat 114))))), (1, 1, (.cst (.i .u8 (.lit (.ofNat 101))))), (2, 1, (.cst (.i .u8 (.lit (.ofNat 113))))), (3, 1, (.cst (.i .u8 (.lit (.ofNat 117))))), (4, 1, (.cst (.i .u8 (.lit (.ofNat 101))))), (5, 1, (.cst (.i .u8 (.lit (.ofNat 115))))), (6, 1, (.cst (.i .u8 (.lit (.ofNat 116)))))]), none, 0⟩,
  ⟨q3_6, .r (rCvm t3_5), none, 2⟩,
  ⟨q3_7, .call (.cst (.f 194 [])) [t3_4, t3_6], none, 7⟩,
  ⟨q3_8, .p (pFa 0 t3_1), none, 0⟩,
  ⟨q3_9, .p (pFa 0 t3_8), none, 16⟩,
  ⟨q3_10, .r (rLd1 t3_9), none, 48⟩,
  ⟨q3_11, .call (.cst (.f 144 [])) [t3_7, t3_10], none, 127⟩,
  ⟨q3_12, .p (pFa 0 t3_1), none, 0⟩,
  ⟨q3_13, .p (pFa 1 t3_12), none, 256⟩,
  ⟨q3_14, .r (rLd1 t3_13), none, 768⟩,
  ⟨q3_15, .call (.cst (.f 144 [])) [t3_11, t3_14], none, 2047⟩,
  ⟨q3_3, .p (pMv t3_15), none, 4095⟩])
 (.seq (.dreg [⟨q3_16, .p (pMv t3_3), none, 0⟩,
  ⟨q3_17, .p (pFa 2 t3_1), none, 0⟩,
  ⟨q3_18, .r (rLdn 32 t3_17), none, 2⟩,
  ⟨q3_19, .call (.cst (.f 162 [])) [t3_16, t3_18], none, 7⟩,
  ⟨q3_20, .p (pFa 34 t3_1), none, 0⟩,
  ⟨q3_21, .r (rLd1 t3_20), none, 16⟩,
  ⟨q3_22, .call (.cst (.f 144 [])) [t3_19, t3_21], none, 63⟩,
  ⟨q3_23, .call (.cst (.f 145 [])) [t3_22], none, 127⟩,
  ⟨q3_2, .p (pMv t3_23), none, 255⟩])
 .ret)))⟩
theorem f198_ok : cFunc Cx0 Tryz.f198 = some f198 := by kernel_rfl
noncomputable def f199 : SFn := ⟨2, 11, [p2_0, p2_1], [],
 (.seq (.reg [⟨q2_3, .a (aBox 33 t2_1), none, 0⟩])
 (.dreg [⟨q2_4, .p (pMv t2_0), none, 0⟩,
  ⟨q2_5, .p (pFa 0 t2_3), none, 0⟩,
  ⟨q2_6, .r (rLd1 t2_5), none, 2⟩,
  ⟨q2_7, .call (.cst (.f 144 [])) [t2_4, t2_6], none, 7⟩,
  ⟨q2_8, .p (pFa 1 t2_3), none, 0⟩,
  ⟨q2_9, .r (rLd1 t2_8), none, 16⟩,
  ⟨q2_10, .call (.cst (.f 144 [])) [t2_7, t2_9], none, 63⟩]))⟩
theorem f199_ok : cFunc Cx0 Tryz.f199 = some f199 := by kernel_rfl
noncomputable def f206 : SFn := ⟨3, 23, [p3_0, p3_1, p3_2], [],
 (.seq (.reg [⟨q3_8, .p (pMv t3_0), none, 0⟩,
  ⟨q3_9, .p (pMv t3_1), none, 0⟩,
  ⟨q3_10, .p (pLen t3_9), none, 2⟩,
  ⟨q3_11, .call (.cst (.f 144 [])) [t3_8, t3_10], none, 7⟩])
 (.seq (.reg [⟨q3_12, .p (pMv t3_1), none, 0⟩,
  ⟨q3_13, .p (pLen t3_12), none, 1⟩,
  ⟨q3_14, .p (pMv c0), none, 0⟩])
 (.block 0 (.loop (.seq (.reg [⟨q3_15, .p (pLt t3_14 t3_13), none, 0⟩])
 (.seq (.cond t3_15
 .skip
 (.exit 0))
 (.seq (.block 1 (.seq (.reg [⟨q3_16, .p (pIxL 38 t3_12 t3_14), none, 0⟩,
  ⟨q3_17, .r (rLdn 38 t3_16), none, 1⟩,
  ⟨q3_7, .a (aAlloc z44 44), none, 0⟩,
  ⟨none, .e (eSt 38 t3_7 t3_17), none, 7⟩])
 (.reg [⟨q3_18, .p (pMv t3_2), none, 0⟩,
  ⟨q3_19, .p (pMv t3_0), none, 0⟩,
  ⟨q3_20, .r (rLdn 38 t3_7), none, 0⟩,
  ⟨q3_21, .call t3_18 [t3_19, t3_20], none, 7⟩])))
 (.reg [⟨q3_22, .p (pAdd t3_14 c1), none, 0⟩,
  ⟨q3_14, .p (pMv t3_22), none, 1⟩]))))))))⟩
theorem f206_ok : cFunc Cx0 Tryz.f206 = some f206 := by kernel_rfl
noncomputable def f208 : SFn := ⟨3, 19, [p3_0, p3_1], [(p3_4, none)],
 (.seq (.reg [⟨q3_4, .p (pMv c0), none, 0⟩])
 (.seq (.seq (.reg [⟨q3_6, .p (pMv t3_0), none, 0⟩,
  ⟨q3_7, .p (pLen t3_6), none, 1⟩,
  ⟨q3_8, .p (pMv c0), none, 0⟩])
 (.block 0 (.loop (.seq (.reg [⟨q3_9, .p (pLt t3_8 t3_7), none, 0⟩])
 (.seq (.cond t3_9
 .skip
 (.exit 0))
 (.seq (.block 1 (.seq (.reg [⟨q3_10, .p (pMv t3_8), none, 0⟩,
  ⟨q3_5, .p (pMv t3_10), none, 1⟩])
 (.seq (.reg [⟨q3_11, .p (pMv t3_1), none, 0⟩,
  ⟨q3_12, .p (pMv t3_0), none, 0⟩,
  ⟨q3_13, .p (pMv t3_5), none, 0⟩,
  ⟨q3_14, .p (pIxL 6 t3_12 t3_13), none, 6⟩,
  ⟨q3_15, .r (rLdn 6 t3_14), none, 14⟩,
  ⟨q3_16, .call t3_11 [t3_15], none, 31⟩])
 (.cond t3_16
 (.seq (.reg [⟨q3_17, .p (pMv t3_5), none, 0⟩,
  ⟨q3_4, .p (pMv t3_17), none, 1⟩])
 .ret)
 .skip))))
 (.reg [⟨q3_18, .p (pAdd t3_8 c1), none, 0⟩,
  ⟨q3_8, .p (pMv t3_18), none, 1⟩])))))))
 (.seq (.reg [⟨q3_4, .p (pMv (.cst (.i .i64 (.lit (.negSucc 0))))), none, 0⟩])
 .ret)))⟩
theorem f208_ok : cFunc Cx0 Tryz.f208 = some f208 := by kernel_rfl
noncomputable def f231 : SFn := ⟨2, 12, [p2_0, p2_1], [(p2_4, none)],
 (.seq (.reg [⟨q2_4, .p (pMv (.cst .ns)), none, 0⟩])
 (.seq (.reg [⟨q2_6, .p (pMv t2_0), none, 0⟩,
  ⟨q2_7, .call (.cst (.f 267 [])) [t2_6], none, 1⟩,
  ⟨q2_5, .p (pMv t2_7), none, 3⟩])
 (.seq (.reg [⟨q2_8, .p (pMv t2_5), none, 0⟩,
  ⟨q2_9, .p (pMv t2_1), none, 0⟩,
  ⟨q2_10, .call (.cst (.f 268 [])) [t2_8, t2_9], none, 3⟩])
 (.seq (.reg [⟨q2_11, .p (pMv t2_5), none, 0⟩,
  ⟨q2_4, .p (pMv t2_11), none, 1⟩])
 .ret))))⟩
theorem f231_ok : cFunc Cx0 Tryz.f231 = some f231 := by kernel_rfl
noncomputable def f232 : SFn := ⟨2, 4, [p2_0], [(p2_2, none)],
 (.seq (.reg [⟨q2_1, .a (aBox 176 t2_0), none, 0⟩,
  ⟨q2_2, .p (pMv (.cst .nf)), none, 0⟩])
 (.seq (.reg [⟨q2_3, .p (pMkf 269 [t2_1]), none, 0⟩,
  ⟨q2_2, .p (pMv t2_3), none, 1⟩])
 .ret))⟩
theorem f232_ok : cFunc Cx0 Tryz.f232 = some f232 := by kernel_rfl
noncomputable def f243 : SFn := ⟨4, 134, [p4_0, p4_1, p4_2, p4_3], [],
 (.seq (.reg [⟨q4_8, .p (pMv (.cst (.b true))), none, 0⟩])
 (.seq (.reg [⟨q4_9, .p (pMv (.cst (.b true))), none, 0⟩])
 (.block 0 (.loop (.block 1 (.seq (.reg [⟨q4_19, .p (pMv t4_2), none, 0⟩,
  ⟨q4_20, .p (pMv t4_1), none, 0⟩,
  ⟨q4_21, .p (pSub t4_19 t4_20), none, 3⟩,
  ⟨q4_10, .p (pMv t4_21), none, 7⟩])
 (.seq (.seq (.reg [⟨q4_22, .p (pMv t4_10), none, 0⟩,
  ⟨q4_23, .p (pLe t4_22 c12), none, 1⟩])
 (.cond t4_23
 (.seq (.reg [⟨q4_24, .p (pMv t4_0), none, 0⟩,
  ⟨q4_25, .p (pMv t4_1), none, 0⟩,
  ⟨q4_26, .p (pMv t4_2), none, 0⟩,
  ⟨q4_27, .call (.cst (.f 280 [])) [t4_24, t4_25, t4_26], none, 7⟩])
 .ret)
 .skip))
 (.seq (.seq (.reg [⟨q4_28, .p (pMv t4_3), none, 0⟩,
  ⟨q4_29, .p (pEq k3 t4_28 c0), none, 1⟩])
 (.cond t4_29
 (.seq (.reg [⟨q4_30, .p (pMv t4_0), none, 0⟩,
  ⟨q4_31, .p (pMv t4_1), none, 0⟩,
  ⟨q4_32, .p (pMv t4_2), none, 0⟩,
  ⟨q4_33, .call (.cst (.f 281 [])) [t4_30, t4_31, t4_32], none, 7⟩])
 .ret)
 .skip))
 (.seq (.seq (.reg [⟨q4_34, .p (pMv t4_8), none, 0⟩,
  ⟨q4_35, .p (pNot t4_34), none, 1⟩])
 (.cond t4_35
 (.seq (.reg [⟨q4_36, .p (pMv t4_0), none, 0⟩,
  ⟨q4_37, .p (pMv t4_1), none, 0⟩,
  ⟨q4_38, .p (pMv t4_2), none, 0⟩,
  ⟨q4_39, .call (.cst (.f 282 [])) [t4_36, t4_37, t4_38], none, 7⟩])
 (.reg [⟨q4_40, .p (pMv t4_3), none, 0⟩,
  ⟨q4_41, .p (pSub t4_40 c1), none, 1⟩,
  ⟨q4_3, .p (pMv t4_41), none, 3⟩]))
 .skip))
 (.seq (.reg [⟨q4_43, .p (pMv t4_0), none, 0⟩,
  ⟨q4_44, .p (pMv t4_1), none, 0⟩,
  ⟨q4_45, .p (pMv t4_2), none, 0⟩,
  ⟨q4_46, .call (.cst (.f 283 [])) [t4_43, t4_44, t4_45], none, 7⟩,
  ⟨q4_42, .p (pMv t4_46), none, 15⟩,
  ⟨q4_47, .p (pExt t4_42 0), none, 31⟩,
  ⟨q4_48, .p (pExt t4_42 1), none, 31⟩,
  ⟨q4_11, .p (pMv t4_47), none, 63⟩,
  ⟨q4_12, .p (pMv t4_48), none, 255⟩])
 (.seq (.seq (.reg [⟨q4_49, .p (pMv t4_12), none, 0⟩,
  ⟨q4_50, .p (pEq k433 t4_49 c2), none, 1⟩])
 (.cond t4_50
 (.seq (.reg [⟨q4_51, .p (pMv t4_0), none, 0⟩,
  ⟨q4_52, .p (pMv t4_1), none, 0⟩,
  ⟨q4_53, .p (pMv t4_2), none, 0⟩,
  ⟨q4_54, .call (.cst (.f 284 [])) [t4_51, t4_52, t4_53], none, 7⟩])
 (.seq (.reg [⟨q4_55, .p (pMv t4_2), none, 0⟩,
  ⟨q4_56, .p (pSub t4_55 c1), none, 1⟩,
  ⟨q4_57, .p (pMv t4_11), none, 0⟩,
  ⟨q4_58, .p (pMv t4_1), none, 0⟩,
  ⟨q4_59, .p (pSub t4_57 t4_58), none, 12⟩,
  ⟨q4_60, .p (pSub t4_56 t4_59), none, 31⟩,
  ⟨q4_11, .p (pMv t4_60), none, 63⟩])
 (.reg [⟨q4_12, .p (pMv c1), none, 0⟩])))
 .skip))
 (.seq (.seq (.reg [⟨q4_61, .p (pMv t4_8), none, 0⟩,
  ⟨q4_62, .p (pMv t4_61), none, 1⟩,
  ⟨q4_63, .p (pMv t4_9), (some (p4_62, true)), 3⟩,
  ⟨q4_64, .p (pPick t4_62 t4_63 (.cst (.b false))), none, 7⟩,
  ⟨q4_65, .p (pMv t4_64), none, 15⟩,
  ⟨q4_66, .p (pMv t4_12), (some (p4_65, true)), 31⟩,
  ⟨q4_67, .p (pEq k433 t4_66 c1), (some (p4_65, true)), 63⟩,
  ⟨q4_68, .p (pPick t4_65 t4_67 (.cst (.b false))), none, 127⟩])
 (.cond t4_68
 (.seq (.reg [⟨q4_69, .p (pMv t4_0), none, 0⟩,
  ⟨q4_70, .p (pMv t4_1), none, 0⟩,
  ⟨q4_71, .p (pMv t4_2), none, 0⟩,
  ⟨q4_72, .call (.cst (.f 285 [])) [t4_69, t4_70, t4_71], none, 7⟩])
 (.cond t4_72
 .ret
 .skip))
 .skip))
 (.seq (.seq (.dreg [⟨q4_73, .p (pMv t4_1), none, 0⟩,
  ⟨q4_74, .p (pGt t4_73 c0), none, 1⟩,
  ⟨q4_75, .p (pMv t4_74), none, 3⟩,
  ⟨q4_76, .p (pMv t4_0), (some (p4_75, true)), 7⟩,
  ⟨q4_77, .p (pMv t4_1), (some (p4_75, true)), 7⟩,
  ⟨q4_78, .p (pSub t4_77 c1), (some (p4_75, true)), 23⟩,
  ⟨q4_79, .p (pIxL 1 t4_76 t4_78), (some (p4_75, true)), 63⟩,
  ⟨q4_80, .r (rLd1 t4_79), (some (p4_75, true)), 127⟩,
  ⟨q4_81, .p (pMv t4_0), (some (p4_75, true)), 7⟩,
  ⟨q4_82, .p (pMv t4_11), (some (p4_75, true)), 7⟩,
  ⟨q4_83, .p (pIxL 1 t4_81 t4_82), (some (p4_75, true)), 775⟩,
  ⟨q4_84, .r (rLd1 t4_83), (some (p4_75, true)), 1799⟩,
  ⟨q4_85, .call (.cst (.f 286 [])) [t4_80, t4_84], (some (p4_75, true)), 4095⟩,
  ⟨q4_86, .p (pNot t4_85), (some (p4_75, true)), 8191⟩,
  ⟨q4_87, .p (pPick t4_75 t4_86 (.cst (.b false))), none, 16383⟩])
 (.cond t4_87
 (.seq (.reg [⟨q4_88, .p (pMv t4_0), none, 0⟩,
  ⟨q4_89, .p (pMv t4_1), none, 0⟩,
  ⟨q4_90, .p (pMv t4_2), none, 0⟩,
  ⟨q4_91, .p (pMv t4_11), none, 0⟩,
  ⟨q4_92, .call (.cst (.f 287 [])) [t4_88, t4_89, t4_90, t4_91], none, 15⟩,
  ⟨q4_13, .p (pMv t4_92), none, 31⟩])
 (.seq (.reg [⟨q4_93, .p (pMv t4_13), none, 0⟩,
  ⟨q4_1, .p (pMv t4_93), none, 1⟩])
 (.exit 1)))
 .skip))
 (.seq (.reg [⟨q4_95, .p (pMv t4_0), none, 0⟩,
  ⟨q4_96, .p (pMv t4_1), none, 0⟩,
  ⟨q4_97, .p (pMv t4_2), none, 0⟩,
  ⟨q4_98, .p (pMv t4_11), none, 0⟩,
  ⟨q4_99, .call (.cst (.f 288 [])) [t4_95, t4_96, t4_97, t4_98], none, 15⟩,
  ⟨q4_94, .p (pMv t4_99), none, 31⟩,
  ⟨q4_100, .p (pExt t4_94 0), none, 63⟩,
  ⟨q4_101, .p (pExt t4_94 1), none, 63⟩,
  ⟨q4_14, .p (pMv t4_100), none, 127⟩,
  ⟨q4_15, .p (pMv t4_101), none, 511⟩])
 (.seq (.reg [⟨q4_102, .p (pMv t4_15), none, 0⟩,
  ⟨q4_9, .p (pMv t4_102), none, 1⟩])
 (.seq (.reg [⟨q4_103, .p (pMv t4_14), none, 0⟩,
  ⟨q4_104, .p (pMv t4_1), none, 0⟩,
  ⟨q4_105, .p (pSub t4_103 t4_104), none, 3⟩,
  ⟨q4_106, .p (pMv t4_2), none, 0⟩,
  ⟨q4_107, .p (pMv t4_14), none, 0⟩,
  ⟨q4_108, .p (pSub t4_106 t4_107), none, 24⟩,
  ⟨q4_16, .p (pMv t4_105), none, 7⟩,
  ⟨q4_17, .p (pMv t4_108), none, 127⟩])
 (.seq (.reg [⟨q4_109, .p (pMv t4_10), none, 0⟩,
  ⟨q4_110, .p (pQuo t4_109 c8), none, 1⟩,
  ⟨q4_18, .p (pMv t4_110), none, 3⟩])
 (.seq (.reg [⟨q4_111, .p (pMv t4_16), none, 0⟩,
  ⟨q4_112, .p (pMv t4_17), none, 0⟩,
  ⟨q4_113, .p (pLt t4_111 t4_112), none, 3⟩])
 (.cond t4_113
 (.seq (.reg [⟨q4_114, .p (pMv t4_16), none, 0⟩,
  ⟨q4_115, .p (pMv t4_18), none, 0⟩,
  ⟨q4_116, .p (pGe t4_114 t4_115), none, 3⟩,
  ⟨q4_8, .p (pMv t4_116), none, 7⟩])
 (.seq (.reg [⟨q4_117, .p (pMv t4_0), none, 0⟩,
  ⟨q4_118, .p (pMv t4_1), none, 0⟩,
  ⟨q4_119, .p (pMv t4_14), none, 0⟩,
  ⟨q4_120, .p (pMv t4_3), none, 0⟩,
  ⟨q4_121, .call (.cst (.f 243 [])) [t4_117, t4_118, t4_119, t4_120], none, 15⟩])
 (.reg [⟨q4_122, .p (pMv t4_14), none, 0⟩,
  ⟨q4_123, .p (pAdd t4_122 c1), none, 1⟩,
  ⟨q4_1, .p (pMv t4_123), none, 3⟩])))
 (.seq (.reg [⟨q4_124, .p (pMv t4_17), none, 0⟩,
  ⟨q4_125, .p (pMv t4_18), none, 0⟩,
  ⟨q4_126, .p (pGe t4_124 t4_125), none, 3⟩,
  ⟨q4_8, .p (pMv t4_126), none, 7⟩])
 (.seq (.reg [⟨q4_127, .p (pMv t4_0), none, 0⟩,
  ⟨q4_128, .p (pMv t4_14), none, 0⟩,
  ⟨q4_129, .p (pAdd t4_128 c1), none, 2⟩,
  ⟨q4_130, .p (pMv t4_2), none, 0⟩,
  ⟨q4_131, .p (pMv t4_3), none, 0⟩,
  ⟨q4_132, .call (.cst (.f 243 [])) [t4_127, t4_129, t4_130, t4_131], none, 31⟩])
 (.reg [⟨q4_133, .p (pMv t4_14), none, 0⟩,
  ⟨q4_2, .p (pMv t4_133), none, 1⟩]))))))))))))))))))))))⟩
theorem f243_ok : cFunc Cx0 Tryz.f243 = some f243 := by kernel_rfl
noncomputable def f244 : SFn := ⟨2, 8, [p2_0], [(p2_2, none)],
 (.seq (.reg [⟨q2_2, .p (pMv c0), none, 0⟩])
 (.seq (.cond (.cst (.b false))
 (.seq (.reg [⟨q2_3, .p (pMv t2_0), none, 0⟩,
  ⟨q2_4, .p (pCvi .u32 t2_3), none, 1⟩,
  ⟨q2_5, .call (.cst (.f 289 [])) [t2_4], none, 3⟩,
  ⟨q2_2, .p (pMv t2_5), none, 7⟩])
 .ret)
 .skip)
 (.seq (.reg [⟨q2_6, .p (pMv t2_0), none, 0⟩,
  ⟨q2_7, .call (.cst (.f 290 [])) [t2_6], none, 1⟩,
  ⟨q2_2, .p (pMv t2_7), none, 3⟩])
 .ret)))⟩
theorem f244_ok : cFunc Cx0 Tryz.f244 = some f244 := by kernel_rfl
noncomputable def f267 : SFn := ⟨2, 5, [p2_0], [(p2_2, none)],
 (.seq (.reg [⟨q2_2, .p (pMv (.cst .ns)), none, 0⟩])
 (.seq (.reg [⟨q2_3, .p (pMv t2_0), none, 0⟩,
  ⟨q2_4, .call (.cst (.f 301 [])) [(.cst .ns), t2_3], none, 1⟩,
  ⟨q2_2, .p (pMv t2_4), none, 3⟩])
 .ret))⟩
theorem f267_ok : cFunc Cx0 Tryz.f267 = some f267 := by kernel_rfl
noncomputable def f268 : SFn := ⟨2, 14, [p2_0, p2_1], [],
 (.seq (.reg [⟨q2_5, .p (pMv t2_0), none, 0⟩,
  ⟨q2_6, .p (pLen t2_5), none, 1⟩,
  ⟨q2_4, .p (pMv t2_6), none, 3⟩])
 (.reg [⟨q2_7, .p (pMv t2_0), none, 0⟩,
  ⟨q2_8, .p (pMv t2_4), none, 0⟩,
  ⟨q2_9, .p (pMv t2_4), none, 0⟩,
  ⟨q2_10, .p (pCvi .u64 t2_9), none, 4⟩,
  ⟨q2_11, .call (.cst (.f 244 [])) [t2_10], none, 12⟩,
  ⟨q2_12, .p (pMv t2_1), none, 0⟩,
  ⟨q2_13, .call (.cst (.f 302 [])) [t2_7, c0, t2_8, t2_11, t2_12], none, 63⟩]))⟩
theorem f268_ok : cFunc Cx0 Tryz.f268 = some f268 := by kernel_rfl
noncomputable def f269 : SFn := ⟨2, 14, [p2_0, p2_1], [],
 (.seq (.reg [⟨q2_4, .r (rLd1 t2_1), none, 0⟩,
  ⟨q2_5, .e (eRng t2_4), none, 1⟩])
 (.block 0 (.loop (.seq (.reg [⟨q2_6, .nx t2_5, none, 0⟩,
  ⟨q2_7, .p (pExt t2_6 0), none, 1⟩])
 (.seq (.cond t2_7
 .skip
 (.exit 0))
 (.block 1 (.seq (.reg [⟨q2_8, .r (rEnt t2_5), none, 0⟩,
  ⟨q2_9, .p (pExt t2_8 0), none, 1⟩,
  ⟨q2_3, .a (aAlloc z33 33), none, 0⟩,
  ⟨none, .e (eSt 2 t2_3 t2_9), none, 7⟩])
 (.seq (.reg [⟨q2_10, .p (pMv t2_0), none, 0⟩,
  ⟨q2_11, .r (rLdn 2 t2_3), none, 0⟩,
  ⟨q2_12, .call t2_10 [t2_11], none, 3⟩,
  ⟨q2_13, .p (pNot t2_12), none, 7⟩])
 (.cond t2_13
 .ret
 .skip)))))))))⟩
theorem f269_ok : cFunc Cx0 Tryz.f269 = some f269 := by kernel_rfl
noncomputable def f280 : SFn := ⟨3, 49, [p3_0, p3_1, p3_2], [],
 (.seq (.reg [⟨q3_8, .p (pMv t3_1), none, 0⟩,
  ⟨q3_9, .p (pAdd t3_8 c1), none, 1⟩,
  ⟨q3_6, .p (pMv t3_9), none, 3⟩])
 (.block 0 (.loop (.seq (.seq (.reg [⟨q3_10, .p (pMv t3_6), none, 0⟩,
  ⟨q3_11, .p (pMv t3_2), none, 0⟩,
  ⟨q3_12, .p (pLt t3_10 t3_11), none, 3⟩])
 (.cond t3_12
 .skip
 (.exit 0)))
 (.seq (.block 1 (.seq (.reg [⟨q3_15, .p (pMv t3_6), none, 0⟩,
  ⟨q3_7, .p (pMv t3_15), none, 1⟩])
 (.block 2 (.loop (.seq (.seq (.dreg [⟨q3_16, .p (pMv t3_7), none, 0⟩,
  ⟨q3_17, .p (pMv t3_1), none, 0⟩,
  ⟨q3_18, .p (pGt t3_16 t3_17), none, 3⟩,
  ⟨q3_19, .p (pMv t3_18), none, 7⟩,
  ⟨q3_20, .p (pMv t3_0), (some (p3_19, true)), 15⟩,
  ⟨q3_21, .p (pMv t3_7), (some (p3_19, true)), 15⟩,
  ⟨q3_22, .p (pIxL 1 t3_20 t3_21), (some (p3_19, true)), 63⟩,
  ⟨q3_23, .r (rLd1 t3_22), (some (p3_19, true)), 127⟩,
  ⟨q3_24, .p (pMv t3_0), (some (p3_19, true)), 15⟩,
  ⟨q3_25, .p (pMv t3_7), (some (p3_19, true)), 15⟩,
  ⟨q3_26, .p (pSub t3_25 c1), (some (p3_19, true)), 527⟩,
  ⟨q3_27, .p (pIxL 1 t3_24 t3_26), (some (p3_19, true)), 1807⟩,
  ⟨q3_28, .r (rLd1 t3_27), (some (p3_19, true)), 3855⟩,
  ⟨q3_29, .call (.cst (.f 286 [])) [t3_23, t3_28], (some (p3_19, true)), 8191⟩,
  ⟨q3_30, .p (pPick t3_19 t3_29 (.cst (.b false))), none, 16383⟩])
 (.cond t3_30
 .skip
 (.exit 2)))
 (.seq (.block 3 (.dreg [⟨q3_33, .p (pMv t3_0), none, 0⟩,
  ⟨q3_34, .p (pMv t3_7), none, 0⟩,
  ⟨q3_35, .p (pMv t3_0), none, 0⟩,
  ⟨q3_36, .p (pMv t3_7), none, 0⟩,
  ⟨q3_37, .p (pSub t3_36 c1), none, 8⟩,
  ⟨q3_38, .p (pMv t3_0), none, 0⟩,
  ⟨q3_39, .p (pMv t3_7), none, 0⟩,
  ⟨q3_40, .p (pSub t3_39 c1), none, 64⟩,
  ⟨q3_41, .p (pIxL 1 t3_38 t3_40), none, 224⟩,
  ⟨q3_42, .r (rLd1 t3_41), none, 480⟩,
  ⟨q3_43, .p (pMv t3_0), none, 0⟩,
  ⟨q3_44, .p (pMv t3_7), none, 0⟩,
  ⟨q3_45, .p (pIxL 1 t3_43 t3_44), none, 3072⟩,
  ⟨q3_46, .r (rLd1 t3_45), none, 7168⟩,
  ⟨q3_47, .p (pIxL 1 t3_33 t3_34), none, 16355⟩,
  ⟨none, .e (eSt 1 t3_47 t3_42), none, 32739⟩,
  ⟨q3_48, .p (pIxL 1 t3_35 t3_37), none, 65535⟩,
  ⟨none, .e (eSt 1 t3_48 t3_46), none, 131071⟩]))
 (.reg [⟨q3_31, .p (pMv t3_7), none, 0⟩,
  ⟨q3_32, .p (pSub t3_31 c1), none, 1⟩,
  ⟨q3_7, .p (pMv t3_32), none, 3⟩])))))))
 (.reg [⟨q3_13, .p (pMv t3_6), none, 0⟩,
  ⟨q3_14, .p (pAdd t3_13 c1), none, 1⟩,
  ⟨q3_6, .p (pMv t3_14), none, 3⟩]))))))⟩
theorem f280_ok : cFunc Cx0 Tryz.f280 = some f280 := by kernel_rfl
noncomputable def f290 : SFn := ⟨3, 25, [p3_0], [(p3_2, none)],
 (.seq (.reg [⟨q3_2, .p (pMv c0), none, 0⟩])
 (.seq (.seq (.reg [⟨q3_3, .p (pMv t3_0), none, 0⟩,
  ⟨q3_4, .p (pGe t3_3 (.cst (.i .u64 (.lit (.ofNat 4294967296))))), none, 1⟩])
 (.cond t3_4
 (.seq (.reg [⟨q3_5, .p (pMv t3_0), none, 0⟩,
  ⟨q3_6, .p (pShr t3_5 (.cst (.i .u64 (.lit (.ofNat 32))))), none, 1⟩,
  ⟨q3_0, .p (pMv t3_6), none, 3⟩])
 (.reg [⟨q3_2, .p (pMv c32), none, 0⟩]))
 .skip))
 (.seq (.seq (.reg [⟨q3_7, .p (pMv t3_0), none, 0⟩,
  ⟨q3_8, .p (pGe t3_7 (.cst (.i .u64 (.lit (.ofNat 65536))))), none, 1⟩])
 (.cond t3_8
 (.seq (.reg [⟨q3_9, .p (pMv t3_0), none, 0⟩,
  ⟨q3_10, .p (pShr t3_9 (.cst (.i .u64 (.lit (.ofNat 16))))), none, 1⟩,
  ⟨q3_0, .p (pMv t3_10), none, 3⟩])
 (.reg [⟨q3_11, .p (pMv t3_2), none, 0⟩,
  ⟨q3_12, .p (pAdd t3_11 c16), none, 1⟩,
  ⟨q3_2, .p (pMv t3_12), none, 3⟩]))
 .skip))
 (.seq (.seq (.reg [⟨q3_13, .p (pMv t3_0), none, 0⟩,
  ⟨q3_14, .p (pGe t3_13 (.cst (.i .u64 (.lit (.ofNat 256))))), none, 1⟩])
 (.cond t3_14
 (.seq (.reg [⟨q3_15, .p (pMv t3_0), none, 0⟩,
  ⟨q3_16, .p (pShr t3_15 (.cst (.i .u64 (.lit (.ofNat 8))))), none, 1⟩,
  ⟨q3_0, .p (pMv t3_16), none, 3⟩])
 (.reg [⟨q3_17, .p (pMv t3_2), none, 0⟩,
  ⟨q3_18, .p (pAdd t3_17 c8), none, 1⟩,
  ⟨q3_2, .p (pMv t3_18), none, 3⟩]))
 .skip))
 (.seq (.reg [⟨q3_19, .p (pMv t3_2), none, 0⟩,
  ⟨q3_20, .p (pMv t3_0), none, 0⟩,
  ⟨q3_21, .p (pCvi .u8 t3_20), none, 2⟩,
  ⟨q3_22, .p (pIxS (.cst (.s [.lit (.ofNat 0), .lit (.ofNat 1), .lit (.ofNat 2), .lit (.ofNat 2), .lit (.ofNat 3), .lit (.ofNat 3), .lit (.ofNat 3), .lit (.ofNat 3), .lit (.ofNat 4), .lit (.ofNat 4), .lit (.ofNat 4), .lit (.ofNat 4), .lit (.ofNat 4), .lit (.ofNat 4), .lit (.ofNat 4), .lit (.ofNat 4), .lit (.ofNat 5), .lit (.ofNat 5), .lit (.ofNat 5), .lit (.ofNat 5), .lit (.ofNat 5), .lit (.ofNat 5), .lit (.ofNat 5), .lit (.ofNat 5), .lit (.ofNat 5), .lit (.ofNat 5), .lit (.ofNat 5), .lit (.ofNat 5), .lit (.ofNat 5), .lit (.ofNat 5), .lit (.ofNat 5), .lit (.ofNat 5), .lit (.ofNat 6), .lit (.ofNat 6), .lit (.ofNat 6), .lit (.ofNat 6), .lit (.ofNat 6), .lit (.ofNat 6), .lit (.ofNat 6), .lit (.ofNat 6), .lit (.ofNat 6), .lit (.ofNat 6), .lit (.ofNat 6), .lit (.ofNat 6), .lit (.ofNat 6), .lit (.ofNat 6), .lit (.ofNat 6), .lit (.ofNat 6), .lit (.ofNat 6), .lit (.ofNat 6), .lit (.ofNat 6), .lit (.ofNat 6), .lit (.ofNat 6), .lit (.ofNat 6), .lit (.ofNat 6), .lit (.ofNat 6), .lit (.ofNat 6), .lit (.ofNat 6), .lit (.ofNat 6), .lit (.ofNat 6), .lit (.ofNat 6), .lit (.ofNat 6), .lit (.ofNat 6), .lit (.ofNat 6), .lit (.ofNat 7), .lit (.ofNat 7), .lit (.ofNat 7), .lit (.ofNat 7), .lit (.ofNat 7), .lit (.ofNat 7), .lit (.ofNat 7), .lit (.ofNat 7), .lit (.ofNat 7), .lit (.ofNat 7), .lit (.ofNat 7), .lit (.ofNat 7), .lit (.ofNat 7), .lit (.ofNat 7), .lit (.ofNat 7), .lit (.ofNat 7), .lit (.ofNat 7), .lit (.ofNat 7), .lit (.ofNat 7), .lit (.ofNat 7), .lit (.ofNat 7), .lit (.ofNat 7), .lit (.ofNat 7), .lit (.ofNat 7), .lit (.ofNat 7), .lit (.ofNat 7), .lit (.ofNat 7), .lit (.ofNat 7), .lit (.ofNat 7), .lit (.ofNat 7), .lit (.ofNat 7), .lit (.ofNat 7), .lit (.ofNat 7), .lit (.ofNat 7), .lit (.ofNat 7), .lit (.ofNat 7), .lit (.ofNat 7), .lit (.ofNat 7), .lit (.ofNat 7), .lit (.ofNat 7), .lit (.ofNat 7), .lit (.ofNat 7), .lit (.ofNat 7), .lit (.ofNat 7), .lit (.ofNat 7), .lit (.ofNat 7), .lit (.ofNat 7), .lit (.ofNat 7), .lit (.ofNat 7), .lit (.ofNat 7), .lit (.ofNat 7), .lit (.ofNat 7), .lit (.ofNat 7), .lit (.ofNat 7), .lit (.ofNat 7), .lit (.ofNat 7), .lit (.ofNat 7), .lit (.ofNat 7), .lit (.ofNat 7), .lit (.ofNat 7), .lit (.ofNat 7), .lit (.ofNat 7), .lit (.ofNat 7), .lit (.ofNat 7), .lit (.ofNat 8), .lit (.ofNat 8), .lit (.ofNat 8), .lit (.ofNat 8), .lit (.ofNat 8), .lit (.ofNat 8), .lit (.ofNat 8), .lit (.ofNat 8), .lit (.ofNat 8), .lit (.ofNat 8), .lit (.ofNat 8), .lit (.ofNat 8), .lit (.ofNat 8), .lit (.ofNat 8), .lit (.ofNat 8), .lit (.ofNat 8), .lit (.ofNat 8), .lit (.ofNat 8), .lit (.ofNat 8), .lit (.ofNat 8), .lit (.ofNat 8), .lit (.ofNat 8), .lit (.ofNat 8), .lit (.ofNat 8), .lit (.ofNat 8), .lit (.ofNat 8), .lit (.ofNat 8), .lit (.ofNat 8), .lit (.ofNat 8), .lit (.ofNat 8), .lit (.ofNat 8), .lit (.ofNat 8), .lit (.ofNat 8), .lit (.ofNat 8), .lit (.ofNat 8), .lit (.ofNat 8), .lit (.ofNat 8), .lit (.ofNat 8), .lit (.ofNat 8), .lit (.ofNat 8), .lit (.ofNat 8), .lit (.ofNat 8), .lit (.ofNat 8), .lit (.ofNat 8), .lit (.ofNat 8), .lit (.ofNat 8), .lit (.ofNat 8), .lit (.ofNat 8), .lit (.ofNat 8), .lit (.ofNat 8), .lit (.ofNat 8), .lit (.ofNat 8), .lit (.ofNat 8), .lit (.ofNat 8), .lit (.ofNat 8), .lit (.ofNat 8), .lit (.ofNat 8), .lit (.ofNat 8), .lit (.ofNat 8), .lit (.ofNat 8), .lit (.ofNat 8), .lit (.ofNat 8), .lit (.ofNat 8), .lit (.ofNat 8), .lit (.ofNat 8), .lit (.ofNat 8), .lit (.ofNat 8), .lit (.ofNat 8), .lit (.ofNat 8), .lit (.ofNat 8), .lit (.ofNat 8), .lit (.ofNat 8), .lit (.ofNat 8), .lit (.ofNat 8), .lit (.ofNat 8), .lit (.ofNat 8), .lit (.ofNat 8), .lit (.ofNat 8), .lit (.ofNat 8), .lit (.ofNat 8), .lit (.ofNat 8), .lit (.ofNat 8), .lit (.ofNat 8), .lit (.ofNat 8), .lit (.ofNat 8), .lit (.ofNat 8), .lit (.ofNat 8), .lit (.ofNat 8), .lit (.ofNat 8), .lit (.ofNat 8), .lit (.ofNat 8), .lit (.ofNat 8), .lit (.ofNat 8), .lit (.ofNat 8), .lit (.ofNat 8), .lit (.ofNat 8), .lit (.ofNat 8), .lit (.ofNat 8), .lit (.ofNat 8), .lit (.ofNat 8), .lit (.ofNat 8), .lit (.ofNat 8), .lit (.ofNat 8), .lit (.ofNat 8), .lit (.ofNat 8), .lit (.ofNat 8), .lit (.ofNat 8), .lit (.ofNat 8), .lit (.ofNat 8), .lit (.ofNat 8), .lit (.ofNat 8), .lit (.ofNat 8), .lit (.ofNat 8), .lit (.ofNat 8), .lit (.ofNat 8), .lit (.ofNat 8), .lit (.ofNat 8), .lit (.ofNat 8), .lit (.ofNat 8), .lit (.ofNat 8), .lit (.ofNat 8), .lit (.ofNat 8), .lit (.ofNat 8), .lit (.ofNat 8), .lit (.ofNat 8), .lit (.ofNat 8), .lit (.ofNat 8), .lit (.ofNat 8)])) t3_21), none, 6⟩,
  ⟨q3_23, .p (pCvi .i64 t3_22), none, 14⟩,
  ⟨q3_24, .p (pAdd t3_19 t3_23), none, 31⟩,
  ⟨q3_2, .p (pMv t3_24), none, 63⟩])
 .ret)))))⟩
theorem f290_ok : cFunc Cx0 Tryz.f290 = some f290 := by kernel_rfl
noncomputable def f302 : SFn := ⟨4, 148, [p4_0, p4_1, p4_2, p4_3, p4_4], [],
 (.seq (.reg [⟨q4_10, .p (pMv (.cst (.b true))), none, 0⟩])
 (.seq (.reg [⟨q4_11, .p (pMv (.cst (.b true))), none, 0⟩])
 (.block 0 (.loop (.block 1 (.seq (.reg [⟨q4_21, .p (pMv t4_2), none, 0⟩,
  ⟨q4_22, .p (pMv t4_1), none, 0⟩,
  ⟨q4_23, .p (pSub t4_21 t4_22), none, 3⟩,
  ⟨q4_12, .p (pMv t4_23), none, 7⟩])
 (.seq (.seq (.reg [⟨q4_24, .p (pMv t4_12), none, 0⟩,
  ⟨q4_25, .p (pLe t4_24 c12), none, 1⟩])
 (.cond t4_25
 (.seq (.reg [⟨q4_26, .p (pMv t4_0), none, 0⟩,
  ⟨q4_27, .p (pMv t4_1), none, 0⟩,
  ⟨q4_28, .p (pMv t4_2), none, 0⟩,
  ⟨q4_29, .p (pMv t4_4), none, 0⟩,
  ⟨q4_30, .call (.cst (.f 356 [])) [t4_26, t4_27, t4_28, t4_29], none, 15⟩])
 .ret)
 .skip))
 (.seq (.seq (.reg [⟨q4_31, .p (pMv t4_3), none, 0⟩,
  ⟨q4_32, .p (pEq k3 t4_31 c0), none, 1⟩])
 (.cond t4_32
 (.seq (.reg [⟨q4_33, .p (pMv t4_0), none, 0⟩,
  ⟨q4_34, .p (pMv t4_1), none, 0⟩,
  ⟨q4_35, .p (pMv t4_2), none, 0⟩,
  ⟨q4_36, .p (pMv t4_4), none, 0⟩,
  ⟨q4_37, .call (.cst (.f 357 [])) [t4_33, t4_34, t4_35, t4_36], none, 15⟩])
 .ret)
 .skip))
 (.seq (.seq (.reg [⟨q4_38, .p (pMv t4_10), none, 0⟩,
  ⟨q4_39, .p (pNot t4_38), none, 1⟩])
 (.cond t4_39
 (.seq (.reg [⟨q4_40, .p (pMv t4_0), none, 0⟩,
  ⟨q4_41, .p (pMv t4_1), none, 0⟩,
  ⟨q4_42, .p (pMv t4_2), none, 0⟩,
  ⟨q4_43, .p (pMv t4_4), none, 0⟩,
  ⟨q4_44, .call (.cst (.f 358 [])) [t4_40, t4_41, t4_42, t4_43], none, 15⟩])
 (.reg [⟨q4_45, .p (pMv t4_3), none, 0⟩,
  ⟨q4_46, .p (pSub t4_45 c1), none, 1⟩,
  ⟨q4_3, .p (pMv t4_46), none, 3⟩]))
 .skip))
 (.seq (.reg [⟨q4_48, .p (pMv t4_0), none, 0⟩,
  ⟨q4_49, .p (pMv t4_1), none, 0⟩,
  ⟨q4_50, .p (pMv t4_2), none, 0⟩,
  ⟨q4_51, .p (pMv t4_4), none, 0⟩,
  ⟨q4_52, .call (.cst (.f 359 [])) [t4_48, t4_49, t4_50, t4_51], none, 15⟩,
  ⟨q4_47, .p (pMv t4_52), none, 31⟩,
  ⟨q4_53, .p (pExt t4_47 0), none, 63⟩,
  ⟨q4_54, .p (pExt t4_47 1), none, 63⟩,
  ⟨q4_13, .p (pMv t4_53), none, 127⟩,
  ⟨q4_14, .p (pMv t4_54), none, 511⟩])
 (.seq (.seq (.reg [⟨q4_55, .p (pMv t4_14), none, 0⟩,
  ⟨q4_56, .p (pEq k433 t4_55 c2), none, 1⟩])
 (.cond t4_56
 (.seq (.reg [⟨q4_57, .p (pMv t4_0), none, 0⟩,
  ⟨q4_58, .p (pMv t4_1), none, 0⟩,
  ⟨q4_59, .p (pMv t4_2), none, 0⟩,
  ⟨q4_60, .p (pMv t4_4), none, 0⟩,
  ⟨q4_61, .call (.cst (.f 360 [])) [t4_57, t4_58, t4_59, t4_60], none, 15⟩])
 (.seq (.reg [⟨q4_62, .p (pMv t4_2), none, 0⟩,
  ⟨q4_63, .p (pSub t4_62 c1), none, 1⟩,
  ⟨q4_64, .p (pMv t4_13), none, 0⟩,
  ⟨q4_65, .p (pMv t4_1), none, 0⟩,
  ⟨q4_66, .p (pSub t4_64 t4_65), none, 12⟩,
  ⟨q4_67, .p (pSub t4_63 t4_66), none, 31⟩,
  ⟨q4_13, .p (pMv t4_67), none, 63⟩])
 (.reg [⟨q4_14, .p (pMv c1), none, 0⟩])))
 .skip))
 (.seq (.seq (.reg [⟨q4_68, .p (pMv t4_10), none, 0⟩,
  ⟨q4_69, .p (pMv t4_68), none, 1⟩,
  ⟨q4_70, .p (pMv t4_11), (some (p4_69, true)), 3⟩,
  ⟨q4_71, .p (pPick t4_69 t4_70 (.cst (.b false))), none, 7⟩,
  ⟨q4_72, .p (pMv t4_71), none, 15⟩,
  ⟨q4_73, .p (pMv t4_14), (some (p4_72, true)), 31⟩,
  ⟨q4_74, .p (pEq k433 t4_73 c1), (some (p4_72, true)), 63⟩,
  ⟨q4_75, .p (pPick t4_72 t4_74 (.cst (.b false))), none, 127⟩])
 (.cond t4_75
 (.seq (.reg [⟨q4_76, .p (pMv t4_0), none, 0⟩,
  ⟨q4_77, .p (pMv t4_1), none, 0⟩,
  ⟨q4_78, .p (pMv t4_2), none, 0⟩,
  ⟨q4_79, .p (pMv t4_4), none, 0⟩,
  ⟨q4_80, .call (.cst (.f 361 [])) [t4_76, t4_77, t4_78, t4_79], none, 15⟩])
 (.cond t4_80
 .ret
 .skip))
 .skip))
 (.seq (.seq (.dreg [⟨q4_81, .p (pMv t4_1), none, 0⟩,
  ⟨q4_82, .p (pGt t4_81 c0), none, 1⟩,
  ⟨q4_83, .p (pMv t4_82), none, 3⟩,
  ⟨q4_84, .p (pMv t4_4), (some (p4_83, true)), 7⟩,
  ⟨q4_85, .p (pMv t4_0), (some (p4_83, true)), 7⟩,
  ⟨q4_86, .p (pMv t4_1), (some (p4_83, true)), 7⟩,
  ⟨q4_87, .p (pSub t4_86 c1), (some (p4_83, true)), 39⟩,
  ⟨q4_88, .p (pIxL 2 t4_85 t4_87), (some (p4_83, true)), 119⟩,
  ⟨q4_89, .r (rLdn 2 t4_88), (some (p4_83, true)), 247⟩,
  ⟨q4_90, .p (pMv t4_0), (some (p4_83, true)), 7⟩,
  ⟨q4_91, .p (pMv t4_13), (some (p4_83, true)), 7⟩,
  ⟨q4_92, .p (pIxL 2 t4_90 t4_91), (some (p4_83, true)), 1543⟩,
  ⟨q4_93, .r (rLdn 2 t4_92), (some (p4_83, true)), 3591⟩,
  ⟨q4_94, .call t4_84 [t4_89, t4_93], (some (p4_83, true)), 8191⟩,
  ⟨q4_95, .p (pLt t4_94 c0), (some (p4_83, true)), 16383⟩,
  ⟨q4_96, .p (pNot t4_95), (some (p4_83, true)), 32767⟩,
  ⟨q4_97, .p (pPick t4_83 t4_96 (.cst (.b false))), none, 65535⟩])
 (.cond t4_97
 (.seq (.reg [⟨q4_98, .p (pMv t4_0), none, 0⟩,
  ⟨q4_99, .p (pMv t4_1), none, 0⟩,
  ⟨q4_100, .p (pMv t4_2), none, 0⟩,
  ⟨q4_101, .p (pMv t4_13), none, 0⟩,
  ⟨q4_102, .p (pMv t4_4), none, 0⟩,
  ⟨q4_103, .call (.cst (.f 362 [])) [t4_98, t4_99, t4_100, t4_101, t4_102], none, 31⟩,
  ⟨q4_15, .p (pMv t4_103), none, 63⟩])
 (.seq (.reg [⟨q4_104, .p (pMv t4_15), none, 0⟩,
  ⟨q4_1, .p (pMv t4_104), none, 1⟩])
 (.exit 1)))
 .skip))
 (.seq (.reg [⟨q4_106, .p (pMv t4_0), none, 0⟩,
  ⟨q4_107, .p (pMv t4_1), none, 0⟩,
  ⟨q4_108, .p (pMv t4_2), none, 0⟩,
  ⟨q4_109, .p (pMv t4_13), none, 0⟩,
  ⟨q4_110, .p (pMv t4_4), none, 0⟩,
  ⟨q4_111, .call (.cst (.f 363 [])) [t4_106, t4_107, t4_108, t4_109, t4_110], none, 31⟩,
  ⟨q4_105, .p (pMv t4_111), none, 63⟩,
  ⟨q4_112, .p (pExt t4_105 0), none, 127⟩,
  ⟨q4_113, .p (pExt t4_105 1), none, 127⟩,
  ⟨q4_16, .p (pMv t4_112), none, 255⟩,
  ⟨q4_17, .p (pMv t4_113), none, 1023⟩])
 (.seq (.reg [⟨q4_114, .p (pMv t4_17), none, 0⟩,
  ⟨q4_11, .p (pMv t4_114), none, 1⟩])
 (.seq (.reg [⟨q4_115, .p (pMv t4_16), none, 0⟩,
  ⟨q4_116, .p (pMv t4_1), none, 0⟩,
  ⟨q4_117, .p (pSub t4_115 t4_116), none, 3⟩,
  ⟨q4_118, .p (pMv t4_2), none, 0⟩,
  ⟨q4_119, .p (pMv t4_16), none, 0⟩,
  ⟨q4_120, .p (pSub t4_118 t4_119), none, 24⟩,
  ⟨q4_18, .p (pMv t4_117), none, 7⟩,
  ⟨q4_19, .p (pMv t4_120), none, 127⟩])
 (.seq (.reg [⟨q4_121, .p (pMv t4_12), none, 0⟩,
  ⟨q4_122, .p (pQuo t4_121 c8), none, 1⟩,
  ⟨q4_20, .p (pMv t4_122), none, 3⟩])
 (.seq (.reg [⟨q4_123, .p (pMv t4_18), none, 0⟩,
  ⟨q4_124, .p (pMv t4_19), none, 0⟩,
  ⟨q4_125, .p (pLt t4_123 t4_124), none, 3⟩])
 (.cond t4_125
 (.seq (.reg [⟨q4_126, .p (pMv t4_18), none, 0⟩,
  ⟨q4_127, .p (pMv t4_20), none, 0⟩,
  ⟨q4_128, .p (pGe t4_126 t4_127), none, 3⟩,
  ⟨q4_10, .p (pMv t4_128), none, 7⟩])
 (.seq (.reg [⟨q4_129, .p (pMv t4_0), none, 0⟩,
  ⟨q4_130, .p (pMv t4_1), none, 0⟩,
  ⟨q4_131, .p (pMv t4_16), none, 0⟩,
  ⟨q4_132, .p (pMv t4_3), none, 0⟩,
  ⟨q4_133, .p (pMv t4_4), none, 0⟩,
  ⟨q4_134, .call (.cst (.f 302 [])) [t4_129, t4_130, t4_131, t4_132, t4_133], none, 31⟩])
 (.reg [⟨q4_135, .p (pMv t4_16), none, 0⟩,
  ⟨q4_136, .p (pAdd t4_135 c1), none, 1⟩,
  ⟨q4_1, .p (pMv t4_136), none, 3⟩])))
 (.seq (.reg [⟨q4_137, .p (pMv t4_19), none, 0⟩,
  ⟨q4_138, .p (pMv t4_20), none, 0⟩,
  ⟨q4_139, .p (pGe t4_137 t4_138), none, 3⟩,
  ⟨q4_10, .p (pMv t4_139), none, 7⟩])
 (.seq (.reg [⟨q4_140, .p (pMv t4_0), none, 0⟩,
  ⟨q4_141, .p (pMv t4_16), none, 0⟩,
  ⟨q4_142, .p (pAdd t4_141 c1), none, 2⟩,
  ⟨q4_143, .p (pMv t4_2), none, 0⟩,
  ⟨q4_144, .p (pMv t4_3), none, 0⟩,
  ⟨q4_145, .p (pMv t4_4), none, 0⟩,
  ⟨q4_146, .call (.cst (.f 302 [])) [t4_140, t4_142, t4_143, t4_144, t4_145], none, 63⟩])
 (.reg [⟨q4_147, .p (pMv t4_16), none, 0⟩,
  ⟨q4_2, .p (pMv t4_147), none, 1⟩]))))))))))))))))))))))⟩
theorem f302_ok : cFunc Cx0 Tryz.f302 = some f302 := by kernel_rfl
noncomputable def f356 : SFn := ⟨3, 53, [p3_0, p3_1, p3_2, p3_3], [],
 (.seq (.reg [⟨q3_10, .p (pMv t3_1), none, 0⟩,
  ⟨q3_11, .p (pAdd t3_10 c1), none, 1⟩,
  ⟨q3_8, .p (pMv t3_11), none, 3⟩])
 (.block 0 (.loop (.seq (.seq (.reg [⟨q3_12, .p (pMv t3_8), none, 0⟩,
  ⟨q3_13, .p (pMv t3_2), none, 0⟩,
  ⟨q3_14, .p (pLt t3_12 t3_13), none, 3⟩])
 (.cond t3_14
 .skip
 (.exit 0)))
 (.seq (.block 1 (.seq (.reg [⟨q3_17, .p (pMv t3_8), none, 0⟩,
  ⟨q3_9, .p (pMv t3_17), none, 1⟩])
 (.block 2 (.loop (.seq (.seq (.dreg [⟨q3_18, .p (pMv t3_9), none, 0⟩,
  ⟨q3_19, .p (pMv t3_1), none, 0⟩,
  ⟨q3_20, .p (pGt t3_18 t3_19), none, 3⟩,
  ⟨q3_21, .p (pMv t3_20), none, 7⟩,
  ⟨q3_22, .p (pMv t3_3), (some (p3_21, true)), 15⟩,
  ⟨q3_23, .p (pMv t3_0), (some (p3_21, true)), 15⟩,
  ⟨q3_24, .p (pMv t3_9), (some (p3_21, true)), 15⟩,
  ⟨q3_25, .p (pIxL 2 t3_23 t3_24), (some (p3_21, true)), 111⟩,
  ⟨q3_26, .r (rLdn 2 t3_25), (some (p3_21, true)), 239⟩,
  ⟨q3_27, .p (pMv t3_0), (some (p3_21, true)), 15⟩,
  ⟨q3_28, .p (pMv t3_9), (some (p3_21, true)), 15⟩,
  ⟨q3_29, .p (pSub t3_28 c1), (some (p3_21, true)), 1039⟩,
  ⟨q3_30, .p (pIxL 2 t3_27 t3_29), (some (p3_21, true)), 3599⟩,
  ⟨q3_31, .r (rLdn 2 t3_30), (some (p3_21, true)), 7695⟩,
  ⟨q3_32, .call t3_22 [t3_26, t3_31], (some (p3_21, true)), 16383⟩,
  ⟨q3_33, .p (pLt t3_32 c0), (some (p3_21, true)), 32767⟩,
  ⟨q3_34, .p (pPick t3_21 t3_33 (.cst (.b false))), none, 65535⟩])
 (.cond t3_34
 .skip
 (.exit 2)))
 (.seq (.block 3 (.dreg [⟨q3_37, .p (pMv t3_0), none, 0⟩,
  ⟨q3_38, .p (pMv t3_9), none, 0⟩,
  ⟨q3_39, .p (pMv t3_0), none, 0⟩,
  ⟨q3_40, .p (pMv t3_9), none, 0⟩,
  ⟨q3_41, .p (pSub t3_40 c1), none, 8⟩,
  ⟨q3_42, .p (pMv t3_0), none, 0⟩,
  ⟨q3_43, .p (pMv t3_9), none, 0⟩,
  ⟨q3_44, .p (pSub t3_43 c1), none, 64⟩,
  ⟨q3_45, .p (pIxL 2 t3_42 t3_44), none, 224⟩,
  ⟨q3_46, .r (rLdn 2 t3_45), none, 480⟩,
  ⟨q3_47, .p (pMv t3_0), none, 0⟩,
  ⟨q3_48, .p (pMv t3_9), none, 0⟩,
  ⟨q3_49, .p (pIxL 2 t3_47 t3_48), none, 3072⟩,
  ⟨q3_50, .r (rLdn 2 t3_49), none, 7168⟩,
  ⟨q3_51, .p (pIxL 2 t3_37 t3_38), none, 16355⟩,
  ⟨none, .e (eSt 2 t3_51 t3_46), none, 32739⟩,
  ⟨q3_52, .p (pIxL 2 t3_39 t3_41), none, 65535⟩,
  ⟨none, .e (eSt 2 t3_52 t3_50), none, 131071⟩]))
 (.reg [⟨q3_35, .p (pMv t3_9), none, 0⟩,
  ⟨q3_36, .p (pSub t3_35 c1), none, 1⟩,
  ⟨q3_9, .p (pMv t3_36), none, 3⟩])))))))
 (.reg [⟨q3_15, .p (pMv t3_8), none, 0⟩,
  ⟨q3_16, .p (pAdd t3_15 c1), none, 1⟩,
  ⟨q3_8, .p (pMv t3_16), none, 3⟩]))))))⟩
theorem f356_ok : cFunc Cx0 Tryz.f356 = some f356 := by kernel_rfl
end Go.SE
