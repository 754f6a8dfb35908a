/- Written by mkcode.py: the code of the program's functions for the abstract machine. -/
import Derived.Test.YtladlgohahiaeaaM3
set_option linter.unusedSimpArgs false
set_option linter.unusedVariables false
namespace Go.Absm.D
open Go Go.Absm
set_option maxRecDepth 1000000
/- 3 girouette/girouettelaw05.CyclesGreatest : slots [0, 2, 3, 4, 5, 6, 7, 8, 9, 10, 12, 25, 32, 43, 47, 58, 63, 69, 85] -/
def o3_1 : List AOper := [⟨[.const (.bool false)],fMove,none,0⟩]
def c3_1 : ACode := .region o3_1 [(1,0)] false
def o3_4 : List AOper := [⟨[.const (.int .i64 (.ofNat 0))],fMove,none,0⟩]
def c3_4 : ACode := .region o3_4 [(2,0)] false
def o3_9 : List AOper := [⟨[.var 2],fMove,none,0⟩,
  ⟨[.loc 0,.const (.int .i64 (.ofNat 2))],fBin .lss,none,1⟩]
def c3_9 : ACode := .region o3_9 [(10,0)] false
def c3_10 : ACode := .cond (.var 10) .skip (.exit 0)
def c3_8 : ACode := .seq c3_9 c3_10
def o3_14 : List AOper := [⟨[.var 0],fMove,none,0⟩,
  ⟨[.const (.func (.func 15) [] []),.loc 0],fCall,none,1⟩,
  ⟨[.loc 0],fMove,none,3⟩,
  ⟨[.loc 0],fExtract 0,none,7⟩,
  ⟨[.loc 1],fExtract 1,none,7⟩,
  ⟨[.loc 1],fMove,none,15⟩,
  ⟨[.loc 1],fMove,none,63⟩]
def c3_14 : ACode := .region o3_14 [(3,1),(4,0)] false
def o3_17 : List AOper := [⟨[.var 0],fMove,none,0⟩,
  ⟨[.loc 0,.const (.int .i64 (.ofNat 0))],fBin .lss,none,1⟩,
  ⟨[.loc 0],fMove,none,3⟩,
  ⟨[.var 0],fMove,(some (0,false)),7⟩,
  ⟨[.loc 0,.const (.int .i64 (.ofNat 11))],fBin .gtr,(some (1,false)),15⟩,
  ⟨[.loc 2,.const (.bool true),.loc 0],fPick,none,31⟩]
def c3_17 : ACode := .region o3_17 [(11,0)] false
def o3_20 : List AOper := [⟨[.var 4],fMove,none,0⟩,
  ⟨[.loc 0,.const (.int .i64 (.ofNat 1))],fBin .neq,none,1⟩,
  ⟨[.loc 0],fMove,none,3⟩,
  ⟨[.var 3],fMove,(some (0,false)),7⟩,
  ⟨[.loc 0],fLenSl,(some (1,false)),15⟩,
  ⟨[.loc 0,.const (.int .i64 (.ofNat 0))],fBin .neq,(some (2,false)),31⟩,
  ⟨[.loc 3,.const (.bool true),.loc 0],fPick,none,63⟩]
def c3_20 : ACode := .region o3_20 [(12,0)] false
def o3_23 : List AOper := [⟨[.const (.bool false)],fMove,none,0⟩]
def c3_23 : ACode := .region o3_23 [(1,0)] false
def c3_22 : ACode := .seq c3_23 .ret
def c3_21 : ACode := .cond (.var 12) c3_22 .skip
def c3_19 : ACode := .seq c3_20 c3_21
def o3_25 : List AOper := [⟨[.var 0],fMove,none,0⟩,
  ⟨[.const (.func (.func 16) [] []),.loc 0],fCall,none,1⟩,
  ⟨[.loc 0],fMove,none,3⟩]
def c3_25 : ACode := .region o3_25 [(5,0)] false
def o3_28 : List AOper := [⟨[.var 4],fMove,none,0⟩,
  ⟨[.loc 0,.const (.int .i64 (.ofNat 0))],fBin .neq,none,1⟩,
  ⟨[.loc 0],fMove,none,3⟩,
  ⟨[.var 3],fMove,(some (0,false)),7⟩,
  ⟨[.loc 0],fLenSl,(some (1,false)),15⟩,
  ⟨[.var 5],fMove,(some (2,false)),7⟩,
  ⟨[.loc 0],fLenSl,(some (3,false)),39⟩,
  ⟨[.loc 2,.loc 0],fBin .neq,(some (4,false)),127⟩,
  ⟨[.loc 5,.const (.bool true),.loc 0],fPick,none,255⟩]
def c3_28 : ACode := .region o3_28 [(13,0)] false
def o3_31 : List AOper := [⟨[.const (.bool false)],fMove,none,0⟩]
def c3_31 : ACode := .region o3_31 [(1,0)] false
def c3_30 : ACode := .seq c3_31 .ret
def c3_29 : ACode := .cond (.var 13) c3_30 .skip
def c3_27 : ACode := .seq c3_28 c3_29
def o3_34 : List AOper := [⟨[.const (.int .i64 (.ofNat 0))],fMove,none,0⟩]
def c3_34 : ACode := .region o3_34 [(6,0)] false
def o3_39 : List AOper := [⟨[.var 6],fMove,none,0⟩,
  ⟨[.var 3],fMove,none,0⟩,
  ⟨[.loc 0],fLenSl,none,2⟩,
  ⟨[.loc 2,.loc 0],fBin .lss,none,7⟩]
def c3_39 : ACode := .region o3_39 [(14,0)] false
def c3_40 : ACode := .cond (.var 14) .skip (.exit 2)
def c3_38 : ACode := .seq c3_39 c3_40
def o3_44 : List AOper := [⟨[.var 3],fMove,none,0⟩,
  ⟨[.var 6],fMove,none,0⟩,
  ⟨[.loc 1,.loc 0],fIndexAddr 1,none,3⟩,
  ⟨[.loc 0],fLoad1,none,7⟩,
  ⟨[.var 5],fMove,none,0⟩,
  ⟨[.var 6],fMove,none,0⟩,
  ⟨[.loc 1,.loc 0],fIndexAddr 1,none,48⟩,
  ⟨[.loc 0],fLoad1,none,112⟩,
  ⟨[.loc 4,.loc 0],fBin .neq,none,255⟩]
def c3_44 : ACode := .region o3_44 [(15,0)] true
def o3_47 : List AOper := [⟨[.const (.bool false)],fMove,none,0⟩]
def c3_47 : ACode := .region o3_47 [(1,0)] false
def c3_46 : ACode := .seq c3_47 .ret
def c3_45 : ACode := .cond (.var 15) c3_46 .skip
def c3_43 : ACode := .seq c3_44 c3_45
def c3_42 : ACode := .block 3 c3_43
def o3_48 : List AOper := [⟨[.var 6],fMove,none,0⟩,
  ⟨[.loc 0,.const (.int .i64 (.ofNat 1))],fBin .add,none,1⟩,
  ⟨[.loc 0],fMove,none,3⟩]
def c3_48 : ACode := .region o3_48 [(6,0)] false
def c3_41 : ACode := .seq c3_42 c3_48
def c3_37 : ACode := .seq c3_38 c3_41
def c3_36 : ACode := .loop c3_37
def c3_35 : ACode := .block 2 c3_36
def c3_33 : ACode := .seq c3_34 c3_35
def o3_50 : List AOper := [⟨[.var 0],fMove,none,0⟩,
  ⟨[.loc 0,.const (.int .i64 (.ofNat 1))],fBin .add,none,1⟩,
  ⟨[.loc 0],fMove,none,3⟩]
def c3_50 : ACode := .region o3_50 [(7,0)] false
def o3_52 : List AOper := [⟨[.const (.int .i64 (.ofNat 0))],fMove,none,0⟩]
def c3_52 : ACode := .region o3_52 [(8,0)] false
def o3_55 : List AOper := [⟨[.const (.int .i64 (.ofNat 1))],fMove,none,0⟩]
def c3_55 : ACode := .region o3_55 [(9,0)] false
def o3_60 : List AOper := [⟨[.var 9],fMove,none,0⟩,
  ⟨[.var 7],fMove,none,0⟩,
  ⟨[.loc 1,.loc 0],fBin .leq,none,3⟩]
def c3_60 : ACode := .region o3_60 [(16,0)] false
def c3_61 : ACode := .cond (.var 16) .skip (.exit 4)
def c3_59 : ACode := .seq c3_60 c3_61
def o3_65 : List AOper := [⟨[.var 7],fMove,none,0⟩,
  ⟨[.var 9],fMove,none,0⟩,
  ⟨[.loc 1,.loc 0],fBin .rem,none,3⟩,
  ⟨[.loc 0,.const (.int .i64 (.ofNat 0))],fBin .eql,none,7⟩]
def c3_65 : ACode := .region o3_65 [(17,0)] false
def o3_67 : List AOper := [⟨[.var 8],fMove,none,0⟩,
  ⟨[.var 9],fMove,none,0⟩,
  ⟨[.const (.func (.func 17) [] []),.loc 0],fCall,none,2⟩,
  ⟨[.var 7],fMove,none,0⟩,
  ⟨[.var 9],fMove,none,0⟩,
  ⟨[.loc 1,.loc 0],fBin .quo,none,24⟩,
  ⟨[.const (.int .i64 (.ofNat 1)),.loc 0],fBin .shl,none,56⟩,
  ⟨[.loc 4,.loc 0],fBin .mul,none,126⟩,
  ⟨[.loc 7,.loc 0],fBin .add,none,255⟩,
  ⟨[.loc 0],fMove,none,511⟩]
def c3_67 : ACode := .region o3_67 [(8,0)] true
def c3_66 : ACode := .cond (.var 17) c3_67 .skip
def c3_64 : ACode := .seq c3_65 c3_66
def c3_63 : ACode := .block 5 c3_64
def o3_68 : List AOper := [⟨[.var 9],fMove,none,0⟩,
  ⟨[.loc 0,.const (.int .i64 (.ofNat 2))],fBin .add,none,1⟩,
  ⟨[.loc 0],fMove,none,3⟩]
def c3_68 : ACode := .region o3_68 [(9,0)] false
def c3_62 : ACode := .seq c3_63 c3_68
def c3_58 : ACode := .seq c3_59 c3_62
def c3_57 : ACode := .loop c3_58
def c3_56 : ACode := .block 4 c3_57
def c3_54 : ACode := .seq c3_55 c3_56
def o3_70 : List AOper := [⟨[.var 7],fMove,none,0⟩,
  ⟨[.const (.int .i64 (.ofNat 2)),.loc 0],fBin .mul,none,1⟩,
  ⟨[.var 3],fMove,none,0⟩,
  ⟨[.loc 0],fLenSl,none,4⟩,
  ⟨[.loc 2,.loc 0],fBin .mul,none,15⟩,
  ⟨[.var 8],fMove,none,0⟩,
  ⟨[.loc 1,.loc 0],fBin .neq,none,63⟩]
def c3_70 : ACode := .region o3_70 [(18,0)] false
def o3_73 : List AOper := [⟨[.const (.bool false)],fMove,none,0⟩]
def c3_73 : ACode := .region o3_73 [(1,0)] false
def c3_72 : ACode := .seq c3_73 .ret
def c3_71 : ACode := .cond (.var 18) c3_72 .skip
def c3_69 : ACode := .seq c3_70 c3_71
def c3_53 : ACode := .seq c3_54 c3_69
def c3_51 : ACode := .seq c3_52 c3_53
def c3_49 : ACode := .seq c3_50 c3_51
def c3_32 : ACode := .seq c3_33 c3_49
def c3_26 : ACode := .seq c3_27 c3_32
def c3_24 : ACode := .seq c3_25 c3_26
def c3_18 : ACode := .cond (.var 11) c3_19 c3_24
def c3_16 : ACode := .seq c3_17 c3_18
def o3_74 : List AOper := [⟨[.var 0],fMove,none,0⟩,
  ⟨[.loc 0],fConvInt .u64,none,1⟩,
  ⟨[.loc 0,.const (.int .u64 (.ofNat 12))],fBin .rem,none,3⟩,
  ⟨[.loc 0],fConvInt .i64,none,7⟩,
  ⟨[.loc 0],fMove,none,15⟩]
def c3_74 : ACode := .region o3_74 [(0,0)] false
def c3_15 : ACode := .seq c3_16 c3_74
def c3_13 : ACode := .seq c3_14 c3_15
def c3_12 : ACode := .block 1 c3_13
def o3_75 : List AOper := [⟨[.var 2],fMove,none,0⟩,
  ⟨[.loc 0,.const (.int .i64 (.ofNat 1))],fBin .add,none,1⟩,
  ⟨[.loc 0],fMove,none,3⟩]
def c3_75 : ACode := .region o3_75 [(2,0)] false
def c3_11 : ACode := .seq c3_12 c3_75
def c3_7 : ACode := .seq c3_8 c3_11
def c3_6 : ACode := .loop c3_7
def c3_5 : ACode := .block 0 c3_6
def c3_3 : ACode := .seq c3_4 c3_5
def o3_77 : List AOper := [⟨[.const (.func (.func 18) [] [])],fCall,none,0⟩,
  ⟨[.loc 0],fMove,none,1⟩]
def c3_77 : ACode := .region o3_77 [(1,0)] false
def c3_76 : ACode := .seq c3_77 .ret
def c3_2 : ACode := .seq c3_3 c3_76
def c3_0 : ACode := .seq c3_1 c3_2
def vm3 : List Nat := [0, 2, 3, 4, 5, 6, 7, 8, 9, 10, 12, 25, 32, 43, 47, 58, 63, 69, 85]
def c3 : AFn := ⟨1, 19, [.var 1], c3_0⟩
/- 5 girouette/girouettelaw05.CyclesFollows : slots [0, 1, 4, 5, 6, 7, 8, 9, 10, 11, 12, 18, 42, 49, 56, 71] -/
def o5_1 : List AOper := [⟨[.const (.bool false)],fMove,none,0⟩]
def c5_1 : ACode := .region o5_1 [(2,0)] false
def o5_3 : List AOper := [⟨[.var 0],fMove,none,0⟩,
  ⟨[.const (.func (.func 25) [] []),.loc 0],fCall,none,1⟩,
  ⟨[.loc 0],fMove,none,3⟩]
def c5_3 : ACode := .region o5_3 [(3,0)] false
def o5_5 : List AOper := [⟨[.var 1],fMove,none,0⟩,
  ⟨[.const (.func (.func 26) [] []),.loc 0,.const (.int .i64 (.ofNat 14))],fCall,none,1⟩,
  ⟨[.loc 0],fMove,none,3⟩]
def c5_5 : ACode := .region o5_5 [(4,0)] false
def o5_8 : List AOper := [⟨[.const (.int .i64 (.ofNat 0))],fMove,none,0⟩]
def c5_8 : ACode := .region o5_8 [(5,0)] false
def o5_13 : List AOper := [⟨[.var 5],fMove,none,0⟩,
  ⟨[.loc 0,.const (.int .i64 (.ofNat 2))],fBin .lss,none,1⟩]
def c5_13 : ACode := .region o5_13 [(11,0)] false
def c5_14 : ACode := .cond (.var 11) .skip (.exit 0)
def c5_12 : ACode := .seq c5_13 c5_14
def o5_18 : List AOper := [⟨[.var 3],fMove,none,0⟩,
  ⟨[.var 4],fMove,none,0⟩,
  ⟨[.const (.func (.func 27) [] []),.loc 1,.loc 0],fCall,none,3⟩,
  ⟨[.loc 0],fMove,none,7⟩,
  ⟨[.loc 0],fExtract 0,none,15⟩,
  ⟨[.loc 1],fExtract 1,none,15⟩,
  ⟨[.loc 1],fMove,none,31⟩,
  ⟨[.loc 1],fMove,none,127⟩]
def c5_18 : ACode := .region o5_18 [(6,1),(7,0)] false
def o5_20 : List AOper := [⟨[.var 3],fMove,none,0⟩,
  ⟨[.var 4],fMove,none,0⟩,
  ⟨[.const (.func (.func 28) [] []),.loc 1,.loc 0],fCall,none,3⟩,
  ⟨[.loc 0],fMove,none,7⟩,
  ⟨[.loc 0],fExtract 0,none,15⟩,
  ⟨[.loc 1],fExtract 1,none,15⟩,
  ⟨[],fAlloc [(.int .i64 (.ofNat 0)),(.int .i64 (.ofNat 0))],none,0⟩,
  ⟨[.loc 0,.loc 2],fStore 2,none,95⟩,
  ⟨[.loc 2],fMove,none,255⟩]
def c5_20 : ACode := .region o5_20 [(8,2),(9,0)] false
def o5_22 : List AOper := [⟨[.var 3],fMove,none,0⟩,
  ⟨[.var 4],fMove,none,0⟩,
  ⟨[.const (.func (.func 29) [] []),.loc 1,.loc 0],fCall,none,3⟩,
  ⟨[.loc 0],fMove,none,7⟩]
def c5_22 : ACode := .region o5_22 [(10,0)] false
def o5_25 : List AOper := [⟨[.var 7],fMove,none,0⟩,
  ⟨[.loc 0,.const (.int .i64 (.ofNat 0))],fBin .neq,none,1⟩,
  ⟨[.loc 0],fMove,none,3⟩,
  ⟨[.var 6],fMove,(some (0,false)),7⟩,
  ⟨[.var 10],fMove,(some (1,false)),7⟩,
  ⟨[.loc 1,.loc 0],fEqD true .b,(some (2,false)),31⟩,
  ⟨[.loc 3,.const (.bool true),.loc 0],fPick,none,63⟩]
def c5_25 : ACode := .region o5_25 [(12,0)] false
def o5_28 : List AOper := [⟨[.const (.bool false)],fMove,none,0⟩]
def c5_28 : ACode := .region o5_28 [(2,0)] false
def c5_27 : ACode := .seq c5_28 .ret
def c5_26 : ACode := .cond (.var 12) c5_27 .skip
def c5_24 : ACode := .seq c5_25 c5_26
def o5_31 : List AOper := [⟨[.var 10],fMove,none,0⟩,
  ⟨[.loc 0],fUn .not,none,1⟩,
  ⟨[.loc 0],fMove,none,3⟩,
  ⟨[.var 4],fMove,(some (0,false)),7⟩,
  ⟨[.loc 0],fLenSl,(some (1,false)),15⟩,
  ⟨[.loc 0,.const (.int .i64 (.ofNat 6))],fBin .gtr,(some (2,false)),31⟩,
  ⟨[.loc 3,.const (.bool true),.loc 0],fPick,none,63⟩]
def c5_31 : ACode := .region o5_31 [(13,0)] false
def o5_34 : List AOper := [⟨[.var 9],fMove,none,0⟩,
  ⟨[.loc 0,.const (.int .i64 (.ofNat 1))],fBin .neq,none,1⟩,
  ⟨[.loc 0],fMove,none,3⟩,
  ⟨[.var 8],fLoadN 2,(some (0,false)),7⟩,
  ⟨[],fBuild [(.int .i64 (.ofNat 0)),(.int .i64 (.ofNat 0))] [],(some (1,false)),7⟩,
  ⟨[.loc 1,.loc 0],fEqD true (.agg [(0,none,.i),(1,none,.i)]),(some (2,false)),31⟩,
  ⟨[.loc 3,.const (.bool true),.loc 0],fPick,none,63⟩]
def c5_34 : ACode := .region o5_34 [(14,0)] false
def o5_37 : List AOper := [⟨[.const (.bool false)],fMove,none,0⟩]
def c5_37 : ACode := .region o5_37 [(2,0)] false
def c5_36 : ACode := .seq c5_37 .ret
def c5_35 : ACode := .cond (.var 14) c5_36 .skip
def c5_33 : ACode := .seq c5_34 c5_35
def o5_39 : List AOper := [⟨[.var 9],fMove,none,0⟩,
  ⟨[.loc 0,.const (.int .i64 (.ofNat 0))],fBin .neq,none,1⟩,
  ⟨[.loc 0],fMove,none,3⟩,
  ⟨[.var 3],fMove,(some (0,false)),7⟩,
  ⟨[.var 8],fLoadN 2,(some (1,false)),7⟩,
  ⟨[.const (.func (.func 30) [] []),.loc 1,.loc 0],fCall,(some (2,false)),31⟩,
  ⟨[.loc 0],fUn .not,(some (3,false)),63⟩,
  ⟨[.loc 4,.const (.bool true),.loc 0],fPick,none,127⟩,
  ⟨[.loc 0],fMove,none,255⟩,
  ⟨[.var 3],fMove,(some (0,false)),511⟩,
  ⟨[.var 4],fMove,(some (1,false)),511⟩,
  ⟨[.var 8],fLoadN 2,(some (2,false)),511⟩,
  ⟨[.const (.func (.func 31) [] []),.loc 2,.loc 1,.loc 0],fCall,(some (3,false)),4095⟩,
  ⟨[.loc 0],fUn .not,(some (4,false)),8191⟩,
  ⟨[.loc 5,.const (.bool true),.loc 0],fPick,none,16383⟩]
def c5_39 : ACode := .region o5_39 [(15,0)] false
def o5_42 : List AOper := [⟨[.const (.bool false)],fMove,none,0⟩]
def c5_42 : ACode := .region o5_42 [(2,0)] false
def c5_41 : ACode := .seq c5_42 .ret
def c5_40 : ACode := .cond (.var 15) c5_41 .skip
def c5_38 : ACode := .seq c5_39 c5_40
def c5_32 : ACode := .cond (.var 13) c5_33 c5_38
def c5_30 : ACode := .seq c5_31 c5_32
def o5_43 : List AOper := [⟨[.var 3],fMove,none,0⟩,
  ⟨[.var 1],fMove,none,0⟩,
  ⟨[.const (.func (.func 32) [] []),.loc 1,.loc 0],fCall,none,3⟩,
  ⟨[.loc 0],fMove,none,7⟩]
def c5_43 : ACode := .region o5_43 [(4,0)] false
def c5_29 : ACode := .seq c5_30 c5_43
def c5_23 : ACode := .seq c5_24 c5_29
def c5_21 : ACode := .seq c5_22 c5_23
def c5_19 : ACode := .seq c5_20 c5_21
def c5_17 : ACode := .seq c5_18 c5_19
def c5_16 : ACode := .block 1 c5_17
def o5_44 : List AOper := [⟨[.var 5],fMove,none,0⟩,
  ⟨[.loc 0,.const (.int .i64 (.ofNat 1))],fBin .add,none,1⟩,
  ⟨[.loc 0],fMove,none,3⟩]
def c5_44 : ACode := .region o5_44 [(5,0)] false
def c5_15 : ACode := .seq c5_16 c5_44
def c5_11 : ACode := .seq c5_12 c5_15
def c5_10 : ACode := .loop c5_11
def c5_9 : ACode := .block 0 c5_10
def c5_7 : ACode := .seq c5_8 c5_9
def o5_46 : List AOper := [⟨[.const (.func (.func 18) [] [])],fCall,none,0⟩,
  ⟨[.loc 0],fMove,none,1⟩]
def c5_46 : ACode := .region o5_46 [(2,0)] false
def c5_45 : ACode := .seq c5_46 .ret
def c5_6 : ACode := .seq c5_7 c5_45
def c5_4 : ACode := .seq c5_5 c5_6
def c5_2 : ACode := .seq c5_3 c5_4
def c5_0 : ACode := .seq c5_1 c5_2
def vm5 : List Nat := [0, 1, 4, 5, 6, 7, 8, 9, 10, 11, 12, 18, 42, 49, 56, 71]
def c5 : AFn := ⟨2, 16, [.var 2], c5_0⟩
/- 6 girouette/girouettelaw05.CyclesRises : slots [0, 1, 4, 5, 6, 7, 8, 9, 10, 11, 12, 13, 14, 35, 65, 69, 79, 84, 100] -/
def o6_1 : List AOper := [⟨[.const (.bool false)],fMove,none,0⟩]
def c6_1 : ACode := .region o6_1 [(2,0)] false
def o6_3 : List AOper := [⟨[.var 0],fMove,none,0⟩,
  ⟨[.loc 0],fConvInt .u64,none,1⟩,
  ⟨[.loc 0,.const (.int .u64 (.ofNat 7))],fBin .rem,none,3⟩,
  ⟨[.loc 0],fConvInt .i64,none,7⟩,
  ⟨[.const (.int .i64 (.ofNat 1)),.loc 0],fBin .add,none,15⟩,
  ⟨[.const (.func (.func 15) [] []),.loc 0],fCall,none,31⟩,
  ⟨[.loc 0],fMove,none,63⟩,
  ⟨[.loc 0],fExtract 0,none,127⟩,
  ⟨[.loc 1],fExtract 1,none,127⟩,
  ⟨[.loc 1],fMove,none,255⟩,
  ⟨[.loc 1],fMove,none,1023⟩]
def c6_3 : ACode := .region o6_3 [(3,1),(4,0)] false
def o6_6 : List AOper := [⟨[.var 4],fMove,none,0⟩,
  ⟨[.loc 0,.const (.int .i64 (.ofNat 0))],fBin .neq,none,1⟩,
  ⟨[.loc 0],fMove,none,3⟩,
  ⟨[.var 3],fMove,(some (0,false)),7⟩,
  ⟨[.loc 0],fLenSl,(some (1,false)),15⟩,
  ⟨[.loc 0,.const (.int .i64 (.ofNat 0))],fBin .eql,(some (2,false)),31⟩,
  ⟨[.loc 3,.const (.bool true),.loc 0],fPick,none,63⟩,
  ⟨[.loc 0],fMove,none,127⟩,
  ⟨[.var 3],fMove,(some (0,false)),255⟩,
  ⟨[.loc 0],fLenSl,(some (1,false)),511⟩,
  ⟨[.loc 0,.const (.int .i64 (.ofNat 100))],fBin .gtr,(some (2,false)),1023⟩,
  ⟨[.loc 3,.const (.bool true),.loc 0],fPick,none,2047⟩]
def c6_6 : ACode := .region o6_6 [(13,0)] false
def o6_9 : List AOper := [⟨[.const (.bool false)],fMove,none,0⟩]
def c6_9 : ACode := .region o6_9 [(2,0)] false
def c6_8 : ACode := .seq c6_9 .ret
def c6_7 : ACode := .cond (.var 13) c6_8 .skip
def c6_5 : ACode := .seq c6_6 c6_7
def o6_11 : List AOper := [⟨[.var 3],fMove,none,0⟩,
  ⟨[.var 1],fMove,none,0⟩,
  ⟨[.loc 0],fConvInt .u64,none,2⟩,
  ⟨[.var 3],fMove,none,0⟩,
  ⟨[.loc 0],fLenSl,none,8⟩,
  ⟨[.loc 0],fConvInt .u64,none,24⟩,
  ⟨[.loc 3,.loc 0],fBin .rem,none,62⟩,
  ⟨[.loc 0],fConvInt .i64,none,126⟩,
  ⟨[.loc 7,.loc 0],fIndexAddr 1,none,255⟩,
  ⟨[.loc 0],fLoad1,none,511⟩,
  ⟨[.loc 0],fMove,none,1023⟩]
def c6_11 : ACode := .region o6_11 [(5,0)] false
def o6_13 : List AOper := [⟨[.var 5],fMove,none,0⟩,
  ⟨[.const (.func (.func 33) [] []),.loc 0],fCall,none,1⟩,
  ⟨[.loc 0],fMove,none,3⟩,
  ⟨[.loc 0],fExtract 0,none,7⟩,
  ⟨[.loc 1],fExtract 1,none,7⟩,
  ⟨[.loc 1],fMove,none,15⟩,
  ⟨[.loc 1],fMove,none,63⟩]
def c6_13 : ACode := .region o6_13 [(6,1),(7,0)] false
def o6_16 : List AOper := [⟨[.var 7],fMove,none,0⟩,
  ⟨[.loc 0,.const (.int .i64 (.ofNat 0))],fBin .neq,none,1⟩,
  ⟨[.loc 0],fMove,none,3⟩,
  ⟨[.var 6],fMove,(some (0,false)),7⟩,
  ⟨[.const (.func (.func 34) [] []),.loc 0],fCall,(some (1,false)),15⟩,
  ⟨[.loc 0],fUn .not,(some (2,false)),31⟩,
  ⟨[.loc 3,.const (.bool true),.loc 0],fPick,none,63⟩,
  ⟨[.loc 0],fMove,none,127⟩,
  ⟨[.var 6],fMove,(some (0,false)),255⟩,
  ⟨[.loc 0],fLenSl,(some (1,false)),511⟩,
  ⟨[.var 5],fMove,(some (2,false)),255⟩,
  ⟨[.loc 0],fLenStr,(some (3,false)),1279⟩,
  ⟨[.loc 0,.const (.int .i64 (.ofNat 1))],fBin .add,(some (4,false)),3327⟩,
  ⟨[.loc 3,.loc 0],fBin .neq,(some (5,false)),8191⟩,
  ⟨[.loc 6,.const (.bool true),.loc 0],fPick,none,16383⟩]
def c6_16 : ACode := .region o6_16 [(14,0)] false
def o6_19 : List AOper := [⟨[.const (.bool false)],fMove,none,0⟩]
def c6_19 : ACode := .region o6_19 [(2,0)] false
def c6_18 : ACode := .seq c6_19 .ret
def c6_17 : ACode := .cond (.var 14) c6_18 .skip
def c6_15 : ACode := .seq c6_16 c6_17
def o6_21 : List AOper := [⟨[.const (.int .i64 (.ofNat 0))],fMove,none,0⟩]
def c6_21 : ACode := .region o6_21 [(8,0)] false
def o6_24 : List AOper := [⟨[.const (.int .i64 (.ofNat 0))],fMove,none,0⟩]
def c6_24 : ACode := .region o6_24 [(9,0)] false
def o6_29 : List AOper := [⟨[.var 9],fMove,none,0⟩,
  ⟨[.var 6],fMove,none,0⟩,
  ⟨[.loc 0],fLenSl,none,2⟩,
  ⟨[.loc 2,.loc 0],fBin .lss,none,7⟩]
def c6_29 : ACode := .region o6_29 [(15,0)] false
def c6_30 : ACode := .cond (.var 15) .skip (.exit 0)
def c6_28 : ACode := .seq c6_29 c6_30
def o6_34 : List AOper := [⟨[.var 6],fMove,none,0⟩,
  ⟨[.var 9],fMove,none,0⟩,
  ⟨[.loc 1,.loc 0],fIndexAddr 1,none,3⟩,
  ⟨[.loc 0],fLoad1,none,7⟩,
  ⟨[.var 6],fMove,none,0⟩,
  ⟨[.loc 0],fLenSl,none,16⟩,
  ⟨[.loc 0,.const (.int .i64 (.ofNat 1))],fBin .sub,none,48⟩,
  ⟨[.loc 3,.loc 0],fBin .eql,none,127⟩]
def c6_34 : ACode := .region o6_34 [(16,0)] false
def o6_36 : List AOper := [⟨[.var 9],fMove,none,0⟩,
  ⟨[.loc 0],fMove,none,1⟩]
def c6_36 : ACode := .region o6_36 [(8,0)] false
def c6_35 : ACode := .cond (.var 16) c6_36 .skip
def c6_33 : ACode := .seq c6_34 c6_35
def c6_32 : ACode := .block 1 c6_33
def o6_37 : List AOper := [⟨[.var 9],fMove,none,0⟩,
  ⟨[.loc 0,.const (.int .i64 (.ofNat 1))],fBin .add,none,1⟩,
  ⟨[.loc 0],fMove,none,3⟩]
def c6_37 : ACode := .region o6_37 [(9,0)] false
def c6_31 : ACode := .seq c6_32 c6_37
def c6_27 : ACode := .seq c6_28 c6_31
def c6_26 : ACode := .loop c6_27
def c6_25 : ACode := .block 0 c6_26
def c6_23 : ACode := .seq c6_24 c6_25
def o6_40 : List AOper := [⟨[.const (.int .i64 (.ofNat 1))],fMove,none,0⟩]
def c6_40 : ACode := .region o6_40 [(10,0)] false
def o6_45 : List AOper := [⟨[.var 10],fMove,none,0⟩,
  ⟨[.var 6],fMove,none,0⟩,
  ⟨[.loc 0],fLenSl,none,2⟩,
  ⟨[.loc 2,.loc 0],fBin .lss,none,7⟩]
def c6_45 : ACode := .region o6_45 [(17,0)] false
def c6_46 : ACode := .cond (.var 17) .skip (.exit 2)
def c6_44 : ACode := .seq c6_45 c6_46
def o6_50 : List AOper := [⟨[.var 6],fMove,none,0⟩,
  ⟨[.var 10],fMove,none,0⟩,
  ⟨[.loc 1,.loc 0],fIndexAddr 1,none,3⟩,
  ⟨[.loc 0],fLoad1,none,7⟩,
  ⟨[.var 6],fMove,none,0⟩,
  ⟨[.var 10],fMove,none,0⟩,
  ⟨[.loc 0,.const (.int .i64 (.ofNat 1))],fBin .sub,none,32⟩,
  ⟨[.loc 2,.loc 0],fIndexAddr 1,none,112⟩,
  ⟨[.loc 0],fLoad1,none,240⟩,
  ⟨[.loc 5,.loc 0],fBin .gtr,none,511⟩,
  ⟨[.var 10],fMove,none,0⟩,
  ⟨[.var 8],fMove,none,0⟩,
  ⟨[.loc 1,.loc 0],fBin .leq,none,3072⟩,
  ⟨[.loc 3,.loc 0],fEqD true .b,none,8191⟩]
def c6_50 : ACode := .region o6_50 [(18,0)] true
def o6_53 : List AOper := [⟨[.const (.bool false)],fMove,none,0⟩]
def c6_53 : ACode := .region o6_53 [(2,0)] false
def c6_52 : ACode := .seq c6_53 .ret
def c6_51 : ACode := .cond (.var 18) c6_52 .skip
def c6_49 : ACode := .seq c6_50 c6_51
def c6_48 : ACode := .block 3 c6_49
def o6_54 : List AOper := [⟨[.var 10],fMove,none,0⟩,
  ⟨[.loc 0,.const (.int .i64 (.ofNat 1))],fBin .add,none,1⟩,
  ⟨[.loc 0],fMove,none,3⟩]
def c6_54 : ACode := .region o6_54 [(10,0)] false
def c6_47 : ACode := .seq c6_48 c6_54
def c6_43 : ACode := .seq c6_44 c6_47
def c6_42 : ACode := .loop c6_43
def c6_41 : ACode := .block 2 c6_42
def c6_39 : ACode := .seq c6_40 c6_41
def o6_56 : List AOper := [⟨[.var 5],fMove,none,0⟩,
  ⟨[.loc 0,.const (.str [67])],fBin .add,none,1⟩,
  ⟨[.const (.func (.func 35) [] []),.const (.str [67]),.loc 0],fCall,none,3⟩,
  ⟨[.loc 0],fMove,none,7⟩,
  ⟨[.loc 0],fExtract 0,none,15⟩,
  ⟨[.loc 1],fExtract 1,none,15⟩,
  ⟨[.loc 1],fMove,none,31⟩,
  ⟨[.loc 1],fMove,none,127⟩]
def c6_56 : ACode := .region o6_56 [(11,1),(12,0)] false
def o6_58 : List AOper := [⟨[.var 12],fMove,none,0⟩,
  ⟨[.loc 0,.const (.int .i64 (.ofNat 0))],fBin .eql,none,1⟩,
  ⟨[.loc 0],fMove,none,3⟩,
  ⟨[.var 11],fMove,(some (0,true)),7⟩,
  ⟨[.loc 1,.loc 0,.const (.bool false)],fPick,none,15⟩,
  ⟨[.loc 0],fMove,none,31⟩,
  ⟨[.const (.func (.func 18) [] [])],fCall,(some (0,true)),63⟩,
  ⟨[.loc 1,.loc 0,.const (.bool false)],fPick,none,127⟩,
  ⟨[.loc 0],fMove,none,255⟩]
def c6_58 : ACode := .region o6_58 [(2,0)] false
def c6_57 : ACode := .seq c6_58 .ret
def c6_55 : ACode := .seq c6_56 c6_57
def c6_38 : ACode := .seq c6_39 c6_55
def c6_22 : ACode := .seq c6_23 c6_38
def c6_20 : ACode := .seq c6_21 c6_22
def c6_14 : ACode := .seq c6_15 c6_20
def c6_12 : ACode := .seq c6_13 c6_14
def c6_10 : ACode := .seq c6_11 c6_12
def c6_4 : ACode := .seq c6_5 c6_10
def c6_2 : ACode := .seq c6_3 c6_4
def c6_0 : ACode := .seq c6_1 c6_2
def vm6 : List Nat := [0, 1, 4, 5, 6, 7, 8, 9, 10, 11, 12, 13, 14, 35, 65, 69, 79, 84, 100]
def c6 : AFn := ⟨2, 19, [.var 2], c6_0⟩
/- 7 girouette/girouettelaw05.CyclesPoints : slots [0, 1, 3, 4, 5, 6, 7, 8, 9, 10, 11, 12, 13, 17, 36, 54, 81] -/
def o7_1 : List AOper := [⟨[.var 1],fBox,none,0⟩,
  ⟨[.const (.bool false)],fMove,none,0⟩]
def c7_1 : ACode := .region o7_1 [(2,1),(3,0)] false
def o7_3 : List AOper := [⟨[.var 0],fMove,none,0⟩,
  ⟨[.const (.func (.func 25) [] []),.loc 0],fCall,none,1⟩,
  ⟨[.loc 0],fMove,none,3⟩]
def c7_3 : ACode := .region o7_3 [(4,0)] false
def o7_6 : List AOper := [⟨[.const (.int .i64 (.ofNat 0))],fMove,none,0⟩]
def c7_6 : ACode := .region o7_6 [(5,0)] false
def o7_11 : List AOper := [⟨[.var 5],fMove,none,0⟩,
  ⟨[.loc 0,.const (.int .i64 (.ofNat 2))],fBin .lss,none,1⟩]
def c7_11 : ACode := .region o7_11 [(13,0)] false
def c7_12 : ACode := .cond (.var 13) .skip (.exit 0)
def c7_10 : ACode := .seq c7_11 c7_12
def o7_16 : List AOper := [⟨[.var 4],fMove,none,0⟩,
  ⟨[.var 2],fLoadN 2,none,0⟩,
  ⟨[.const (.func (.func 36) [] []),.loc 1,.loc 0],fCall,none,3⟩,
  ⟨[.loc 0],fMove,none,7⟩,
  ⟨[.loc 0],fExtract 0,none,15⟩,
  ⟨[.loc 1],fExtract 1,none,15⟩,
  ⟨[],fAlloc [(.int .i64 (.ofNat 0)),(.int .i64 (.ofNat 0))],none,0⟩,
  ⟨[.loc 0,.loc 2],fStore 2,none,95⟩,
  ⟨[.loc 2],fMove,none,255⟩]
def c7_16 : ACode := .region o7_16 [(6,2),(7,0)] false
def o7_18 : List AOper := [⟨[.var 4],fMove,none,0⟩,
  ⟨[.var 2],fLoadN 2,none,0⟩,
  ⟨[.const (.func (.func 37) [] []),.loc 1,.loc 0],fCall,none,3⟩,
  ⟨[.loc 0],fMove,none,7⟩,
  ⟨[.loc 0],fExtract 0,none,15⟩,
  ⟨[.loc 1],fExtract 1,none,15⟩,
  ⟨[.loc 2],fExtract 2,none,15⟩,
  ⟨[.loc 2],fMove,none,31⟩,
  ⟨[.loc 2],fMove,none,191⟩,
  ⟨[.loc 2],fMove,none,511⟩]
def c7_18 : ACode := .region o7_18 [(8,2),(9,1),(10,0)] false
def o7_21 : List AOper := [⟨[.var 4],fMove,none,0⟩,
  ⟨[.var 2],fLoadN 2,none,0⟩,
  ⟨[.const (.func (.func 30) [] []),.loc 1,.loc 0],fCall,none,3⟩,
  ⟨[.loc 0],fUn .not,none,7⟩]
def c7_21 : ACode := .region o7_21 [(14,0)] false
def o7_24 : List AOper := [⟨[.var 7],fMove,none,0⟩,
  ⟨[.loc 0,.const (.int .i64 (.ofNat 1))],fBin .neq,none,1⟩,
  ⟨[.loc 0],fMove,none,3⟩,
  ⟨[.var 10],fMove,(some (0,false)),7⟩,
  ⟨[.loc 0,.const (.int .i64 (.ofNat 1))],fBin .neq,(some (1,false)),15⟩,
  ⟨[.loc 2,.const (.bool true),.loc 0],fPick,none,31⟩,
  ⟨[.loc 0],fMove,none,63⟩,
  ⟨[.var 6],fLoadN 2,(some (0,false)),127⟩,
  ⟨[],fBuild [(.int .i64 (.ofNat 0)),(.int .i64 (.ofNat 0))] [],(some (1,false)),127⟩,
  ⟨[.loc 1,.loc 0],fEqD true (.agg [(0,none,.i),(1,none,.i)]),(some (2,false)),511⟩,
  ⟨[.loc 3,.const (.bool true),.loc 0],fPick,none,1023⟩,
  ⟨[.loc 0],fMove,none,2047⟩,
  ⟨[.var 9],fMove,(some (0,false)),4095⟩,
  ⟨[.loc 1,.const (.bool true),.loc 0],fPick,none,8191⟩,
  ⟨[.loc 0],fMove,none,16383⟩,
  ⟨[.var 8],fMove,(some (0,false)),32767⟩,
  ⟨[.loc 0,.const (.int .i64 (.ofNat 0))],fBin .neq,(some (1,false)),65535⟩,
  ⟨[.loc 2,.const (.bool true),.loc 0],fPick,none,131071⟩]
def c7_24 : ACode := .region o7_24 [(15,0)] false
def o7_27 : List AOper := [⟨[.const (.bool false)],fMove,none,0⟩]
def c7_27 : ACode := .region o7_27 [(3,0)] false
def c7_26 : ACode := .seq c7_27 .ret
def c7_25 : ACode := .cond (.var 15) c7_26 .skip
def c7_23 : ACode := .seq c7_24 c7_25
def o7_29 : List AOper := [⟨[.var 4],fMove,none,0⟩,
  ⟨[.var 2],fLoadN 2,none,0⟩,
  ⟨[.const (.func (.func 38) [] []),.loc 1,.loc 0],fCall,none,3⟩,
  ⟨[.loc 0],fMove,none,7⟩]
def c7_29 : ACode := .region o7_29 [(11,0)] false
def o7_31 : List AOper := [⟨[.var 7],fMove,none,0⟩,
  ⟨[.loc 0,.const (.int .i64 (.ofNat 0))],fBin .neq,none,1⟩,
  ⟨[.loc 0],fMove,none,3⟩,
  ⟨[.var 6],fLoadN 2,(some (0,false)),7⟩,
  ⟨[.var 4],fMove,(some (1,false)),7⟩,
  ⟨[.var 2],fLoadN 2,(some (2,false)),7⟩,
  ⟨[.const (.func (.func 39) [] []),.loc 1,.loc 0],fCall,(some (3,false)),55⟩,
  ⟨[.loc 3,.loc 0],fEqD true (.agg [(0,none,.i),(1,none,.i)]),(some (4,false)),127⟩,
  ⟨[.loc 5,.const (.bool true),.loc 0],fPick,none,255⟩,
  ⟨[.loc 0],fMove,none,511⟩,
  ⟨[.var 10],fMove,(some (0,false)),1023⟩,
  ⟨[.loc 0,.const (.int .i64 (.ofNat 0))],fBin .neq,(some (1,false)),2047⟩,
  ⟨[.loc 2,.const (.bool true),.loc 0],fPick,none,4095⟩,
  ⟨[.loc 0],fMove,none,8191⟩,
  ⟨[.var 9],fMove,(some (0,false)),16383⟩,
  ⟨[.var 11],fMove,(some (1,false)),16383⟩,
  ⟨[.loc 0,.const (.int .i64 (.ofNat 0))],fBin .gtr,(some (2,false)),49151⟩,
  ⟨[.loc 2,.loc 0],fEqD true .b,(some (3,false)),131071⟩,
  ⟨[.loc 4,.const (.bool true),.loc 0],fPick,none,262143⟩,
  ⟨[.loc 0],fMove,none,524287⟩,
  ⟨[.var 8],fMove,(some (0,false)),1048575⟩,
  ⟨[.var 11],fMove,(some (1,false)),1048575⟩,
  ⟨[.loc 1,.loc 0],fBin .neq,(some (2,false)),4194303⟩,
  ⟨[.loc 3,.const (.bool true),.loc 0],fPick,none,8388607⟩]
def c7_31 : ACode := .region o7_31 [(16,0)] true
def o7_34 : List AOper := [⟨[.const (.bool false)],fMove,none,0⟩]
def c7_34 : ACode := .region o7_34 [(3,0)] false
def c7_33 : ACode := .seq c7_34 .ret
def c7_32 : ACode := .cond (.var 16) c7_33 .skip
def c7_30 : ACode := .seq c7_31 c7_32
def c7_28 : ACode := .seq c7_29 c7_30
def c7_22 : ACode := .cond (.var 14) c7_23 c7_28
def c7_20 : ACode := .seq c7_21 c7_22
def o7_36 : List AOper := [⟨[.var 2,.const (.int .i64 (.ofNat 1))],fIndexAddrArr 2 1,none,0⟩,
  ⟨[.loc 0],fLoad1,none,1⟩,
  ⟨[.loc 0],fConvInt .u64,none,3⟩,
  ⟨[.loc 0,.const (.int .u64 (.ofNat 60))],fBin .rem,none,7⟩,
  ⟨[.loc 0],fConvInt .i64,none,15⟩,
  ⟨[.const (.int .i64 (.ofNat 1)),.loc 0],fBin .add,none,31⟩,
  ⟨[.loc 0],fMove,none,63⟩]
def c7_36 : ACode := .region o7_36 [(12,0)] false
def o7_37 : List AOper := [⟨[.var 2,.const (.int .i64 (.ofNat 0))],fIndexAddrArr 2 1,none,0⟩,
  ⟨[.loc 0],fLoad1,none,1⟩,
  ⟨[.loc 0],fConvInt .u64,none,3⟩,
  ⟨[.var 12],fMove,none,0⟩,
  ⟨[.var 4],fMove,none,0⟩,
  ⟨[.loc 0],fLenSl,none,16⟩,
  ⟨[.loc 0,.const (.int .i64 (.ofNat 1))],fBin .sub,none,48⟩,
  ⟨[.loc 3,.loc 0],fBin .mul,none,120⟩,
  ⟨[.loc 0,.const (.int .i64 (.ofNat 1))],fBin .add,none,248⟩,
  ⟨[.loc 0],fConvInt .u64,none,504⟩,
  ⟨[.loc 7,.loc 0],fBin .rem,none,1023⟩,
  ⟨[.loc 0],fConvInt .i64,none,2047⟩,
  ⟨[.var 12],fMove,none,0⟩,
  ⟨[.const (.func (.func 40) [] []),.loc 1,.loc 0],fCall,none,8191⟩,
  ⟨[.var 2,.loc 0],fStore 2,none,16383⟩]
def c7_37 : ACode := .region o7_37 [] false
def c7_35 : ACode := .seq c7_36 c7_37
def c7_19 : ACode := .seq c7_20 c7_35
def c7_17 : ACode := .seq c7_18 c7_19
def c7_15 : ACode := .seq c7_16 c7_17
def c7_14 : ACode := .block 1 c7_15
def o7_38 : List AOper := [⟨[.var 5],fMove,none,0⟩,
  ⟨[.loc 0,.const (.int .i64 (.ofNat 1))],fBin .add,none,1⟩,
  ⟨[.loc 0],fMove,none,3⟩]
def c7_38 : ACode := .region o7_38 [(5,0)] false
def c7_13 : ACode := .seq c7_14 c7_38
def c7_9 : ACode := .seq c7_10 c7_13
def c7_8 : ACode := .loop c7_9
def c7_7 : ACode := .block 0 c7_8
def c7_5 : ACode := .seq c7_6 c7_7
def o7_40 : List AOper := [⟨[.const (.func (.func 18) [] [])],fCall,none,0⟩,
  ⟨[.loc 0],fMove,none,1⟩]
def c7_40 : ACode := .region o7_40 [(3,0)] false
def c7_39 : ACode := .seq c7_40 .ret
def c7_4 : ACode := .seq c7_5 c7_39
def c7_2 : ACode := .seq c7_3 c7_4
def c7_0 : ACode := .seq c7_1 c7_2
def vm7 : List Nat := [0, 1, 3, 4, 5, 6, 7, 8, 9, 10, 11, 12, 13, 17, 36, 54, 81]
def c7 : AFn := ⟨2, 17, [.var 3], c7_0⟩
/- 8 girouette/girouettelaw05.CyclesSharkovsky : slots [0, 2, 3, 4, 5, 6, 7, 8, 9, 10, 11, 12, 13, 14, 15, 16, 39, 67, 72, 86, 94, 115] -/
def o8_1 : List AOper := [⟨[.const (.bool false)],fMove,none,0⟩]
def c8_1 : ACode := .region o8_1 [(1,0)] false
def o8_3 : List AOper := [⟨[.var 0],fMove,none,0⟩,
  ⟨[.const (.func (.func 25) [] []),.loc 0],fCall,none,1⟩,
  ⟨[.loc 0],fMove,none,3⟩]
def c8_3 : ACode := .region o8_3 [(2,0)] false
def o8_5 : List AOper := [⟨[.var 2],fMove,none,0⟩,
  ⟨[.const (.func (.func 41) [] []),.loc 0],fCall,none,1⟩,
  ⟨[.loc 0],fMove,none,3⟩,
  ⟨[.loc 0],fExtract 0,none,7⟩,
  ⟨[.loc 1],fExtract 1,none,7⟩,
  ⟨[.loc 1],fMove,none,15⟩,
  ⟨[.loc 1],fMove,none,63⟩]
def c8_5 : ACode := .region o8_5 [(3,1),(4,0)] false
def o8_7 : List AOper := [⟨[.var 2],fMove,none,0⟩,
  ⟨[.const (.func (.func 42) [] []),.loc 0],fCall,none,1⟩,
  ⟨[.loc 0],fMove,none,3⟩,
  ⟨[.loc 0],fExtract 0,none,7⟩,
  ⟨[.loc 1],fExtract 1,none,7⟩,
  ⟨[.loc 1],fMove,none,15⟩,
  ⟨[.loc 1],fMove,none,63⟩]
def c8_7 : ACode := .region o8_7 [(5,1),(6,0)] false
def o8_10 : List AOper := [⟨[.var 4],fMove,none,0⟩,
  ⟨[.loc 0,.const (.int .i64 (.ofNat 0))],fBin .neq,none,1⟩,
  ⟨[.loc 0],fMove,none,3⟩,
  ⟨[.var 6],fMove,(some (0,false)),7⟩,
  ⟨[.loc 0,.const (.int .i64 (.ofNat 0))],fBin .neq,(some (1,false)),15⟩,
  ⟨[.loc 2,.const (.bool true),.loc 0],fPick,none,31⟩,
  ⟨[.loc 0],fMove,none,63⟩,
  ⟨[.var 5],fMove,(some (0,false)),127⟩,
  ⟨[.const (.func (.func 34) [] []),.loc 0],fCall,(some (1,false)),255⟩,
  ⟨[.loc 0],fUn .not,(some (2,false)),511⟩,
  ⟨[.loc 3,.const (.bool true),.loc 0],fPick,none,1023⟩]
def c8_10 : ACode := .region o8_10 [(16,0)] false
def o8_13 : List AOper := [⟨[.const (.bool false)],fMove,none,0⟩]
def c8_13 : ACode := .region o8_13 [(1,0)] false
def c8_12 : ACode := .seq c8_13 .ret
def c8_11 : ACode := .cond (.var 16) c8_12 .skip
def c8_9 : ACode := .seq c8_10 c8_11
def o8_15 : List AOper := [⟨[.var 5],fMove,none,0⟩,
  ⟨[.const (.func (.func 41) [] []),.loc 0],fCall,none,1⟩,
  ⟨[.loc 0],fMove,none,3⟩,
  ⟨[.loc 0],fExtract 0,none,7⟩,
  ⟨[.loc 1],fExtract 1,none,7⟩,
  ⟨[.loc 1],fMove,none,15⟩,
  ⟨[.loc 1],fMove,none,63⟩]
def c8_15 : ACode := .region o8_15 [(7,1),(8,0)] false
def o8_17 : List AOper := [⟨[.var 5],fMove,none,0⟩,
  ⟨[.const (.func (.func 42) [] []),.loc 0],fCall,none,1⟩,
  ⟨[.loc 0],fMove,none,3⟩,
  ⟨[.loc 0],fExtract 0,none,7⟩,
  ⟨[.loc 1],fExtract 1,none,7⟩,
  ⟨[.loc 1],fMove,none,15⟩,
  ⟨[.loc 1],fMove,none,63⟩]
def c8_17 : ACode := .region o8_17 [(9,1),(10,0)] false
def o8_20 : List AOper := [⟨[.var 8],fMove,none,0⟩,
  ⟨[.loc 0,.const (.int .i64 (.ofNat 0))],fBin .neq,none,1⟩,
  ⟨[.loc 0],fMove,none,3⟩,
  ⟨[.var 10],fMove,(some (0,false)),7⟩,
  ⟨[.loc 0,.const (.int .i64 (.ofNat 0))],fBin .neq,(some (1,false)),15⟩,
  ⟨[.loc 2,.const (.bool true),.loc 0],fPick,none,31⟩,
  ⟨[.loc 0],fMove,none,63⟩,
  ⟨[.var 3],fMove,(some (0,false)),127⟩,
  ⟨[.var 7],fMove,(some (1,false)),127⟩,
  ⟨[.const (.func (.func 43) [] []),.loc 1,.loc 0],fCall,(some (2,false)),511⟩,
  ⟨[.loc 0],fUn .not,(some (3,false)),1023⟩,
  ⟨[.loc 4,.const (.bool true),.loc 0],fPick,none,2047⟩,
  ⟨[.loc 0],fMove,none,4095⟩,
  ⟨[.var 9],fMove,(some (0,false)),8191⟩,
  ⟨[.var 2],fMove,(some (1,false)),8191⟩,
  ⟨[.const (.func (.func 43) [] []),.loc 1,.loc 0],fCall,(some (2,false)),32767⟩,
  ⟨[.loc 0],fUn .not,(some (3,false)),65535⟩,
  ⟨[.loc 4,.const (.bool true),.loc 0],fPick,none,131071⟩]
def c8_20 : ACode := .region o8_20 [(17,0)] false
def o8_23 : List AOper := [⟨[.const (.bool false)],fMove,none,0⟩]
def c8_23 : ACode := .region o8_23 [(1,0)] false
def c8_22 : ACode := .seq c8_23 .ret
def c8_21 : ACode := .cond (.var 17) c8_22 .skip
def c8_19 : ACode := .seq c8_20 c8_21
def o8_25 : List AOper := [⟨[.const (.int .i64 (.ofNat 13)),.const (.int .i64 (.ofNat 13))],fMakeSlice 1 1 [(.bool false)],none,0⟩,
  ⟨[.loc 0],fMove,none,1⟩]
def c8_25 : ACode := .region o8_25 [(11,0)] false
def o8_28 : List AOper := [⟨[.const (.int .i64 (.ofNat 0))],fMove,none,0⟩]
def c8_28 : ACode := .region o8_28 [(12,0)] false
def o8_33 : List AOper := [⟨[.var 12],fMove,none,0⟩,
  ⟨[.var 3],fMove,none,0⟩,
  ⟨[.loc 0],fLenSl,none,2⟩,
  ⟨[.loc 2,.loc 0],fBin .lss,none,7⟩]
def c8_33 : ACode := .region o8_33 [(18,0)] false
def c8_34 : ACode := .cond (.var 18) .skip (.exit 0)
def c8_32 : ACode := .seq c8_33 c8_34
def o8_39 : List AOper := [⟨[.var 3],fMove,none,0⟩,
  ⟨[.var 12],fMove,none,0⟩,
  ⟨[.loc 1,.loc 0],fIndexAddr 1,none,3⟩,
  ⟨[.loc 0],fLoad1,none,7⟩,
  ⟨[.loc 0,.const (.int .i64 (.ofNat 1))],fBin .lss,none,15⟩,
  ⟨[.loc 0],fMove,none,31⟩,
  ⟨[.var 3],fMove,(some (0,false)),63⟩,
  ⟨[.var 12],fMove,(some (1,false)),63⟩,
  ⟨[.loc 1,.loc 0],fIndexAddr 1,(some (2,false)),255⟩,
  ⟨[.loc 0],fLoad1,(some (3,false)),511⟩,
  ⟨[.loc 0,.const (.int .i64 (.ofNat 12))],fBin .gtr,(some (4,false)),1023⟩,
  ⟨[.loc 5,.const (.bool true),.loc 0],fPick,none,2047⟩]
def c8_39 : ACode := .region o8_39 [(19,0)] false
def o8_42 : List AOper := [⟨[.const (.bool false)],fMove,none,0⟩]
def c8_42 : ACode := .region o8_42 [(1,0)] false
def c8_41 : ACode := .seq c8_42 .ret
def c8_40 : ACode := .cond (.var 19) c8_41 .skip
def c8_38 : ACode := .seq c8_39 c8_40
def o8_43 : List AOper := [⟨[.var 11],fMove,none,0⟩,
  ⟨[.var 3],fMove,none,0⟩,
  ⟨[.var 12],fMove,none,0⟩,
  ⟨[.loc 1,.loc 0],fIndexAddr 1,none,6⟩,
  ⟨[.loc 0],fLoad1,none,14⟩,
  ⟨[.loc 4,.loc 0],fIndexAddr 1,none,31⟩,
  ⟨[.loc 0,.const (.bool true)],fStore 1,none,63⟩]
def c8_43 : ACode := .region o8_43 [] false
def c8_37 : ACode := .seq c8_38 c8_43
def c8_36 : ACode := .block 1 c8_37
def o8_44 : List AOper := [⟨[.var 12],fMove,none,0⟩,
  ⟨[.loc 0,.const (.int .i64 (.ofNat 1))],fBin .add,none,1⟩,
  ⟨[.loc 0],fMove,none,3⟩]
def c8_44 : ACode := .region o8_44 [(12,0)] false
def c8_35 : ACode := .seq c8_36 c8_44
def c8_31 : ACode := .seq c8_32 c8_35
def c8_30 : ACode := .loop c8_31
def c8_29 : ACode := .block 0 c8_30
def c8_27 : ACode := .seq c8_28 c8_29
def o8_47 : List AOper := [⟨[.const (.int .i64 (.ofNat 1))],fMove,none,0⟩]
def c8_47 : ACode := .region o8_47 [(13,0)] false
def o8_52 : List AOper := [⟨[.var 13],fMove,none,0⟩,
  ⟨[.loc 0,.const (.int .i64 (.ofNat 12))],fBin .leq,none,1⟩]
def c8_52 : ACode := .region o8_52 [(20,0)] false
def c8_53 : ACode := .cond (.var 20) .skip (.exit 2)
def c8_51 : ACode := .seq c8_52 c8_53
def o8_57 : List AOper := [⟨[.var 2],fMove,none,0⟩,
  ⟨[.loc 0],fLenSl,none,1⟩,
  ⟨[.var 13],fMove,none,0⟩,
  ⟨[.const (.func (.func 44) [] []),.loc 1,.loc 0],fCall,none,7⟩,
  ⟨[.loc 0],fMove,none,15⟩,
  ⟨[.loc 0],fExtract 0,none,31⟩,
  ⟨[.loc 1],fExtract 1,none,31⟩,
  ⟨[.loc 1],fMove,none,63⟩,
  ⟨[.loc 1],fMove,none,255⟩]
def c8_57 : ACode := .region o8_57 [(14,1),(15,0)] false
def o8_59 : List AOper := [⟨[.var 15],fMove,none,0⟩,
  ⟨[.loc 0,.const (.int .i64 (.ofNat 0))],fBin .neq,none,1⟩,
  ⟨[.loc 0],fMove,none,3⟩,
  ⟨[.var 14],fMove,(some (0,false)),7⟩,
  ⟨[.loc 0],fMove,(some (1,false)),15⟩,
  ⟨[.var 11],fMove,(some (0,true)),31⟩,
  ⟨[.var 13],fMove,(some (1,true)),31⟩,
  ⟨[.loc 1,.loc 0],fIndexAddr 1,(some (2,true)),127⟩,
  ⟨[.loc 0],fLoad1,(some (3,true)),255⟩,
  ⟨[.loc 0],fUn .not,(some (4,true)),511⟩,
  ⟨[.loc 5,.loc 0,.const (.bool false)],fPick,(some (7,false)),1023⟩,
  ⟨[.loc 8,.const (.bool true),.loc 0],fPick,none,2047⟩]
def c8_59 : ACode := .region o8_59 [(21,0)] false
def o8_62 : List AOper := [⟨[.const (.bool false)],fMove,none,0⟩]
def c8_62 : ACode := .region o8_62 [(1,0)] false
def c8_61 : ACode := .seq c8_62 .ret
def c8_60 : ACode := .cond (.var 21) c8_61 .skip
def c8_58 : ACode := .seq c8_59 c8_60
def c8_56 : ACode := .seq c8_57 c8_58
def c8_55 : ACode := .block 3 c8_56
def o8_63 : List AOper := [⟨[.var 13],fMove,none,0⟩,
  ⟨[.loc 0,.const (.int .i64 (.ofNat 1))],fBin .add,none,1⟩,
  ⟨[.loc 0],fMove,none,3⟩]
def c8_63 : ACode := .region o8_63 [(13,0)] false
def c8_54 : ACode := .seq c8_55 c8_63
def c8_50 : ACode := .seq c8_51 c8_54
def c8_49 : ACode := .loop c8_50
def c8_48 : ACode := .block 2 c8_49
def c8_46 : ACode := .seq c8_47 c8_48
def o8_65 : List AOper := [⟨[.var 11],fMove,none,0⟩,
  ⟨[.var 2],fMove,none,0⟩,
  ⟨[.loc 0],fLenSl,none,2⟩,
  ⟨[.loc 2,.loc 0],fIndexAddr 1,none,7⟩,
  ⟨[.loc 0],fLoad1,none,15⟩,
  ⟨[.loc 0],fMove,none,31⟩,
  ⟨[.const (.func (.func 18) [] [])],fCall,(some (0,true)),63⟩,
  ⟨[.loc 1,.loc 0,.const (.bool false)],fPick,none,127⟩,
  ⟨[.loc 0],fMove,none,255⟩]
def c8_65 : ACode := .region o8_65 [(1,0)] false
def c8_64 : ACode := .seq c8_65 .ret
def c8_45 : ACode := .seq c8_46 c8_64
def c8_26 : ACode := .seq c8_27 c8_45
def c8_24 : ACode := .seq c8_25 c8_26
def c8_18 : ACode := .seq c8_19 c8_24
def c8_16 : ACode := .seq c8_17 c8_18
def c8_14 : ACode := .seq c8_15 c8_16
def c8_8 : ACode := .seq c8_9 c8_14
def c8_6 : ACode := .seq c8_7 c8_8
def c8_4 : ACode := .seq c8_5 c8_6
def c8_2 : ACode := .seq c8_3 c8_4
def c8_0 : ACode := .seq c8_1 c8_2
def vm8 : List Nat := [0, 2, 3, 4, 5, 6, 7, 8, 9, 10, 11, 12, 13, 14, 15, 16, 39, 67, 72, 86, 94, 115]
def c8 : AFn := ⟨1, 22, [.var 1], c8_0⟩
/- 9 girouette/girouettelaw05.CyclesWords : slots [0, 1, 4, 5, 6, 7, 8, 9, 10, 11, 12, 13, 14, 26, 42, 47, 56, 75, 76, 93, 94, 103, 118, 119, 128, 147] -/
def o9_1 : List AOper := [⟨[.const (.bool false)],fMove,none,0⟩]
def c9_1 : ACode := .region o9_1 [(2,0)] false
def o9_3 : List AOper := [⟨[.var 0],fMove,none,0⟩,
  ⟨[.var 0],fMove,none,0⟩,
  ⟨[.loc 0],fLenStr,none,2⟩,
  ⟨[.loc 0,.const (.int .i64 (.ofNat 14))],fMin,none,6⟩,
  ⟨[.loc 3,.loc 0],fSliceStr false true,none,15⟩,
  ⟨[.var 1],fMove,none,0⟩,
  ⟨[.var 1],fMove,none,0⟩,
  ⟨[.loc 0],fLenStr,none,64⟩,
  ⟨[.loc 0,.const (.int .i64 (.ofNat 14))],fMin,none,192⟩,
  ⟨[.loc 3,.loc 0],fSliceStr false true,none,480⟩,
  ⟨[.loc 5],fMove,none,31⟩,
  ⟨[.loc 1],fMove,none,2047⟩]
def c9_3 : ACode := .region o9_3 [(3,1),(4,0)] true
def o9_6 : List AOper := [⟨[.const (.int .i64 (.ofNat 0))],fMove,none,0⟩]
def c9_6 : ACode := .region o9_6 [(5,0)] false
def o9_11 : List AOper := [⟨[.var 5],fMove,none,0⟩,
  ⟨[.loc 0,.const (.int .i64 (.ofNat 2))],fBin .lss,none,1⟩]
def c9_11 : ACode := .region o9_11 [(13,0)] false
def c9_12 : ACode := .cond (.var 13) .skip (.exit 0)
def c9_10 : ACode := .seq c9_11 c9_12
def o9_16 : List AOper := [⟨[.var 3],fMove,none,0⟩,
  ⟨[.var 4],fMove,none,0⟩,
  ⟨[.const (.func (.func 35) [] []),.loc 1,.loc 0],fCall,none,3⟩,
  ⟨[.loc 0],fMove,none,7⟩,
  ⟨[.loc 0],fExtract 0,none,15⟩,
  ⟨[.loc 1],fExtract 1,none,15⟩,
  ⟨[.loc 1],fMove,none,31⟩,
  ⟨[.loc 1],fMove,none,127⟩]
def c9_16 : ACode := .region o9_16 [(6,1),(7,0)] false
def o9_19 : List AOper := [⟨[.var 3],fMove,none,0⟩,
  ⟨[.const (.func (.func 45) [] []),.loc 0],fCall,none,1⟩,
  ⟨[.loc 0],fUn .not,none,3⟩,
  ⟨[.loc 0],fMove,none,7⟩,
  ⟨[.var 4],fMove,(some (0,false)),15⟩,
  ⟨[.const (.func (.func 45) [] []),.loc 0],fCall,(some (1,false)),31⟩,
  ⟨[.loc 0],fUn .not,(some (2,false)),63⟩,
  ⟨[.loc 3,.const (.bool true),.loc 0],fPick,none,127⟩]
def c9_19 : ACode := .region o9_19 [(14,0)] false
def o9_22 : List AOper := [⟨[.var 7],fMove,none,0⟩,
  ⟨[.loc 0,.const (.int .i64 (.ofNat 1))],fBin .neq,none,1⟩,
  ⟨[.loc 0],fMove,none,3⟩,
  ⟨[.var 6],fMove,(some (0,false)),7⟩,
  ⟨[.loc 1,.const (.bool true),.loc 0],fPick,none,15⟩]
def c9_22 : ACode := .region o9_22 [(15,0)] false
def o9_25 : List AOper := [⟨[.const (.bool false)],fMove,none,0⟩]
def c9_25 : ACode := .region o9_25 [(2,0)] false
def c9_24 : ACode := .seq c9_25 .ret
def c9_23 : ACode := .cond (.var 15) c9_24 .skip
def c9_21 : ACode := .seq c9_22 c9_23
def o9_27 : List AOper := [⟨[.var 7],fMove,none,0⟩,
  ⟨[.loc 0,.const (.int .i64 (.ofNat 0))],fBin .neq,none,1⟩,
  ⟨[.loc 0],fMove,none,3⟩,
  ⟨[.var 6],fMove,(some (0,false)),7⟩,
  ⟨[.var 3],fMove,(some (1,false)),7⟩,
  ⟨[.var 4],fMove,(some (2,false)),7⟩,
  ⟨[.const (.func (.func 46) [] []),.loc 1,.loc 0],fCall,(some (3,false)),55⟩,
  ⟨[.loc 3,.loc 0],fEqD true .b,(some (4,false)),127⟩,
  ⟨[.loc 5,.const (.bool true),.loc 0],fPick,none,255⟩]
def c9_27 : ACode := .region o9_27 [(16,0)] false
def o9_30 : List AOper := [⟨[.const (.bool false)],fMove,none,0⟩]
def c9_30 : ACode := .region o9_30 [(2,0)] false
def c9_29 : ACode := .seq c9_30 .ret
def c9_28 : ACode := .cond (.var 16) c9_29 .skip
def c9_26 : ACode := .seq c9_27 c9_28
def c9_20 : ACode := .cond (.var 14) c9_21 c9_26
def c9_18 : ACode := .seq c9_19 c9_20
def o9_32 : List AOper := [⟨[.var 3],fMove,none,0⟩,
  ⟨[.const (.func (.func 47) [] []),.loc 0],fCall,none,1⟩,
  ⟨[.loc 0],fMove,none,3⟩,
  ⟨[.loc 0],fExtract 0,none,7⟩,
  ⟨[.loc 1],fExtract 1,none,7⟩,
  ⟨[.loc 1],fMove,none,15⟩,
  ⟨[.loc 1],fMove,none,63⟩]
def c9_32 : ACode := .region o9_32 [(8,1),(9,0)] false
def o9_34 : List AOper := [⟨[.var 3],fMove,none,0⟩,
  ⟨[.const (.func (.func 33) [] []),.loc 0],fCall,none,1⟩,
  ⟨[.loc 0],fMove,none,3⟩,
  ⟨[.loc 0],fExtract 0,none,7⟩,
  ⟨[.loc 1],fExtract 1,none,7⟩,
  ⟨[.loc 1],fMove,none,15⟩,
  ⟨[.loc 1],fMove,none,63⟩]
def c9_34 : ACode := .region o9_34 [(10,1),(11,0)] false
def o9_38 : List AOper := [⟨[.var 3],fMove,none,0⟩,
  ⟨[.const (.func (.func 48) [] []),.loc 0],fCall,none,1⟩,
  ⟨[.loc 0],fUn .not,none,3⟩,
  ⟨[.loc 0],fMove,none,7⟩]
def c9_38 : ACode := .region o9_38 [(18,0)] false
def o9_41 : List AOper := [⟨[.var 9],fMove,none,0⟩,
  ⟨[.loc 0,.const (.int .i64 (.ofNat 1))],fBin .neq,none,1⟩,
  ⟨[.loc 0],fMove,none,3⟩,
  ⟨[.var 11],fMove,(some (0,false)),7⟩,
  ⟨[.loc 0,.const (.int .i64 (.ofNat 1))],fBin .neq,(some (1,false)),15⟩,
  ⟨[.loc 2,.const (.bool true),.loc 0],fPick,none,31⟩,
  ⟨[.loc 0],fMove,none,63⟩,
  ⟨[.var 8],fMove,(some (0,false)),127⟩,
  ⟨[.loc 1,.const (.bool true),.loc 0],fPick,none,255⟩,
  ⟨[.loc 0],fMove,none,511⟩,
  ⟨[.var 10],fMove,(some (0,false)),1023⟩,
  ⟨[.loc 0],fLenSl,(some (1,false)),2047⟩,
  ⟨[.loc 0,.const (.int .i64 (.ofNat 0))],fBin .neq,(some (2,false)),4095⟩,
  ⟨[.loc 3,.const (.bool true),.loc 0],fPick,none,8191⟩]
def c9_41 : ACode := .region o9_41 [(19,0)] false
def o9_44 : List AOper := [⟨[.const (.bool false)],fMove,none,0⟩]
def c9_44 : ACode := .region o9_44 [(2,0)] false
def c9_43 : ACode := .seq c9_44 .ret
def c9_42 : ACode := .cond (.var 19) c9_43 .skip
def c9_40 : ACode := .seq c9_41 c9_42
def o9_46 : List AOper := [⟨[.var 9],fMove,none,0⟩,
  ⟨[.loc 0,.const (.int .i64 (.ofNat 0))],fBin .neq,none,1⟩,
  ⟨[.loc 0],fMove,none,3⟩,
  ⟨[.var 8],fMove,(some (0,false)),7⟩,
  ⟨[.var 3],fMove,(some (1,false)),7⟩,
  ⟨[.const (.func (.func 49) [] []),.loc 0],fCall,(some (2,false)),23⟩,
  ⟨[.loc 2,.loc 0],fEqD true .b,(some (3,false)),63⟩,
  ⟨[.loc 4,.const (.bool true),.loc 0],fPick,none,127⟩,
  ⟨[.loc 0],fMove,none,255⟩]
def c9_46 : ACode := .region o9_46 [(20,0)] false
def o9_49 : List AOper := [⟨[.const (.bool false)],fMove,none,0⟩]
def c9_49 : ACode := .region o9_49 [(2,0)] false
def c9_48 : ACode := .seq c9_49 .ret
def o9_51 : List AOper := [⟨[.var 3],fMove,none,0⟩,
  ⟨[.loc 0],fLenStr,none,1⟩,
  ⟨[.loc 0,.const (.int .i64 (.ofNat 1))],fBin .lss,none,3⟩,
  ⟨[.loc 0],fMove,none,7⟩,
  ⟨[.var 3],fMove,(some (0,false)),15⟩,
  ⟨[.loc 0],fLenStr,(some (1,false)),31⟩,
  ⟨[.loc 0,.const (.int .i64 (.ofNat 7))],fBin .gtr,(some (2,false)),63⟩,
  ⟨[.loc 3,.const (.bool true),.loc 0],fPick,none,127⟩,
  ⟨[.loc 0],fMove,none,255⟩]
def c9_51 : ACode := .region o9_51 [(21,0)] false
def o9_54 : List AOper := [⟨[.var 11],fMove,none,0⟩,
  ⟨[.loc 0,.const (.int .i64 (.ofNat 1))],fBin .neq,none,1⟩,
  ⟨[.loc 0],fMove,none,3⟩,
  ⟨[.var 10],fMove,(some (0,false)),7⟩,
  ⟨[.loc 0],fLenSl,(some (1,false)),15⟩,
  ⟨[.loc 0,.const (.int .i64 (.ofNat 0))],fBin .neq,(some (2,false)),31⟩,
  ⟨[.loc 3,.const (.bool true),.loc 0],fPick,none,63⟩]
def c9_54 : ACode := .region o9_54 [(22,0)] false
def o9_57 : List AOper := [⟨[.const (.bool false)],fMove,none,0⟩]
def c9_57 : ACode := .region o9_57 [(2,0)] false
def c9_56 : ACode := .seq c9_57 .ret
def c9_55 : ACode := .cond (.var 22) c9_56 .skip
def c9_53 : ACode := .seq c9_54 c9_55
def o9_59 : List AOper := [⟨[.var 8],fMove,none,0⟩,
  ⟨[.loc 0],fUn .not,none,1⟩,
  ⟨[.loc 0],fMove,none,3⟩]
def c9_59 : ACode := .region o9_59 [(23,0)] false
def o9_62 : List AOper := [⟨[.var 11],fMove,none,0⟩,
  ⟨[.loc 0,.const (.int .i64 (.ofNat 4))],fBin .neq,none,1⟩,
  ⟨[.loc 0],fMove,none,3⟩,
  ⟨[.var 10],fMove,(some (0,false)),7⟩,
  ⟨[.loc 0],fLenSl,(some (1,false)),15⟩,
  ⟨[.loc 0,.const (.int .i64 (.ofNat 0))],fBin .neq,(some (2,false)),31⟩,
  ⟨[.loc 3,.const (.bool true),.loc 0],fPick,none,63⟩]
def c9_62 : ACode := .region o9_62 [(24,0)] false
def o9_65 : List AOper := [⟨[.const (.bool false)],fMove,none,0⟩]
def c9_65 : ACode := .region o9_65 [(2,0)] false
def c9_64 : ACode := .seq c9_65 .ret
def c9_63 : ACode := .cond (.var 24) c9_64 .skip
def c9_61 : ACode := .seq c9_62 c9_63
def o9_67 : List AOper := [⟨[.var 11],fMove,none,0⟩,
  ⟨[.loc 0,.const (.int .i64 (.ofNat 0))],fBin .neq,none,1⟩,
  ⟨[.loc 0],fMove,none,3⟩,
  ⟨[.var 10],fMove,(some (0,false)),7⟩,
  ⟨[.var 3],fMove,(some (1,false)),7⟩,
  ⟨[.const (.func (.func 50) [] []),.loc 0],fCall,(some (2,false)),23⟩,
  ⟨[.const (.func (.func 43) [] []),.loc 2,.loc 0],fCall,(some (3,false)),63⟩,
  ⟨[.loc 0],fUn .not,(some (4,false)),127⟩,
  ⟨[.loc 5,.const (.bool true),.loc 0],fPick,none,255⟩]
def c9_67 : ACode := .region o9_67 [(17,0)] false
def o9_70 : List AOper := [⟨[.const (.bool false)],fMove,none,0⟩]
def c9_70 : ACode := .region o9_70 [(2,0)] false
def c9_69 : ACode := .seq c9_70 .ret
def c9_68 : ACode := .cond (.var 17) c9_69 .skip
def c9_66 : ACode := .seq c9_67 c9_68
def c9_60 : ACode := .cond (.var 23) c9_61 c9_66
def c9_58 : ACode := .seq c9_59 c9_60
def c9_52 : ACode := .cond (.var 21) c9_53 c9_58
def c9_50 : ACode := .seq c9_51 c9_52
def c9_47 : ACode := .cond (.var 20) c9_48 c9_50
def c9_45 : ACode := .seq c9_46 c9_47
def c9_39 : ACode := .cond (.var 18) c9_40 c9_45
def c9_37 : ACode := .seq c9_38 c9_39
def c9_36 : ACode := .block 2 c9_37
def o9_72 : List AOper := [⟨[.var 0],fMove,none,0⟩,
  ⟨[.const (.func (.func 51) [] []),.loc 0],fCall,none,1⟩,
  ⟨[.loc 0,.const (.str [67])],fBin .add,none,3⟩,
  ⟨[.var 1],fMove,none,0⟩,
  ⟨[.const (.func (.func 51) [] []),.loc 0],fCall,none,11⟩,
  ⟨[.loc 0,.const (.str [67])],fBin .add,none,27⟩,
  ⟨[.loc 3],fMove,none,31⟩,
  ⟨[.loc 1],fMove,none,127⟩]
def c9_72 : ACode := .region o9_72 [(3,1),(4,0)] false
def o9_74 : List AOper := [⟨[.var 0],fMove,none,0⟩,
  ⟨[.loc 0],fLenStr,none,1⟩,
  ⟨[.loc 0,.const (.int .i64 (.ofNat 7))],fMin,none,3⟩,
  ⟨[.const (.func (.func 16) [] []),.loc 0],fCall,none,7⟩,
  ⟨[.loc 0],fMove,none,15⟩]
def c9_74 : ACode := .region o9_74 [(12,0)] false
def o9_76 : List AOper := [⟨[.var 1],fMove,none,0⟩,
  ⟨[.loc 0],fLenStr,none,1⟩,
  ⟨[.loc 0,.const (.int .i64 (.ofNat 2))],fBin .rem,none,3⟩,
  ⟨[.loc 0,.const (.int .i64 (.ofNat 0))],fBin .eql,none,7⟩,
  ⟨[.loc 0],fMove,none,15⟩,
  ⟨[.var 12],fMove,(some (0,true)),31⟩,
  ⟨[.loc 0],fLenSl,(some (1,true)),63⟩,
  ⟨[.loc 0,.const (.int .i64 (.ofNat 0))],fBin .gtr,(some (2,true)),127⟩,
  ⟨[.loc 3,.loc 0,.const (.bool false)],fPick,none,255⟩]
def c9_76 : ACode := .region o9_76 [(25,0)] false
def o9_78 : List AOper := [⟨[.var 12],fMove,none,0⟩,
  ⟨[.var 1],fMove,none,0⟩,
  ⟨[.loc 0],fLenStr,none,2⟩,
  ⟨[.loc 0,.const (.int .i64 (.ofNat 2))],fBin .quo,none,6⟩,
  ⟨[.var 12],fMove,none,0⟩,
  ⟨[.loc 0],fLenSl,none,16⟩,
  ⟨[.loc 2,.loc 0],fBin .rem,none,62⟩,
  ⟨[.loc 6,.loc 0],fIndexAddr 1,none,127⟩,
  ⟨[.loc 0],fLoad1,none,255⟩,
  ⟨[.loc 0],fMove,none,511⟩]
def c9_78 : ACode := .region o9_78 [(3,0)] false
def c9_77 : ACode := .cond (.var 25) c9_78 .skip
def c9_75 : ACode := .seq c9_76 c9_77
def c9_73 : ACode := .seq c9_74 c9_75
def c9_71 : ACode := .seq c9_72 c9_73
def c9_35 : ACode := .seq c9_36 c9_71
def c9_33 : ACode := .seq c9_34 c9_35
def c9_31 : ACode := .seq c9_32 c9_33
def c9_17 : ACode := .seq c9_18 c9_31
def c9_15 : ACode := .seq c9_16 c9_17
def c9_14 : ACode := .block 1 c9_15
def o9_79 : List AOper := [⟨[.var 5],fMove,none,0⟩,
  ⟨[.loc 0,.const (.int .i64 (.ofNat 1))],fBin .add,none,1⟩,
  ⟨[.loc 0],fMove,none,3⟩]
def c9_79 : ACode := .region o9_79 [(5,0)] false
def c9_13 : ACode := .seq c9_14 c9_79
def c9_9 : ACode := .seq c9_10 c9_13
def c9_8 : ACode := .loop c9_9
def c9_7 : ACode := .block 0 c9_8
def c9_5 : ACode := .seq c9_6 c9_7
def o9_81 : List AOper := [⟨[.const (.func (.func 18) [] [])],fCall,none,0⟩,
  ⟨[.loc 0],fMove,none,1⟩]
def c9_81 : ACode := .region o9_81 [(2,0)] false
def c9_80 : ACode := .seq c9_81 .ret
def c9_4 : ACode := .seq c9_5 c9_80
def c9_2 : ACode := .seq c9_3 c9_4
def c9_0 : ACode := .seq c9_1 c9_2
def vm9 : List Nat := [0, 1, 4, 5, 6, 7, 8, 9, 10, 11, 12, 13, 14, 26, 42, 47, 56, 75, 76, 93, 94, 103, 118, 119, 128, 147]
def c9 : AFn := ⟨2, 26, [.var 2], c9_0⟩
/- 10 girouette/girouettelaw05.CyclesAfter : slots [0, 1, 4, 5, 6, 7, 8, 9, 10, 12, 34, 39, 48, 63, 70, 83, 86, 92] -/
def o10_1 : List AOper := [⟨[.const (.bool false)],fMove,none,0⟩]
def c10_1 : ACode := .region o10_1 [(2,0)] false
def o10_4 : List AOper := [⟨[.const (.int .i64 (.ofNat 0))],fMove,none,0⟩]
def c10_4 : ACode := .region o10_4 [(3,0)] false
def o10_9 : List AOper := [⟨[.var 3],fMove,none,0⟩,
  ⟨[.loc 0,.const (.int .i64 (.ofNat 2))],fBin .lss,none,1⟩]
def c10_9 : ACode := .region o10_9 [(9,0)] false
def c10_10 : ACode := .cond (.var 9) .skip (.exit 0)
def c10_8 : ACode := .seq c10_9 c10_10
def o10_14 : List AOper := [⟨[.var 0],fMove,none,0⟩,
  ⟨[.var 1],fMove,none,0⟩,
  ⟨[.const (.func (.func 44) [] []),.loc 1,.loc 0],fCall,none,3⟩,
  ⟨[.loc 0],fMove,none,7⟩,
  ⟨[.loc 0],fExtract 0,none,15⟩,
  ⟨[.loc 1],fExtract 1,none,15⟩,
  ⟨[.loc 1],fMove,none,31⟩,
  ⟨[.loc 1],fMove,none,127⟩]
def c10_14 : ACode := .region o10_14 [(4,1),(5,0)] false
def o10_17 : List AOper := [⟨[.var 0],fMove,none,0⟩,
  ⟨[.loc 0,.const (.int .i64 (.ofNat 1))],fBin .lss,none,1⟩,
  ⟨[.loc 0],fMove,none,3⟩,
  ⟨[.var 1],fMove,(some (0,false)),7⟩,
  ⟨[.loc 0,.const (.int .i64 (.ofNat 1))],fBin .lss,(some (1,false)),15⟩,
  ⟨[.loc 2,.const (.bool true),.loc 0],fPick,none,31⟩,
  ⟨[.loc 0],fMove,none,63⟩,
  ⟨[.var 0],fMove,(some (0,false)),127⟩,
  ⟨[.loc 0,.const (.int .i64 (.ofNat 1000000000))],fBin .gtr,(some (1,false)),255⟩,
  ⟨[.loc 2,.const (.bool true),.loc 0],fPick,none,511⟩,
  ⟨[.loc 0],fMove,none,1023⟩,
  ⟨[.var 1],fMove,(some (0,false)),2047⟩,
  ⟨[.loc 0,.const (.int .i64 (.ofNat 1000000000))],fBin .gtr,(some (1,false)),4095⟩,
  ⟨[.loc 2,.const (.bool true),.loc 0],fPick,none,8191⟩]
def c10_17 : ACode := .region o10_17 [(10,0)] false
def o10_20 : List AOper := [⟨[.var 5],fMove,none,0⟩,
  ⟨[.loc 0,.const (.int .i64 (.ofNat 1))],fBin .neq,none,1⟩,
  ⟨[.loc 0],fMove,none,3⟩,
  ⟨[.var 4],fMove,(some (0,false)),7⟩,
  ⟨[.loc 1,.const (.bool true),.loc 0],fPick,none,15⟩]
def c10_20 : ACode := .region o10_20 [(11,0)] false
def o10_23 : List AOper := [⟨[.const (.bool false)],fMove,none,0⟩]
def c10_23 : ACode := .region o10_23 [(2,0)] false
def c10_22 : ACode := .seq c10_23 .ret
def c10_21 : ACode := .cond (.var 11) c10_22 .skip
def c10_19 : ACode := .seq c10_20 c10_21
def o10_25 : List AOper := [⟨[.var 5],fMove,none,0⟩,
  ⟨[.loc 0,.const (.int .i64 (.ofNat 0))],fBin .neq,none,1⟩,
  ⟨[.loc 0],fMove,none,3⟩,
  ⟨[.var 4],fMove,(some (0,false)),7⟩,
  ⟨[.var 0],fMove,(some (1,false)),7⟩,
  ⟨[.var 1],fMove,(some (2,false)),7⟩,
  ⟨[.const (.func (.func 52) [] []),.loc 1,.loc 0],fCall,(some (3,false)),55⟩,
  ⟨[.loc 3,.loc 0],fEqD true .b,(some (4,false)),127⟩,
  ⟨[.loc 5,.const (.bool true),.loc 0],fPick,none,255⟩]
def c10_25 : ACode := .region o10_25 [(12,0)] false
def o10_28 : List AOper := [⟨[.const (.bool false)],fMove,none,0⟩]
def c10_28 : ACode := .region o10_28 [(2,0)] false
def c10_27 : ACode := .seq c10_28 .ret
def c10_26 : ACode := .cond (.var 12) c10_27 .skip
def c10_24 : ACode := .seq c10_25 c10_26
def c10_18 : ACode := .cond (.var 10) c10_19 c10_24
def c10_16 : ACode := .seq c10_17 c10_18
def o10_30 : List AOper := [⟨[.var 0],fMove,none,0⟩,
  ⟨[.const (.func (.func 53) [] []),.loc 0],fCall,none,1⟩,
  ⟨[.loc 0],fMove,none,3⟩,
  ⟨[.loc 0],fExtract 0,none,7⟩,
  ⟨[.loc 1],fExtract 1,none,7⟩,
  ⟨[.loc 1],fMove,none,15⟩,
  ⟨[.loc 1],fMove,none,63⟩]
def c10_30 : ACode := .region o10_30 [(6,1),(7,0)] false
def o10_33 : List AOper := [⟨[.var 0],fMove,none,0⟩,
  ⟨[.loc 0,.const (.int .i64 (.ofNat 3))],fBin .neq,none,1⟩,
  ⟨[.loc 0],fMove,none,3⟩,
  ⟨[.var 0],fMove,(some (0,true)),7⟩,
  ⟨[.loc 0,.const (.int .i64 (.ofNat 5))],fBin .neq,(some (1,true)),15⟩,
  ⟨[.loc 2,.loc 0,.const (.bool false)],fPick,none,31⟩,
  ⟨[.loc 0],fMove,none,63⟩,
  ⟨[.var 0],fMove,(some (0,true)),127⟩,
  ⟨[.loc 0,.const (.int .i64 (.ofNat 7))],fBin .neq,(some (1,true)),255⟩,
  ⟨[.loc 2,.loc 0,.const (.bool false)],fPick,none,511⟩]
def c10_33 : ACode := .region o10_33 [(13,0)] false
def o10_36 : List AOper := [⟨[.var 7],fMove,none,0⟩,
  ⟨[.loc 0,.const (.int .i64 (.ofNat 1))],fBin .neq,none,1⟩,
  ⟨[.loc 0],fMove,none,3⟩,
  ⟨[.var 6],fMove,(some (0,false)),7⟩,
  ⟨[.loc 0],fLenSl,(some (1,false)),15⟩,
  ⟨[.loc 0,.const (.int .i64 (.ofNat 0))],fBin .neq,(some (2,false)),31⟩,
  ⟨[.loc 3,.const (.bool true),.loc 0],fPick,none,63⟩]
def c10_36 : ACode := .region o10_36 [(14,0)] false
def o10_39 : List AOper := [⟨[.const (.bool false)],fMove,none,0⟩]
def c10_39 : ACode := .region o10_39 [(2,0)] false
def c10_38 : ACode := .seq c10_39 .ret
def c10_37 : ACode := .cond (.var 14) c10_38 .skip
def c10_35 : ACode := .seq c10_36 c10_37
def o10_42 : List AOper := [⟨[.var 7],fMove,none,0⟩,
  ⟨[.loc 0,.const (.int .i64 (.ofNat 0))],fBin .neq,none,1⟩,
  ⟨[.loc 0],fMove,none,3⟩,
  ⟨[.var 6],fMove,(some (0,false)),7⟩,
  ⟨[.loc 0],fLenSl,(some (1,false)),15⟩,
  ⟨[.var 0],fMove,(some (2,false)),7⟩,
  ⟨[.loc 1,.loc 0],fBin .neq,(some (3,false)),63⟩,
  ⟨[.loc 4,.const (.bool true),.loc 0],fPick,none,127⟩,
  ⟨[.loc 0],fMove,none,255⟩,
  ⟨[.var 6],fMove,(some (0,false)),511⟩,
  ⟨[.const (.func (.func 34) [] []),.loc 0],fCall,(some (1,false)),1023⟩,
  ⟨[.loc 0],fUn .not,(some (2,false)),2047⟩,
  ⟨[.loc 3,.const (.bool true),.loc 0],fPick,none,4095⟩]
def c10_42 : ACode := .region o10_42 [(15,0)] false
def o10_45 : List AOper := [⟨[.const (.bool false)],fMove,none,0⟩]
def c10_45 : ACode := .region o10_45 [(2,0)] false
def c10_44 : ACode := .seq c10_45 .ret
def c10_43 : ACode := .cond (.var 15) c10_44 .skip
def c10_41 : ACode := .seq c10_42 c10_43
def o10_47 : List AOper := [⟨[.const (.int .i64 (.ofNat 3))],fMove,none,0⟩]
def c10_47 : ACode := .region o10_47 [(8,0)] false
def o10_52 : List AOper := [⟨[.var 8],fMove,none,0⟩,
  ⟨[.var 0],fMove,none,0⟩,
  ⟨[.loc 1,.loc 0],fBin .lss,none,3⟩]
def c10_52 : ACode := .region o10_52 [(16,0)] false
def c10_53 : ACode := .cond (.var 16) .skip (.exit 2)
def c10_51 : ACode := .seq c10_52 c10_53
def o10_57 : List AOper := [⟨[.var 6],fMove,none,0⟩,
  ⟨[.var 8],fMove,none,0⟩,
  ⟨[.const (.func (.func 54) [] []),.loc 1,.loc 0],fCall,none,3⟩,
  ⟨[.loc 0,.const (.int .i64 (.ofNat 0))],fBin .gtr,none,7⟩]
def c10_57 : ACode := .region o10_57 [(17,0)] false
def o10_60 : List AOper := [⟨[.const (.bool false)],fMove,none,0⟩]
def c10_60 : ACode := .region o10_60 [(2,0)] false
def c10_59 : ACode := .seq c10_60 .ret
def c10_58 : ACode := .cond (.var 17) c10_59 .skip
def c10_56 : ACode := .seq c10_57 c10_58
def c10_55 : ACode := .block 3 c10_56
def o10_61 : List AOper := [⟨[.var 8],fMove,none,0⟩,
  ⟨[.loc 0,.const (.int .i64 (.ofNat 2))],fBin .add,none,1⟩,
  ⟨[.loc 0],fMove,none,3⟩]
def c10_61 : ACode := .region o10_61 [(8,0)] false
def c10_54 : ACode := .seq c10_55 c10_61
def c10_50 : ACode := .seq c10_51 c10_54
def c10_49 : ACode := .loop c10_50
def c10_48 : ACode := .block 2 c10_49
def c10_46 : ACode := .seq c10_47 c10_48
def c10_40 : ACode := .seq c10_41 c10_46
def c10_34 : ACode := .cond (.var 13) c10_35 c10_40
def c10_32 : ACode := .seq c10_33 c10_34
def o10_63 : List AOper := [⟨[.var 0],fMove,none,0⟩,
  ⟨[.loc 0],fConvInt .u64,none,1⟩,
  ⟨[.loc 0,.const (.int .u64 (.ofNat 70))],fBin .rem,none,3⟩,
  ⟨[.loc 0],fConvInt .i64,none,7⟩,
  ⟨[.const (.int .i64 (.ofNat 1)),.loc 0],fBin .add,none,15⟩,
  ⟨[.loc 0],fMove,none,31⟩]
def c10_63 : ACode := .region o10_63 [(0,0)] false
def o10_64 : List AOper := [⟨[.var 1],fMove,none,0⟩,
  ⟨[.loc 0],fConvInt .u64,none,1⟩,
  ⟨[.loc 0,.const (.int .u64 (.ofNat 70))],fBin .rem,none,3⟩,
  ⟨[.loc 0],fConvInt .i64,none,7⟩,
  ⟨[.const (.int .i64 (.ofNat 1)),.loc 0],fBin .add,none,15⟩,
  ⟨[.loc 0],fMove,none,31⟩]
def c10_64 : ACode := .region o10_64 [(1,0)] false
def c10_62 : ACode := .seq c10_63 c10_64
def c10_31 : ACode := .seq c10_32 c10_62
def c10_29 : ACode := .seq c10_30 c10_31
def c10_15 : ACode := .seq c10_16 c10_29
def c10_13 : ACode := .seq c10_14 c10_15
def c10_12 : ACode := .block 1 c10_13
def o10_65 : List AOper := [⟨[.var 3],fMove,none,0⟩,
  ⟨[.loc 0,.const (.int .i64 (.ofNat 1))],fBin .add,none,1⟩,
  ⟨[.loc 0],fMove,none,3⟩]
def c10_65 : ACode := .region o10_65 [(3,0)] false
def c10_11 : ACode := .seq c10_12 c10_65
def c10_7 : ACode := .seq c10_8 c10_11
def c10_6 : ACode := .loop c10_7
def c10_5 : ACode := .block 0 c10_6
def c10_3 : ACode := .seq c10_4 c10_5
def o10_67 : List AOper := [⟨[.const (.func (.func 18) [] [])],fCall,none,0⟩,
  ⟨[.loc 0],fMove,none,1⟩]
def c10_67 : ACode := .region o10_67 [(2,0)] false
def c10_66 : ACode := .seq c10_67 .ret
def c10_2 : ACode := .seq c10_3 c10_66
def c10_0 : ACode := .seq c10_1 c10_2
def vm10 : List Nat := [0, 1, 4, 5, 6, 7, 8, 9, 10, 12, 34, 39, 48, 63, 70, 83, 86, 92]
def c10 : AFn := ⟨2, 18, [.var 2], c10_0⟩
/- 11 girouette/girouettelaw05.CyclesPlain : slots [0, 1, 4, 5, 6, 7, 8, 9, 10, 11, 12, 13, 14, 15, 16, 17, 18, 19, 30, 60, 73, 79] -/
def o11_1 : List AOper := [⟨[.const (.bool false)],fMove,none,0⟩]
def c11_1 : ACode := .region o11_1 [(2,0)] false
def o11_3 : List AOper := [⟨[.var 0],fMove,none,0⟩,
  ⟨[.const (.func (.func 25) [] []),.loc 0],fCall,none,1⟩,
  ⟨[.loc 0],fMove,none,3⟩]
def c11_3 : ACode := .region o11_3 [(3,0)] false
def o11_5 : List AOper := [⟨[.var 3],fMove,none,0⟩,
  ⟨[.var 1],fMove,none,0⟩,
  ⟨[.const (.func (.func 32) [] []),.loc 1,.loc 0],fCall,none,3⟩,
  ⟨[.loc 0],fMove,none,7⟩]
def c11_5 : ACode := .region o11_5 [(4,0)] false
def o11_8 : List AOper := [⟨[.var 4],fMove,none,0⟩,
  ⟨[.loc 0,.const .nilslice],fEqNil true,none,1⟩,
  ⟨[.loc 0],fMove,none,3⟩,
  ⟨[.var 4],fMove,(some (0,true)),7⟩,
  ⟨[.const (.func (.func 55) [] []),.loc 0],fCall,(some (1,true)),15⟩,
  ⟨[.loc 2,.loc 0,.const (.bool false)],fPick,none,31⟩]
def c11_8 : ACode := .region o11_8 [(18,0)] false
def o11_11 : List AOper := [⟨[.var 3],fMove,none,0⟩,
  ⟨[.var 4],fMove,none,0⟩,
  ⟨[.const (.func (.func 28) [] []),.loc 1,.loc 0],fCall,none,3⟩,
  ⟨[.loc 0],fMove,none,7⟩,
  ⟨[.loc 0],fExtract 0,none,15⟩,
  ⟨[.loc 1],fExtract 1,none,15⟩,
  ⟨[],fAlloc [(.int .i64 (.ofNat 0)),(.int .i64 (.ofNat 0))],none,0⟩,
  ⟨[.loc 0,.loc 2],fStore 2,none,95⟩,
  ⟨[.loc 2],fMove,none,255⟩]
def c11_11 : ACode := .region o11_11 [(5,2),(6,0)] false
def o11_13 : List AOper := [⟨[.var 3],fMove,none,0⟩,
  ⟨[.var 5],fLoadN 2,none,0⟩,
  ⟨[.const (.func (.func 37) [] []),.loc 1,.loc 0],fCall,none,3⟩,
  ⟨[.loc 0],fMove,none,7⟩,
  ⟨[.loc 0],fExtract 0,none,15⟩,
  ⟨[.loc 1],fExtract 1,none,15⟩,
  ⟨[.loc 2],fExtract 2,none,15⟩,
  ⟨[.loc 2],fMove,none,31⟩,
  ⟨[.loc 2],fMove,none,191⟩,
  ⟨[.loc 2],fMove,none,511⟩]
def c11_13 : ACode := .region o11_13 [(7,2),(8,1),(9,0)] false
def o11_15 : List AOper := [⟨[.var 6],fMove,none,0⟩,
  ⟨[.loc 0,.const (.int .i64 (.ofNat 0))],fBin .neq,none,1⟩,
  ⟨[.loc 0],fMove,none,3⟩,
  ⟨[.var 9],fMove,(some (0,false)),7⟩,
  ⟨[.loc 0,.const (.int .i64 (.ofNat 0))],fBin .neq,(some (1,false)),15⟩,
  ⟨[.loc 2,.const (.bool true),.loc 0],fPick,none,31⟩,
  ⟨[.loc 0],fMove,none,63⟩,
  ⟨[.var 8],fMove,(some (0,false)),127⟩,
  ⟨[.loc 0],fUn .not,(some (1,false)),255⟩,
  ⟨[.loc 2,.const (.bool true),.loc 0],fPick,none,511⟩,
  ⟨[.loc 0],fMove,none,1023⟩,
  ⟨[.var 4],fMove,(some (0,false)),2047⟩,
  ⟨[.loc 0],fLenSl,(some (1,false)),4095⟩,
  ⟨[.var 7],fMove,(some (2,false)),2047⟩,
  ⟨[.loc 1,.loc 0],fBin .rem,(some (3,false)),16383⟩,
  ⟨[.loc 0,.const (.int .i64 (.ofNat 0))],fBin .neq,(some (4,false)),32767⟩,
  ⟨[.loc 5,.const (.bool true),.loc 0],fPick,none,65535⟩]
def c11_15 : ACode := .region o11_15 [(19,0)] false
def o11_18 : List AOper := [⟨[.const (.bool false)],fMove,none,0⟩]
def c11_18 : ACode := .region o11_18 [(2,0)] false
def c11_17 : ACode := .seq c11_18 .ret
def c11_16 : ACode := .cond (.var 19) c11_17 .skip
def c11_14 : ACode := .seq c11_15 c11_16
def c11_12 : ACode := .seq c11_13 c11_14
def c11_10 : ACode := .seq c11_11 c11_12
def c11_9 : ACode := .cond (.var 18) c11_10 .skip
def c11_7 : ACode := .seq c11_8 c11_9
def o11_20 : List AOper := [⟨[.var 1],fMove,none,0⟩,
  ⟨[.loc 0],fLenSl,none,1⟩,
  ⟨[.loc 0,.const (.int .i64 (.ofNat 12))],fBin .rem,none,3⟩,
  ⟨[.const (.int .i64 (.ofNat 1)),.loc 0],fBin .add,none,7⟩,
  ⟨[.loc 0],fMove,none,15⟩]
def c11_20 : ACode := .region o11_20 [(10,0)] false
def o11_22 : List AOper := [⟨[.var 3],fMove,none,0⟩,
  ⟨[.var 10],fMove,none,0⟩,
  ⟨[.const (.func (.func 56) [] []),.loc 1,.loc 0],fCall,none,3⟩,
  ⟨[.loc 0],fMove,none,7⟩,
  ⟨[.loc 0],fExtract 0,none,15⟩,
  ⟨[.loc 1],fExtract 1,none,15⟩,
  ⟨[.loc 1],fMove,none,31⟩,
  ⟨[.loc 1],fMove,none,127⟩]
def c11_22 : ACode := .region o11_22 [(11,1),(12,0)] false
def o11_24 : List AOper := [⟨[.const (.int .i64 (.ofNat 0))],fMove,none,0⟩]
def c11_24 : ACode := .region o11_24 [(13,0)] false
def o11_27 : List AOper := [⟨[.const (.int .i64 (.ofNat 1))],fMove,none,0⟩]
def c11_27 : ACode := .region o11_27 [(14,0)] false
def o11_32 : List AOper := [⟨[.var 14],fMove,none,0⟩,
  ⟨[.var 10],fMove,none,0⟩,
  ⟨[.loc 1,.loc 0],fBin .leq,none,3⟩]
def c11_32 : ACode := .region o11_32 [(20,0)] false
def c11_33 : ACode := .cond (.var 20) .skip (.exit 0)
def c11_31 : ACode := .seq c11_32 c11_33
def o11_37 : List AOper := [⟨[.var 10],fMove,none,0⟩,
  ⟨[.var 14],fMove,none,0⟩,
  ⟨[.loc 1,.loc 0],fBin .rem,none,3⟩,
  ⟨[.loc 0,.const (.int .i64 (.ofNat 0))],fBin .eql,none,7⟩]
def c11_37 : ACode := .region o11_37 [(21,0)] false
def o11_39 : List AOper := [⟨[.var 13],fMove,none,0⟩,
  ⟨[.var 3],fMove,none,0⟩,
  ⟨[.var 14],fMove,none,0⟩,
  ⟨[.const (.func (.func 54) [] []),.loc 1,.loc 0],fCall,none,6⟩,
  ⟨[.loc 3,.loc 0],fBin .add,none,15⟩,
  ⟨[.loc 0],fMove,none,31⟩]
def c11_39 : ACode := .region o11_39 [(13,0)] false
def c11_38 : ACode := .cond (.var 21) c11_39 .skip
def c11_36 : ACode := .seq c11_37 c11_38
def c11_35 : ACode := .block 1 c11_36
def o11_40 : List AOper := [⟨[.var 14],fMove,none,0⟩,
  ⟨[.loc 0,.const (.int .i64 (.ofNat 1))],fBin .add,none,1⟩,
  ⟨[.loc 0],fMove,none,3⟩]
def c11_40 : ACode := .region o11_40 [(14,0)] false
def c11_34 : ACode := .seq c11_35 c11_40
def c11_30 : ACode := .seq c11_31 c11_34
def c11_29 : ACode := .loop c11_30
def c11_28 : ACode := .block 0 c11_29
def c11_26 : ACode := .seq c11_27 c11_28
def o11_42 : List AOper := [⟨[.var 3],fMove,none,0⟩,
  ⟨[.var 1],fMove,none,0⟩,
  ⟨[.loc 0],fLenSl,none,2⟩,
  ⟨[.var 3],fMove,none,0⟩,
  ⟨[.loc 0],fLenSl,none,8⟩,
  ⟨[.loc 2,.loc 0],fBin .rem,none,30⟩,
  ⟨[.loc 0,.const (.int .i64 (.ofNat 1))],fBuild [(.int .i64 (.ofNat 0)),(.int .i64 (.ofNat 0))] [(0,1),(1,1)],none,62⟩,
  ⟨[.const (.func (.func 37) [] []),.loc 6,.loc 0],fCall,none,127⟩,
  ⟨[.loc 0],fMove,none,255⟩,
  ⟨[.loc 0],fExtract 0,none,511⟩,
  ⟨[.loc 1],fExtract 1,none,511⟩,
  ⟨[.loc 2],fExtract 2,none,511⟩,
  ⟨[.loc 2],fMove,none,1023⟩,
  ⟨[.loc 2],fMove,none,6143⟩,
  ⟨[.loc 2],fMove,none,16383⟩]
def c11_42 : ACode := .region o11_42 [(15,2),(16,1),(17,0)] false
def o11_44 : List AOper := [⟨[.var 12],fMove,none,0⟩,
  ⟨[.loc 0,.const (.int .i64 (.ofNat 0))],fBin .eql,none,1⟩,
  ⟨[.loc 0],fMove,none,3⟩,
  ⟨[.var 11],fMove,(some (0,true)),7⟩,
  ⟨[.var 13],fMove,(some (1,true)),7⟩,
  ⟨[.loc 1,.loc 0],fBin .eql,(some (2,true)),31⟩,
  ⟨[.loc 3,.loc 0,.const (.bool false)],fPick,none,63⟩,
  ⟨[.loc 0],fMove,none,127⟩,
  ⟨[.var 17],fMove,(some (0,true)),255⟩,
  ⟨[.loc 0,.const (.int .i64 (.ofNat 0))],fBin .eql,(some (1,true)),511⟩,
  ⟨[.loc 2,.loc 0,.const (.bool false)],fPick,none,1023⟩,
  ⟨[.loc 0],fMove,none,2047⟩,
  ⟨[.var 16],fMove,(some (0,true)),4095⟩,
  ⟨[.loc 1,.loc 0,.const (.bool false)],fPick,none,8191⟩,
  ⟨[.loc 0],fMove,none,16383⟩,
  ⟨[.var 15],fMove,(some (0,true)),32767⟩,
  ⟨[.var 3],fMove,(some (1,true)),32767⟩,
  ⟨[.loc 0],fLenSl,(some (2,true)),98303⟩,
  ⟨[.loc 2,.loc 0],fBin .eql,(some (3,true)),262143⟩,
  ⟨[.loc 4,.loc 0,.const (.bool false)],fPick,none,524287⟩,
  ⟨[.loc 0],fMove,none,1048575⟩,
  ⟨[.const (.func (.func 18) [] [])],fCall,(some (0,true)),2097151⟩,
  ⟨[.loc 1,.loc 0,.const (.bool false)],fPick,none,4194303⟩,
  ⟨[.loc 0],fMove,none,8388607⟩]
def c11_44 : ACode := .region o11_44 [(2,0)] false
def c11_43 : ACode := .seq c11_44 .ret
def c11_41 : ACode := .seq c11_42 c11_43
def c11_25 : ACode := .seq c11_26 c11_41
def c11_23 : ACode := .seq c11_24 c11_25
def c11_21 : ACode := .seq c11_22 c11_23
def c11_19 : ACode := .seq c11_20 c11_21
def c11_6 : ACode := .seq c11_7 c11_19
def c11_4 : ACode := .seq c11_5 c11_6
def c11_2 : ACode := .seq c11_3 c11_4
def c11_0 : ACode := .seq c11_1 c11_2
def vm11 : List Nat := [0, 1, 4, 5, 6, 7, 8, 9, 10, 11, 12, 13, 14, 15, 16, 17, 18, 19, 30, 60, 73, 79]
def c11 : AFn := ⟨2, 22, [.var 2], c11_0⟩
/- 13 girouette/girouettelaw05.CyclesLoops : slots [0, 1, 3, 4, 5, 6, 7, 8, 9, 10, 11, 12, 13, 14, 15, 16, 17, 18, 19, 20, 21, 31, 60, 65, 75, 94, 112, 140] -/
def o13_1 : List AOper := [⟨[.var 1],fBox,none,0⟩,
  ⟨[.const (.bool false)],fMove,none,0⟩]
def c13_1 : ACode := .region o13_1 [(2,1),(3,0)] false
def o13_3 : List AOper := [⟨[.var 0],fMove,none,0⟩,
  ⟨[.const (.func (.func 25) [] []),.loc 0],fCall,none,1⟩,
  ⟨[.loc 0],fMove,none,3⟩]
def c13_3 : ACode := .region o13_3 [(4,0)] false
def o13_5 : List AOper := [⟨[.var 2,.const (.int .i64 (.ofNat 0))],fIndexAddrArr 3 1,none,0⟩,
  ⟨[.loc 0],fLoad1,none,1⟩,
  ⟨[.var 2,.const (.int .i64 (.ofNat 1))],fIndexAddrArr 3 1,none,0⟩,
  ⟨[.loc 0],fLoad1,none,4⟩,
  ⟨[.var 2,.const (.int .i64 (.ofNat 2))],fIndexAddrArr 3 1,none,0⟩,
  ⟨[.loc 0],fLoad1,none,16⟩,
  ⟨[.loc 4],fMove,none,3⟩,
  ⟨[.loc 3],fMove,none,79⟩,
  ⟨[.loc 2],fMove,none,255⟩]
def c13_5 : ACode := .region o13_5 [(5,2),(6,1),(7,0)] true
def o13_8 : List AOper := [⟨[.const (.int .i64 (.ofNat 0))],fMove,none,0⟩]
def c13_8 : ACode := .region o13_8 [(8,0)] false
def o13_13 : List AOper := [⟨[.var 8],fMove,none,0⟩,
  ⟨[.loc 0,.const (.int .i64 (.ofNat 2))],fBin .lss,none,1⟩]
def c13_13 : ACode := .region o13_13 [(21,0)] false
def c13_14 : ACode := .cond (.var 21) .skip (.exit 0)
def c13_12 : ACode := .seq c13_13 c13_14
def o13_18 : List AOper := [⟨[.var 4],fMove,none,0⟩,
  ⟨[.var 5],fMove,none,0⟩,
  ⟨[.var 6],fMove,none,0⟩,
  ⟨[.const (.func (.func 66) [] []),.loc 2,.loc 1,.loc 0],fCall,none,7⟩,
  ⟨[.loc 0],fMove,none,15⟩,
  ⟨[.loc 0],fExtract 0,none,31⟩,
  ⟨[.loc 1],fExtract 1,none,31⟩,
  ⟨[.loc 1],fMove,none,63⟩,
  ⟨[.loc 1],fMove,none,255⟩]
def c13_18 : ACode := .region o13_18 [(9,1),(10,0)] false
def o13_21 : List AOper := [⟨[.var 5],fMove,none,0⟩,
  ⟨[.loc 0,.const (.int .i64 (.ofNat 0))],fBin .lss,none,1⟩,
  ⟨[.loc 0],fMove,none,3⟩,
  ⟨[.var 6],fMove,(some (0,false)),7⟩,
  ⟨[.loc 0,.const (.int .i64 (.ofNat 0))],fBin .lss,(some (1,false)),15⟩,
  ⟨[.loc 2,.const (.bool true),.loc 0],fPick,none,31⟩,
  ⟨[.loc 0],fMove,none,63⟩,
  ⟨[.var 5],fMove,(some (0,false)),127⟩,
  ⟨[.var 4],fMove,(some (1,false)),127⟩,
  ⟨[.loc 0],fLenSl,(some (2,false)),383⟩,
  ⟨[.loc 0,.const (.int .i64 (.ofNat 1))],fBin .sub,(some (3,false)),895⟩,
  ⟨[.loc 3,.loc 0],fBin .geq,(some (4,false)),2047⟩,
  ⟨[.loc 5,.const (.bool true),.loc 0],fPick,none,4095⟩,
  ⟨[.loc 0],fMove,none,8191⟩,
  ⟨[.var 6],fMove,(some (0,false)),16383⟩,
  ⟨[.var 4],fMove,(some (1,false)),16383⟩,
  ⟨[.loc 0],fLenSl,(some (2,false)),49151⟩,
  ⟨[.loc 0,.const (.int .i64 (.ofNat 1))],fBin .sub,(some (3,false)),114687⟩,
  ⟨[.loc 3,.loc 0],fBin .geq,(some (4,false)),262143⟩,
  ⟨[.loc 5,.const (.bool true),.loc 0],fPick,none,524287⟩]
def c13_21 : ACode := .region o13_21 [(22,0)] false
def o13_24 : List AOper := [⟨[.var 10],fMove,none,0⟩,
  ⟨[.loc 0,.const (.int .i64 (.ofNat 1))],fBin .neq,none,1⟩,
  ⟨[.loc 0],fMove,none,3⟩,
  ⟨[.var 9],fMove,(some (0,false)),7⟩,
  ⟨[.loc 1,.const (.bool true),.loc 0],fPick,none,15⟩]
def c13_24 : ACode := .region o13_24 [(23,0)] false
def o13_27 : List AOper := [⟨[.const (.bool false)],fMove,none,0⟩]
def c13_27 : ACode := .region o13_27 [(3,0)] false
def c13_26 : ACode := .seq c13_27 .ret
def c13_25 : ACode := .cond (.var 23) c13_26 .skip
def c13_23 : ACode := .seq c13_24 c13_25
def o13_29 : List AOper := [⟨[.var 10],fMove,none,0⟩,
  ⟨[.loc 0,.const (.int .i64 (.ofNat 0))],fBin .neq,none,1⟩,
  ⟨[.loc 0],fMove,none,3⟩,
  ⟨[.var 9],fMove,(some (0,false)),7⟩,
  ⟨[.var 4],fMove,(some (1,false)),7⟩,
  ⟨[.var 5],fMove,(some (2,false)),7⟩,
  ⟨[.var 6],fMove,(some (3,false)),7⟩,
  ⟨[.const (.func (.func 67) [] []),.loc 2,.loc 1,.loc 0],fCall,(some (4,false)),119⟩,
  ⟨[.loc 4,.loc 0],fEqD true .b,(some (5,false)),255⟩,
  ⟨[.loc 6,.const (.bool true),.loc 0],fPick,none,511⟩]
def c13_29 : ACode := .region o13_29 [(24,0)] false
def o13_32 : List AOper := [⟨[.const (.bool false)],fMove,none,0⟩]
def c13_32 : ACode := .region o13_32 [(3,0)] false
def c13_31 : ACode := .seq c13_32 .ret
def c13_30 : ACode := .cond (.var 24) c13_31 .skip
def c13_28 : ACode := .seq c13_29 c13_30
def c13_22 : ACode := .cond (.var 22) c13_23 c13_28
def c13_20 : ACode := .seq c13_21 c13_22
def o13_34 : List AOper := [⟨[.var 4],fMove,none,0⟩,
  ⟨[.var 7],fMove,none,0⟩,
  ⟨[.const (.func (.func 56) [] []),.loc 1,.loc 0],fCall,none,3⟩,
  ⟨[.loc 0],fMove,none,7⟩,
  ⟨[.loc 0],fExtract 0,none,15⟩,
  ⟨[.loc 1],fExtract 1,none,15⟩,
  ⟨[.loc 1],fMove,none,31⟩,
  ⟨[.loc 1],fMove,none,127⟩]
def c13_34 : ACode := .region o13_34 [(11,1),(12,0)] false
def o13_36 : List AOper := [⟨[.var 4],fMove,none,0⟩,
  ⟨[.var 7],fMove,none,0⟩,
  ⟨[.const (.func (.func 68) [] []),.loc 1,.loc 0],fCall,none,3⟩,
  ⟨[.loc 0],fMove,none,7⟩,
  ⟨[.loc 0],fExtract 0,none,15⟩,
  ⟨[.loc 1],fExtract 1,none,15⟩,
  ⟨[.loc 2],fExtract 2,none,15⟩,
  ⟨[.loc 2],fMove,none,31⟩,
  ⟨[.loc 2],fMove,none,191⟩,
  ⟨[.loc 2],fMove,none,511⟩]
def c13_36 : ACode := .region o13_36 [(13,2),(14,1),(15,0)] false
def o13_39 : List AOper := [⟨[.var 7],fMove,none,0⟩,
  ⟨[.loc 0,.const (.int .i64 (.ofNat 1))],fBin .lss,none,1⟩,
  ⟨[.loc 0],fMove,none,3⟩,
  ⟨[.var 7],fMove,(some (0,false)),7⟩,
  ⟨[.loc 0,.const (.int .i64 (.ofNat 12))],fBin .gtr,(some (1,false)),15⟩,
  ⟨[.loc 2,.const (.bool true),.loc 0],fPick,none,31⟩]
def c13_39 : ACode := .region o13_39 [(25,0)] false
def o13_42 : List AOper := [⟨[.var 12],fMove,none,0⟩,
  ⟨[.loc 0,.const (.int .i64 (.ofNat 1))],fBin .neq,none,1⟩,
  ⟨[.loc 0],fMove,none,3⟩,
  ⟨[.var 15],fMove,(some (0,false)),7⟩,
  ⟨[.loc 0,.const (.int .i64 (.ofNat 1))],fBin .neq,(some (1,false)),15⟩,
  ⟨[.loc 2,.const (.bool true),.loc 0],fPick,none,31⟩,
  ⟨[.loc 0],fMove,none,63⟩,
  ⟨[.var 11],fMove,(some (0,false)),127⟩,
  ⟨[.loc 0,.const (.int .i64 (.ofNat 0))],fBin .neq,(some (1,false)),255⟩,
  ⟨[.loc 2,.const (.bool true),.loc 0],fPick,none,511⟩,
  ⟨[.loc 0],fMove,none,1023⟩,
  ⟨[.var 14],fMove,(some (0,false)),2047⟩,
  ⟨[.loc 1,.const (.bool true),.loc 0],fPick,none,4095⟩,
  ⟨[.loc 0],fMove,none,8191⟩,
  ⟨[.var 13],fMove,(some (0,false)),16383⟩,
  ⟨[.loc 0],fLenSl,(some (1,false)),32767⟩,
  ⟨[.loc 0,.const (.int .i64 (.ofNat 0))],fBin .neq,(some (2,false)),65535⟩,
  ⟨[.loc 3,.const (.bool true),.loc 0],fPick,none,131071⟩]
def c13_42 : ACode := .region o13_42 [(26,0)] false
def o13_45 : List AOper := [⟨[.const (.bool false)],fMove,none,0⟩]
def c13_45 : ACode := .region o13_45 [(3,0)] false
def c13_44 : ACode := .seq c13_45 .ret
def c13_43 : ACode := .cond (.var 26) c13_44 .skip
def c13_41 : ACode := .seq c13_42 c13_43
def o13_47 : List AOper := [⟨[.var 4],fMove,none,0⟩,
  ⟨[.var 7],fMove,none,0⟩,
  ⟨[.const (.func (.func 69) [] []),.loc 1,.loc 0],fCall,none,3⟩,
  ⟨[.loc 0],fMove,none,7⟩]
def c13_47 : ACode := .region o13_47 [(16,0)] false
def o13_49 : List AOper := [⟨[.var 12],fMove,none,0⟩,
  ⟨[.loc 0,.const (.int .i64 (.ofNat 0))],fBin .neq,none,1⟩,
  ⟨[.loc 0],fMove,none,3⟩,
  ⟨[.var 11],fMove,(some (0,false)),7⟩,
  ⟨[.var 4],fMove,(some (1,false)),7⟩,
  ⟨[.var 7],fMove,(some (2,false)),7⟩,
  ⟨[.const (.func (.func 70) [] []),.loc 1,.loc 0],fCall,(some (3,false)),55⟩,
  ⟨[.loc 3,.loc 0],fBin .neq,(some (4,false)),127⟩,
  ⟨[.loc 5,.const (.bool true),.loc 0],fPick,none,255⟩,
  ⟨[.loc 0],fMove,none,511⟩,
  ⟨[.var 15],fMove,(some (0,false)),1023⟩,
  ⟨[.loc 0,.const (.int .i64 (.ofNat 0))],fBin .neq,(some (1,false)),2047⟩,
  ⟨[.loc 2,.const (.bool true),.loc 0],fPick,none,4095⟩,
  ⟨[.loc 0],fMove,none,8191⟩,
  ⟨[.var 14],fMove,(some (0,false)),16383⟩,
  ⟨[.var 16],fMove,(some (1,false)),16383⟩,
  ⟨[.loc 0,.const .nilslice],fEqNil true,(some (2,false)),49151⟩,
  ⟨[.loc 2,.loc 0],fEqD true .b,(some (3,false)),131071⟩,
  ⟨[.loc 4,.const (.bool true),.loc 0],fPick,none,262143⟩,
  ⟨[.loc 0],fMove,none,524287⟩,
  ⟨[.var 13],fMove,(some (0,false)),1048575⟩,
  ⟨[.var 16],fMove,(some (1,false)),1048575⟩,
  ⟨[.const (.func (.func 43) [] []),.loc 1,.loc 0],fCall,(some (2,false)),4194303⟩,
  ⟨[.loc 0],fUn .not,(some (3,false)),8388607⟩,
  ⟨[.loc 4,.const (.bool true),.loc 0],fPick,none,16777215⟩]
def c13_49 : ACode := .region o13_49 [(27,0)] false
def o13_52 : List AOper := [⟨[.const (.bool false)],fMove,none,0⟩]
def c13_52 : ACode := .region o13_52 [(3,0)] false
def c13_51 : ACode := .seq c13_52 .ret
def c13_50 : ACode := .cond (.var 27) c13_51 .skip
def c13_48 : ACode := .seq c13_49 c13_50
def c13_46 : ACode := .seq c13_47 c13_48
def c13_40 : ACode := .cond (.var 25) c13_41 c13_46
def c13_38 : ACode := .seq c13_39 c13_40
def o13_54 : List AOper := [⟨[.var 5],fMove,none,0⟩,
  ⟨[.loc 0],fConvInt .u64,none,1⟩,
  ⟨[.var 4],fMove,none,0⟩,
  ⟨[.loc 0],fLenSl,none,4⟩,
  ⟨[.loc 0,.const (.int .i64 (.ofNat 1))],fBin .sub,none,12⟩,
  ⟨[.loc 0],fConvInt .u64,none,28⟩,
  ⟨[.loc 4,.loc 0],fBin .rem,none,63⟩,
  ⟨[.loc 0],fConvInt .i64,none,127⟩,
  ⟨[.loc 0],fMove,none,255⟩]
def c13_54 : ACode := .region o13_54 [(5,0)] false
def o13_56 : List AOper := [⟨[.var 6],fMove,none,0⟩,
  ⟨[.loc 0],fConvInt .u64,none,1⟩,
  ⟨[.var 4],fMove,none,0⟩,
  ⟨[.loc 0],fLenSl,none,4⟩,
  ⟨[.loc 0,.const (.int .i64 (.ofNat 1))],fBin .sub,none,12⟩,
  ⟨[.loc 0],fConvInt .u64,none,28⟩,
  ⟨[.loc 4,.loc 0],fBin .rem,none,63⟩,
  ⟨[.loc 0],fConvInt .i64,none,127⟩,
  ⟨[.loc 0],fMove,none,255⟩]
def c13_56 : ACode := .region o13_56 [(6,0)] false
def o13_57 : List AOper := [⟨[.var 7],fMove,none,0⟩,
  ⟨[.loc 0],fConvInt .u64,none,1⟩,
  ⟨[.loc 0,.const (.int .u64 (.ofNat 12))],fBin .rem,none,3⟩,
  ⟨[.loc 0],fConvInt .i64,none,7⟩,
  ⟨[.const (.int .i64 (.ofNat 1)),.loc 0],fBin .add,none,15⟩,
  ⟨[.loc 0],fMove,none,31⟩]
def c13_57 : ACode := .region o13_57 [(7,0)] false
def c13_55 : ACode := .seq c13_56 c13_57
def c13_53 : ACode := .seq c13_54 c13_55
def c13_37 : ACode := .seq c13_38 c13_53
def c13_35 : ACode := .seq c13_36 c13_37
def c13_33 : ACode := .seq c13_34 c13_35
def c13_19 : ACode := .seq c13_20 c13_33
def c13_17 : ACode := .seq c13_18 c13_19
def c13_16 : ACode := .block 1 c13_17
def o13_58 : List AOper := [⟨[.var 8],fMove,none,0⟩,
  ⟨[.loc 0,.const (.int .i64 (.ofNat 1))],fBin .add,none,1⟩,
  ⟨[.loc 0],fMove,none,3⟩]
def c13_58 : ACode := .region o13_58 [(8,0)] false
def c13_15 : ACode := .seq c13_16 c13_58
def c13_11 : ACode := .seq c13_12 c13_15
def c13_10 : ACode := .loop c13_11
def c13_9 : ACode := .block 0 c13_10
def c13_7 : ACode := .seq c13_8 c13_9
def o13_60 : List AOper := [⟨[.var 4],fMove,none,0⟩,
  ⟨[.const (.func (.func 41) [] []),.loc 0],fCall,none,1⟩,
  ⟨[.loc 0],fMove,none,3⟩,
  ⟨[.loc 0],fExtract 0,none,7⟩,
  ⟨[.loc 1],fExtract 1,none,7⟩,
  ⟨[.loc 1],fMove,none,15⟩,
  ⟨[.loc 1],fMove,none,63⟩]
def c13_60 : ACode := .region o13_60 [(17,1),(18,0)] false
def o13_62 : List AOper := [⟨[.var 4],fMove,none,0⟩,
  ⟨[.const (.func (.func 42) [] []),.loc 0],fCall,none,1⟩,
  ⟨[.loc 0],fMove,none,3⟩,
  ⟨[.loc 0],fExtract 0,none,7⟩,
  ⟨[.loc 1],fExtract 1,none,7⟩,
  ⟨[.loc 1],fMove,none,15⟩,
  ⟨[.loc 1],fMove,none,63⟩]
def c13_62 : ACode := .region o13_62 [(19,1),(20,0)] false
def o13_64 : List AOper := [⟨[.var 18],fMove,none,0⟩,
  ⟨[.loc 0,.const (.int .i64 (.ofNat 0))],fBin .eql,none,1⟩,
  ⟨[.loc 0],fMove,none,3⟩,
  ⟨[.var 17],fMove,(some (0,true)),7⟩,
  ⟨[.var 4],fMove,(some (1,true)),7⟩,
  ⟨[.const (.func (.func 71) [] []),.loc 0],fCall,(some (2,true)),23⟩,
  ⟨[.const (.func (.func 43) [] []),.loc 2,.loc 0],fCall,(some (3,true)),63⟩,
  ⟨[.loc 4,.loc 0,.const (.bool false)],fPick,none,127⟩,
  ⟨[.loc 0],fMove,none,255⟩,
  ⟨[.var 20],fMove,(some (0,true)),511⟩,
  ⟨[.loc 0,.const (.int .i64 (.ofNat 0))],fBin .eql,(some (1,true)),1023⟩,
  ⟨[.loc 2,.loc 0,.const (.bool false)],fPick,none,2047⟩,
  ⟨[.loc 0],fMove,none,4095⟩,
  ⟨[.var 19],fMove,(some (0,true)),8191⟩,
  ⟨[.var 4],fMove,(some (1,true)),8191⟩,
  ⟨[.const (.func (.func 72) [] []),.loc 0],fCall,(some (2,true)),24575⟩,
  ⟨[.const (.func (.func 43) [] []),.loc 2,.loc 0],fCall,(some (3,true)),65535⟩,
  ⟨[.loc 4,.loc 0,.const (.bool false)],fPick,none,131071⟩,
  ⟨[.loc 0],fMove,none,262143⟩,
  ⟨[.const (.func (.func 18) [] [])],fCall,(some (0,true)),524287⟩,
  ⟨[.loc 1,.loc 0,.const (.bool false)],fPick,none,1048575⟩,
  ⟨[.loc 0],fMove,none,2097151⟩]
def c13_64 : ACode := .region o13_64 [(3,0)] false
def c13_63 : ACode := .seq c13_64 .ret
def c13_61 : ACode := .seq c13_62 c13_63
def c13_59 : ACode := .seq c13_60 c13_61
def c13_6 : ACode := .seq c13_7 c13_59
def c13_4 : ACode := .seq c13_5 c13_6
def c13_2 : ACode := .seq c13_3 c13_4
def c13_0 : ACode := .seq c13_1 c13_2
def vm13 : List Nat := [0, 1, 3, 4, 5, 6, 7, 8, 9, 10, 11, 12, 13, 14, 15, 16, 17, 18, 19, 20, 21, 31, 60, 65, 75, 94, 112, 140]
def c13 : AFn := ⟨2, 28, [.var 3], c13_0⟩
/- 14 girouette/girouettelaw05.CyclesChecks : slots [0, 1, 3, 4, 5, 6, 7, 8, 9, 10, 11, 12, 13, 14, 15, 16, 17, 18, 19, 20, 21, 22, 23, 24, 25, 26, 31, 35, 52] -/
def o14_1 : List AOper := [⟨[.var 1],fBox,none,0⟩,
  ⟨[.const (.bool false)],fMove,none,0⟩]
def c14_1 : ACode := .region o14_1 [(2,1),(3,0)] false
def o14_3 : List AOper := [⟨[.var 0],fMove,none,0⟩,
  ⟨[.const (.func (.func 26) [] []),.loc 0,.const (.int .i64 (.ofNat 12))],fCall,none,1⟩,
  ⟨[.loc 0],fMove,none,3⟩]
def c14_3 : ACode := .region o14_3 [(4,0)] false
def o14_5 : List AOper := [⟨[.const (.int .i64 (.ofNat 0))],fMove,none,0⟩]
def c14_5 : ACode := .region o14_5 [(5,0)] false
def o14_8 : List AOper := [⟨[.var 4],fMove,none,0⟩,
  ⟨[.const (.func (.func 34) [] []),.loc 0],fCall,none,1⟩,
  ⟨[.loc 0],fUn .not,none,3⟩]
def c14_8 : ACode := .region o14_8 [(26,0)] false
def o14_10 : List AOper := [⟨[.const (.int .i64 (.ofNat 50))],fMove,none,0⟩]
def c14_10 : ACode := .region o14_10 [(5,0)] false
def c14_9 : ACode := .cond (.var 26) c14_10 .skip
def c14_7 : ACode := .seq c14_8 c14_9
def o14_13 : List AOper := [⟨[.var 4],fMove,none,0⟩,
  ⟨[.const (.func (.func 73) [] []),.loc 0],fCall,none,1⟩,
  ⟨[.var 5],fMove,none,0⟩,
  ⟨[.loc 1,.loc 0],fBin .neq,none,7⟩]
def c14_13 : ACode := .region o14_13 [(27,0)] false
def o14_16 : List AOper := [⟨[.const (.bool false)],fMove,none,0⟩]
def c14_16 : ACode := .region o14_16 [(3,0)] false
def c14_15 : ACode := .seq c14_16 .ret
def c14_14 : ACode := .cond (.var 27) c14_15 .skip
def c14_12 : ACode := .seq c14_13 c14_14
def o14_18 : List AOper := [⟨[.var 4],fMove,none,0⟩,
  ⟨[.const (.func (.func 27) [] []),.loc 0,.const .nilslice],fCall,none,1⟩,
  ⟨[.loc 0],fMove,none,3⟩,
  ⟨[.loc 0],fExtract 0,none,7⟩,
  ⟨[.loc 1],fExtract 1,none,7⟩,
  ⟨[.loc 1],fMove,none,15⟩,
  ⟨[.loc 1],fMove,none,63⟩]
def c14_18 : ACode := .region o14_18 [(6,1),(7,0)] false
def o14_20 : List AOper := [⟨[.var 4],fMove,none,0⟩,
  ⟨[.const (.func (.func 41) [] []),.loc 0],fCall,none,1⟩,
  ⟨[.loc 0],fMove,none,3⟩,
  ⟨[.loc 0],fExtract 0,none,7⟩,
  ⟨[.loc 1],fExtract 1,none,7⟩,
  ⟨[.loc 1],fMove,none,15⟩,
  ⟨[.loc 1],fMove,none,63⟩]
def c14_20 : ACode := .region o14_20 [(8,1),(9,0)] false
def o14_22 : List AOper := [⟨[.var 4],fMove,none,0⟩,
  ⟨[.const (.func (.func 42) [] []),.loc 0],fCall,none,1⟩,
  ⟨[.loc 0],fMove,none,3⟩,
  ⟨[.loc 0],fExtract 0,none,7⟩,
  ⟨[.loc 1],fExtract 1,none,7⟩,
  ⟨[.loc 1],fMove,none,15⟩,
  ⟨[.loc 1],fMove,none,63⟩]
def c14_22 : ACode := .region o14_22 [(10,1),(11,0)] false
def o14_25 : List AOper := [⟨[.var 5],fMove,none,0⟩,
  ⟨[.loc 0,.const (.int .i64 (.ofNat 0))],fBin .eql,none,1⟩]
def c14_25 : ACode := .region o14_25 [(28,0)] false
def o14_28 : List AOper := [⟨[.var 7],fMove,none,0⟩,
  ⟨[.loc 0,.const (.int .i64 (.ofNat 0))],fBin .eql,none,1⟩,
  ⟨[.loc 0],fMove,none,3⟩,
  ⟨[.var 6],fMove,(some (0,true)),7⟩,
  ⟨[.loc 0],fUn .not,(some (1,true)),15⟩,
  ⟨[.loc 2,.loc 0,.const (.bool false)],fPick,none,31⟩,
  ⟨[.loc 0],fMove,none,63⟩,
  ⟨[.var 9],fMove,(some (0,true)),127⟩,
  ⟨[.loc 0,.const (.int .i64 (.ofNat 0))],fBin .eql,(some (1,true)),255⟩,
  ⟨[.loc 2,.loc 0,.const (.bool false)],fPick,none,511⟩,
  ⟨[.loc 0],fMove,none,1023⟩,
  ⟨[.var 11],fMove,(some (0,true)),2047⟩,
  ⟨[.loc 0,.const (.int .i64 (.ofNat 0))],fBin .eql,(some (1,true)),4095⟩,
  ⟨[.loc 2,.loc 0,.const (.bool false)],fPick,none,8191⟩,
  ⟨[.loc 0],fMove,none,16383⟩,
  ⟨[.const (.func (.func 18) [] [])],fCall,(some (0,true)),32767⟩,
  ⟨[.loc 1,.loc 0,.const (.bool false)],fPick,none,65535⟩,
  ⟨[.loc 0],fMove,none,131071⟩]
def c14_28 : ACode := .region o14_28 [(3,0)] false
def c14_27 : ACode := .seq c14_28 .ret
def c14_26 : ACode := .cond (.var 28) c14_27 .skip
def c14_24 : ACode := .seq c14_25 c14_26
def o14_30 : List AOper := [⟨[.var 4],fMove,none,0⟩,
  ⟨[.const (.func (.func 66) [] []),.loc 0,.const (.int .i64 (.ofNat 0)),.const (.int .i64 (.ofNat 0))],fCall,none,1⟩,
  ⟨[.loc 0],fMove,none,3⟩,
  ⟨[.loc 0],fExtract 0,none,7⟩,
  ⟨[.loc 1],fExtract 1,none,7⟩,
  ⟨[.loc 1],fMove,none,15⟩,
  ⟨[.loc 1],fMove,none,63⟩]
def c14_30 : ACode := .region o14_30 [(12,1),(13,0)] false
def o14_32 : List AOper := [⟨[.var 4],fMove,none,0⟩,
  ⟨[.const (.func (.func 56) [] []),.loc 0,.const (.int .i64 (.ofNat 1))],fCall,none,1⟩,
  ⟨[.loc 0],fMove,none,3⟩,
  ⟨[.loc 0],fExtract 0,none,7⟩,
  ⟨[.loc 1],fExtract 1,none,7⟩,
  ⟨[.loc 1],fMove,none,15⟩,
  ⟨[.loc 1],fMove,none,63⟩]
def c14_32 : ACode := .region o14_32 [(14,1),(15,0)] false
def o14_34 : List AOper := [⟨[.var 4],fMove,none,0⟩,
  ⟨[.const (.func (.func 68) [] []),.loc 0,.const (.int .i64 (.ofNat 1))],fCall,none,1⟩,
  ⟨[.loc 0],fMove,none,3⟩,
  ⟨[.loc 0],fExtract 0,none,7⟩,
  ⟨[.loc 1],fExtract 1,none,7⟩,
  ⟨[.loc 2],fExtract 2,none,7⟩,
  ⟨[.loc 2],fMove,none,15⟩,
  ⟨[.loc 2],fMove,none,95⟩,
  ⟨[.loc 2],fMove,none,255⟩]
def c14_34 : ACode := .region o14_34 [(16,2),(17,1),(18,0)] false
def o14_36 : List AOper := [⟨[.var 4],fMove,none,0⟩,
  ⟨[.var 2],fLoadN 2,none,0⟩,
  ⟨[.const (.func (.func 36) [] []),.loc 1,.loc 0],fCall,none,3⟩,
  ⟨[.loc 0],fMove,none,7⟩,
  ⟨[.loc 0],fExtract 0,none,15⟩,
  ⟨[.loc 1],fExtract 1,none,15⟩,
  ⟨[],fAlloc [(.int .i64 (.ofNat 0)),(.int .i64 (.ofNat 0))],none,0⟩,
  ⟨[.loc 0,.loc 2],fStore 2,none,95⟩,
  ⟨[.loc 2],fMove,none,255⟩]
def c14_36 : ACode := .region o14_36 [(19,2),(20,0)] false
def o14_38 : List AOper := [⟨[.var 4],fMove,none,0⟩,
  ⟨[.const (.int .i64 (.ofNat 0))],fBuildSlice 1 1 [(.int .i64 (.ofNat 0))] [(0,1)],none,0⟩,
  ⟨[.const (.func (.func 28) [] []),.loc 1,.loc 0],fCall,none,3⟩,
  ⟨[.loc 0],fMove,none,7⟩,
  ⟨[.loc 0],fExtract 0,none,15⟩,
  ⟨[.loc 1],fExtract 1,none,15⟩,
  ⟨[],fAlloc [(.int .i64 (.ofNat 0)),(.int .i64 (.ofNat 0))],none,0⟩,
  ⟨[.loc 0,.loc 2],fStore 2,none,95⟩,
  ⟨[.loc 2],fMove,none,255⟩]
def c14_38 : ACode := .region o14_38 [(21,2),(22,0)] false
def o14_40 : List AOper := [⟨[.var 4],fMove,none,0⟩,
  ⟨[.var 2],fLoadN 2,none,0⟩,
  ⟨[.const (.func (.func 37) [] []),.loc 1,.loc 0],fCall,none,3⟩,
  ⟨[.loc 0],fMove,none,7⟩,
  ⟨[.loc 0],fExtract 0,none,15⟩,
  ⟨[.loc 1],fExtract 1,none,15⟩,
  ⟨[.loc 2],fExtract 2,none,15⟩,
  ⟨[.loc 2],fMove,none,31⟩,
  ⟨[.loc 2],fMove,none,191⟩,
  ⟨[.loc 2],fMove,none,511⟩]
def c14_40 : ACode := .region o14_40 [(23,2),(24,1),(25,0)] false
def o14_42 : List AOper := [⟨[.var 7],fMove,none,0⟩,
  ⟨[.var 5],fMove,none,0⟩,
  ⟨[.loc 1,.loc 0],fBin .eql,none,3⟩,
  ⟨[.loc 0],fMove,none,7⟩,
  ⟨[.var 9],fMove,(some (0,true)),15⟩,
  ⟨[.var 5],fMove,(some (1,true)),15⟩,
  ⟨[.loc 1,.loc 0],fBin .eql,(some (2,true)),63⟩,
  ⟨[.loc 3,.loc 0,.const (.bool false)],fPick,none,127⟩,
  ⟨[.loc 0],fMove,none,255⟩,
  ⟨[.var 11],fMove,(some (0,true)),511⟩,
  ⟨[.var 5],fMove,(some (1,true)),511⟩,
  ⟨[.loc 1,.loc 0],fBin .eql,(some (2,true)),2047⟩,
  ⟨[.loc 3,.loc 0,.const (.bool false)],fPick,none,4095⟩,
  ⟨[.loc 0],fMove,none,8191⟩,
  ⟨[.var 13],fMove,(some (0,true)),16383⟩,
  ⟨[.var 5],fMove,(some (1,true)),16383⟩,
  ⟨[.loc 1,.loc 0],fBin .eql,(some (2,true)),65535⟩,
  ⟨[.loc 3,.loc 0,.const (.bool false)],fPick,none,131071⟩,
  ⟨[.loc 0],fMove,none,262143⟩,
  ⟨[.var 15],fMove,(some (0,true)),524287⟩,
  ⟨[.var 5],fMove,(some (1,true)),524287⟩,
  ⟨[.loc 1,.loc 0],fBin .eql,(some (2,true)),2097151⟩,
  ⟨[.loc 3,.loc 0,.const (.bool false)],fPick,none,4194303⟩,
  ⟨[.loc 0],fMove,none,8388607⟩,
  ⟨[.var 18],fMove,(some (0,true)),16777215⟩,
  ⟨[.var 5],fMove,(some (1,true)),16777215⟩,
  ⟨[.loc 1,.loc 0],fBin .eql,(some (2,true)),67108863⟩,
  ⟨[.loc 3,.loc 0,.const (.bool false)],fPick,none,134217727⟩,
  ⟨[.loc 0],fMove,none,268435455⟩,
  ⟨[.var 20],fMove,(some (0,true)),536870911⟩,
  ⟨[.var 5],fMove,(some (1,true)),536870911⟩,
  ⟨[.loc 1,.loc 0],fBin .eql,(some (2,true)),2147483647⟩,
  ⟨[.loc 3,.loc 0,.const (.bool false)],fPick,none,4294967295⟩,
  ⟨[.loc 0],fMove,none,8589934591⟩,
  ⟨[.var 22],fMove,(some (0,true)),17179869183⟩,
  ⟨[.var 5],fMove,(some (1,true)),17179869183⟩,
  ⟨[.loc 1,.loc 0],fBin .eql,(some (2,true)),68719476735⟩,
  ⟨[.loc 3,.loc 0,.const (.bool false)],fPick,none,137438953471⟩,
  ⟨[.loc 0],fMove,none,274877906943⟩,
  ⟨[.var 25],fMove,(some (0,true)),549755813887⟩,
  ⟨[.var 5],fMove,(some (1,true)),549755813887⟩,
  ⟨[.loc 1,.loc 0],fBin .eql,(some (2,true)),2199023255551⟩,
  ⟨[.loc 3,.loc 0,.const (.bool false)],fPick,none,4398046511103⟩,
  ⟨[.loc 0],fMove,none,8796093022207⟩,
  ⟨[.var 6],fMove,(some (0,true)),17592186044415⟩,
  ⟨[.loc 0],fUn .not,(some (1,true)),35184372088831⟩,
  ⟨[.loc 2,.loc 0,.const (.bool false)],fPick,none,70368744177663⟩,
  ⟨[.loc 0],fMove,none,140737488355327⟩,
  ⟨[.var 12],fMove,(some (0,true)),281474976710655⟩,
  ⟨[.loc 0],fUn .not,(some (1,true)),562949953421311⟩,
  ⟨[.loc 2,.loc 0,.const (.bool false)],fPick,none,1125899906842623⟩,
  ⟨[.loc 0],fMove,none,2251799813685247⟩,
  ⟨[.var 17],fMove,(some (0,true)),4503599627370495⟩,
  ⟨[.loc 0],fUn .not,(some (1,true)),9007199254740991⟩,
  ⟨[.loc 2,.loc 0,.const (.bool false)],fPick,none,18014398509481983⟩,
  ⟨[.loc 0],fMove,none,36028797018963967⟩,
  ⟨[.var 24],fMove,(some (0,true)),72057594037927935⟩,
  ⟨[.loc 0],fUn .not,(some (1,true)),144115188075855871⟩,
  ⟨[.loc 2,.loc 0,.const (.bool false)],fPick,none,288230376151711743⟩,
  ⟨[.loc 0],fMove,none,576460752303423487⟩,
  ⟨[.var 14],fMove,(some (0,true)),1152921504606846975⟩,
  ⟨[.loc 0,.const (.int .i64 (.ofNat 0))],fBin .eql,(some (1,true)),2305843009213693951⟩,
  ⟨[.loc 2,.loc 0,.const (.bool false)],fPick,none,4611686018427387903⟩,
  ⟨[.loc 0],fMove,none,9223372036854775807⟩,
  ⟨[.var 19],fLoadN 2,(some (0,true)),18446744073709551615⟩,
  ⟨[],fBuild [(.int .i64 (.ofNat 0)),(.int .i64 (.ofNat 0))] [],(some (1,true)),18446744073709551615⟩,
  ⟨[.loc 1,.loc 0],fEqD false (.agg [(0,none,.i),(1,none,.i)]),(some (2,true)),73786976294838206463⟩,
  ⟨[.loc 3,.loc 0,.const (.bool false)],fPick,none,147573952589676412927⟩,
  ⟨[.loc 0],fMove,none,295147905179352825855⟩,
  ⟨[.var 21],fLoadN 2,(some (0,true)),590295810358705651711⟩,
  ⟨[.var 19],fLoadN 2,(some (1,true)),590295810358705651711⟩,
  ⟨[.loc 1,.loc 0],fEqD false (.agg [(0,none,.i),(1,none,.i)]),(some (2,true)),2361183241434822606847⟩,
  ⟨[.loc 3,.loc 0,.const (.bool false)],fPick,none,4722366482869645213695⟩,
  ⟨[.loc 0],fMove,none,9444732965739290427391⟩,
  ⟨[.var 23],fMove,(some (0,true)),18889465931478580854783⟩,
  ⟨[.var 8],fMove,(some (1,true)),18889465931478580854783⟩,
  ⟨[.loc 0],fLenSl,(some (2,true)),56668397794435742564351⟩,
  ⟨[.loc 2,.loc 0],fBin .add,(some (3,true)),151115727451828646838271⟩,
  ⟨[.var 10],fMove,(some (4,true)),18889465931478580854783⟩,
  ⟨[.loc 0],fLenSl,(some (5,true)),321120920835135874531327⟩,
  ⟨[.loc 2,.loc 0],fBin .add,(some (6,true)),1208925819614629174706175⟩,
  ⟨[.var 16],fMove,(some (7,true)),18889465931478580854783⟩,
  ⟨[.loc 0],fLenSl,(some (8,true)),2436741105160736930267135⟩,
  ⟨[.loc 2,.loc 0],fBin .add,(some (9,true)),9671406556917033397649407⟩,
  ⟨[.loc 0,.const (.int .i64 (.ofNat 0))],fBin .eql,(some (10,true)),19342813113834066795298815⟩,
  ⟨[.loc 11,.loc 0,.const (.bool false)],fPick,none,38685626227668133590597631⟩,
  ⟨[.loc 0],fMove,none,77371252455336267181195263⟩,
  ⟨[.const (.func (.func 18) [] [])],fCall,(some (0,true)),154742504910672534362390527⟩,
  ⟨[.loc 1,.loc 0,.const (.bool false)],fPick,none,309485009821345068724781055⟩,
  ⟨[.loc 0],fMove,none,618970019642690137449562111⟩]
def c14_42 : ACode := .region o14_42 [(3,0)] false
def c14_41 : ACode := .seq c14_42 .ret
def c14_39 : ACode := .seq c14_40 c14_41
def c14_37 : ACode := .seq c14_38 c14_39
def c14_35 : ACode := .seq c14_36 c14_37
def c14_33 : ACode := .seq c14_34 c14_35
def c14_31 : ACode := .seq c14_32 c14_33
def c14_29 : ACode := .seq c14_30 c14_31
def c14_23 : ACode := .seq c14_24 c14_29
def c14_21 : ACode := .seq c14_22 c14_23
def c14_19 : ACode := .seq c14_20 c14_21
def c14_17 : ACode := .seq c14_18 c14_19
def c14_11 : ACode := .seq c14_12 c14_17
def c14_6 : ACode := .seq c14_7 c14_11
def c14_4 : ACode := .seq c14_5 c14_6
def c14_2 : ACode := .seq c14_3 c14_4
def c14_0 : ACode := .seq c14_1 c14_2
def vm14 : List Nat := [0, 1, 3, 4, 5, 6, 7, 8, 9, 10, 11, 12, 13, 14, 15, 16, 17, 18, 19, 20, 21, 22, 23, 24, 25, 26, 31, 35, 52]
def c14 : AFn := ⟨2, 29, [.var 3], c14_0⟩
/- 15 girouette/cycles.Greatest : slots [0, 1, 2, 3, 4, 5, 11] -/
def o15_1 : List AOper := [⟨[.var 0],fBox,none,0⟩,
  ⟨[.const .nilslice],fMove,none,0⟩,
  ⟨[.const (.int .i64 (.ofNat 0))],fMove,none,2⟩]
def c15_1 : ACode := .region o15_1 [(1,2),(2,1),(3,0)] false
def o15_4 : List AOper := [⟨[.var 1],fLoad1,none,0⟩,
  ⟨[.loc 0,.const (.int .i64 (.ofNat 0))],fBin .lss,none,1⟩,
  ⟨[.loc 0],fMove,none,3⟩,
  ⟨[.var 1],fLoad1,(some (0,false)),7⟩,
  ⟨[.loc 0,.const (.int .i64 (.ofNat 11))],fBin .gtr,(some (1,false)),15⟩,
  ⟨[.loc 2,.const (.bool true),.loc 0],fPick,none,31⟩]
def c15_4 : ACode := .region o15_4 [(6,0)] false
def o15_7 : List AOper := [⟨[.const .nilslice],fMove,none,0⟩,
  ⟨[.const (.int .i64 (.ofNat 1))],fMove,none,1⟩]
def c15_7 : ACode := .region o15_7 [(2,1),(3,0)] false
def c15_6 : ACode := .seq c15_7 .ret
def c15_5 : ACode := .cond (.var 6) c15_6 .skip
def c15_3 : ACode := .seq c15_4 c15_5
def o15_9 : List AOper := [⟨[],fBuildSlice 0 1 [(.str [])] [],none,0⟩,
  ⟨[],fAlloc [.nilslice],none,0⟩,
  ⟨[.loc 0,.loc 1],fStore 1,none,3⟩]
def c15_9 : ACode := .region o15_9 [(4,1)] false
def o15_11 : List AOper := [⟨[],fAlloc [.nilfunc],none,0⟩]
def c15_11 : ACode := .region o15_11 [(5,0)] false
def o15_13 : List AOper := [⟨[.var 1,.var 4,.var 5],fMakeFunc (.func 74) 0,none,0⟩,
  ⟨[.var 5,.loc 0],fStore 1,none,1⟩]
def c15_13 : ACode := .region o15_13 [] false
def o15_15 : List AOper := [⟨[.var 5],fLoad1,none,0⟩,
  ⟨[.loc 0,.const (.str [])],fCall,none,1⟩]
def c15_15 : ACode := .region o15_15 [] false
def o15_17 : List AOper := [⟨[.var 4],fLoad1,none,0⟩,
  ⟨[.loc 0],fMove,none,1⟩,
  ⟨[.const (.int .i64 (.ofNat 0))],fMove,none,3⟩]
def c15_17 : ACode := .region o15_17 [(2,1),(3,0)] false
def c15_16 : ACode := .seq c15_17 .ret
def c15_14 : ACode := .seq c15_15 c15_16
def c15_12 : ACode := .seq c15_13 c15_14
def c15_10 : ACode := .seq c15_11 c15_12
def c15_8 : ACode := .seq c15_9 c15_10
def c15_2 : ACode := .seq c15_3 c15_8
def c15_0 : ACode := .seq c15_1 c15_2
def vm15 : List Nat := [0, 1, 2, 3, 4, 5, 11]
def c15 : AFn := ⟨1, 7, [.var 2,.var 3], c15_0⟩
/- 16 girouette/girouetteref05.All : slots [0, 2, 3, 4, 5, 6, 7, 8, 12, 18, 38, 45] -/
def o16_1 : List AOper := [⟨[.const .nilslice],fMove,none,0⟩]
def c16_1 : ACode := .region o16_1 [(1,0)] false
def o16_3 : List AOper := [⟨[.const (.str [])],fBuildSlice 1 1 [(.str [])] [(0,1)],none,0⟩,
  ⟨[.loc 0],fMove,none,1⟩]
def c16_3 : ACode := .region o16_3 [(2,0)] false
def o16_6 : List AOper := [⟨[.const (.int .i64 (.ofNat 0))],fMove,none,0⟩]
def c16_6 : ACode := .region o16_6 [(3,0)] false
def o16_11 : List AOper := [⟨[.var 3],fMove,none,0⟩,
  ⟨[.var 0],fMove,none,0⟩,
  ⟨[.loc 1,.loc 0],fBin .lss,none,3⟩]
def c16_11 : ACode := .region o16_11 [(8,0)] false
def c16_12 : ACode := .cond (.var 8) .skip (.exit 0)
def c16_10 : ACode := .seq c16_11 c16_12
def o16_16 : List AOper := [⟨[.const .nilslice],fMove,none,0⟩]
def c16_16 : ACode := .region o16_16 [(4,0)] false
def o16_19 : List AOper := [⟨[.const (.int .i64 (.ofNat 0))],fMove,none,0⟩]
def c16_19 : ACode := .region o16_19 [(5,0)] false
def o16_24 : List AOper := [⟨[.var 5],fMove,none,0⟩,
  ⟨[.var 2],fMove,none,0⟩,
  ⟨[.loc 0],fLenSl,none,2⟩,
  ⟨[.loc 2,.loc 0],fBin .lss,none,7⟩]
def c16_24 : ACode := .region o16_24 [(9,0)] false
def c16_25 : ACode := .cond (.var 9) .skip (.exit 2)
def c16_23 : ACode := .seq c16_24 c16_25
def o16_28 : List AOper := [⟨[.var 4],fMove,none,0⟩,
  ⟨[.var 2],fMove,none,0⟩,
  ⟨[.var 5],fMove,none,0⟩,
  ⟨[.loc 1,.loc 0],fIndexAddr 1,none,6⟩,
  ⟨[.loc 0],fLoad1,none,14⟩,
  ⟨[.loc 0,.const (.str [76])],fBin .add,none,30⟩,
  ⟨[.var 2],fMove,none,0⟩,
  ⟨[.var 5],fMove,none,0⟩,
  ⟨[.loc 1,.loc 0],fIndexAddr 1,none,192⟩,
  ⟨[.loc 0],fLoad1,none,448⟩,
  ⟨[.loc 0,.const (.str [82])],fBin .add,none,960⟩,
  ⟨[.loc 5,.loc 0],fBuildSlice 2 1 [(.str [])] [(0,1),(1,1)],none,2046⟩,
  ⟨[.loc 11,.loc 0],fAppend 1 16,none,4095⟩,
  ⟨[.loc 0],fMove,none,8191⟩]
def c16_28 : ACode := .region o16_28 [(4,0)] true
def c16_27 : ACode := .block 3 c16_28
def o16_29 : List AOper := [⟨[.var 5],fMove,none,0⟩,
  ⟨[.loc 0,.const (.int .i64 (.ofNat 1))],fBin .add,none,1⟩,
  ⟨[.loc 0],fMove,none,3⟩]
def c16_29 : ACode := .region o16_29 [(5,0)] false
def c16_26 : ACode := .seq c16_27 c16_29
def c16_22 : ACode := .seq c16_23 c16_26
def c16_21 : ACode := .loop c16_22
def c16_20 : ACode := .block 2 c16_21
def c16_18 : ACode := .seq c16_19 c16_20
def o16_30 : List AOper := [⟨[.var 4],fMove,none,0⟩,
  ⟨[.loc 0],fMove,none,1⟩]
def c16_30 : ACode := .region o16_30 [(2,0)] false
def c16_17 : ACode := .seq c16_18 c16_30
def c16_15 : ACode := .seq c16_16 c16_17
def c16_14 : ACode := .block 1 c16_15
def o16_31 : List AOper := [⟨[.var 3],fMove,none,0⟩,
  ⟨[.loc 0,.const (.int .i64 (.ofNat 1))],fBin .add,none,1⟩,
  ⟨[.loc 0],fMove,none,3⟩]
def c16_31 : ACode := .region o16_31 [(3,0)] false
def c16_13 : ACode := .seq c16_14 c16_31
def c16_9 : ACode := .seq c16_10 c16_13
def c16_8 : ACode := .loop c16_9
def c16_7 : ACode := .block 0 c16_8
def c16_5 : ACode := .seq c16_6 c16_7
def o16_33 : List AOper := [⟨[.const .nilslice],fMove,none,0⟩]
def c16_33 : ACode := .region o16_33 [(6,0)] false
def o16_36 : List AOper := [⟨[.const (.int .i64 (.ofNat 0))],fMove,none,0⟩]
def c16_36 : ACode := .region o16_36 [(7,0)] false
def o16_41 : List AOper := [⟨[.var 7],fMove,none,0⟩,
  ⟨[.var 2],fMove,none,0⟩,
  ⟨[.loc 0],fLenSl,none,2⟩,
  ⟨[.loc 2,.loc 0],fBin .lss,none,7⟩]
def c16_41 : ACode := .region o16_41 [(10,0)] false
def c16_42 : ACode := .cond (.var 10) .skip (.exit 4)
def c16_40 : ACode := .seq c16_41 c16_42
def o16_46 : List AOper := [⟨[.var 2],fMove,none,0⟩,
  ⟨[.var 7],fMove,none,0⟩,
  ⟨[.loc 1,.loc 0],fIndexAddr 1,none,3⟩,
  ⟨[.loc 0],fLoad1,none,7⟩,
  ⟨[.const (.func (.func 49) [] []),.loc 0],fCall,none,15⟩]
def c16_46 : ACode := .region o16_46 [(11,0)] false
def o16_48 : List AOper := [⟨[.var 6],fMove,none,0⟩,
  ⟨[.var 2],fMove,none,0⟩,
  ⟨[.var 7],fMove,none,0⟩,
  ⟨[.loc 1,.loc 0],fIndexAddr 1,none,6⟩,
  ⟨[.loc 0],fLoad1,none,14⟩,
  ⟨[.loc 0],fBuildSlice 1 1 [(.str [])] [(0,1)],none,30⟩,
  ⟨[.loc 5,.loc 0],fAppend 1 16,none,63⟩,
  ⟨[.loc 0],fMove,none,127⟩]
def c16_48 : ACode := .region o16_48 [(6,0)] false
def c16_47 : ACode := .cond (.var 11) c16_48 .skip
def c16_45 : ACode := .seq c16_46 c16_47
def c16_44 : ACode := .block 5 c16_45
def o16_49 : List AOper := [⟨[.var 7],fMove,none,0⟩,
  ⟨[.loc 0,.const (.int .i64 (.ofNat 1))],fBin .add,none,1⟩,
  ⟨[.loc 0],fMove,none,3⟩]
def c16_49 : ACode := .region o16_49 [(7,0)] false
def c16_43 : ACode := .seq c16_44 c16_49
def c16_39 : ACode := .seq c16_40 c16_43
def c16_38 : ACode := .loop c16_39
def c16_37 : ACode := .block 4 c16_38
def c16_35 : ACode := .seq c16_36 c16_37
def o16_51 : List AOper := [⟨[.var 6],fMove,none,0⟩,
  ⟨[.loc 0],fMove,none,1⟩]
def c16_51 : ACode := .region o16_51 [(1,0)] false
def c16_50 : ACode := .seq c16_51 .ret
def c16_34 : ACode := .seq c16_35 c16_50
def c16_32 : ACode := .seq c16_33 c16_34
def c16_4 : ACode := .seq c16_5 c16_32
def c16_2 : ACode := .seq c16_3 c16_4
def c16_0 : ACode := .seq c16_1 c16_2
def vm16 : List Nat := [0, 2, 3, 4, 5, 6, 7, 8, 12, 18, 38, 45]
def c16 : AFn := ⟨1, 12, [.var 1], c16_0⟩
/- 17 girouette/girouettelaw05.moebius : slots [0, 2, 3, 4, 6, 12, 19] -/
def o17_1 : List AOper := [⟨[.const (.int .i64 (.ofNat 0))],fMove,none,0⟩]
def c17_1 : ACode := .region o17_1 [(1,0)] false
def o17_3 : List AOper := [⟨[.const (.int .i64 (.ofNat 1))],fMove,none,0⟩]
def c17_3 : ACode := .region o17_3 [(2,0)] false
def o17_6 : List AOper := [⟨[.const (.int .i64 (.ofNat 2))],fMove,none,0⟩]
def c17_6 : ACode := .region o17_6 [(3,0)] false
def o17_11 : List AOper := [⟨[.var 0],fMove,none,0⟩,
  ⟨[.loc 0,.const (.int .i64 (.ofNat 1))],fBin .gtr,none,1⟩]
def c17_11 : ACode := .region o17_11 [(4,0)] false
def c17_12 : ACode := .cond (.var 4) .skip (.exit 0)
def c17_10 : ACode := .seq c17_11 c17_12
def o17_17 : List AOper := [⟨[.var 0],fMove,none,0⟩,
  ⟨[.var 3],fMove,none,0⟩,
  ⟨[.loc 1,.loc 0],fBin .rem,none,3⟩,
  ⟨[.loc 0,.const (.int .i64 (.ofNat 0))],fBin .neq,none,7⟩]
def c17_17 : ACode := .region o17_17 [(5,0)] false
def c17_18 : ACode := .cond (.var 5) (.exit 1) .skip
def c17_16 : ACode := .seq c17_17 c17_18
def o17_20 : List AOper := [⟨[.var 0],fMove,none,0⟩,
  ⟨[.var 3],fMove,none,0⟩,
  ⟨[.loc 1,.loc 0],fBin .quo,none,3⟩,
  ⟨[.loc 0],fMove,none,7⟩]
def c17_20 : ACode := .region o17_20 [(0,0)] false
def o17_23 : List AOper := [⟨[.var 0],fMove,none,0⟩,
  ⟨[.var 3],fMove,none,0⟩,
  ⟨[.loc 1,.loc 0],fBin .rem,none,3⟩,
  ⟨[.loc 0,.const (.int .i64 (.ofNat 0))],fBin .eql,none,7⟩]
def c17_23 : ACode := .region o17_23 [(6,0)] false
def o17_26 : List AOper := [⟨[.const (.int .i64 (.ofNat 0))],fMove,none,0⟩]
def c17_26 : ACode := .region o17_26 [(1,0)] false
def c17_25 : ACode := .seq c17_26 .ret
def c17_24 : ACode := .cond (.var 6) c17_25 .skip
def c17_22 : ACode := .seq c17_23 c17_24
def o17_27 : List AOper := [⟨[.var 2],fMove,none,0⟩,
  ⟨[.loc 0],fUn .neg,none,1⟩,
  ⟨[.loc 0],fMove,none,3⟩]
def c17_27 : ACode := .region o17_27 [(2,0)] false
def c17_21 : ACode := .seq c17_22 c17_27
def c17_19 : ACode := .seq c17_20 c17_21
def c17_15 : ACode := .seq c17_16 c17_19
def c17_14 : ACode := .block 1 c17_15
def o17_28 : List AOper := [⟨[.var 3],fMove,none,0⟩,
  ⟨[.loc 0,.const (.int .i64 (.ofNat 1))],fBin .add,none,1⟩,
  ⟨[.loc 0],fMove,none,3⟩]
def c17_28 : ACode := .region o17_28 [(3,0)] false
def c17_13 : ACode := .seq c17_14 c17_28
def c17_9 : ACode := .seq c17_10 c17_13
def c17_8 : ACode := .loop c17_9
def c17_7 : ACode := .block 0 c17_8
def c17_5 : ACode := .seq c17_6 c17_7
def o17_30 : List AOper := [⟨[.var 2],fMove,none,0⟩,
  ⟨[.loc 0],fMove,none,1⟩]
def c17_30 : ACode := .region o17_30 [(1,0)] false
def c17_29 : ACode := .seq c17_30 .ret
def c17_4 : ACode := .seq c17_5 c17_29
def c17_2 : ACode := .seq c17_3 c17_4
def c17_0 : ACode := .seq c17_1 c17_2
def vm17 : List Nat := [0, 2, 3, 4, 6, 12, 19]
def c17 : AFn := ⟨1, 7, [.var 1], c17_0⟩
/- 18 girouette/girouettelaw05.awake : slots [0, 1, 2, 3, 4, 5, 6, 7, 8, 9, 10, 11, 12, 13, 14, 15, 16] -/
def o18_1 : List AOper := [⟨[.const (.bool false)],fMove,none,0⟩]
def c18_1 : ACode := .region o18_1 [(0,0)] false
def o18_3 : List AOper := [⟨[.const (.int .i64 (.ofNat 2)),.const (.int .i64 (.ofNat 3)),.const (.int .i64 (.ofNat 1)),.const (.int .i64 (.ofNat 0))],fBuildSlice 4 1 [(.int .i64 (.ofNat 0))] [(0,1),(1,1),(2,1),(3,1)],none,0⟩,
  ⟨[.const (.func (.func 41) [] []),.loc 0],fCall,none,1⟩,
  ⟨[.loc 0],fMove,none,3⟩,
  ⟨[.loc 0],fExtract 0,none,7⟩,
  ⟨[.loc 1],fExtract 1,none,7⟩,
  ⟨[.loc 1],fMove,none,15⟩,
  ⟨[.loc 1],fMove,none,63⟩]
def c18_3 : ACode := .region o18_3 [(1,1),(2,0)] false
def o18_5 : List AOper := [⟨[.const (.int .i64 (.ofNat 1)),.const (.int .i64 (.ofNat 2)),.const (.int .i64 (.ofNat 0))],fBuildSlice 3 1 [(.int .i64 (.ofNat 0))] [(0,1),(1,1),(2,1)],none,0⟩,
  ⟨[.const (.func (.func 68) [] []),.loc 0,.const (.int .i64 (.ofNat 2))],fCall,none,1⟩,
  ⟨[.loc 0],fMove,none,3⟩,
  ⟨[.loc 0],fExtract 0,none,7⟩,
  ⟨[.loc 1],fExtract 1,none,7⟩,
  ⟨[.loc 2],fExtract 2,none,7⟩,
  ⟨[.loc 2],fMove,none,15⟩,
  ⟨[.loc 2],fMove,none,95⟩,
  ⟨[.loc 2],fMove,none,255⟩]
def c18_5 : ACode := .region o18_5 [(3,2),(4,1),(5,0)] false
def o18_7 : List AOper := [⟨[.const (.int .i64 (.ofNat 1)),.const (.int .i64 (.ofNat 2)),.const (.int .i64 (.ofNat 0))],fBuildSlice 3 1 [(.int .i64 (.ofNat 0))] [(0,1),(1,1),(2,1)],none,0⟩,
  ⟨[.const (.int .i64 (.ofNat 0)),.const (.int .i64 (.ofNat 1))],fBuildSlice 2 1 [(.int .i64 (.ofNat 0))] [(0,1),(1,1)],none,0⟩,
  ⟨[.const (.func (.func 28) [] []),.loc 1,.loc 0],fCall,none,3⟩,
  ⟨[.loc 0],fMove,none,7⟩,
  ⟨[.loc 0],fExtract 0,none,15⟩,
  ⟨[.loc 1],fExtract 1,none,15⟩,
  ⟨[],fAlloc [(.int .i64 (.ofNat 0)),(.int .i64 (.ofNat 0))],none,0⟩,
  ⟨[.loc 0,.loc 2],fStore 2,none,95⟩,
  ⟨[.loc 2],fMove,none,255⟩]
def c18_7 : ACode := .region o18_7 [(6,2),(7,0)] false
def o18_9 : List AOper := [⟨[.const (.int .i64 (.ofNat 1)),.const (.int .i64 (.ofNat 2)),.const (.int .i64 (.ofNat 0))],fBuildSlice 3 1 [(.int .i64 (.ofNat 0))] [(0,1),(1,1),(2,1)],none,0⟩,
  ⟨[.const (.int .i64 (.ofNat 2)),.const (.int .i64 (.ofNat 3))],fBuild [(.int .i64 (.ofNat 0)),(.int .i64 (.ofNat 0))] [(0,1),(1,1)],none,0⟩,
  ⟨[.const (.func (.func 37) [] []),.loc 1,.loc 0],fCall,none,3⟩,
  ⟨[.loc 0],fMove,none,7⟩,
  ⟨[.loc 0],fExtract 0,none,15⟩,
  ⟨[.loc 1],fExtract 1,none,15⟩,
  ⟨[.loc 2],fExtract 2,none,15⟩,
  ⟨[.loc 2],fMove,none,31⟩,
  ⟨[.loc 2],fMove,none,191⟩,
  ⟨[.loc 2],fMove,none,511⟩]
def c18_9 : ACode := .region o18_9 [(8,2),(9,1),(10,0)] false
def o18_11 : List AOper := [⟨[.const (.func (.func 33) [] []),.const (.str [82,76])],fCall,none,0⟩,
  ⟨[.loc 0],fMove,none,1⟩,
  ⟨[.loc 0],fExtract 0,none,3⟩,
  ⟨[.loc 1],fExtract 1,none,3⟩,
  ⟨[.loc 1],fMove,none,7⟩,
  ⟨[.loc 1],fMove,none,31⟩]
def c18_11 : ACode := .region o18_11 [(11,1),(12,0)] false
def o18_13 : List AOper := [⟨[.const (.func (.func 15) [] []),.const (.int .i64 (.ofNat 3))],fCall,none,0⟩,
  ⟨[.loc 0],fMove,none,1⟩,
  ⟨[.loc 0],fExtract 0,none,3⟩,
  ⟨[.loc 1],fExtract 1,none,3⟩,
  ⟨[.loc 1],fMove,none,7⟩,
  ⟨[.loc 1],fMove,none,31⟩]
def c18_13 : ACode := .region o18_13 [(13,1),(14,0)] false
def o18_15 : List AOper := [⟨[.const (.func (.func 44) [] []),.const (.int .i64 (.ofNat 3)),.const (.int .i64 (.ofNat 1000))],fCall,none,0⟩,
  ⟨[.loc 0],fMove,none,1⟩,
  ⟨[.loc 0],fExtract 0,none,3⟩,
  ⟨[.loc 1],fExtract 1,none,3⟩,
  ⟨[.loc 1],fMove,none,7⟩,
  ⟨[.loc 1],fMove,none,31⟩]
def c18_15 : ACode := .region o18_15 [(15,1),(16,0)] false
def o18_17 : List AOper := [⟨[.var 2],fMove,none,0⟩,
  ⟨[.loc 0,.const (.int .i64 (.ofNat 0))],fBin .eql,none,1⟩,
  ⟨[.loc 0],fMove,none,3⟩,
  ⟨[.var 1],fMove,(some (0,true)),7⟩,
  ⟨[.const (.int .i64 (.ofNat 1)),.const (.int .i64 (.ofNat 2)),.const (.int .i64 (.ofNat 4))],fBuildSlice 3 1 [(.int .i64 (.ofNat 0))] [(0,1),(1,1),(2,1)],(some (1,true)),7⟩,
  ⟨[.const (.func (.func 43) [] []),.loc 1,.loc 0],fCall,(some (2,true)),31⟩,
  ⟨[.loc 3,.loc 0,.const (.bool false)],fPick,none,63⟩,
  ⟨[.loc 0],fMove,none,127⟩,
  ⟨[.var 5],fMove,(some (0,true)),255⟩,
  ⟨[.loc 0,.const (.int .i64 (.ofNat 0))],fBin .eql,(some (1,true)),511⟩,
  ⟨[.loc 2,.loc 0,.const (.bool false)],fPick,none,1023⟩,
  ⟨[.loc 0],fMove,none,2047⟩,
  ⟨[.var 4],fMove,(some (0,true)),4095⟩,
  ⟨[.loc 1,.loc 0,.const (.bool false)],fPick,none,8191⟩,
  ⟨[.loc 0],fMove,none,16383⟩,
  ⟨[.var 3],fMove,(some (0,true)),32767⟩,
  ⟨[.const (.int .i64 (.ofNat 0)),.const (.int .i64 (.ofNat 1))],fBuildSlice 2 1 [(.int .i64 (.ofNat 0))] [(0,1),(1,1)],(some (1,true)),32767⟩,
  ⟨[.const (.func (.func 43) [] []),.loc 1,.loc 0],fCall,(some (2,true)),131071⟩,
  ⟨[.loc 3,.loc 0,.const (.bool false)],fPick,none,262143⟩,
  ⟨[.loc 0],fMove,none,524287⟩,
  ⟨[.var 7],fMove,(some (0,true)),1048575⟩,
  ⟨[.loc 0,.const (.int .i64 (.ofNat 0))],fBin .eql,(some (1,true)),2097151⟩,
  ⟨[.loc 2,.loc 0,.const (.bool false)],fPick,none,4194303⟩,
  ⟨[.loc 0],fMove,none,8388607⟩,
  ⟨[.var 6],fLoadN 2,(some (0,true)),16777215⟩,
  ⟨[.const (.int .i64 (.ofNat 2)),.const (.int .i64 (.ofNat 3))],fBuild [(.int .i64 (.ofNat 0)),(.int .i64 (.ofNat 0))] [(0,1),(1,1)],(some (1,true)),16777215⟩,
  ⟨[.loc 1,.loc 0],fEqD false (.agg [(0,none,.i),(1,none,.i)]),(some (2,true)),67108863⟩,
  ⟨[.loc 3,.loc 0,.const (.bool false)],fPick,none,134217727⟩,
  ⟨[.loc 0],fMove,none,268435455⟩,
  ⟨[.var 10],fMove,(some (0,true)),536870911⟩,
  ⟨[.loc 0,.const (.int .i64 (.ofNat 0))],fBin .eql,(some (1,true)),1073741823⟩,
  ⟨[.loc 2,.loc 0,.const (.bool false)],fPick,none,2147483647⟩,
  ⟨[.loc 0],fMove,none,4294967295⟩,
  ⟨[.var 9],fMove,(some (0,true)),8589934591⟩,
  ⟨[.loc 1,.loc 0,.const (.bool false)],fPick,none,17179869183⟩,
  ⟨[.loc 0],fMove,none,34359738367⟩,
  ⟨[.var 8],fMove,(some (0,true)),68719476735⟩,
  ⟨[.loc 0,.const (.int .i64 (.ofNat 2))],fBin .eql,(some (1,true)),137438953471⟩,
  ⟨[.loc 2,.loc 0,.const (.bool false)],fPick,none,274877906943⟩,
  ⟨[.loc 0],fMove,none,549755813887⟩,
  ⟨[.var 12],fMove,(some (0,true)),1099511627775⟩,
  ⟨[.loc 0,.const (.int .i64 (.ofNat 0))],fBin .eql,(some (1,true)),2199023255551⟩,
  ⟨[.loc 2,.loc 0,.const (.bool false)],fPick,none,4398046511103⟩,
  ⟨[.loc 0],fMove,none,8796093022207⟩,
  ⟨[.var 11],fMove,(some (0,true)),17592186044415⟩,
  ⟨[.const (.int .i64 (.ofNat 1)),.const (.int .i64 (.ofNat 2)),.const (.int .i64 (.ofNat 0))],fBuildSlice 3 1 [(.int .i64 (.ofNat 0))] [(0,1),(1,1),(2,1)],(some (1,true)),17592186044415⟩,
  ⟨[.const (.func (.func 43) [] []),.loc 1,.loc 0],fCall,(some (2,true)),70368744177663⟩,
  ⟨[.loc 3,.loc 0,.const (.bool false)],fPick,none,140737488355327⟩,
  ⟨[.loc 0],fMove,none,281474976710655⟩,
  ⟨[.var 14],fMove,(some (0,true)),562949953421311⟩,
  ⟨[.loc 0,.const (.int .i64 (.ofNat 0))],fBin .eql,(some (1,true)),1125899906842623⟩,
  ⟨[.loc 2,.loc 0,.const (.bool false)],fPick,none,2251799813685247⟩,
  ⟨[.loc 0],fMove,none,4503599627370495⟩,
  ⟨[.var 13],fMove,(some (0,true)),9007199254740991⟩,
  ⟨[.loc 0],fLenSl,(some (1,true)),18014398509481983⟩,
  ⟨[.loc 0,.const (.int .i64 (.ofNat 2))],fBin .eql,(some (2,true)),36028797018963967⟩,
  ⟨[.loc 3,.loc 0,.const (.bool false)],fPick,none,72057594037927935⟩,
  ⟨[.loc 0],fMove,none,144115188075855871⟩,
  ⟨[.var 13],fMove,(some (0,true)),288230376151711743⟩,
  ⟨[.loc 0,.const (.int .i64 (.ofNat 0))],fIndexAddr 1,(some (1,true)),576460752303423487⟩,
  ⟨[.loc 0],fLoad1,(some (2,true)),1152921504606846975⟩,
  ⟨[.loc 0,.const (.str [82,76,76])],fBin .eql,(some (3,true)),2305843009213693951⟩,
  ⟨[.loc 4,.loc 0,.const (.bool false)],fPick,none,4611686018427387903⟩,
  ⟨[.loc 0],fMove,none,9223372036854775807⟩,
  ⟨[.var 16],fMove,(some (0,true)),18446744073709551615⟩,
  ⟨[.loc 0,.const (.int .i64 (.ofNat 0))],fBin .eql,(some (1,true)),36893488147419103231⟩,
  ⟨[.loc 2,.loc 0,.const (.bool false)],fPick,none,73786976294838206463⟩,
  ⟨[.loc 0],fMove,none,147573952589676412927⟩,
  ⟨[.var 15],fMove,(some (0,true)),295147905179352825855⟩,
  ⟨[.loc 1,.loc 0,.const (.bool false)],fPick,none,590295810358705651711⟩,
  ⟨[.loc 0],fMove,none,1180591620717411303423⟩]
def c18_17 : ACode := .region o18_17 [(0,0)] false
def c18_16 : ACode := .seq c18_17 .ret
def c18_14 : ACode := .seq c18_15 c18_16
def c18_12 : ACode := .seq c18_13 c18_14
def c18_10 : ACode := .seq c18_11 c18_12
def c18_8 : ACode := .seq c18_9 c18_10
def c18_6 : ACode := .seq c18_7 c18_8
def c18_4 : ACode := .seq c18_5 c18_6
def c18_2 : ACode := .seq c18_3 c18_4
def c18_0 : ACode := .seq c18_1 c18_2
def vm18 : List Nat := [0, 1, 2, 3, 4, 5, 6, 7, 8, 9, 10, 11, 12, 13, 14, 15, 16]
def c18 : AFn := ⟨0, 17, [.var 0], c18_0⟩
/- 25 girouette/girouettelaw05.tame : slots [0, 2, 3, 4, 5, 6, 7, 8, 9, 16, 22, 51] -/
def o25_1 : List AOper := [⟨[.const .nilslice],fMove,none,0⟩]
def c25_1 : ACode := .region o25_1 [(1,0)] false
def o25_3 : List AOper := [⟨[.var 0],fMove,none,0⟩,
  ⟨[.loc 0],fLenSl,none,1⟩,
  ⟨[.loc 0,.const (.int .i64 (.ofNat 7))],fBin .rem,none,3⟩,
  ⟨[.const (.int .i64 (.ofNat 2)),.loc 0],fBin .add,none,7⟩,
  ⟨[.loc 0],fMove,none,15⟩]
def c25_3 : ACode := .region o25_3 [(2,0)] false
def o25_5 : List AOper := [⟨[.const .nilslice],fMove,none,0⟩]
def c25_5 : ACode := .region o25_5 [(3,0)] false
def o25_8 : List AOper := [⟨[.const (.int .i64 (.ofNat 0))],fMove,none,0⟩]
def c25_8 : ACode := .region o25_8 [(4,0)] false
def o25_13 : List AOper := [⟨[.var 4],fMove,none,0⟩,
  ⟨[.var 2],fMove,none,0⟩,
  ⟨[.loc 1,.loc 0],fBin .lss,none,3⟩]
def c25_13 : ACode := .region o25_13 [(9,0)] false
def c25_14 : ACode := .cond (.var 9) .skip (.exit 0)
def c25_12 : ACode := .seq c25_13 c25_14
def o25_18 : List AOper := [⟨[.const (.int .i64 (.ofNat 0))],fMove,none,0⟩]
def c25_18 : ACode := .region o25_18 [(5,0)] false
def o25_21 : List AOper := [⟨[.var 4],fMove,none,0⟩,
  ⟨[.var 0],fMove,none,0⟩,
  ⟨[.loc 0],fLenSl,none,2⟩,
  ⟨[.loc 2,.loc 0],fBin .lss,none,7⟩]
def c25_21 : ACode := .region o25_21 [(10,0)] false
def o25_23 : List AOper := [⟨[.var 0],fMove,none,0⟩,
  ⟨[.var 4],fMove,none,0⟩,
  ⟨[.loc 1,.loc 0],fIndexAddr 1,none,3⟩,
  ⟨[.loc 0],fLoad1,none,7⟩,
  ⟨[.loc 0],fConvInt .u64,none,15⟩,
  ⟨[.var 4],fMove,none,0⟩,
  ⟨[.loc 0,.const (.int .i64 (.ofNat 1))],fBin .add,none,32⟩,
  ⟨[.loc 0],fConvInt .u64,none,96⟩,
  ⟨[.loc 3,.loc 0],fBin .rem,none,255⟩,
  ⟨[.loc 0],fConvInt .i64,none,511⟩,
  ⟨[.loc 0],fMove,none,1023⟩]
def c25_23 : ACode := .region o25_23 [(5,0)] false
def c25_22 : ACode := .cond (.var 10) c25_23 .skip
def c25_20 : ACode := .seq c25_21 c25_22
def o25_25 : List AOper := [⟨[.const .nilslice],fMove,none,0⟩]
def c25_25 : ACode := .region o25_25 [(6,0)] false
def o25_27 : List AOper := [⟨[.var 6],fMove,none,0⟩,
  ⟨[.var 3],fMove,none,0⟩,
  ⟨[.var 5],fMove,none,0⟩,
  ⟨[.loc 1,.loc 0],fSlice 1 false true,none,6⟩,
  ⟨[.loc 3,.loc 0],fAppend 1 8,none,15⟩,
  ⟨[.loc 0],fMove,none,31⟩]
def c25_27 : ACode := .region o25_27 [(6,0)] false
def o25_29 : List AOper := [⟨[.var 6],fMove,none,0⟩,
  ⟨[.var 4],fMove,none,0⟩,
  ⟨[.loc 0],fBuildSlice 1 1 [(.int .i64 (.ofNat 0))] [(0,1)],none,2⟩,
  ⟨[.loc 2,.loc 0],fAppend 1 8,none,7⟩,
  ⟨[.loc 0],fMove,none,15⟩]
def c25_29 : ACode := .region o25_29 [(6,0)] false
def o25_30 : List AOper := [⟨[.var 6],fMove,none,0⟩,
  ⟨[.var 3],fMove,none,0⟩,
  ⟨[.var 5],fMove,none,0⟩,
  ⟨[.loc 1,.loc 0],fSlice 1 true false,none,6⟩,
  ⟨[.loc 3,.loc 0],fAppend 1 8,none,15⟩,
  ⟨[.loc 0],fMove,none,31⟩]
def c25_30 : ACode := .region o25_30 [(3,0)] false
def c25_28 : ACode := .seq c25_29 c25_30
def c25_26 : ACode := .seq c25_27 c25_28
def c25_24 : ACode := .seq c25_25 c25_26
def c25_19 : ACode := .seq c25_20 c25_24
def c25_17 : ACode := .seq c25_18 c25_19
def c25_16 : ACode := .block 1 c25_17
def o25_31 : List AOper := [⟨[.var 4],fMove,none,0⟩,
  ⟨[.loc 0,.const (.int .i64 (.ofNat 1))],fBin .add,none,1⟩,
  ⟨[.loc 0],fMove,none,3⟩]
def c25_31 : ACode := .region o25_31 [(4,0)] false
def c25_15 : ACode := .seq c25_16 c25_31
def c25_11 : ACode := .seq c25_12 c25_15
def c25_10 : ACode := .loop c25_11
def c25_9 : ACode := .block 0 c25_10
def c25_7 : ACode := .seq c25_8 c25_9
def o25_33 : List AOper := [⟨[.var 2],fMove,none,0⟩,
  ⟨[.loc 0,.loc 0],fMakeSlice 1 8 [(.int .i64 (.ofNat 0))],none,1⟩,
  ⟨[.loc 0],fMove,none,3⟩]
def c25_33 : ACode := .region o25_33 [(7,0)] false
def o25_36 : List AOper := [⟨[.const (.int .i64 (.ofNat 0))],fMove,none,0⟩]
def c25_36 : ACode := .region o25_36 [(8,0)] false
def o25_41 : List AOper := [⟨[.var 8],fMove,none,0⟩,
  ⟨[.var 2],fMove,none,0⟩,
  ⟨[.loc 1,.loc 0],fBin .lss,none,3⟩]
def c25_41 : ACode := .region o25_41 [(11,0)] false
def c25_42 : ACode := .cond (.var 11) .skip (.exit 2)
def c25_40 : ACode := .seq c25_41 c25_42
def o25_45 : List AOper := [⟨[.var 7],fMove,none,0⟩,
  ⟨[.var 3],fMove,none,0⟩,
  ⟨[.var 8],fMove,none,0⟩,
  ⟨[.loc 1,.loc 0],fIndexAddr 1,none,6⟩,
  ⟨[.loc 0],fLoad1,none,14⟩,
  ⟨[.var 3],fMove,none,0⟩,
  ⟨[.var 8],fMove,none,0⟩,
  ⟨[.loc 0,.const (.int .i64 (.ofNat 1))],fBin .add,none,64⟩,
  ⟨[.var 2],fMove,none,0⟩,
  ⟨[.loc 1,.loc 0],fBin .rem,none,448⟩,
  ⟨[.loc 4,.loc 0],fIndexAddr 1,none,992⟩,
  ⟨[.loc 0],fLoad1,none,2016⟩,
  ⟨[.loc 11,.loc 7],fIndexAddr 1,none,4095⟩,
  ⟨[.loc 0,.loc 1],fStore 1,none,8191⟩]
def c25_45 : ACode := .region o25_45 [] true
def c25_44 : ACode := .block 3 c25_45
def o25_46 : List AOper := [⟨[.var 8],fMove,none,0⟩,
  ⟨[.loc 0,.const (.int .i64 (.ofNat 1))],fBin .add,none,1⟩,
  ⟨[.loc 0],fMove,none,3⟩]
def c25_46 : ACode := .region o25_46 [(8,0)] false
def c25_43 : ACode := .seq c25_44 c25_46
def c25_39 : ACode := .seq c25_40 c25_43
def c25_38 : ACode := .loop c25_39
def c25_37 : ACode := .block 2 c25_38
def c25_35 : ACode := .seq c25_36 c25_37
def o25_48 : List AOper := [⟨[.var 7],fMove,none,0⟩,
  ⟨[.loc 0],fMove,none,1⟩]
def c25_48 : ACode := .region o25_48 [(1,0)] false
def c25_47 : ACode := .seq c25_48 .ret
def c25_34 : ACode := .seq c25_35 c25_47
def c25_32 : ACode := .seq c25_33 c25_34
def c25_6 : ACode := .seq c25_7 c25_32
def c25_4 : ACode := .seq c25_5 c25_6
def c25_2 : ACode := .seq c25_3 c25_4
def c25_0 : ACode := .seq c25_1 c25_2
def vm25 : List Nat := [0, 2, 3, 4, 5, 6, 7, 8, 9, 16, 22, 51]
def c25 : AFn := ⟨1, 12, [.var 1], c25_0⟩
/- 26 girouette/girouettelaw05.few : slots [0, 1, 4, 5] -/
def o26_1 : List AOper := [⟨[.const .nilslice],fMove,none,0⟩]
def c26_1 : ACode := .region o26_1 [(2,0)] false
def o26_3 : List AOper := [⟨[.const .nilslice],fMove,none,0⟩]
def c26_3 : ACode := .region o26_3 [(3,0)] false
def o26_5 : List AOper := [⟨[.var 3],fMove,none,0⟩,
  ⟨[.var 0],fMove,none,0⟩,
  ⟨[.var 0],fMove,none,0⟩,
  ⟨[.loc 0],fLenSl,none,4⟩,
  ⟨[.var 1],fMove,none,0⟩,
  ⟨[.loc 1,.loc 0],fMin,none,28⟩,
  ⟨[.loc 4,.loc 0],fSlice 1 false true,none,62⟩,
  ⟨[.loc 6,.loc 0],fAppend 1 8,none,127⟩,
  ⟨[.loc 0],fMove,none,255⟩]
def c26_5 : ACode := .region o26_5 [(2,0)] false
def c26_4 : ACode := .seq c26_5 .ret
def c26_2 : ACode := .seq c26_3 c26_4
def c26_0 : ACode := .seq c26_1 c26_2
def vm26 : List Nat := [0, 1, 4, 5]
def c26 : AFn := ⟨2, 4, [.var 2], c26_0⟩
/- 27 girouette/cycles.IsLoop : slots [0, 1, 4, 5, 6, 7, 14] -/
def o27_1 : List AOper := [⟨[.const (.bool false)],fMove,none,0⟩,
  ⟨[.const (.int .i64 (.ofNat 0))],fMove,none,1⟩]
def c27_1 : ACode := .region o27_1 [(2,1),(3,0)] false
def o27_3 : List AOper := [⟨[.var 0],fMove,none,0⟩,
  ⟨[.const (.func (.func 91) [] []),.loc 0],fCall,none,1⟩,
  ⟨[.loc 0],fMove,none,3⟩,
  ⟨[.loc 0],fExtract 0,none,7⟩,
  ⟨[.loc 1],fExtract 1,none,7⟩,
  ⟨[.loc 1],fMove,none,15⟩,
  ⟨[.loc 1],fMove,none,63⟩]
def c27_3 : ACode := .region o27_3 [(4,1),(5,0)] false
def o27_6 : List AOper := [⟨[.var 5],fMove,none,0⟩,
  ⟨[.loc 0,.const (.int .i64 (.ofNat 0))],fBin .neq,none,1⟩]
def c27_6 : ACode := .region o27_6 [(6,0)] false
def o27_9 : List AOper := [⟨[.var 5],fMove,none,0⟩,
  ⟨[.const (.bool false)],fMove,none,0⟩,
  ⟨[.loc 1],fMove,none,3⟩]
def c27_9 : ACode := .region o27_9 [(2,1),(3,0)] false
def c27_8 : ACode := .seq c27_9 .ret
def c27_7 : ACode := .cond (.var 6) c27_8 .skip
def c27_5 : ACode := .seq c27_6 c27_7
def o27_11 : List AOper := [⟨[.var 4],fMove,none,0⟩,
  ⟨[.var 1],fMove,none,0⟩,
  ⟨[.const (.func (.func 92) [] []),.loc 1,.loc 0,.const (.int .i64 (.ofNat 12))],fCall,none,3⟩,
  ⟨[.loc 0],fMove,none,7⟩,
  ⟨[.const (.int .i64 (.ofNat 0))],fMove,none,15⟩]
def c27_11 : ACode := .region o27_11 [(2,1),(3,0)] false
def c27_10 : ACode := .seq c27_11 .ret
def c27_4 : ACode := .seq c27_5 c27_10
def c27_2 : ACode := .seq c27_3 c27_4
def c27_0 : ACode := .seq c27_1 c27_2
def vm27 : List Nat := [0, 1, 4, 5, 6, 7, 14]
def c27 : AFn := ⟨2, 7, [.var 2,.var 3], c27_0⟩
/- 28 girouette/cycles.Follow : slots [0, 1, 4, 5, 6, 7, 8, 9, 11, 12, 13, 20, 26, 28, 29, 30, 31, 59] -/
def o28_1 : List AOper := [⟨[],fAlloc [(.int .i64 (.ofNat 0)),(.int .i64 (.ofNat 0))],none,0⟩,
  ⟨[.const (.int .i64 (.ofNat 0))],fMove,none,0⟩]
def c28_1 : ACode := .region o28_1 [(2,1),(3,0)] false
def o28_3 : List AOper := [⟨[.var 0],fMove,none,0⟩,
  ⟨[.const (.func (.func 91) [] []),.loc 0],fCall,none,1⟩,
  ⟨[.loc 0],fMove,none,3⟩,
  ⟨[.loc 0],fExtract 0,none,7⟩,
  ⟨[.loc 1],fExtract 1,none,7⟩,
  ⟨[.loc 1],fMove,none,15⟩,
  ⟨[.loc 1],fMove,none,63⟩]
def c28_3 : ACode := .region o28_3 [(4,1),(5,0)] false
def o28_6 : List AOper := [⟨[.var 5],fMove,none,0⟩,
  ⟨[.loc 0,.const (.int .i64 (.ofNat 0))],fBin .neq,none,1⟩]
def c28_6 : ACode := .region o28_6 [(11,0)] false
def o28_9 : List AOper := [⟨[],fBuild [(.int .i64 (.ofNat 0)),(.int .i64 (.ofNat 0))] [],none,0⟩,
  ⟨[.var 5],fMove,none,0⟩,
  ⟨[.var 2,.loc 1],fStore 2,none,1⟩,
  ⟨[.loc 1],fMove,none,7⟩]
def c28_9 : ACode := .region o28_9 [(3,0)] false
def c28_8 : ACode := .seq c28_9 .ret
def c28_7 : ACode := .cond (.var 11) c28_8 .skip
def c28_5 : ACode := .seq c28_6 c28_7
def o28_12 : List AOper := [⟨[.var 4],fMove,none,0⟩,
  ⟨[.var 1],fMove,none,0⟩,
  ⟨[.const (.func (.func 92) [] []),.loc 1,.loc 0,.const (.int .i64 (.ofNat 6))],fCall,none,3⟩,
  ⟨[.loc 0],fUn .not,none,7⟩]
def c28_12 : ACode := .region o28_12 [(12,0)] false
def o28_15 : List AOper := [⟨[],fBuild [(.int .i64 (.ofNat 0)),(.int .i64 (.ofNat 0))] [],none,0⟩,
  ⟨[.var 2,.loc 0],fStore 2,none,1⟩,
  ⟨[.const (.int .i64 (.ofNat 1))],fMove,none,3⟩]
def c28_15 : ACode := .region o28_15 [(3,0)] false
def c28_14 : ACode := .seq c28_15 .ret
def c28_13 : ACode := .cond (.var 12) c28_14 .skip
def c28_11 : ACode := .seq c28_12 c28_13
def o28_17 : List AOper := [⟨[.const (.int .i64 (.ofNat 1))],fMove,none,0⟩,
  ⟨[.const (.int .i64 (.ofNat 0))],fMove,none,1⟩]
def c28_17 : ACode := .region o28_17 [(6,1),(7,0)] false
def o28_20 : List AOper := [⟨[.var 1],fMove,none,0⟩,
  ⟨[.loc 0],fLenSl,none,1⟩,
  ⟨[.const (.int .i64 (.ofNat 0))],fMove,none,0⟩]
def c28_20 : ACode := .region o28_20 [(13,2),(14,1),(15,0)] false
def o28_24 : List AOper := [⟨[.var 15,.var 14],fBin .lss,none,0⟩]
def c28_24 : ACode := .region o28_24 [(16,0)] false
def c28_26 : ACode := .cond (.var 16) .skip (.exit 0)
def o28_30 : List AOper := [⟨[.var 13,.var 15],fIndexAddr 1,none,0⟩,
  ⟨[.loc 0],fLoad1,none,1⟩,
  ⟨[.loc 0],fMove,none,3⟩]
def c28_30 : ACode := .region o28_30 [(8,0)] false
def o28_32 : List AOper := [⟨[.var 4],fMove,none,0⟩,
  ⟨[.var 8],fMove,none,0⟩,
  ⟨[.loc 0,.const (.int .i64 (.ofNat 1))],fBin .add,none,2⟩,
  ⟨[.loc 2,.loc 0],fIndexAddr 1,none,7⟩,
  ⟨[.loc 0],fLoad1,none,15⟩,
  ⟨[.var 4],fMove,none,0⟩,
  ⟨[.var 8],fMove,none,0⟩,
  ⟨[.loc 1,.loc 0],fIndexAddr 1,none,96⟩,
  ⟨[.loc 0],fLoad1,none,224⟩,
  ⟨[.loc 4,.loc 0],fBin .sub,none,511⟩,
  ⟨[.loc 0],fMove,none,1023⟩]
def c28_32 : ACode := .region o28_32 [(9,0)] true
def o28_33 : List AOper := [⟨[.var 6],fMove,none,0⟩,
  ⟨[.var 9],fMove,none,0⟩,
  ⟨[.loc 1,.loc 0],fBin .mul,none,3⟩,
  ⟨[.var 7],fMove,none,0⟩,
  ⟨[.var 8],fMove,none,0⟩,
  ⟨[.loc 1,.loc 0],fBin .sub,none,24⟩,
  ⟨[.var 9],fMove,none,0⟩,
  ⟨[.loc 1,.loc 0],fBin .mul,none,120⟩,
  ⟨[.var 4],fMove,none,0⟩,
  ⟨[.var 8],fMove,none,0⟩,
  ⟨[.loc 1,.loc 0],fIndexAddr 1,none,768⟩,
  ⟨[.loc 0],fLoad1,none,1792⟩,
  ⟨[.loc 4,.loc 0],fBin .add,none,4088⟩,
  ⟨[.loc 10],fMove,none,7⟩,
  ⟨[.loc 1],fMove,none,16383⟩]
def c28_33 : ACode := .region o28_33 [(6,1),(7,0)] true
def c28_31 : ACode := .seq c28_32 c28_33
def c28_29 : ACode := .seq c28_30 c28_31
def c28_28 : ACode := .block 1 c28_29
def o28_34 : List AOper := [⟨[.var 15,.const (.int .i64 (.ofNat 1))],fBin .add,none,0⟩,
  ⟨[.loc 0],fMove,none,1⟩]
def c28_34 : ACode := .region o28_34 [(15,0)] false
def c28_27 : ACode := .seq c28_28 c28_34
def c28_25 : ACode := .seq c28_26 c28_27
def c28_23 : ACode := .seq c28_24 c28_25
def c28_22 : ACode := .loop c28_23
def c28_21 : ACode := .block 0 c28_22
def c28_19 : ACode := .seq c28_20 c28_21
def o28_37 : List AOper := [⟨[.var 6],fMove,none,0⟩,
  ⟨[.loc 0,.const (.int .i64 (.ofNat 1))],fBin .eql,none,1⟩]
def c28_37 : ACode := .region o28_37 [(17,0)] false
def o28_40 : List AOper := [⟨[.var 1],fMove,none,0⟩,
  ⟨[.loc 0,.const (.int .i64 (.ofNat 0))],fIndexAddr 1,none,1⟩,
  ⟨[.loc 0],fLoad1,none,3⟩,
  ⟨[.loc 0,.const (.int .i64 (.ofNat 1))],fBuild [(.int .i64 (.ofNat 0)),(.int .i64 (.ofNat 0))] [(0,1),(1,1)],none,7⟩,
  ⟨[.var 2,.loc 0],fStore 2,none,15⟩,
  ⟨[.const (.int .i64 (.ofNat 0))],fMove,none,31⟩]
def c28_40 : ACode := .region o28_40 [(3,0)] false
def c28_39 : ACode := .seq c28_40 .ret
def c28_38 : ACode := .cond (.var 17) c28_39 .skip
def c28_36 : ACode := .seq c28_37 c28_38
def o28_42 : List AOper := [⟨[.var 7],fMove,none,0⟩,
  ⟨[.var 6],fMove,none,0⟩,
  ⟨[.const (.int .i64 (.ofNat 1)),.loc 0],fBin .sub,none,2⟩,
  ⟨[.const (.func (.func 93) [] []),.loc 2,.loc 0],fCall,none,7⟩,
  ⟨[],fAlloc [(.int .i64 (.ofNat 0)),(.int .i64 (.ofNat 0))],none,0⟩,
  ⟨[.loc 0,.loc 1],fStore 2,none,31⟩]
def c28_42 : ACode := .region o28_42 [(10,1)] false
def o28_44 : List AOper := [⟨[.var 10],fFieldAddr 0,none,0⟩,
  ⟨[.loc 0],fLoad1,none,1⟩,
  ⟨[.var 10],fFieldAddr 1,none,0⟩,
  ⟨[.loc 0],fLoad1,none,4⟩,
  ⟨[.loc 2,.loc 0],fBuild [(.int .i64 (.ofNat 0)),(.int .i64 (.ofNat 0))] [(0,1),(1,1)],none,15⟩,
  ⟨[.var 2,.loc 0],fStore 2,none,31⟩,
  ⟨[.const (.int .i64 (.ofNat 0))],fMove,none,63⟩]
def c28_44 : ACode := .region o28_44 [(3,0)] false
def c28_43 : ACode := .seq c28_44 .ret
def c28_41 : ACode := .seq c28_42 c28_43
def c28_35 : ACode := .seq c28_36 c28_41
def c28_18 : ACode := .seq c28_19 c28_35
def c28_16 : ACode := .seq c28_17 c28_18
def c28_10 : ACode := .seq c28_11 c28_16
def c28_4 : ACode := .seq c28_5 c28_10
def c28_2 : ACode := .seq c28_3 c28_4
def c28_0 : ACode := .seq c28_1 c28_2
def vm28 : List Nat := [0, 1, 4, 5, 6, 7, 8, 9, 11, 12, 13, 20, 26, 28, 29, 30, 31, 59]
def c28 : AFn := ⟨2, 18, [.cell 2 (some 2),.var 3], c28_0⟩
/- 29 girouette/girouetteref05.IsLoop : slots [0, 1, 4, 5, 6, 10, 27, 31, 48] -/
def o29_1 : List AOper := [⟨[.const (.bool false)],fMove,none,0⟩]
def c29_1 : ACode := .region o29_1 [(2,0)] false
def o29_4 : List AOper := [⟨[.const (.int .i64 (.ofNat 0))],fMove,none,0⟩]
def c29_4 : ACode := .region o29_4 [(3,0)] false
def o29_9 : List AOper := [⟨[.var 3],fMove,none,0⟩,
  ⟨[.var 1],fMove,none,0⟩,
  ⟨[.loc 0],fLenSl,none,2⟩,
  ⟨[.loc 2,.loc 0],fBin .lss,none,7⟩]
def c29_9 : ACode := .region o29_9 [(5,0)] false
def c29_10 : ACode := .cond (.var 5) .skip (.exit 0)
def c29_8 : ACode := .seq c29_9 c29_10
def o29_14 : List AOper := [⟨[.var 1],fMove,none,0⟩,
  ⟨[.var 3],fMove,none,0⟩,
  ⟨[.loc 1,.loc 0],fIndexAddr 1,none,3⟩,
  ⟨[.loc 0],fLoad1,none,7⟩,
  ⟨[.loc 0,.const (.int .i64 (.ofNat 0))],fBin .lss,none,15⟩,
  ⟨[.loc 0],fMove,none,31⟩,
  ⟨[.var 1],fMove,(some (0,false)),63⟩,
  ⟨[.var 3],fMove,(some (1,false)),63⟩,
  ⟨[.loc 1,.loc 0],fIndexAddr 1,(some (2,false)),255⟩,
  ⟨[.loc 0],fLoad1,(some (3,false)),511⟩,
  ⟨[.var 0],fMove,(some (4,false)),63⟩,
  ⟨[.loc 0],fLenSl,(some (5,false)),1087⟩,
  ⟨[.loc 0,.const (.int .i64 (.ofNat 1))],fBin .sub,(some (6,false)),3135⟩,
  ⟨[.loc 3,.loc 0],fBin .geq,(some (7,false)),8191⟩,
  ⟨[.loc 8,.const (.bool true),.loc 0],fPick,none,16383⟩]
def c29_14 : ACode := .region o29_14 [(6,0)] false
def o29_17 : List AOper := [⟨[.const (.bool false)],fMove,none,0⟩]
def c29_17 : ACode := .region o29_17 [(2,0)] false
def c29_16 : ACode := .seq c29_17 .ret
def c29_15 : ACode := .cond (.var 6) c29_16 .skip
def c29_13 : ACode := .seq c29_14 c29_15
def c29_12 : ACode := .block 1 c29_13
def o29_18 : List AOper := [⟨[.var 3],fMove,none,0⟩,
  ⟨[.loc 0,.const (.int .i64 (.ofNat 1))],fBin .add,none,1⟩,
  ⟨[.loc 0],fMove,none,3⟩]
def c29_18 : ACode := .region o29_18 [(3,0)] false
def c29_11 : ACode := .seq c29_12 c29_18
def c29_7 : ACode := .seq c29_8 c29_11
def c29_6 : ACode := .loop c29_7
def c29_5 : ACode := .block 0 c29_6
def c29_3 : ACode := .seq c29_4 c29_5
def o29_21 : List AOper := [⟨[.const (.int .i64 (.ofNat 0))],fMove,none,0⟩]
def c29_21 : ACode := .region o29_21 [(4,0)] false
def o29_26 : List AOper := [⟨[.var 4],fMove,none,0⟩,
  ⟨[.var 1],fMove,none,0⟩,
  ⟨[.loc 0],fLenSl,none,2⟩,
  ⟨[.loc 2,.loc 0],fBin .lss,none,7⟩]
def c29_26 : ACode := .region o29_26 [(7,0)] false
def c29_27 : ACode := .cond (.var 7) .skip (.exit 2)
def c29_25 : ACode := .seq c29_26 c29_27
def o29_31 : List AOper := [⟨[.var 0],fMove,none,0⟩,
  ⟨[.var 1],fMove,none,0⟩,
  ⟨[.var 4],fMove,none,0⟩,
  ⟨[.loc 1,.loc 0],fIndexAddr 1,none,6⟩,
  ⟨[.loc 0],fLoad1,none,14⟩,
  ⟨[.var 1],fMove,none,0⟩,
  ⟨[.var 4],fMove,none,0⟩,
  ⟨[.loc 0,.const (.int .i64 (.ofNat 1))],fBin .add,none,64⟩,
  ⟨[.var 1],fMove,none,0⟩,
  ⟨[.loc 0],fLenSl,none,256⟩,
  ⟨[.loc 2,.loc 0],fBin .rem,none,960⟩,
  ⟨[.loc 5,.loc 0],fIndexAddr 1,none,2016⟩,
  ⟨[.loc 0],fLoad1,none,4064⟩,
  ⟨[.const (.func (.func 67) [] []),.loc 12,.loc 8,.loc 0],fCall,none,8191⟩,
  ⟨[.loc 0],fUn .not,none,16383⟩]
def c29_31 : ACode := .region o29_31 [(8,0)] true
def o29_34 : List AOper := [⟨[.const (.bool false)],fMove,none,0⟩]
def c29_34 : ACode := .region o29_34 [(2,0)] false
def c29_33 : ACode := .seq c29_34 .ret
def c29_32 : ACode := .cond (.var 8) c29_33 .skip
def c29_30 : ACode := .seq c29_31 c29_32
def c29_29 : ACode := .block 3 c29_30
def o29_35 : List AOper := [⟨[.var 4],fMove,none,0⟩,
  ⟨[.loc 0,.const (.int .i64 (.ofNat 1))],fBin .add,none,1⟩,
  ⟨[.loc 0],fMove,none,3⟩]
def c29_35 : ACode := .region o29_35 [(4,0)] false
def c29_28 : ACode := .seq c29_29 c29_35
def c29_24 : ACode := .seq c29_25 c29_28
def c29_23 : ACode := .loop c29_24
def c29_22 : ACode := .block 2 c29_23
def c29_20 : ACode := .seq c29_21 c29_22
def o29_37 : List AOper := [⟨[.var 1],fMove,none,0⟩,
  ⟨[.loc 0],fLenSl,none,1⟩,
  ⟨[.loc 0,.const (.int .i64 (.ofNat 1))],fBin .geq,none,3⟩,
  ⟨[.loc 0],fMove,none,7⟩,
  ⟨[.var 1],fMove,(some (0,true)),15⟩,
  ⟨[.loc 0],fLenSl,(some (1,true)),31⟩,
  ⟨[.loc 0,.const (.int .i64 (.ofNat 12))],fBin .leq,(some (2,true)),63⟩,
  ⟨[.loc 3,.loc 0,.const (.bool false)],fPick,none,127⟩,
  ⟨[.loc 0],fMove,none,255⟩]
def c29_37 : ACode := .region o29_37 [(2,0)] false
def c29_36 : ACode := .seq c29_37 .ret
def c29_19 : ACode := .seq c29_20 c29_36
def c29_2 : ACode := .seq c29_3 c29_19
def c29_0 : ACode := .seq c29_1 c29_2
def vm29 : List Nat := [0, 1, 4, 5, 6, 10, 27, 31, 48]
def c29 : AFn := ⟨2, 9, [.var 2], c29_0⟩
/- 30 girouette/girouetteref05.Point : slots [0, 1, 3, 4] -/
def o30_1 : List AOper := [⟨[.var 1],fBox,none,0⟩,
  ⟨[.const (.bool false)],fMove,none,0⟩]
def c30_1 : ACode := .region o30_1 [(2,1),(3,0)] false
def o30_3 : List AOper := [⟨[.var 2,.const (.int .i64 (.ofNat 1))],fIndexAddrArr 2 1,none,0⟩,
  ⟨[.loc 0],fLoad1,none,1⟩,
  ⟨[.loc 0,.const (.int .i64 (.ofNat 1))],fBin .geq,none,3⟩,
  ⟨[.loc 0],fMove,none,7⟩,
  ⟨[.var 2,.const (.int .i64 (.ofNat 1))],fIndexAddrArr 2 1,(some (0,true)),15⟩,
  ⟨[.loc 0],fLoad1,(some (1,true)),31⟩,
  ⟨[.loc 0,.const (.int .i64 (.ofNat 1000000))],fBin .leq,(some (2,true)),63⟩,
  ⟨[.loc 3,.loc 0,.const (.bool false)],fPick,none,127⟩,
  ⟨[.loc 0],fMove,none,255⟩,
  ⟨[.var 2,.const (.int .i64 (.ofNat 0))],fIndexAddrArr 2 1,(some (0,true)),511⟩,
  ⟨[.loc 0],fLoad1,(some (1,true)),1023⟩,
  ⟨[.loc 0,.const (.int .i64 (.ofNat 0))],fBin .geq,(some (2,true)),2047⟩,
  ⟨[.loc 3,.loc 0,.const (.bool false)],fPick,none,4095⟩,
  ⟨[.loc 0],fMove,none,8191⟩,
  ⟨[.var 2,.const (.int .i64 (.ofNat 0))],fIndexAddrArr 2 1,(some (0,true)),16383⟩,
  ⟨[.loc 0],fLoad1,(some (1,true)),32767⟩,
  ⟨[.var 0],fMove,(some (2,true)),16383⟩,
  ⟨[.loc 0],fLenSl,(some (3,true)),81919⟩,
  ⟨[.loc 0,.const (.int .i64 (.ofNat 1))],fBin .sub,(some (4,true)),212991⟩,
  ⟨[.var 2,.const (.int .i64 (.ofNat 1))],fIndexAddrArr 2 1,(some (5,true)),16383⟩,
  ⟨[.loc 0],fLoad1,(some (6,true)),540671⟩,
  ⟨[.loc 2,.loc 0],fBin .mul,(some (7,true)),2047999⟩,
  ⟨[.loc 6,.loc 0],fBin .leq,(some (8,true)),4194303⟩,
  ⟨[.loc 9,.loc 0,.const (.bool false)],fPick,none,8388607⟩,
  ⟨[.loc 0],fMove,none,16777215⟩,
  ⟨[.var 2,.const (.int .i64 (.ofNat 0))],fIndexAddrArr 2 1,(some (0,true)),33554431⟩,
  ⟨[.loc 0],fLoad1,(some (1,true)),67108863⟩,
  ⟨[.var 2,.const (.int .i64 (.ofNat 1))],fIndexAddrArr 2 1,(some (2,true)),33554431⟩,
  ⟨[.loc 0],fLoad1,(some (3,true)),167772159⟩,
  ⟨[.const (.func (.func 94) [] []),.loc 2,.loc 0],fCall,(some (4,true)),536870911⟩,
  ⟨[.loc 0,.const (.int .i64 (.ofNat 1))],fBin .eql,(some (5,true)),1073741823⟩,
  ⟨[.loc 6,.loc 0,.const (.bool false)],fPick,none,2147483647⟩,
  ⟨[.loc 0],fMove,none,4294967295⟩]
def c30_3 : ACode := .region o30_3 [(3,0)] false
def c30_2 : ACode := .seq c30_3 .ret
def c30_0 : ACode := .seq c30_1 c30_2
def vm30 : List Nat := [0, 1, 3, 4]
def c30 : AFn := ⟨2, 4, [.var 3], c30_0⟩
/- 31 girouette/girouetteref05.Follows : slots [0, 1, 2, 5, 6, 7, 8, 13, 38] -/
def o31_1 : List AOper := [⟨[.var 2],fBox,none,0⟩,
  ⟨[.const (.bool false)],fMove,none,0⟩]
def c31_1 : ACode := .region o31_1 [(3,1),(4,0)] false
def o31_3 : List AOper := [⟨[.var 3],fLoadN 2,none,0⟩,
  ⟨[],fAlloc [(.int .i64 (.ofNat 0)),(.int .i64 (.ofNat 0))],none,0⟩,
  ⟨[.loc 0,.loc 1],fStore 2,none,3⟩]
def c31_3 : ACode := .region o31_3 [(5,1)] false
def o31_6 : List AOper := [⟨[.const (.int .i64 (.ofNat 0))],fMove,none,0⟩]
def c31_6 : ACode := .region o31_6 [(6,0)] false
def o31_11 : List AOper := [⟨[.var 6],fMove,none,0⟩,
  ⟨[.var 1],fMove,none,0⟩,
  ⟨[.loc 0],fLenSl,none,2⟩,
  ⟨[.loc 2,.loc 0],fBin .lss,none,7⟩]
def c31_11 : ACode := .region o31_11 [(7,0)] false
def c31_12 : ACode := .cond (.var 7) .skip (.exit 0)
def c31_10 : ACode := .seq c31_11 c31_12
def o31_17 : List AOper := [⟨[.var 5,.const (.int .i64 (.ofNat 0))],fIndexAddrArr 2 1,none,0⟩,
  ⟨[.loc 0],fLoad1,none,1⟩,
  ⟨[.var 1],fMove,none,0⟩,
  ⟨[.var 6],fMove,none,0⟩,
  ⟨[.loc 1,.loc 0],fIndexAddr 1,none,12⟩,
  ⟨[.loc 0],fLoad1,none,28⟩,
  ⟨[.var 5,.const (.int .i64 (.ofNat 1))],fIndexAddrArr 2 1,none,0⟩,
  ⟨[.loc 0],fLoad1,none,64⟩,
  ⟨[.loc 2,.loc 0],fBin .mul,none,252⟩,
  ⟨[.loc 7,.loc 0],fBin .lss,none,511⟩,
  ⟨[.loc 0],fMove,none,1023⟩,
  ⟨[.var 5,.const (.int .i64 (.ofNat 0))],fIndexAddrArr 2 1,(some (0,false)),2047⟩,
  ⟨[.loc 0],fLoad1,(some (1,false)),4095⟩,
  ⟨[.var 1],fMove,(some (2,false)),2047⟩,
  ⟨[.var 6],fMove,(some (3,false)),2047⟩,
  ⟨[.loc 1,.loc 0],fIndexAddr 1,(some (4,false)),26623⟩,
  ⟨[.loc 0],fLoad1,(some (5,false)),59391⟩,
  ⟨[.loc 0,.const (.int .i64 (.ofNat 1))],fBin .add,(some (6,false)),124927⟩,
  ⟨[.var 5,.const (.int .i64 (.ofNat 1))],fIndexAddrArr 2 1,(some (7,false)),2047⟩,
  ⟨[.loc 0],fLoad1,(some (8,false)),264191⟩,
  ⟨[.loc 2,.loc 0],fBin .mul,(some (9,false)),1042431⟩,
  ⟨[.loc 8,.loc 0],fBin .gtr,(some (10,false)),2097151⟩,
  ⟨[.loc 11,.const (.bool true),.loc 0],fPick,none,4194303⟩]
def c31_17 : ACode := .region o31_17 [(8,0)] true
def o31_20 : List AOper := [⟨[.const (.bool false)],fMove,none,0⟩]
def c31_20 : ACode := .region o31_20 [(4,0)] false
def c31_19 : ACode := .seq c31_20 .ret
def c31_18 : ACode := .cond (.var 8) c31_19 .skip
def c31_16 : ACode := .seq c31_17 c31_18
def o31_21 : List AOper := [⟨[.var 0],fMove,none,0⟩,
  ⟨[.var 5],fLoadN 2,none,0⟩,
  ⟨[.const (.func (.func 39) [] []),.loc 1,.loc 0],fCall,none,3⟩,
  ⟨[.var 5,.loc 0],fStore 2,none,7⟩]
def c31_21 : ACode := .region o31_21 [] false
def c31_15 : ACode := .seq c31_16 c31_21
def c31_14 : ACode := .block 1 c31_15
def o31_22 : List AOper := [⟨[.var 6],fMove,none,0⟩,
  ⟨[.loc 0,.const (.int .i64 (.ofNat 1))],fBin .add,none,1⟩,
  ⟨[.loc 0],fMove,none,3⟩]
def c31_22 : ACode := .region o31_22 [(6,0)] false
def c31_13 : ACode := .seq c31_14 c31_22
def c31_9 : ACode := .seq c31_10 c31_13
def c31_8 : ACode := .loop c31_9
def c31_7 : ACode := .block 0 c31_8
def c31_5 : ACode := .seq c31_6 c31_7
def o31_24 : List AOper := [⟨[.var 5],fLoadN 2,none,0⟩,
  ⟨[.var 3],fLoadN 2,none,0⟩,
  ⟨[.loc 1,.loc 0],fEqD false (.agg [(0,none,.i),(1,none,.i)]),none,3⟩,
  ⟨[.loc 0],fMove,none,7⟩]
def c31_24 : ACode := .region o31_24 [(4,0)] false
def c31_23 : ACode := .seq c31_24 .ret
def c31_4 : ACode := .seq c31_5 c31_23
def c31_2 : ACode := .seq c31_3 c31_4
def c31_0 : ACode := .seq c31_1 c31_2
def vm31 : List Nat := [0, 1, 2, 5, 6, 7, 8, 13, 38]
def c31 : AFn := ⟨3, 9, [.var 4], c31_0⟩
/- 32 girouette/girouettelaw05.walk : slots [0, 1, 4, 5, 6, 7, 8, 9, 17, 24, 34, 58] -/
def o32_1 : List AOper := [⟨[.const .nilslice],fMove,none,0⟩]
def c32_1 : ACode := .region o32_1 [(2,0)] false
def o32_3 : List AOper := [⟨[.const .nilslice],fMove,none,0⟩]
def c32_3 : ACode := .region o32_3 [(3,0)] false
def o32_5 : List AOper := [⟨[.const (.int .i64 (.ofNat 0))],fMove,none,0⟩]
def c32_5 : ACode := .region o32_5 [(4,0)] false
def o32_8 : List AOper := [⟨[.const (.int .i64 (.ofNat 0))],fMove,none,0⟩]
def c32_8 : ACode := .region o32_8 [(5,0)] false
def o32_13 : List AOper := [⟨[.var 5],fMove,none,0⟩,
  ⟨[.var 1],fMove,none,0⟩,
  ⟨[.loc 0],fLenSl,none,2⟩,
  ⟨[.loc 2,.loc 0],fBin .lss,none,7⟩,
  ⟨[.loc 0],fMove,none,15⟩,
  ⟨[.var 5],fMove,(some (0,true)),31⟩,
  ⟨[.loc 0,.const (.int .i64 (.ofNat 6))],fBin .lss,(some (1,true)),63⟩,
  ⟨[.loc 2,.loc 0,.const (.bool false)],fPick,none,127⟩]
def c32_13 : ACode := .region o32_13 [(8,0)] false
def c32_14 : ACode := .cond (.var 8) .skip (.exit 0)
def c32_12 : ACode := .seq c32_13 c32_14
def o32_18 : List AOper := [⟨[.const .nilslice],fMove,none,0⟩]
def c32_18 : ACode := .region o32_18 [(6,0)] false
def o32_21 : List AOper := [⟨[.const (.int .i64 (.ofNat 0))],fMove,none,0⟩]
def c32_21 : ACode := .region o32_21 [(7,0)] false
def o32_26 : List AOper := [⟨[.var 7],fMove,none,0⟩,
  ⟨[.var 0],fMove,none,0⟩,
  ⟨[.loc 0],fLenSl,none,2⟩,
  ⟨[.loc 0,.const (.int .i64 (.ofNat 1))],fBin .sub,none,6⟩,
  ⟨[.loc 3,.loc 0],fBin .lss,none,15⟩]
def c32_26 : ACode := .region o32_26 [(9,0)] false
def c32_27 : ACode := .cond (.var 9) .skip (.exit 2)
def c32_25 : ACode := .seq c32_26 c32_27
def o32_31 : List AOper := [⟨[.var 5],fMove,none,0⟩,
  ⟨[.loc 0,.const (.int .i64 (.ofNat 0))],fBin .eql,none,1⟩,
  ⟨[.loc 0],fMove,none,3⟩,
  ⟨[.var 0],fMove,(some (0,false)),7⟩,
  ⟨[.var 4],fMove,(some (1,false)),7⟩,
  ⟨[.var 7],fMove,(some (2,false)),7⟩,
  ⟨[.const (.func (.func 67) [] []),.loc 2,.loc 1,.loc 0],fCall,(some (3,false)),63⟩,
  ⟨[.loc 4,.const (.bool true),.loc 0],fPick,none,127⟩]
def c32_31 : ACode := .region o32_31 [(10,0)] false
def o32_33 : List AOper := [⟨[.var 6],fMove,none,0⟩,
  ⟨[.var 7],fMove,none,0⟩,
  ⟨[.loc 0],fBuildSlice 1 1 [(.int .i64 (.ofNat 0))] [(0,1)],none,2⟩,
  ⟨[.loc 2,.loc 0],fAppend 1 8,none,7⟩,
  ⟨[.loc 0],fMove,none,15⟩]
def c32_33 : ACode := .region o32_33 [(6,0)] false
def c32_32 : ACode := .cond (.var 10) c32_33 .skip
def c32_30 : ACode := .seq c32_31 c32_32
def c32_29 : ACode := .block 3 c32_30
def o32_34 : List AOper := [⟨[.var 7],fMove,none,0⟩,
  ⟨[.loc 0,.const (.int .i64 (.ofNat 1))],fBin .add,none,1⟩,
  ⟨[.loc 0],fMove,none,3⟩]
def c32_34 : ACode := .region o32_34 [(7,0)] false
def c32_28 : ACode := .seq c32_29 c32_34
def c32_24 : ACode := .seq c32_25 c32_28
def c32_23 : ACode := .loop c32_24
def c32_22 : ACode := .block 2 c32_23
def c32_20 : ACode := .seq c32_21 c32_22
def o32_36 : List AOper := [⟨[.var 6],fMove,none,0⟩,
  ⟨[.var 1],fMove,none,0⟩,
  ⟨[.var 5],fMove,none,0⟩,
  ⟨[.loc 1,.loc 0],fIndexAddr 1,none,6⟩,
  ⟨[.loc 0],fLoad1,none,14⟩,
  ⟨[.loc 0],fConvInt .u64,none,30⟩,
  ⟨[.var 6],fMove,none,0⟩,
  ⟨[.loc 0],fLenSl,none,64⟩,
  ⟨[.loc 0],fConvInt .u64,none,192⟩,
  ⟨[.loc 3,.loc 0],fBin .rem,none,510⟩,
  ⟨[.loc 0],fConvInt .i64,none,1022⟩,
  ⟨[.loc 10,.loc 0],fIndexAddr 1,none,2047⟩,
  ⟨[.loc 0],fLoad1,none,4095⟩,
  ⟨[.loc 0],fMove,none,8191⟩]
def c32_36 : ACode := .region o32_36 [(4,0)] false
def o32_38 : List AOper := [⟨[.var 3],fMove,none,0⟩,
  ⟨[.var 4],fMove,none,0⟩,
  ⟨[.loc 0],fBuildSlice 1 1 [(.int .i64 (.ofNat 0))] [(0,1)],none,2⟩,
  ⟨[.loc 2,.loc 0],fAppend 1 8,none,7⟩,
  ⟨[.loc 0],fMove,none,15⟩]
def c32_38 : ACode := .region o32_38 [(3,0)] false
def o32_40 : List AOper := [⟨[.var 0],fMove,none,0⟩,
  ⟨[.var 3],fMove,none,0⟩,
  ⟨[.const (.func (.func 29) [] []),.loc 1,.loc 0],fCall,none,3⟩]
def c32_40 : ACode := .region o32_40 [(11,0)] false
def o32_43 : List AOper := [⟨[.var 3],fMove,none,0⟩,
  ⟨[.loc 0],fMove,none,1⟩]
def c32_43 : ACode := .region o32_43 [(2,0)] false
def c32_42 : ACode := .seq c32_43 .ret
def c32_41 : ACode := .cond (.var 11) c32_42 .skip
def c32_39 : ACode := .seq c32_40 c32_41
def c32_37 : ACode := .seq c32_38 c32_39
def c32_35 : ACode := .seq c32_36 c32_37
def c32_19 : ACode := .seq c32_20 c32_35
def c32_17 : ACode := .seq c32_18 c32_19
def c32_16 : ACode := .block 1 c32_17
def o32_44 : List AOper := [⟨[.var 5],fMove,none,0⟩,
  ⟨[.loc 0,.const (.int .i64 (.ofNat 1))],fBin .add,none,1⟩,
  ⟨[.loc 0],fMove,none,3⟩]
def c32_44 : ACode := .region o32_44 [(5,0)] false
def c32_15 : ACode := .seq c32_16 c32_44
def c32_11 : ACode := .seq c32_12 c32_15
def c32_10 : ACode := .loop c32_11
def c32_9 : ACode := .block 0 c32_10
def c32_7 : ACode := .seq c32_8 c32_9
def o32_46 : List AOper := [⟨[.const .nilslice],fMove,none,0⟩]
def c32_46 : ACode := .region o32_46 [(2,0)] false
def c32_45 : ACode := .seq c32_46 .ret
def c32_6 : ACode := .seq c32_7 c32_45
def c32_4 : ACode := .seq c32_5 c32_6
def c32_2 : ACode := .seq c32_3 c32_4
def c32_0 : ACode := .seq c32_1 c32_2
def vm32 : List Nat := [0, 1, 4, 5, 6, 7, 8, 9, 17, 24, 34, 58]
def c32 : AFn := ⟨2, 12, [.var 2], c32_0⟩
/- 33 girouette/cycles.Of : slots [0, 2, 3, 4, 5, 6, 7, 8, 9, 10, 11, 12, 13, 27, 30, 33, 34, 35, 50, 51, 52, 53, 64, 65, 66, 67] -/
def o33_1 : List AOper := [⟨[.const .nilslice],fMove,none,0⟩,
  ⟨[.const (.int .i64 (.ofNat 0))],fMove,none,1⟩]
def c33_1 : ACode := .region o33_1 [(1,1),(2,0)] false
def o33_3 : List AOper := [⟨[.var 0],fMove,none,0⟩,
  ⟨[.loc 0],fMove,none,1⟩]
def c33_3 : ACode := .region o33_3 [(3,0)] false
def o33_6 : List AOper := [⟨[.var 3],fMove,none,0⟩,
  ⟨[.const (.func (.func 95) [] []),.loc 0],fCall,none,1⟩,
  ⟨[.loc 0],fUn .not,none,3⟩,
  ⟨[.loc 0],fMove,none,7⟩,
  ⟨[.var 3],fMove,(some (0,false)),15⟩,
  ⟨[.loc 0],fLenStr,(some (1,false)),31⟩,
  ⟨[.loc 0,.const (.int .i64 (.ofNat 1))],fBin .lss,(some (2,false)),63⟩,
  ⟨[.loc 3,.const (.bool true),.loc 0],fPick,none,127⟩,
  ⟨[.loc 0],fMove,none,255⟩,
  ⟨[.var 3],fMove,(some (0,false)),511⟩,
  ⟨[.loc 0],fLenStr,(some (1,false)),1023⟩,
  ⟨[.loc 0,.const (.int .i64 (.ofNat 7))],fBin .gtr,(some (2,false)),2047⟩,
  ⟨[.loc 3,.const (.bool true),.loc 0],fPick,none,4095⟩]
def c33_6 : ACode := .region o33_6 [(13,0)] false
def o33_9 : List AOper := [⟨[.const .nilslice],fMove,none,0⟩,
  ⟨[.const (.int .i64 (.ofNat 1))],fMove,none,1⟩]
def c33_9 : ACode := .region o33_9 [(1,1),(2,0)] false
def c33_8 : ACode := .seq c33_9 .ret
def c33_7 : ACode := .cond (.var 13) c33_8 .skip
def c33_5 : ACode := .seq c33_6 c33_7
def o33_12 : List AOper := [⟨[.var 3],fMove,none,0⟩,
  ⟨[.const (.func (.func 75) [] []),.loc 0],fCall,none,1⟩,
  ⟨[.loc 0],fUn .not,none,3⟩]
def c33_12 : ACode := .region o33_12 [(14,0)] false
def o33_15 : List AOper := [⟨[.const .nilslice],fMove,none,0⟩,
  ⟨[.const (.int .i64 (.ofNat 4))],fMove,none,1⟩]
def c33_15 : ACode := .region o33_15 [(1,1),(2,0)] false
def c33_14 : ACode := .seq c33_15 .ret
def c33_13 : ACode := .cond (.var 14) c33_14 .skip
def c33_11 : ACode := .seq c33_12 c33_13
def o33_17 : List AOper := [⟨[.const .nilslice],fMove,none,0⟩]
def c33_17 : ACode := .region o33_17 [(4,0)] false
def o33_20 : List AOper := [⟨[.var 3],fMove,none,0⟩,
  ⟨[.loc 0],fLenStr,none,1⟩,
  ⟨[.loc 0,.const (.int .i64 (.ofNat 1))],fBin .add,none,3⟩,
  ⟨[.const (.int .i64 (.ofNat 0))],fMove,none,0⟩]
def c33_20 : ACode := .region o33_20 [(15,1),(16,0)] false
def o33_24 : List AOper := [⟨[.var 16,.var 15],fBin .lss,none,0⟩]
def c33_24 : ACode := .region o33_24 [(17,0)] false
def c33_26 : ACode := .cond (.var 17) .skip (.exit 0)
def o33_30 : List AOper := [⟨[.var 16],fMove,none,0⟩,
  ⟨[.loc 0],fMove,none,1⟩]
def c33_30 : ACode := .region o33_30 [(5,0)] false
def o33_31 : List AOper := [⟨[.var 4],fMove,none,0⟩,
  ⟨[.var 3],fMove,none,0⟩,
  ⟨[.const (.func (.func 96) [] []),.loc 0],fCall,none,2⟩,
  ⟨[.var 5],fMove,none,0⟩,
  ⟨[.loc 1,.loc 0],fSliceStr true false,none,14⟩,
  ⟨[.loc 0],fBuildSlice 1 1 [(.str [])] [(0,1)],none,30⟩,
  ⟨[.loc 5,.loc 0],fAppend 1 16,none,63⟩,
  ⟨[.loc 0],fMove,none,127⟩]
def c33_31 : ACode := .region o33_31 [(4,0)] false
def c33_29 : ACode := .seq c33_30 c33_31
def c33_28 : ACode := .block 1 c33_29
def o33_32 : List AOper := [⟨[.var 16,.const (.int .i64 (.ofNat 1))],fBin .add,none,0⟩,
  ⟨[.loc 0],fMove,none,1⟩]
def c33_32 : ACode := .region o33_32 [(16,0)] false
def c33_27 : ACode := .seq c33_28 c33_32
def c33_25 : ACode := .seq c33_26 c33_27
def c33_23 : ACode := .seq c33_24 c33_25
def c33_22 : ACode := .loop c33_23
def c33_21 : ACode := .block 0 c33_22
def c33_19 : ACode := .seq c33_20 c33_21
def o33_34 : List AOper := [⟨[.var 4],fMove,none,0⟩,
  ⟨[.const (.func (.func 97) [] []),.loc 0],fCall,none,1⟩,
  ⟨[.loc 0],fMove,none,3⟩]
def c33_34 : ACode := .region o33_34 [(6,0)] false
def o33_36 : List AOper := [⟨[.var 6],fMove,none,0⟩,
  ⟨[.const (.func (.func 98) [] []),.loc 0,.const (.func (.func 99) [] [])],fCall,none,1⟩]
def c33_36 : ACode := .region o33_36 [] false
def o33_38 : List AOper := [⟨[],fMakeMap,none,0⟩,
  ⟨[.loc 0],fMove,none,1⟩]
def c33_38 : ACode := .region o33_38 [(7,0)] false
def o33_41 : List AOper := [⟨[.var 6],fMove,none,0⟩,
  ⟨[.loc 0],fLenSl,none,1⟩,
  ⟨[.const (.int .i64 (.ofNat 0))],fMove,none,0⟩]
def c33_41 : ACode := .region o33_41 [(18,2),(19,1),(20,0)] false
def o33_45 : List AOper := [⟨[.var 20,.var 19],fBin .lss,none,0⟩]
def c33_45 : ACode := .region o33_45 [(21,0)] false
def c33_47 : ACode := .cond (.var 21) .skip (.exit 2)
def o33_51 : List AOper := [⟨[.var 20],fMove,none,0⟩,
  ⟨[.var 18,.var 20],fIndexAddr 1,none,0⟩,
  ⟨[.loc 0],fLoad1,none,2⟩,
  ⟨[.loc 2],fMove,none,7⟩,
  ⟨[.loc 1],fMove,none,15⟩]
def c33_51 : ACode := .region o33_51 [(8,1),(9,0)] false
def o33_52 : List AOper := [⟨[.var 7],fMove,none,0⟩,
  ⟨[.var 9],fMove,none,0⟩,
  ⟨[.var 8],fMove,none,0⟩,
  ⟨[.loc 2,.loc 1,.loc 0],fMapUpdate .s,none,7⟩]
def c33_52 : ACode := .region o33_52 [] false
def c33_50 : ACode := .seq c33_51 c33_52
def c33_49 : ACode := .block 3 c33_50
def o33_53 : List AOper := [⟨[.var 20,.const (.int .i64 (.ofNat 1))],fBin .add,none,0⟩,
  ⟨[.loc 0],fMove,none,1⟩]
def c33_53 : ACode := .region o33_53 [(20,0)] false
def c33_48 : ACode := .seq c33_49 c33_53
def c33_46 : ACode := .seq c33_47 c33_48
def c33_44 : ACode := .seq c33_45 c33_46
def c33_43 : ACode := .loop c33_44
def c33_42 : ACode := .block 2 c33_43
def c33_40 : ACode := .seq c33_41 c33_42
def o33_55 : List AOper := [⟨[.var 4],fMove,none,0⟩,
  ⟨[.loc 0],fLenSl,none,1⟩,
  ⟨[.loc 0,.loc 0],fMakeSlice 1 8 [(.int .i64 (.ofNat 0))],none,3⟩,
  ⟨[.loc 0],fMove,none,7⟩]
def c33_55 : ACode := .region o33_55 [(10,0)] false
def o33_58 : List AOper := [⟨[.var 4],fMove,none,0⟩,
  ⟨[.loc 0],fLenSl,none,1⟩,
  ⟨[.const (.int .i64 (.ofNat 0))],fMove,none,0⟩]
def c33_58 : ACode := .region o33_58 [(22,2),(23,1),(24,0)] false
def o33_62 : List AOper := [⟨[.var 24,.var 23],fBin .lss,none,0⟩]
def c33_62 : ACode := .region o33_62 [(25,0)] false
def c33_64 : ACode := .cond (.var 25) .skip (.exit 4)
def o33_68 : List AOper := [⟨[.var 24],fMove,none,0⟩,
  ⟨[.var 22,.var 24],fIndexAddr 1,none,0⟩,
  ⟨[.loc 0],fLoad1,none,2⟩,
  ⟨[.loc 2],fMove,none,7⟩,
  ⟨[.loc 1],fMove,none,15⟩]
def c33_68 : ACode := .region o33_68 [(11,1),(12,0)] false
def o33_69 : List AOper := [⟨[.var 10],fMove,none,0⟩,
  ⟨[.var 7],fMove,none,0⟩,
  ⟨[.var 12],fMove,none,0⟩,
  ⟨[.loc 1,.loc 0],fLookup .s (.int .i64 (.ofNat 0)) false,none,6⟩,
  ⟨[.var 7],fMove,none,0⟩,
  ⟨[.var 4],fMove,none,0⟩,
  ⟨[.var 11],fMove,none,0⟩,
  ⟨[.loc 0,.const (.int .i64 (.ofNat 1))],fBin .add,none,64⟩,
  ⟨[.var 4],fMove,none,0⟩,
  ⟨[.loc 0],fLenSl,none,256⟩,
  ⟨[.loc 2,.loc 0],fBin .rem,none,960⟩,
  ⟨[.loc 5,.loc 0],fIndexAddr 1,none,2016⟩,
  ⟨[.loc 0],fLoad1,none,4064⟩,
  ⟨[.loc 8,.loc 0],fLookup .s (.int .i64 (.ofNat 0)) false,none,8176⟩,
  ⟨[.loc 13,.loc 10],fIndexAddr 1,none,16383⟩,
  ⟨[.loc 0,.loc 1],fStore 1,none,32767⟩]
def c33_69 : ACode := .region o33_69 [] true
def c33_67 : ACode := .seq c33_68 c33_69
def c33_66 : ACode := .block 5 c33_67
def o33_70 : List AOper := [⟨[.var 24,.const (.int .i64 (.ofNat 1))],fBin .add,none,0⟩,
  ⟨[.loc 0],fMove,none,1⟩]
def c33_70 : ACode := .region o33_70 [(24,0)] false
def c33_65 : ACode := .seq c33_66 c33_70
def c33_63 : ACode := .seq c33_64 c33_65
def c33_61 : ACode := .seq c33_62 c33_63
def c33_60 : ACode := .loop c33_61
def c33_59 : ACode := .block 4 c33_60
def c33_57 : ACode := .seq c33_58 c33_59
def o33_72 : List AOper := [⟨[.var 10],fMove,none,0⟩,
  ⟨[.loc 0],fMove,none,1⟩,
  ⟨[.const (.int .i64 (.ofNat 0))],fMove,none,3⟩]
def c33_72 : ACode := .region o33_72 [(1,1),(2,0)] false
def c33_71 : ACode := .seq c33_72 .ret
def c33_56 : ACode := .seq c33_57 c33_71
def c33_54 : ACode := .seq c33_55 c33_56
def c33_39 : ACode := .seq c33_40 c33_54
def c33_37 : ACode := .seq c33_38 c33_39
def c33_35 : ACode := .seq c33_36 c33_37
def c33_33 : ACode := .seq c33_34 c33_35
def c33_18 : ACode := .seq c33_19 c33_33
def c33_16 : ACode := .seq c33_17 c33_18
def c33_10 : ACode := .seq c33_11 c33_16
def c33_4 : ACode := .seq c33_5 c33_10
def c33_2 : ACode := .seq c33_3 c33_4
def c33_0 : ACode := .seq c33_1 c33_2
def vm33 : List Nat := [0, 2, 3, 4, 5, 6, 7, 8, 9, 10, 11, 12, 13, 27, 30, 33, 34, 35, 50, 51, 52, 53, 64, 65, 66, 67]
def c33 : AFn := ⟨1, 26, [.var 1,.var 2], c33_0⟩
/- 34 girouette/girouetteref05.Check : slots [0, 2, 3, 4, 5, 6, 14, 17, 32, 35, 43] -/
def o34_1 : List AOper := [⟨[.const (.bool false)],fMove,none,0⟩]
def c34_1 : ACode := .region o34_1 [(1,0)] false
def o34_3 : List AOper := [⟨[.var 0],fMove,none,0⟩,
  ⟨[.loc 0],fLenSl,none,1⟩,
  ⟨[.loc 0],fMove,none,3⟩]
def c34_3 : ACode := .region o34_3 [(2,0)] false
def o34_6 : List AOper := [⟨[.var 2],fMove,none,0⟩,
  ⟨[.loc 0,.const (.int .i64 (.ofNat 2))],fBin .lss,none,1⟩,
  ⟨[.loc 0],fMove,none,3⟩,
  ⟨[.var 2],fMove,(some (0,false)),7⟩,
  ⟨[.loc 0,.const (.int .i64 (.ofNat 8))],fBin .gtr,(some (1,false)),15⟩,
  ⟨[.loc 2,.const (.bool true),.loc 0],fPick,none,31⟩]
def c34_6 : ACode := .region o34_6 [(6,0)] false
def o34_9 : List AOper := [⟨[.const (.bool false)],fMove,none,0⟩]
def c34_9 : ACode := .region o34_9 [(1,0)] false
def c34_8 : ACode := .seq c34_9 .ret
def c34_7 : ACode := .cond (.var 6) c34_8 .skip
def c34_5 : ACode := .seq c34_6 c34_7
def o34_12 : List AOper := [⟨[.const (.int .i64 (.ofNat 0))],fMove,none,0⟩]
def c34_12 : ACode := .region o34_12 [(3,0)] false
def o34_17 : List AOper := [⟨[.var 3],fMove,none,0⟩,
  ⟨[.var 2],fMove,none,0⟩,
  ⟨[.loc 1,.loc 0],fBin .lss,none,3⟩]
def c34_17 : ACode := .region o34_17 [(7,0)] false
def c34_18 : ACode := .cond (.var 7) .skip (.exit 0)
def c34_16 : ACode := .seq c34_17 c34_18
def o34_22 : List AOper := [⟨[.var 0],fMove,none,0⟩,
  ⟨[.var 3],fMove,none,0⟩,
  ⟨[.loc 1,.loc 0],fIndexAddr 1,none,3⟩,
  ⟨[.loc 0],fLoad1,none,7⟩,
  ⟨[.loc 0,.const (.int .i64 (.ofNat 0))],fBin .lss,none,15⟩,
  ⟨[.loc 0],fMove,none,31⟩,
  ⟨[.var 0],fMove,(some (0,false)),63⟩,
  ⟨[.var 3],fMove,(some (1,false)),63⟩,
  ⟨[.loc 1,.loc 0],fIndexAddr 1,(some (2,false)),255⟩,
  ⟨[.loc 0],fLoad1,(some (3,false)),511⟩,
  ⟨[.var 2],fMove,(some (4,false)),63⟩,
  ⟨[.loc 1,.loc 0],fBin .geq,(some (5,false)),2047⟩,
  ⟨[.loc 6,.const (.bool true),.loc 0],fPick,none,4095⟩]
def c34_22 : ACode := .region o34_22 [(8,0)] false
def o34_25 : List AOper := [⟨[.const (.bool false)],fMove,none,0⟩]
def c34_25 : ACode := .region o34_25 [(1,0)] false
def c34_24 : ACode := .seq c34_25 .ret
def c34_23 : ACode := .cond (.var 8) c34_24 .skip
def c34_21 : ACode := .seq c34_22 c34_23
def c34_20 : ACode := .block 1 c34_21
def o34_26 : List AOper := [⟨[.var 3],fMove,none,0⟩,
  ⟨[.loc 0,.const (.int .i64 (.ofNat 1))],fBin .add,none,1⟩,
  ⟨[.loc 0],fMove,none,3⟩]
def c34_26 : ACode := .region o34_26 [(3,0)] false
def c34_19 : ACode := .seq c34_20 c34_26
def c34_15 : ACode := .seq c34_16 c34_19
def c34_14 : ACode := .loop c34_15
def c34_13 : ACode := .block 0 c34_14
def c34_11 : ACode := .seq c34_12 c34_13
def o34_28 : List AOper := [⟨[.const (.int .i64 (.ofNat 0))],fMove,none,0⟩]
def c34_28 : ACode := .region o34_28 [(4,0)] false
def o34_31 : List AOper := [⟨[.const (.int .i64 (.ofNat 1))],fMove,none,0⟩]
def c34_31 : ACode := .region o34_31 [(5,0)] false
def o34_36 : List AOper := [⟨[.var 5],fMove,none,0⟩,
  ⟨[.var 2],fMove,none,0⟩,
  ⟨[.loc 1,.loc 0],fBin .lss,none,3⟩]
def c34_36 : ACode := .region o34_36 [(9,0)] false
def c34_37 : ACode := .cond (.var 9) .skip (.exit 2)
def c34_35 : ACode := .seq c34_36 c34_37
def o34_41 : List AOper := [⟨[.var 0],fMove,none,0⟩,
  ⟨[.var 4],fMove,none,0⟩,
  ⟨[.loc 1,.loc 0],fIndexAddr 1,none,3⟩,
  ⟨[.loc 0],fLoad1,none,7⟩,
  ⟨[.loc 0],fMove,none,15⟩]
def c34_41 : ACode := .region o34_41 [(4,0)] false
def o34_43 : List AOper := [⟨[.var 4],fMove,none,0⟩,
  ⟨[.loc 0,.const (.int .i64 (.ofNat 0))],fBin .eql,none,1⟩]
def c34_43 : ACode := .region o34_43 [(10,0)] false
def o34_46 : List AOper := [⟨[.const (.bool false)],fMove,none,0⟩]
def c34_46 : ACode := .region o34_46 [(1,0)] false
def c34_45 : ACode := .seq c34_46 .ret
def c34_44 : ACode := .cond (.var 10) c34_45 .skip
def c34_42 : ACode := .seq c34_43 c34_44
def c34_40 : ACode := .seq c34_41 c34_42
def c34_39 : ACode := .block 3 c34_40
def o34_47 : List AOper := [⟨[.var 5],fMove,none,0⟩,
  ⟨[.loc 0,.const (.int .i64 (.ofNat 1))],fBin .add,none,1⟩,
  ⟨[.loc 0],fMove,none,3⟩]
def c34_47 : ACode := .region o34_47 [(5,0)] false
def c34_38 : ACode := .seq c34_39 c34_47
def c34_34 : ACode := .seq c34_35 c34_38
def c34_33 : ACode := .loop c34_34
def c34_32 : ACode := .block 2 c34_33
def c34_30 : ACode := .seq c34_31 c34_32
def o34_49 : List AOper := [⟨[.var 0],fMove,none,0⟩,
  ⟨[.var 4],fMove,none,0⟩,
  ⟨[.loc 1,.loc 0],fIndexAddr 1,none,3⟩,
  ⟨[.loc 0],fLoad1,none,7⟩,
  ⟨[.loc 0,.const (.int .i64 (.ofNat 0))],fBin .eql,none,15⟩,
  ⟨[.loc 0],fMove,none,31⟩,
  ⟨[.var 0],fMove,(some (0,true)),63⟩,
  ⟨[.const (.func (.func 100) [] []),.loc 0],fCall,(some (1,true)),127⟩,
  ⟨[.loc 2,.loc 0,.const (.bool false)],fPick,none,255⟩,
  ⟨[.loc 0],fMove,none,511⟩]
def c34_49 : ACode := .region o34_49 [(1,0)] false
def c34_48 : ACode := .seq c34_49 .ret
def c34_29 : ACode := .seq c34_30 c34_48
def c34_27 : ACode := .seq c34_28 c34_29
def c34_10 : ACode := .seq c34_11 c34_27
def c34_4 : ACode := .seq c34_5 c34_10
def c34_2 : ACode := .seq c34_3 c34_4
def c34_0 : ACode := .seq c34_1 c34_2
def vm34 : List Nat := [0, 2, 3, 4, 5, 6, 14, 17, 32, 35, 43]
def c34 : AFn := ⟨1, 11, [.var 1], c34_0⟩
/- 35 girouette/cycles.Lower : slots [0, 1, 4, 5, 13] -/
def o35_1 : List AOper := [⟨[.const (.bool false)],fMove,none,0⟩,
  ⟨[.const (.int .i64 (.ofNat 0))],fMove,none,1⟩]
def c35_1 : ACode := .region o35_1 [(2,1),(3,0)] false
def o35_4 : List AOper := [⟨[.var 0],fMove,none,0⟩,
  ⟨[.const (.func (.func 101) [] []),.loc 0],fCall,none,1⟩,
  ⟨[.loc 0],fUn .not,none,3⟩,
  ⟨[.loc 0],fMove,none,7⟩,
  ⟨[.var 1],fMove,(some (0,false)),15⟩,
  ⟨[.const (.func (.func 101) [] []),.loc 0],fCall,(some (1,false)),31⟩,
  ⟨[.loc 0],fUn .not,(some (2,false)),63⟩,
  ⟨[.loc 3,.const (.bool true),.loc 0],fPick,none,127⟩]
def c35_4 : ACode := .region o35_4 [(4,0)] false
def o35_7 : List AOper := [⟨[.const (.bool false)],fMove,none,0⟩,
  ⟨[.const (.int .i64 (.ofNat 1))],fMove,none,1⟩]
def c35_7 : ACode := .region o35_7 [(2,1),(3,0)] false
def c35_6 : ACode := .seq c35_7 .ret
def c35_5 : ACode := .cond (.var 4) c35_6 .skip
def c35_3 : ACode := .seq c35_4 c35_5
def o35_9 : List AOper := [⟨[.var 0],fMove,none,0⟩,
  ⟨[.var 1],fMove,none,0⟩,
  ⟨[.const (.func (.func 99) [] []),.loc 1,.loc 0],fCall,none,3⟩,
  ⟨[.loc 0,.const (.int .i64 (.ofNat 0))],fBin .lss,none,7⟩,
  ⟨[.loc 0],fMove,none,15⟩,
  ⟨[.const (.int .i64 (.ofNat 0))],fMove,none,31⟩]
def c35_9 : ACode := .region o35_9 [(2,1),(3,0)] false
def c35_8 : ACode := .seq c35_9 .ret
def c35_2 : ACode := .seq c35_3 c35_8
def c35_0 : ACode := .seq c35_1 c35_2
def vm35 : List Nat := [0, 1, 4, 5, 13]
def c35 : AFn := ⟨2, 5, [.var 2,.var 3], c35_0⟩
/- 36 girouette/cycles.Value : slots [0, 1, 3, 4, 5, 6, 7, 8, 15, 25] -/
def o36_1 : List AOper := [⟨[.var 1],fBox,none,0⟩,
  ⟨[],fAlloc [(.int .i64 (.ofNat 0)),(.int .i64 (.ofNat 0))],none,0⟩,
  ⟨[.const (.int .i64 (.ofNat 0))],fMove,none,0⟩]
def c36_1 : ACode := .region o36_1 [(2,2),(3,1),(4,0)] false
def o36_3 : List AOper := [⟨[.var 0],fMove,none,0⟩,
  ⟨[.const (.func (.func 91) [] []),.loc 0],fCall,none,1⟩,
  ⟨[.loc 0],fMove,none,3⟩,
  ⟨[.loc 0],fExtract 0,none,7⟩,
  ⟨[.loc 1],fExtract 1,none,7⟩,
  ⟨[.loc 1],fMove,none,15⟩,
  ⟨[.loc 1],fMove,none,63⟩]
def c36_3 : ACode := .region o36_3 [(5,1),(6,0)] false
def o36_6 : List AOper := [⟨[.var 6],fMove,none,0⟩,
  ⟨[.loc 0,.const (.int .i64 (.ofNat 0))],fBin .neq,none,1⟩]
def c36_6 : ACode := .region o36_6 [(8,0)] false
def o36_9 : List AOper := [⟨[],fBuild [(.int .i64 (.ofNat 0)),(.int .i64 (.ofNat 0))] [],none,0⟩,
  ⟨[.var 6],fMove,none,0⟩,
  ⟨[.var 3,.loc 1],fStore 2,none,1⟩,
  ⟨[.loc 1],fMove,none,7⟩]
def c36_9 : ACode := .region o36_9 [(4,0)] false
def c36_8 : ACode := .seq c36_9 .ret
def c36_7 : ACode := .cond (.var 8) c36_8 .skip
def c36_5 : ACode := .seq c36_6 c36_7
def o36_12 : List AOper := [⟨[.var 5],fMove,none,0⟩,
  ⟨[.var 2,.const (.int .i64 (.ofNat 0))],fIndexAddrArr 2 1,none,0⟩,
  ⟨[.loc 0],fLoad1,none,2⟩,
  ⟨[.var 2,.const (.int .i64 (.ofNat 1))],fIndexAddrArr 2 1,none,0⟩,
  ⟨[.loc 0],fLoad1,none,8⟩,
  ⟨[.loc 2,.loc 0],fBuild [(.int .i64 (.ofNat 0)),(.int .i64 (.ofNat 0))] [(0,1),(1,1)],none,30⟩,
  ⟨[.const (.func (.func 102) [] []),.loc 5,.loc 0],fCall,none,63⟩,
  ⟨[.loc 0],fUn .not,none,127⟩]
def c36_12 : ACode := .region o36_12 [(9,0)] false
def o36_15 : List AOper := [⟨[],fBuild [(.int .i64 (.ofNat 0)),(.int .i64 (.ofNat 0))] [],none,0⟩,
  ⟨[.var 3,.loc 0],fStore 2,none,1⟩,
  ⟨[.const (.int .i64 (.ofNat 1))],fMove,none,3⟩]
def c36_15 : ACode := .region o36_15 [(4,0)] false
def c36_14 : ACode := .seq c36_15 .ret
def c36_13 : ACode := .cond (.var 9) c36_14 .skip
def c36_11 : ACode := .seq c36_12 c36_13
def o36_17 : List AOper := [⟨[.var 5],fMove,none,0⟩,
  ⟨[.var 2,.const (.int .i64 (.ofNat 0))],fIndexAddrArr 2 1,none,0⟩,
  ⟨[.loc 0],fLoad1,none,2⟩,
  ⟨[.var 2,.const (.int .i64 (.ofNat 1))],fIndexAddrArr 2 1,none,0⟩,
  ⟨[.loc 0],fLoad1,none,8⟩,
  ⟨[.loc 2,.loc 0],fBuild [(.int .i64 (.ofNat 0)),(.int .i64 (.ofNat 0))] [(0,1),(1,1)],none,30⟩,
  ⟨[.const (.func (.func 103) [] []),.loc 5,.loc 0],fCall,none,63⟩,
  ⟨[],fAlloc [(.int .i64 (.ofNat 0)),(.int .i64 (.ofNat 0))],none,0⟩,
  ⟨[.loc 0,.loc 1],fStore 2,none,255⟩]
def c36_17 : ACode := .region o36_17 [(7,1)] false
def o36_19 : List AOper := [⟨[.var 7],fFieldAddr 0,none,0⟩,
  ⟨[.loc 0],fLoad1,none,1⟩,
  ⟨[.var 7],fFieldAddr 1,none,0⟩,
  ⟨[.loc 0],fLoad1,none,4⟩,
  ⟨[.loc 2,.loc 0],fBuild [(.int .i64 (.ofNat 0)),(.int .i64 (.ofNat 0))] [(0,1),(1,1)],none,15⟩,
  ⟨[.var 3,.loc 0],fStore 2,none,31⟩,
  ⟨[.const (.int .i64 (.ofNat 0))],fMove,none,63⟩]
def c36_19 : ACode := .region o36_19 [(4,0)] false
def c36_18 : ACode := .seq c36_19 .ret
def c36_16 : ACode := .seq c36_17 c36_18
def c36_10 : ACode := .seq c36_11 c36_16
def c36_4 : ACode := .seq c36_5 c36_10
def c36_2 : ACode := .seq c36_3 c36_4
def c36_0 : ACode := .seq c36_1 c36_2
def vm36 : List Nat := [0, 1, 3, 4, 5, 6, 7, 8, 15, 25]
def c36 : AFn := ⟨2, 10, [.cell 3 (some 2),.var 4], c36_0⟩
/- 37 girouette/cycles.Period : slots [0, 1, 3, 4, 5, 6, 7, 8, 9, 10, 11, 18, 28, 31, 39] -/
def o37_1 : List AOper := [⟨[.var 1],fBox,none,0⟩,
  ⟨[.const (.int .i64 (.ofNat 0))],fMove,none,0⟩,
  ⟨[.const (.bool false)],fMove,none,2⟩,
  ⟨[.const (.int .i64 (.ofNat 0))],fMove,none,6⟩]
def c37_1 : ACode := .region o37_1 [(2,3),(3,2),(4,1),(5,0)] false
def o37_3 : List AOper := [⟨[.var 0],fMove,none,0⟩,
  ⟨[.const (.func (.func 91) [] []),.loc 0],fCall,none,1⟩,
  ⟨[.loc 0],fMove,none,3⟩,
  ⟨[.loc 0],fExtract 0,none,7⟩,
  ⟨[.loc 1],fExtract 1,none,7⟩,
  ⟨[.loc 1],fMove,none,15⟩,
  ⟨[.loc 1],fMove,none,63⟩]
def c37_3 : ACode := .region o37_3 [(6,1),(7,0)] false
def o37_6 : List AOper := [⟨[.var 7],fMove,none,0⟩,
  ⟨[.loc 0,.const (.int .i64 (.ofNat 0))],fBin .neq,none,1⟩]
def c37_6 : ACode := .region o37_6 [(11,0)] false
def o37_9 : List AOper := [⟨[.var 7],fMove,none,0⟩,
  ⟨[.const (.int .i64 (.ofNat 0))],fMove,none,0⟩,
  ⟨[.const (.bool false)],fMove,none,2⟩,
  ⟨[.loc 2],fMove,none,7⟩]
def c37_9 : ACode := .region o37_9 [(3,2),(4,1),(5,0)] false
def c37_8 : ACode := .seq c37_9 .ret
def c37_7 : ACode := .cond (.var 11) c37_8 .skip
def c37_5 : ACode := .seq c37_6 c37_7
def o37_11 : List AOper := [⟨[.var 2,.const (.int .i64 (.ofNat 0))],fIndexAddrArr 2 1,none,0⟩,
  ⟨[.loc 0],fLoad1,none,1⟩,
  ⟨[.var 2,.const (.int .i64 (.ofNat 1))],fIndexAddrArr 2 1,none,0⟩,
  ⟨[.loc 0],fLoad1,none,4⟩,
  ⟨[.loc 2,.loc 0],fBuild [(.int .i64 (.ofNat 0)),(.int .i64 (.ofNat 0))] [(0,1),(1,1)],none,15⟩,
  ⟨[],fAlloc [(.int .i64 (.ofNat 0)),(.int .i64 (.ofNat 0))],none,0⟩,
  ⟨[.loc 0,.loc 1],fStore 2,none,63⟩]
def c37_11 : ACode := .region o37_11 [(8,1)] false
def o37_14 : List AOper := [⟨[.var 6],fMove,none,0⟩,
  ⟨[.var 8],fLoadN 2,none,0⟩,
  ⟨[.const (.func (.func 102) [] []),.loc 1,.loc 0],fCall,none,3⟩,
  ⟨[.loc 0],fUn .not,none,7⟩]
def c37_14 : ACode := .region o37_14 [(12,0)] false
def o37_17 : List AOper := [⟨[.const (.int .i64 (.ofNat 0))],fMove,none,0⟩,
  ⟨[.const (.bool false)],fMove,none,1⟩,
  ⟨[.const (.int .i64 (.ofNat 1))],fMove,none,3⟩]
def c37_17 : ACode := .region o37_17 [(3,2),(4,1),(5,0)] false
def c37_16 : ACode := .seq c37_17 .ret
def c37_15 : ACode := .cond (.var 12) c37_16 .skip
def c37_13 : ACode := .seq c37_14 c37_15
def o37_19 : List AOper := [⟨[.var 8],fLoadN 2,none,0⟩,
  ⟨[],fAlloc [(.int .i64 (.ofNat 0)),(.int .i64 (.ofNat 0))],none,0⟩,
  ⟨[.loc 0,.loc 1],fStore 2,none,3⟩]
def c37_19 : ACode := .region o37_19 [(9,1)] false
def o37_22 : List AOper := [⟨[.const (.int .i64 (.ofNat 1))],fMove,none,0⟩]
def c37_22 : ACode := .region o37_22 [(10,0)] false
def o37_27 : List AOper := [⟨[.var 10],fMove,none,0⟩,
  ⟨[.loc 0,.const (.int .i64 (.ofNat 24))],fBin .leq,none,1⟩]
def c37_27 : ACode := .region o37_27 [(13,0)] false
def c37_28 : ACode := .cond (.var 13) .skip (.exit 0)
def c37_26 : ACode := .seq c37_27 c37_28
def o37_32 : List AOper := [⟨[.var 6],fMove,none,0⟩,
  ⟨[.var 9],fLoadN 2,none,0⟩,
  ⟨[.const (.func (.func 103) [] []),.loc 1,.loc 0],fCall,none,3⟩,
  ⟨[.var 9,.loc 0],fStore 2,none,7⟩]
def c37_32 : ACode := .region o37_32 [] false
def o37_34 : List AOper := [⟨[.var 9],fLoadN 2,none,0⟩,
  ⟨[.var 8],fLoadN 2,none,0⟩,
  ⟨[.loc 1,.loc 0],fEqD false (.agg [(0,none,.i),(1,none,.i)]),none,3⟩]
def c37_34 : ACode := .region o37_34 [(14,0)] false
def o37_37 : List AOper := [⟨[.var 10],fMove,none,0⟩,
  ⟨[.loc 0],fMove,none,1⟩,
  ⟨[.const (.bool true)],fMove,none,3⟩,
  ⟨[.const (.int .i64 (.ofNat 0))],fMove,none,7⟩]
def c37_37 : ACode := .region o37_37 [(3,2),(4,1),(5,0)] false
def c37_36 : ACode := .seq c37_37 .ret
def c37_35 : ACode := .cond (.var 14) c37_36 .skip
def c37_33 : ACode := .seq c37_34 c37_35
def c37_31 : ACode := .seq c37_32 c37_33
def c37_30 : ACode := .block 1 c37_31
def o37_38 : List AOper := [⟨[.var 10],fMove,none,0⟩,
  ⟨[.loc 0,.const (.int .i64 (.ofNat 1))],fBin .add,none,1⟩,
  ⟨[.loc 0],fMove,none,3⟩]
def c37_38 : ACode := .region o37_38 [(10,0)] false
def c37_29 : ACode := .seq c37_30 c37_38
def c37_25 : ACode := .seq c37_26 c37_29
def c37_24 : ACode := .loop c37_25
def c37_23 : ACode := .block 0 c37_24
def c37_21 : ACode := .seq c37_22 c37_23
def o37_40 : List AOper := [⟨[.const (.int .i64 (.ofNat 0))],fMove,none,0⟩,
  ⟨[.const (.bool false)],fMove,none,1⟩,
  ⟨[.const (.int .i64 (.ofNat 0))],fMove,none,3⟩]
def c37_40 : ACode := .region o37_40 [(3,2),(4,1),(5,0)] false
def c37_39 : ACode := .seq c37_40 .ret
def c37_20 : ACode := .seq c37_21 c37_39
def c37_18 : ACode := .seq c37_19 c37_20
def c37_12 : ACode := .seq c37_13 c37_18
def c37_10 : ACode := .seq c37_11 c37_12
def c37_4 : ACode := .seq c37_5 c37_10
def c37_2 : ACode := .seq c37_3 c37_4
def c37_0 : ACode := .seq c37_1 c37_2
def vm37 : List Nat := [0, 1, 3, 4, 5, 6, 7, 8, 9, 10, 11, 18, 28, 31, 39]
def c37 : AFn := ⟨2, 15, [.var 3,.var 4,.var 5], c37_0⟩
/- 38 girouette/girouetteref05.Period : slots [0, 1, 3, 4, 5, 6, 9, 17] -/
def o38_1 : List AOper := [⟨[.var 1],fBox,none,0⟩,
  ⟨[.const (.int .i64 (.ofNat 0))],fMove,none,0⟩]
def c38_1 : ACode := .region o38_1 [(2,1),(3,0)] false
def o38_3 : List AOper := [⟨[.var 2],fLoadN 2,none,0⟩,
  ⟨[],fAlloc [(.int .i64 (.ofNat 0)),(.int .i64 (.ofNat 0))],none,0⟩,
  ⟨[.loc 0,.loc 1],fStore 2,none,3⟩]
def c38_3 : ACode := .region o38_3 [(4,1)] false
def o38_6 : List AOper := [⟨[.const (.int .i64 (.ofNat 1))],fMove,none,0⟩]
def c38_6 : ACode := .region o38_6 [(5,0)] false
def o38_11 : List AOper := [⟨[.var 5],fMove,none,0⟩,
  ⟨[.loc 0,.const (.int .i64 (.ofNat 24))],fBin .leq,none,1⟩]
def c38_11 : ACode := .region o38_11 [(6,0)] false
def c38_12 : ACode := .cond (.var 6) .skip (.exit 0)
def c38_10 : ACode := .seq c38_11 c38_12
def o38_16 : List AOper := [⟨[.var 0],fMove,none,0⟩,
  ⟨[.var 4],fLoadN 2,none,0⟩,
  ⟨[.const (.func (.func 39) [] []),.loc 1,.loc 0],fCall,none,3⟩,
  ⟨[.var 4,.loc 0],fStore 2,none,7⟩]
def c38_16 : ACode := .region o38_16 [] false
def o38_18 : List AOper := [⟨[.var 4],fLoadN 2,none,0⟩,
  ⟨[.var 2],fLoadN 2,none,0⟩,
  ⟨[.loc 1,.loc 0],fEqD false (.agg [(0,none,.i),(1,none,.i)]),none,3⟩]
def c38_18 : ACode := .region o38_18 [(7,0)] false
def o38_21 : List AOper := [⟨[.var 5],fMove,none,0⟩,
  ⟨[.loc 0],fMove,none,1⟩]
def c38_21 : ACode := .region o38_21 [(3,0)] false
def c38_20 : ACode := .seq c38_21 .ret
def c38_19 : ACode := .cond (.var 7) c38_20 .skip
def c38_17 : ACode := .seq c38_18 c38_19
def c38_15 : ACode := .seq c38_16 c38_17
def c38_14 : ACode := .block 1 c38_15
def o38_22 : List AOper := [⟨[.var 5],fMove,none,0⟩,
  ⟨[.loc 0,.const (.int .i64 (.ofNat 1))],fBin .add,none,1⟩,
  ⟨[.loc 0],fMove,none,3⟩]
def c38_22 : ACode := .region o38_22 [(5,0)] false
def c38_13 : ACode := .seq c38_14 c38_22
def c38_9 : ACode := .seq c38_10 c38_13
def c38_8 : ACode := .loop c38_9
def c38_7 : ACode := .block 0 c38_8
def c38_5 : ACode := .seq c38_6 c38_7
def o38_24 : List AOper := [⟨[.const (.int .i64 (.ofNat 0))],fMove,none,0⟩]
def c38_24 : ACode := .region o38_24 [(3,0)] false
def c38_23 : ACode := .seq c38_24 .ret
def c38_4 : ACode := .seq c38_5 c38_23
def c38_2 : ACode := .seq c38_3 c38_4
def c38_0 : ACode := .seq c38_1 c38_2
def vm38 : List Nat := [0, 1, 3, 4, 5, 6, 9, 17]
def c38 : AFn := ⟨2, 8, [.var 3], c38_0⟩
/- 39 girouette/girouetteref05.Value : slots [0, 1, 3, 4, 5, 6, 7, 8, 9, 19] -/
def o39_1 : List AOper := [⟨[.var 1],fBox,none,0⟩,
  ⟨[],fAlloc [(.int .i64 (.ofNat 0)),(.int .i64 (.ofNat 0))],none,0⟩]
def c39_1 : ACode := .region o39_1 [(2,1),(3,0)] false
def o39_3 : List AOper := [⟨[.var 2,.const (.int .i64 (.ofNat 0))],fIndexAddrArr 2 1,none,0⟩,
  ⟨[.loc 0],fLoad1,none,1⟩,
  ⟨[.var 2,.const (.int .i64 (.ofNat 1))],fIndexAddrArr 2 1,none,0⟩,
  ⟨[.loc 0],fLoad1,none,4⟩,
  ⟨[.loc 2,.loc 0],fBin .quo,none,15⟩,
  ⟨[.loc 0],fMove,none,31⟩]
def c39_3 : ACode := .region o39_3 [(4,0)] false
def o39_6 : List AOper := [⟨[.var 4],fMove,none,0⟩,
  ⟨[.var 0],fMove,none,0⟩,
  ⟨[.loc 0],fLenSl,none,2⟩,
  ⟨[.loc 0,.const (.int .i64 (.ofNat 1))],fBin .sub,none,6⟩,
  ⟨[.loc 3,.loc 0],fBin .eql,none,15⟩]
def c39_6 : ACode := .region o39_6 [(9,0)] false
def o39_9 : List AOper := [⟨[.var 0],fMove,none,0⟩,
  ⟨[.var 4],fMove,none,0⟩,
  ⟨[.loc 1,.loc 0],fIndexAddr 1,none,3⟩,
  ⟨[.loc 0],fLoad1,none,7⟩,
  ⟨[.loc 0,.const (.int .i64 (.ofNat 1))],fBuild [(.int .i64 (.ofNat 0)),(.int .i64 (.ofNat 0))] [(0,1),(1,1)],none,15⟩,
  ⟨[.var 3,.loc 0],fStore 2,none,31⟩]
def c39_9 : ACode := .region o39_9 [] false
def c39_8 : ACode := .seq c39_9 .ret
def c39_7 : ACode := .cond (.var 9) c39_8 .skip
def c39_5 : ACode := .seq c39_6 c39_7
def o39_11 : List AOper := [⟨[.var 0],fMove,none,0⟩,
  ⟨[.var 4],fMove,none,0⟩,
  ⟨[.loc 1,.loc 0],fIndexAddr 1,none,3⟩,
  ⟨[.loc 0],fLoad1,none,7⟩,
  ⟨[.var 0],fMove,none,0⟩,
  ⟨[.var 4],fMove,none,0⟩,
  ⟨[.loc 0,.const (.int .i64 (.ofNat 1))],fBin .add,none,32⟩,
  ⟨[.loc 2,.loc 0],fIndexAddr 1,none,112⟩,
  ⟨[.loc 0],fLoad1,none,240⟩,
  ⟨[.loc 5],fMove,none,15⟩,
  ⟨[.loc 1],fMove,none,1023⟩]
def c39_11 : ACode := .region o39_11 [(5,1),(6,0)] true
def o39_13 : List AOper := [⟨[.var 5],fMove,none,0⟩,
  ⟨[.var 2,.const (.int .i64 (.ofNat 1))],fIndexAddrArr 2 1,none,0⟩,
  ⟨[.loc 0],fLoad1,none,2⟩,
  ⟨[.loc 2,.loc 0],fBin .mul,none,7⟩,
  ⟨[.var 6],fMove,none,0⟩,
  ⟨[.var 5],fMove,none,0⟩,
  ⟨[.loc 1,.loc 0],fBin .sub,none,48⟩,
  ⟨[.var 2,.const (.int .i64 (.ofNat 0))],fIndexAddrArr 2 1,none,0⟩,
  ⟨[.loc 0],fLoad1,none,128⟩,
  ⟨[.var 4],fMove,none,0⟩,
  ⟨[.var 2,.const (.int .i64 (.ofNat 1))],fIndexAddrArr 2 1,none,0⟩,
  ⟨[.loc 0],fLoad1,none,1024⟩,
  ⟨[.loc 2,.loc 0],fBin .mul,none,3584⟩,
  ⟨[.loc 4,.loc 0],fBin .sub,none,8064⟩,
  ⟨[.loc 7,.loc 0],fBin .mul,none,16368⟩,
  ⟨[.loc 11,.loc 0],fBin .add,none,32767⟩,
  ⟨[.loc 0],fMove,none,65535⟩]
def c39_13 : ACode := .region o39_13 [(7,0)] false
def o39_15 : List AOper := [⟨[.var 7],fMove,none,0⟩,
  ⟨[.var 2,.const (.int .i64 (.ofNat 1))],fIndexAddrArr 2 1,none,0⟩,
  ⟨[.loc 0],fLoad1,none,2⟩,
  ⟨[.const (.func (.func 94) [] []),.loc 2,.loc 0],fCall,none,7⟩,
  ⟨[.loc 0],fMove,none,15⟩]
def c39_15 : ACode := .region o39_15 [(8,0)] false
def o39_17 : List AOper := [⟨[.var 7],fMove,none,0⟩,
  ⟨[.var 8],fMove,none,0⟩,
  ⟨[.loc 1,.loc 0],fBin .quo,none,3⟩,
  ⟨[.var 2,.const (.int .i64 (.ofNat 1))],fIndexAddrArr 2 1,none,0⟩,
  ⟨[.loc 0],fLoad1,none,8⟩,
  ⟨[.var 8],fMove,none,0⟩,
  ⟨[.loc 1,.loc 0],fBin .quo,none,56⟩,
  ⟨[.loc 4,.loc 0],fBuild [(.int .i64 (.ofNat 0)),(.int .i64 (.ofNat 0))] [(0,1),(1,1)],none,127⟩,
  ⟨[.var 3,.loc 0],fStore 2,none,255⟩]
def c39_17 : ACode := .region o39_17 [] true
def c39_16 : ACode := .seq c39_17 .ret
def c39_14 : ACode := .seq c39_15 c39_16
def c39_12 : ACode := .seq c39_13 c39_14
def c39_10 : ACode := .seq c39_11 c39_12
def c39_4 : ACode := .seq c39_5 c39_10
def c39_2 : ACode := .seq c39_3 c39_4
def c39_0 : ACode := .seq c39_1 c39_2
def vm39 : List Nat := [0, 1, 3, 4, 5, 6, 7, 8, 9, 19]
def c39 : AFn := ⟨2, 10, [.cell 3 (some 2)], c39_0⟩
/- 40 girouette/girouettelaw05.lowest : slots [0, 1, 4, 5, 6, 10] -/
def o40_1 : List AOper := [⟨[],fAlloc [(.int .i64 (.ofNat 0)),(.int .i64 (.ofNat 0))],none,0⟩]
def c40_1 : ACode := .region o40_1 [(2,0)] false
def o40_3 : List AOper := [⟨[.var 0],fMove,none,0⟩,
  ⟨[.var 1],fMove,none,0⟩,
  ⟨[.loc 1],fMove,none,1⟩,
  ⟨[.loc 1],fMove,none,7⟩]
def c40_3 : ACode := .region o40_3 [(3,1),(4,0)] false
def o40_9 : List AOper := [⟨[.var 4],fMove,none,0⟩,
  ⟨[.loc 0,.const (.int .i64 (.ofNat 0))],fBin .neq,none,1⟩]
def c40_9 : ACode := .region o40_9 [(5,0)] false
def c40_10 : ACode := .cond (.var 5) .skip (.exit 0)
def c40_8 : ACode := .seq c40_9 c40_10
def o40_12 : List AOper := [⟨[.var 4],fMove,none,0⟩,
  ⟨[.var 3],fMove,none,0⟩,
  ⟨[.var 4],fMove,none,0⟩,
  ⟨[.loc 1,.loc 0],fBin .rem,none,6⟩,
  ⟨[.loc 3],fMove,none,3⟩,
  ⟨[.loc 1],fMove,none,31⟩]
def c40_12 : ACode := .region o40_12 [(3,1),(4,0)] true
def c40_11 : ACode := .block 1 c40_12
def c40_7 : ACode := .seq c40_8 c40_11
def c40_6 : ACode := .loop c40_7
def c40_5 : ACode := .block 0 c40_6
def o40_14 : List AOper := [⟨[.var 0],fMove,none,0⟩,
  ⟨[.var 3],fMove,none,0⟩,
  ⟨[.loc 1,.loc 0],fBin .quo,none,3⟩,
  ⟨[.var 1],fMove,none,0⟩,
  ⟨[.var 3],fMove,none,0⟩,
  ⟨[.loc 1,.loc 0],fBin .quo,none,24⟩,
  ⟨[.loc 3,.loc 0],fBuild [(.int .i64 (.ofNat 0)),(.int .i64 (.ofNat 0))] [(0,1),(1,1)],none,63⟩,
  ⟨[.var 2,.loc 0],fStore 2,none,127⟩]
def c40_14 : ACode := .region o40_14 [] true
def c40_13 : ACode := .seq c40_14 .ret
def c40_4 : ACode := .seq c40_5 c40_13
def c40_2 : ACode := .seq c40_3 c40_4
def c40_0 : ACode := .seq c40_1 c40_2
def vm40 : List Nat := [0, 1, 4, 5, 6, 10]
def c40 : AFn := ⟨2, 6, [.cell 2 (some 2)], c40_0⟩
/- 41 girouette/cycles.Periods : slots [0, 2, 3, 4, 5, 6, 7, 14, 17, 29] -/
def o41_1 : List AOper := [⟨[.const .nilslice],fMove,none,0⟩,
  ⟨[.const (.int .i64 (.ofNat 0))],fMove,none,1⟩]
def c41_1 : ACode := .region o41_1 [(1,1),(2,0)] false
def o41_3 : List AOper := [⟨[.var 0],fMove,none,0⟩,
  ⟨[.const (.func (.func 91) [] []),.loc 0],fCall,none,1⟩,
  ⟨[.loc 0],fMove,none,3⟩,
  ⟨[.loc 0],fExtract 0,none,7⟩,
  ⟨[.loc 1],fExtract 1,none,7⟩,
  ⟨[.loc 1],fMove,none,15⟩,
  ⟨[.loc 1],fMove,none,63⟩]
def c41_3 : ACode := .region o41_3 [(3,1),(4,0)] false
def o41_6 : List AOper := [⟨[.var 4],fMove,none,0⟩,
  ⟨[.loc 0,.const (.int .i64 (.ofNat 0))],fBin .neq,none,1⟩]
def c41_6 : ACode := .region o41_6 [(7,0)] false
def o41_9 : List AOper := [⟨[.var 4],fMove,none,0⟩,
  ⟨[.const .nilslice],fMove,none,0⟩,
  ⟨[.loc 1],fMove,none,3⟩]
def c41_9 : ACode := .region o41_9 [(1,1),(2,0)] false
def c41_8 : ACode := .seq c41_9 .ret
def c41_7 : ACode := .cond (.var 7) c41_8 .skip
def c41_5 : ACode := .seq c41_6 c41_7
def o41_11 : List AOper := [⟨[.const .nilslice],fMove,none,0⟩]
def c41_11 : ACode := .region o41_11 [(5,0)] false
def o41_14 : List AOper := [⟨[.const (.int .i64 (.ofNat 1))],fMove,none,0⟩]
def c41_14 : ACode := .region o41_14 [(6,0)] false
def o41_19 : List AOper := [⟨[.var 6],fMove,none,0⟩,
  ⟨[.loc 0,.const (.int .i64 (.ofNat 12))],fBin .leq,none,1⟩]
def c41_19 : ACode := .region o41_19 [(8,0)] false
def c41_20 : ACode := .cond (.var 8) .skip (.exit 0)
def c41_18 : ACode := .seq c41_19 c41_20
def o41_24 : List AOper := [⟨[.var 6],fMove,none,0⟩,
  ⟨[.var 3],fMove,none,0⟩,
  ⟨[.loc 0],fLenSl,none,2⟩,
  ⟨[.loc 2,.loc 0],fBin .eql,none,7⟩,
  ⟨[.loc 0],fMove,none,15⟩,
  ⟨[.var 3],fMove,(some (0,false)),31⟩,
  ⟨[.var 6],fMove,(some (1,false)),31⟩,
  ⟨[.const (.func (.func 104) [] []),.loc 1,.loc 0],fCall,(some (2,false)),127⟩,
  ⟨[.loc 0,.const .nilslice],fEqNil true,(some (3,false)),255⟩,
  ⟨[.loc 4,.const (.bool true),.loc 0],fPick,none,511⟩]
def c41_24 : ACode := .region o41_24 [(9,0)] false
def o41_26 : List AOper := [⟨[.var 5],fMove,none,0⟩,
  ⟨[.var 6],fMove,none,0⟩,
  ⟨[.loc 0],fBuildSlice 1 1 [(.int .i64 (.ofNat 0))] [(0,1)],none,2⟩,
  ⟨[.loc 2,.loc 0],fAppend 1 8,none,7⟩,
  ⟨[.loc 0],fMove,none,15⟩]
def c41_26 : ACode := .region o41_26 [(5,0)] false
def c41_25 : ACode := .cond (.var 9) c41_26 .skip
def c41_23 : ACode := .seq c41_24 c41_25
def c41_22 : ACode := .block 1 c41_23
def o41_27 : List AOper := [⟨[.var 6],fMove,none,0⟩,
  ⟨[.loc 0,.const (.int .i64 (.ofNat 1))],fBin .add,none,1⟩,
  ⟨[.loc 0],fMove,none,3⟩]
def c41_27 : ACode := .region o41_27 [(6,0)] false
def c41_21 : ACode := .seq c41_22 c41_27
def c41_17 : ACode := .seq c41_18 c41_21
def c41_16 : ACode := .loop c41_17
def c41_15 : ACode := .block 0 c41_16
def c41_13 : ACode := .seq c41_14 c41_15
def o41_29 : List AOper := [⟨[.var 5],fMove,none,0⟩,
  ⟨[.loc 0],fMove,none,1⟩,
  ⟨[.const (.int .i64 (.ofNat 0))],fMove,none,3⟩]
def c41_29 : ACode := .region o41_29 [(1,1),(2,0)] false
def c41_28 : ACode := .seq c41_29 .ret
def c41_12 : ACode := .seq c41_13 c41_28
def c41_10 : ACode := .seq c41_11 c41_12
def c41_4 : ACode := .seq c41_5 c41_10
def c41_2 : ACode := .seq c41_3 c41_4
def c41_0 : ACode := .seq c41_1 c41_2
def vm41 : List Nat := [0, 2, 3, 4, 5, 6, 7, 14, 17, 29]
def c41 : AFn := ⟨1, 10, [.var 1,.var 2], c41_0⟩
/- 42 girouette/cycles.Mirror : slots [0, 2, 3, 4, 5, 6, 7, 8, 15, 22, 23, 24] -/
def o42_1 : List AOper := [⟨[.const .nilslice],fMove,none,0⟩,
  ⟨[.const (.int .i64 (.ofNat 0))],fMove,none,1⟩]
def c42_1 : ACode := .region o42_1 [(1,1),(2,0)] false
def o42_3 : List AOper := [⟨[.var 0],fMove,none,0⟩,
  ⟨[.const (.func (.func 91) [] []),.loc 0],fCall,none,1⟩,
  ⟨[.loc 0],fMove,none,3⟩,
  ⟨[.loc 0],fExtract 0,none,7⟩,
  ⟨[.loc 1],fExtract 1,none,7⟩,
  ⟨[.loc 1],fMove,none,15⟩,
  ⟨[.loc 1],fMove,none,63⟩]
def c42_3 : ACode := .region o42_3 [(3,1),(4,0)] false
def o42_6 : List AOper := [⟨[.var 4],fMove,none,0⟩,
  ⟨[.loc 0,.const (.int .i64 (.ofNat 0))],fBin .neq,none,1⟩]
def c42_6 : ACode := .region o42_6 [(8,0)] false
def o42_9 : List AOper := [⟨[.var 4],fMove,none,0⟩,
  ⟨[.const .nilslice],fMove,none,0⟩,
  ⟨[.loc 1],fMove,none,3⟩]
def c42_9 : ACode := .region o42_9 [(1,1),(2,0)] false
def c42_8 : ACode := .seq c42_9 .ret
def c42_7 : ACode := .cond (.var 8) c42_8 .skip
def c42_5 : ACode := .seq c42_6 c42_7
def o42_11 : List AOper := [⟨[.var 3],fMove,none,0⟩,
  ⟨[.loc 0],fLenSl,none,1⟩,
  ⟨[.loc 0],fMove,none,3⟩]
def c42_11 : ACode := .region o42_11 [(5,0)] false
def o42_13 : List AOper := [⟨[.var 5],fMove,none,0⟩,
  ⟨[.loc 0,.loc 0],fMakeSlice 1 8 [(.int .i64 (.ofNat 0))],none,1⟩,
  ⟨[.loc 0],fMove,none,3⟩]
def c42_13 : ACode := .region o42_13 [(6,0)] false
def o42_16 : List AOper := [⟨[.var 3],fMove,none,0⟩,
  ⟨[.loc 0],fLenSl,none,1⟩,
  ⟨[.const (.int .i64 (.ofNat 0))],fMove,none,0⟩]
def c42_16 : ACode := .region o42_16 [(9,1),(10,0)] false
def o42_20 : List AOper := [⟨[.var 10,.var 9],fBin .lss,none,0⟩]
def c42_20 : ACode := .region o42_20 [(11,0)] false
def c42_22 : ACode := .cond (.var 11) .skip (.exit 0)
def o42_26 : List AOper := [⟨[.var 10],fMove,none,0⟩,
  ⟨[.loc 0],fMove,none,1⟩]
def c42_26 : ACode := .region o42_26 [(7,0)] false
def o42_27 : List AOper := [⟨[.var 6],fMove,none,0⟩,
  ⟨[.var 7],fMove,none,0⟩,
  ⟨[.var 5],fMove,none,0⟩,
  ⟨[.loc 0,.const (.int .i64 (.ofNat 1))],fBin .sub,none,4⟩,
  ⟨[.var 3],fMove,none,0⟩,
  ⟨[.var 5],fMove,none,0⟩,
  ⟨[.loc 0,.const (.int .i64 (.ofNat 1))],fBin .sub,none,32⟩,
  ⟨[.var 7],fMove,none,0⟩,
  ⟨[.loc 1,.loc 0],fBin .sub,none,224⟩,
  ⟨[.loc 4,.loc 0],fIndexAddr 1,none,496⟩,
  ⟨[.loc 0],fLoad1,none,1008⟩,
  ⟨[.loc 7,.loc 0],fBin .sub,none,2044⟩,
  ⟨[.loc 11,.loc 10],fIndexAddr 1,none,4095⟩,
  ⟨[.loc 0,.loc 1],fStore 1,none,8191⟩]
def c42_27 : ACode := .region o42_27 [] false
def c42_25 : ACode := .seq c42_26 c42_27
def c42_24 : ACode := .block 1 c42_25
def o42_28 : List AOper := [⟨[.var 10,.const (.int .i64 (.ofNat 1))],fBin .add,none,0⟩,
  ⟨[.loc 0],fMove,none,1⟩]
def c42_28 : ACode := .region o42_28 [(10,0)] false
def c42_23 : ACode := .seq c42_24 c42_28
def c42_21 : ACode := .seq c42_22 c42_23
def c42_19 : ACode := .seq c42_20 c42_21
def c42_18 : ACode := .loop c42_19
def c42_17 : ACode := .block 0 c42_18
def c42_15 : ACode := .seq c42_16 c42_17
def o42_30 : List AOper := [⟨[.var 6],fMove,none,0⟩,
  ⟨[.loc 0],fMove,none,1⟩,
  ⟨[.const (.int .i64 (.ofNat 0))],fMove,none,3⟩]
def c42_30 : ACode := .region o42_30 [(1,1),(2,0)] false
def c42_29 : ACode := .seq c42_30 .ret
def c42_14 : ACode := .seq c42_15 c42_29
def c42_12 : ACode := .seq c42_13 c42_14
def c42_10 : ACode := .seq c42_11 c42_12
def c42_4 : ACode := .seq c42_5 c42_10
def c42_2 : ACode := .seq c42_3 c42_4
def c42_0 : ACode := .seq c42_1 c42_2
def vm42 : List Nat := [0, 2, 3, 4, 5, 6, 7, 8, 15, 22, 23, 24]
def c42 : AFn := ⟨1, 12, [.var 1,.var 2], c42_0⟩
end Go.Absm.D
