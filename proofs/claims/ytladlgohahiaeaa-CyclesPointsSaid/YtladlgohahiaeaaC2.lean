/- Written by mkcode.py: the code of the program's functions for the abstract machine. -/
import Derived.Test.YtladlgohahiaeaaC1
set_option linter.unusedSimpArgs false
set_option linter.unusedVariables false
namespace Go.Absm.D
open Go Go.Absm
set_option maxRecDepth 1000000
/- 43 girouette/girouettelaw05.ints : slots [0, 1, 4, 5, 10, 14, 25] -/
def o43_1 : List AOper := [⟨[.const (.bool false)],fMove,none,0⟩]
def c43_1 : ACode := .region o43_1 [(2,0)] false
def o43_4 : List AOper := [⟨[.var 0],fMove,none,0⟩,
  ⟨[.loc 0],fLenSl,none,1⟩,
  ⟨[.var 1],fMove,none,0⟩,
  ⟨[.loc 0],fLenSl,none,4⟩,
  ⟨[.loc 2,.loc 0],fBin .neq,none,15⟩]
def c43_4 : ACode := .region o43_4 [(4,0)] false
def o43_7 : List AOper := [⟨[.const (.bool false)],fMove,none,0⟩]
def c43_7 : ACode := .region o43_7 [(2,0)] false
def c43_6 : ACode := .seq c43_7 .ret
def c43_5 : ACode := .cond (.var 4) c43_6 .skip
def c43_3 : ACode := .seq c43_4 c43_5
def o43_10 : List AOper := [⟨[.const (.int .i64 (.ofNat 0))],fMove,none,0⟩]
def c43_10 : ACode := .region o43_10 [(3,0)] false
def o43_15 : List AOper := [⟨[.var 3],fMove,none,0⟩,
  ⟨[.var 0],fMove,none,0⟩,
  ⟨[.loc 0],fLenSl,none,2⟩,
  ⟨[.loc 2,.loc 0],fBin .lss,none,7⟩]
def c43_15 : ACode := .region o43_15 [(5,0)] false
def c43_16 : ACode := .cond (.var 5) .skip (.exit 0)
def c43_14 : ACode := .seq c43_15 c43_16
def o43_20 : List AOper := [⟨[.var 0],fMove,none,0⟩,
  ⟨[.var 3],fMove,none,0⟩,
  ⟨[.loc 1,.loc 0],fIndexAddr 1,none,3⟩,
  ⟨[.loc 0],fLoad1,none,7⟩,
  ⟨[.var 1],fMove,none,0⟩,
  ⟨[.var 3],fMove,none,0⟩,
  ⟨[.loc 1,.loc 0],fIndexAddr 1,none,48⟩,
  ⟨[.loc 0],fLoad1,none,112⟩,
  ⟨[.loc 4,.loc 0],fBin .neq,none,255⟩]
def c43_20 : ACode := .region o43_20 [(6,0)] true
def o43_23 : List AOper := [⟨[.const (.bool false)],fMove,none,0⟩]
def c43_23 : ACode := .region o43_23 [(2,0)] false
def c43_22 : ACode := .seq c43_23 .ret
def c43_21 : ACode := .cond (.var 6) c43_22 .skip
def c43_19 : ACode := .seq c43_20 c43_21
def c43_18 : ACode := .block 1 c43_19
def o43_24 : List AOper := [⟨[.var 3],fMove,none,0⟩,
  ⟨[.loc 0,.const (.int .i64 (.ofNat 1))],fBin .add,none,1⟩,
  ⟨[.loc 0],fMove,none,3⟩]
def c43_24 : ACode := .region o43_24 [(3,0)] false
def c43_17 : ACode := .seq c43_18 c43_24
def c43_13 : ACode := .seq c43_14 c43_17
def c43_12 : ACode := .loop c43_13
def c43_11 : ACode := .block 0 c43_12
def c43_9 : ACode := .seq c43_10 c43_11
def o43_26 : List AOper := [⟨[.const (.bool true)],fMove,none,0⟩]
def c43_26 : ACode := .region o43_26 [(2,0)] false
def c43_25 : ACode := .seq c43_26 .ret
def c43_8 : ACode := .seq c43_9 c43_25
def c43_2 : ACode := .seq c43_3 c43_8
def c43_0 : ACode := .seq c43_1 c43_2
def vm43 : List Nat := [0, 1, 4, 5, 10, 14, 25]
def c43 : AFn := ⟨2, 7, [.var 2], c43_0⟩
/- 44 girouette/cycles.After : slots [0, 1, 4, 5, 6, 7, 8, 9, 20, 31, 41, 44, 47] -/
def o44_1 : List AOper := [⟨[.const (.bool false)],fMove,none,0⟩,
  ⟨[.const (.int .i64 (.ofNat 0))],fMove,none,1⟩]
def c44_1 : ACode := .region o44_1 [(2,1),(3,0)] false
def o44_4 : List AOper := [⟨[.var 0],fMove,none,0⟩,
  ⟨[.var 1],fMove,none,0⟩,
  ⟨[.loc 1,.loc 0],fBuildSlice 2 1 [(.int .i64 (.ofNat 0))] [(0,1),(1,1)],none,3⟩,
  ⟨[.const (.func (.func 105) [] []),.loc 0],fCall,none,7⟩,
  ⟨[.loc 0,.const (.int .i64 (.ofNat 1))],fBin .lss,none,15⟩,
  ⟨[.loc 0],fMove,none,31⟩,
  ⟨[.var 0],fMove,(some (0,false)),63⟩,
  ⟨[.var 1],fMove,(some (1,false)),63⟩,
  ⟨[.loc 1,.loc 0],fMax,(some (2,false)),255⟩,
  ⟨[.loc 0,.const (.int .i64 (.ofNat 1000000000))],fBin .gtr,(some (3,false)),511⟩,
  ⟨[.loc 4,.const (.bool true),.loc 0],fPick,none,1023⟩]
def c44_4 : ACode := .region o44_4 [(8,0)] false
def o44_7 : List AOper := [⟨[.const (.bool false)],fMove,none,0⟩,
  ⟨[.const (.int .i64 (.ofNat 1))],fMove,none,1⟩]
def c44_7 : ACode := .region o44_7 [(2,1),(3,0)] false
def c44_6 : ACode := .seq c44_7 .ret
def c44_5 : ACode := .cond (.var 8) c44_6 .skip
def c44_3 : ACode := .seq c44_4 c44_5
def o44_9 : List AOper := [⟨[.var 0],fMove,none,0⟩,
  ⟨[.const (.func (.func 106) [] []),.loc 0],fCall,none,1⟩,
  ⟨[.loc 0],fMove,none,3⟩,
  ⟨[.loc 0],fExtract 0,none,7⟩,
  ⟨[.loc 1],fExtract 1,none,7⟩,
  ⟨[.loc 1],fMove,none,15⟩,
  ⟨[.loc 1],fMove,none,63⟩]
def c44_9 : ACode := .region o44_9 [(4,1),(5,0)] false
def o44_11 : List AOper := [⟨[.var 1],fMove,none,0⟩,
  ⟨[.const (.func (.func 106) [] []),.loc 0],fCall,none,1⟩,
  ⟨[.loc 0],fMove,none,3⟩,
  ⟨[.loc 0],fExtract 0,none,7⟩,
  ⟨[.loc 1],fExtract 1,none,7⟩,
  ⟨[.loc 1],fMove,none,15⟩,
  ⟨[.loc 1],fMove,none,63⟩]
def c44_11 : ACode := .region o44_11 [(6,1),(7,0)] false
def o44_15 : List AOper := [⟨[.var 5],fMove,none,0⟩,
  ⟨[.loc 0,.const (.int .i64 (.ofNat 1))],fBin .eql,none,1⟩,
  ⟨[.loc 0],fMove,none,3⟩,
  ⟨[.var 7],fMove,(some (0,true)),7⟩,
  ⟨[.loc 0,.const (.int .i64 (.ofNat 1))],fBin .eql,(some (1,true)),15⟩,
  ⟨[.loc 2,.loc 0,.const (.bool false)],fPick,none,31⟩,
  ⟨[.loc 0],fMove,none,63⟩]
def c44_15 : ACode := .region o44_15 [(9,0)] false
def o44_18 : List AOper := [⟨[.var 6],fMove,none,0⟩,
  ⟨[.var 4],fMove,none,0⟩,
  ⟨[.loc 1,.loc 0],fBin .lss,none,3⟩,
  ⟨[.loc 0],fMove,none,7⟩,
  ⟨[.const (.int .i64 (.ofNat 0))],fMove,none,15⟩]
def c44_18 : ACode := .region o44_18 [(2,1),(3,0)] false
def c44_17 : ACode := .seq c44_18 .ret
def o44_20 : List AOper := [⟨[.var 5],fMove,none,0⟩,
  ⟨[.loc 0,.const (.int .i64 (.ofNat 1))],fBin .eql,none,1⟩,
  ⟨[.loc 0],fMove,none,3⟩]
def c44_20 : ACode := .region o44_20 [(10,0)] false
def o44_23 : List AOper := [⟨[.const (.bool false)],fMove,none,0⟩,
  ⟨[.const (.int .i64 (.ofNat 0))],fMove,none,1⟩]
def c44_23 : ACode := .region o44_23 [(2,1),(3,0)] false
def c44_22 : ACode := .seq c44_23 .ret
def o44_25 : List AOper := [⟨[.var 7],fMove,none,0⟩,
  ⟨[.loc 0,.const (.int .i64 (.ofNat 1))],fBin .eql,none,1⟩,
  ⟨[.loc 0],fMove,none,3⟩]
def c44_25 : ACode := .region o44_25 [(11,0)] false
def o44_28 : List AOper := [⟨[.const (.bool true)],fMove,none,0⟩,
  ⟨[.const (.int .i64 (.ofNat 0))],fMove,none,1⟩]
def c44_28 : ACode := .region o44_28 [(2,1),(3,0)] false
def c44_27 : ACode := .seq c44_28 .ret
def o44_30 : List AOper := [⟨[.var 4],fMove,none,0⟩,
  ⟨[.var 6],fMove,none,0⟩,
  ⟨[.loc 1,.loc 0],fBin .neq,none,3⟩,
  ⟨[.loc 0],fMove,none,7⟩]
def c44_30 : ACode := .region o44_30 [(12,0)] false
def o44_33 : List AOper := [⟨[.var 6],fMove,none,0⟩,
  ⟨[.var 4],fMove,none,0⟩,
  ⟨[.loc 1,.loc 0],fBin .gtr,none,3⟩,
  ⟨[.loc 0],fMove,none,7⟩,
  ⟨[.const (.int .i64 (.ofNat 0))],fMove,none,15⟩]
def c44_33 : ACode := .region o44_33 [(2,1),(3,0)] false
def c44_32 : ACode := .seq c44_33 .ret
def c44_31 : ACode := .cond (.var 12) c44_32 .skip
def c44_29 : ACode := .seq c44_30 c44_31
def c44_26 : ACode := .cond (.var 11) c44_27 c44_29
def c44_24 : ACode := .seq c44_25 c44_26
def c44_21 : ACode := .cond (.var 10) c44_22 c44_24
def c44_19 : ACode := .seq c44_20 c44_21
def c44_16 : ACode := .cond (.var 9) c44_17 c44_19
def c44_14 : ACode := .seq c44_15 c44_16
def c44_13 : ACode := .block 0 c44_14
def o44_35 : List AOper := [⟨[.var 7],fMove,none,0⟩,
  ⟨[.var 5],fMove,none,0⟩,
  ⟨[.loc 1,.loc 0],fBin .gtr,none,3⟩,
  ⟨[.loc 0],fMove,none,7⟩,
  ⟨[.const (.int .i64 (.ofNat 0))],fMove,none,15⟩]
def c44_35 : ACode := .region o44_35 [(2,1),(3,0)] false
def c44_34 : ACode := .seq c44_35 .ret
def c44_12 : ACode := .seq c44_13 c44_34
def c44_10 : ACode := .seq c44_11 c44_12
def c44_8 : ACode := .seq c44_9 c44_10
def c44_2 : ACode := .seq c44_3 c44_8
def c44_0 : ACode := .seq c44_1 c44_2
def vm44 : List Nat := [0, 1, 4, 5, 6, 7, 8, 9, 20, 31, 41, 44, 47]
def c44 : AFn := ⟨2, 13, [.var 2,.var 3], c44_0⟩
/- 45 girouette/girouetteref05.WordC : slots [0, 2] -/
def o45_1 : List AOper := [⟨[.const (.bool false)],fMove,none,0⟩]
def c45_1 : ACode := .region o45_1 [(1,0)] false
def o45_3 : List AOper := [⟨[.var 0],fMove,none,0⟩,
  ⟨[.loc 0],fLenStr,none,1⟩,
  ⟨[.loc 0,.const (.int .i64 (.ofNat 0))],fBin .gtr,none,3⟩,
  ⟨[.loc 0],fMove,none,7⟩,
  ⟨[.var 0],fMove,(some (0,true)),15⟩,
  ⟨[.var 0],fMove,(some (1,true)),15⟩,
  ⟨[.loc 0],fLenStr,(some (2,true)),47⟩,
  ⟨[.loc 0,.const (.int .i64 (.ofNat 1))],fBin .sub,(some (3,true)),111⟩,
  ⟨[.loc 3,.loc 0],fIndexStr,(some (4,true)),255⟩,
  ⟨[.loc 0,.const (.int .u8 (.ofNat 67))],fBin .eql,(some (5,true)),511⟩,
  ⟨[.loc 6,.loc 0,.const (.bool false)],fPick,none,1023⟩,
  ⟨[.loc 0],fMove,none,2047⟩,
  ⟨[.var 0],fMove,(some (0,true)),4095⟩,
  ⟨[.var 0],fMove,(some (1,true)),4095⟩,
  ⟨[.loc 0],fLenStr,(some (2,true)),12287⟩,
  ⟨[.loc 0,.const (.int .i64 (.ofNat 1))],fBin .sub,(some (3,true)),28671⟩,
  ⟨[.loc 3,.loc 0],fSliceStr false true,(some (4,true)),65535⟩,
  ⟨[.const (.func (.func 48) [] []),.loc 0],fCall,(some (5,true)),131071⟩,
  ⟨[.loc 6,.loc 0,.const (.bool false)],fPick,none,262143⟩,
  ⟨[.loc 0],fMove,none,524287⟩]
def c45_3 : ACode := .region o45_3 [(1,0)] false
def c45_2 : ACode := .seq c45_3 .ret
def c45_0 : ACode := .seq c45_1 c45_2
def vm45 : List Nat := [0, 2]
def c45 : AFn := ⟨1, 2, [.var 1], c45_0⟩
/- 46 girouette/girouetteref05.Lower : slots [0, 1, 4, 5, 6, 16, 25, 40] -/
def o46_1 : List AOper := [⟨[.const (.bool false)],fMove,none,0⟩]
def c46_1 : ACode := .region o46_1 [(2,0)] false
def o46_3 : List AOper := [⟨[.const (.bool true)],fMove,none,0⟩]
def c46_3 : ACode := .region o46_3 [(3,0)] false
def o46_6 : List AOper := [⟨[.const (.int .i64 (.ofNat 0))],fMove,none,0⟩]
def c46_6 : ACode := .region o46_6 [(4,0)] false
def o46_11 : List AOper := [⟨[.var 4],fMove,none,0⟩,
  ⟨[.var 0],fMove,none,0⟩,
  ⟨[.loc 0],fLenStr,none,2⟩,
  ⟨[.loc 2,.loc 0],fBin .lss,none,7⟩,
  ⟨[.loc 0],fMove,none,15⟩,
  ⟨[.var 4],fMove,(some (0,true)),31⟩,
  ⟨[.var 1],fMove,(some (1,true)),31⟩,
  ⟨[.loc 0],fLenStr,(some (2,true)),95⟩,
  ⟨[.loc 2,.loc 0],fBin .lss,(some (3,true)),255⟩,
  ⟨[.loc 4,.loc 0,.const (.bool false)],fPick,none,511⟩]
def c46_11 : ACode := .region o46_11 [(5,0)] false
def c46_12 : ACode := .cond (.var 5) .skip (.exit 0)
def c46_10 : ACode := .seq c46_11 c46_12
def o46_17 : List AOper := [⟨[.var 0],fMove,none,0⟩,
  ⟨[.var 4],fMove,none,0⟩,
  ⟨[.loc 1,.loc 0],fIndexStr,none,3⟩,
  ⟨[.var 1],fMove,none,0⟩,
  ⟨[.var 4],fMove,none,0⟩,
  ⟨[.loc 1,.loc 0],fIndexStr,none,24⟩,
  ⟨[.loc 3,.loc 0],fBin .neq,none,63⟩]
def c46_17 : ACode := .region o46_17 [(6,0)] true
def o46_20 : List AOper := [⟨[.var 0],fMove,none,0⟩,
  ⟨[.var 4],fMove,none,0⟩,
  ⟨[.loc 1,.loc 0],fIndexStr,none,3⟩,
  ⟨[.const (.func (.func 107) [] []),.loc 0],fCall,none,7⟩,
  ⟨[.var 1],fMove,none,0⟩,
  ⟨[.var 4],fMove,none,0⟩,
  ⟨[.loc 1,.loc 0],fIndexStr,none,48⟩,
  ⟨[.const (.func (.func 107) [] []),.loc 0],fCall,none,127⟩,
  ⟨[.loc 4,.loc 0],fBin .lss,none,255⟩,
  ⟨[.var 3],fMove,none,0⟩,
  ⟨[.loc 1,.loc 0],fEqD false .b,none,1023⟩,
  ⟨[.loc 0],fMove,none,2047⟩]
def c46_20 : ACode := .region o46_20 [(2,0)] true
def c46_19 : ACode := .seq c46_20 .ret
def c46_18 : ACode := .cond (.var 6) c46_19 .skip
def c46_16 : ACode := .seq c46_17 c46_18
def o46_22 : List AOper := [⟨[.var 0],fMove,none,0⟩,
  ⟨[.var 4],fMove,none,0⟩,
  ⟨[.loc 1,.loc 0],fIndexStr,none,3⟩,
  ⟨[.loc 0,.const (.int .u8 (.ofNat 82))],fBin .eql,none,7⟩]
def c46_22 : ACode := .region o46_22 [(7,0)] false
def o46_24 : List AOper := [⟨[.var 3],fMove,none,0⟩,
  ⟨[.loc 0],fUn .not,none,1⟩,
  ⟨[.loc 0],fMove,none,3⟩]
def c46_24 : ACode := .region o46_24 [(3,0)] false
def c46_23 : ACode := .cond (.var 7) c46_24 .skip
def c46_21 : ACode := .seq c46_22 c46_23
def c46_15 : ACode := .seq c46_16 c46_21
def c46_14 : ACode := .block 1 c46_15
def o46_25 : List AOper := [⟨[.var 4],fMove,none,0⟩,
  ⟨[.loc 0,.const (.int .i64 (.ofNat 1))],fBin .add,none,1⟩,
  ⟨[.loc 0],fMove,none,3⟩]
def c46_25 : ACode := .region o46_25 [(4,0)] false
def c46_13 : ACode := .seq c46_14 c46_25
def c46_9 : ACode := .seq c46_10 c46_13
def c46_8 : ACode := .loop c46_9
def c46_7 : ACode := .block 0 c46_8
def c46_5 : ACode := .seq c46_6 c46_7
def o46_27 : List AOper := [⟨[.const (.bool false)],fMove,none,0⟩]
def c46_27 : ACode := .region o46_27 [(2,0)] false
def c46_26 : ACode := .seq c46_27 .ret
def c46_4 : ACode := .seq c46_5 c46_26
def c46_2 : ACode := .seq c46_3 c46_4
def c46_0 : ACode := .seq c46_1 c46_2
def vm46 : List Nat := [0, 1, 4, 5, 6, 16, 25, 40]
def c46 : AFn := ⟨2, 8, [.var 2], c46_0⟩
/- 47 girouette/cycles.IsGreatest : slots [0, 2, 3, 6] -/
def o47_1 : List AOper := [⟨[.const (.bool false)],fMove,none,0⟩,
  ⟨[.const (.int .i64 (.ofNat 0))],fMove,none,1⟩]
def c47_1 : ACode := .region o47_1 [(1,1),(2,0)] false
def o47_4 : List AOper := [⟨[.var 0],fMove,none,0⟩,
  ⟨[.const (.func (.func 95) [] []),.loc 0],fCall,none,1⟩,
  ⟨[.loc 0],fUn .not,none,3⟩]
def c47_4 : ACode := .region o47_4 [(3,0)] false
def o47_7 : List AOper := [⟨[.const (.bool false)],fMove,none,0⟩,
  ⟨[.const (.int .i64 (.ofNat 1))],fMove,none,1⟩]
def c47_7 : ACode := .region o47_7 [(1,1),(2,0)] false
def c47_6 : ACode := .seq c47_7 .ret
def c47_5 : ACode := .cond (.var 3) c47_6 .skip
def c47_3 : ACode := .seq c47_4 c47_5
def o47_9 : List AOper := [⟨[.var 0],fMove,none,0⟩,
  ⟨[.const (.func (.func 75) [] []),.loc 0],fCall,none,1⟩,
  ⟨[.loc 0],fMove,none,3⟩,
  ⟨[.const (.int .i64 (.ofNat 0))],fMove,none,7⟩]
def c47_9 : ACode := .region o47_9 [(1,1),(2,0)] false
def c47_8 : ACode := .seq c47_9 .ret
def c47_2 : ACode := .seq c47_3 c47_8
def c47_0 : ACode := .seq c47_1 c47_2
def vm47 : List Nat := [0, 2, 3, 6]
def c47 : AFn := ⟨1, 4, [.var 1,.var 2], c47_0⟩
/- 48 girouette/girouetteref05.Word : slots [0, 2, 3, 7, 19] -/
def o48_1 : List AOper := [⟨[.const (.bool false)],fMove,none,0⟩]
def c48_1 : ACode := .region o48_1 [(1,0)] false
def o48_4 : List AOper := [⟨[.const (.int .i64 (.ofNat 0))],fMove,none,0⟩]
def c48_4 : ACode := .region o48_4 [(2,0)] false
def o48_9 : List AOper := [⟨[.var 2],fMove,none,0⟩,
  ⟨[.var 0],fMove,none,0⟩,
  ⟨[.loc 0],fLenStr,none,2⟩,
  ⟨[.loc 2,.loc 0],fBin .lss,none,7⟩]
def c48_9 : ACode := .region o48_9 [(3,0)] false
def c48_10 : ACode := .cond (.var 3) .skip (.exit 0)
def c48_8 : ACode := .seq c48_9 c48_10
def o48_14 : List AOper := [⟨[.var 0],fMove,none,0⟩,
  ⟨[.var 2],fMove,none,0⟩,
  ⟨[.loc 1,.loc 0],fIndexStr,none,3⟩,
  ⟨[.loc 0,.const (.int .u8 (.ofNat 76))],fBin .neq,none,7⟩,
  ⟨[.loc 0],fMove,none,15⟩,
  ⟨[.var 0],fMove,(some (0,true)),31⟩,
  ⟨[.var 2],fMove,(some (1,true)),31⟩,
  ⟨[.loc 1,.loc 0],fIndexStr,(some (2,true)),127⟩,
  ⟨[.loc 0,.const (.int .u8 (.ofNat 82))],fBin .neq,(some (3,true)),255⟩,
  ⟨[.loc 4,.loc 0,.const (.bool false)],fPick,none,511⟩]
def c48_14 : ACode := .region o48_14 [(4,0)] false
def o48_17 : List AOper := [⟨[.const (.bool false)],fMove,none,0⟩]
def c48_17 : ACode := .region o48_17 [(1,0)] false
def c48_16 : ACode := .seq c48_17 .ret
def c48_15 : ACode := .cond (.var 4) c48_16 .skip
def c48_13 : ACode := .seq c48_14 c48_15
def c48_12 : ACode := .block 1 c48_13
def o48_18 : List AOper := [⟨[.var 2],fMove,none,0⟩,
  ⟨[.loc 0,.const (.int .i64 (.ofNat 1))],fBin .add,none,1⟩,
  ⟨[.loc 0],fMove,none,3⟩]
def c48_18 : ACode := .region o48_18 [(2,0)] false
def c48_11 : ACode := .seq c48_12 c48_18
def c48_7 : ACode := .seq c48_8 c48_11
def c48_6 : ACode := .loop c48_7
def c48_5 : ACode := .block 0 c48_6
def c48_3 : ACode := .seq c48_4 c48_5
def o48_20 : List AOper := [⟨[.var 0],fMove,none,0⟩,
  ⟨[.loc 0],fLenStr,none,1⟩,
  ⟨[.loc 0,.const (.int .i64 (.ofNat 11))],fBin .leq,none,3⟩,
  ⟨[.loc 0],fMove,none,7⟩]
def c48_20 : ACode := .region o48_20 [(1,0)] false
def c48_19 : ACode := .seq c48_20 .ret
def c48_2 : ACode := .seq c48_3 c48_19
def c48_0 : ACode := .seq c48_1 c48_2
def vm48 : List Nat := [0, 2, 3, 7, 19]
def c48 : AFn := ⟨1, 5, [.var 1], c48_0⟩
/- 49 girouette/girouetteref05.Greatest : slots [0, 2, 3, 7, 17] -/
def o49_1 : List AOper := [⟨[.const (.bool false)],fMove,none,0⟩]
def c49_1 : ACode := .region o49_1 [(1,0)] false
def o49_4 : List AOper := [⟨[.const (.int .i64 (.ofNat 1))],fMove,none,0⟩]
def c49_4 : ACode := .region o49_4 [(2,0)] false
def o49_9 : List AOper := [⟨[.var 2],fMove,none,0⟩,
  ⟨[.var 0],fMove,none,0⟩,
  ⟨[.loc 0],fLenStr,none,2⟩,
  ⟨[.loc 2,.loc 0],fBin .leq,none,7⟩]
def c49_9 : ACode := .region o49_9 [(3,0)] false
def c49_10 : ACode := .cond (.var 3) .skip (.exit 0)
def c49_8 : ACode := .seq c49_9 c49_10
def o49_14 : List AOper := [⟨[.var 0],fMove,none,0⟩,
  ⟨[.var 2],fMove,none,0⟩,
  ⟨[.loc 1,.loc 0],fSliceStr true false,none,3⟩,
  ⟨[.loc 0,.const (.str [67])],fBin .add,none,7⟩,
  ⟨[.var 0],fMove,none,0⟩,
  ⟨[.loc 0,.const (.str [67])],fBin .add,none,16⟩,
  ⟨[.const (.func (.func 46) [] []),.loc 2,.loc 0],fCall,none,63⟩,
  ⟨[.loc 0],fUn .not,none,127⟩]
def c49_14 : ACode := .region o49_14 [(4,0)] false
def o49_17 : List AOper := [⟨[.const (.bool false)],fMove,none,0⟩]
def c49_17 : ACode := .region o49_17 [(1,0)] false
def c49_16 : ACode := .seq c49_17 .ret
def c49_15 : ACode := .cond (.var 4) c49_16 .skip
def c49_13 : ACode := .seq c49_14 c49_15
def c49_12 : ACode := .block 1 c49_13
def o49_18 : List AOper := [⟨[.var 2],fMove,none,0⟩,
  ⟨[.loc 0,.const (.int .i64 (.ofNat 1))],fBin .add,none,1⟩,
  ⟨[.loc 0],fMove,none,3⟩]
def c49_18 : ACode := .region o49_18 [(2,0)] false
def c49_11 : ACode := .seq c49_12 c49_18
def c49_7 : ACode := .seq c49_8 c49_11
def c49_6 : ACode := .loop c49_7
def c49_5 : ACode := .block 0 c49_6
def c49_3 : ACode := .seq c49_4 c49_5
def o49_20 : List AOper := [⟨[.const (.bool true)],fMove,none,0⟩]
def c49_20 : ACode := .region o49_20 [(1,0)] false
def c49_19 : ACode := .seq c49_20 .ret
def c49_2 : ACode := .seq c49_3 c49_19
def c49_0 : ACode := .seq c49_1 c49_2
def vm49 : List Nat := [0, 2, 3, 7, 17]
def c49 : AFn := ⟨1, 5, [.var 1], c49_0⟩
/- 50 girouette/girouetteref05.Of : slots [0, 2, 3, 4, 5, 6, 7, 8, 9, 18, 23, 32, 43] -/
def o50_1 : List AOper := [⟨[.const .nilslice],fMove,none,0⟩]
def c50_1 : ACode := .region o50_1 [(1,0)] false
def o50_3 : List AOper := [⟨[.var 0],fMove,none,0⟩,
  ⟨[.loc 0,.const (.str [67])],fBin .add,none,1⟩,
  ⟨[.loc 0],fMove,none,3⟩]
def c50_3 : ACode := .region o50_3 [(2,0)] false
def o50_5 : List AOper := [⟨[.var 2],fMove,none,0⟩,
  ⟨[.loc 0],fLenStr,none,1⟩,
  ⟨[.loc 0],fMove,none,3⟩]
def c50_5 : ACode := .region o50_5 [(3,0)] false
def o50_7 : List AOper := [⟨[.var 3],fMove,none,0⟩,
  ⟨[.loc 0,.loc 0],fMakeSlice 1 8 [(.int .i64 (.ofNat 0))],none,1⟩,
  ⟨[.loc 0],fMove,none,3⟩]
def c50_7 : ACode := .region o50_7 [(4,0)] false
def o50_10 : List AOper := [⟨[.const (.int .i64 (.ofNat 0))],fMove,none,0⟩]
def c50_10 : ACode := .region o50_10 [(5,0)] false
def o50_15 : List AOper := [⟨[.var 5],fMove,none,0⟩,
  ⟨[.var 3],fMove,none,0⟩,
  ⟨[.loc 1,.loc 0],fBin .lss,none,3⟩]
def c50_15 : ACode := .region o50_15 [(9,0)] false
def c50_16 : ACode := .cond (.var 9) .skip (.exit 0)
def c50_14 : ACode := .seq c50_15 c50_16
def o50_20 : List AOper := [⟨[.const (.int .i64 (.ofNat 0))],fMove,none,0⟩]
def c50_20 : ACode := .region o50_20 [(6,0)] false
def o50_25 : List AOper := [⟨[.var 6],fMove,none,0⟩,
  ⟨[.var 3],fMove,none,0⟩,
  ⟨[.loc 1,.loc 0],fBin .lss,none,3⟩]
def c50_25 : ACode := .region o50_25 [(10,0)] false
def c50_26 : ACode := .cond (.var 10) .skip (.exit 2)
def c50_24 : ACode := .seq c50_25 c50_26
def o50_30 : List AOper := [⟨[.var 2],fMove,none,0⟩,
  ⟨[.var 6],fMove,none,0⟩,
  ⟨[.loc 1,.loc 0],fSliceStr true false,none,3⟩,
  ⟨[.var 2],fMove,none,0⟩,
  ⟨[.var 5],fMove,none,0⟩,
  ⟨[.loc 1,.loc 0],fSliceStr true false,none,24⟩,
  ⟨[.const (.func (.func 46) [] []),.loc 3,.loc 0],fCall,none,63⟩]
def c50_30 : ACode := .region o50_30 [(11,0)] true
def o50_32 : List AOper := [⟨[.var 4],fMove,none,0⟩,
  ⟨[.var 5],fMove,none,0⟩,
  ⟨[.loc 1,.loc 0],fIndexAddr 1,none,3⟩,
  ⟨[.loc 0],fLoad1,none,7⟩,
  ⟨[.loc 0,.const (.int .i64 (.ofNat 1))],fBin .add,none,15⟩,
  ⟨[.loc 4,.loc 3],fIndexAddr 1,none,31⟩,
  ⟨[.loc 0,.loc 1],fStore 1,none,63⟩]
def c50_32 : ACode := .region o50_32 [] false
def c50_31 : ACode := .cond (.var 11) c50_32 .skip
def c50_29 : ACode := .seq c50_30 c50_31
def c50_28 : ACode := .block 3 c50_29
def o50_33 : List AOper := [⟨[.var 6],fMove,none,0⟩,
  ⟨[.loc 0,.const (.int .i64 (.ofNat 1))],fBin .add,none,1⟩,
  ⟨[.loc 0],fMove,none,3⟩]
def c50_33 : ACode := .region o50_33 [(6,0)] false
def c50_27 : ACode := .seq c50_28 c50_33
def c50_23 : ACode := .seq c50_24 c50_27
def c50_22 : ACode := .loop c50_23
def c50_21 : ACode := .block 2 c50_22
def c50_19 : ACode := .seq c50_20 c50_21
def c50_18 : ACode := .block 1 c50_19
def o50_34 : List AOper := [⟨[.var 5],fMove,none,0⟩,
  ⟨[.loc 0,.const (.int .i64 (.ofNat 1))],fBin .add,none,1⟩,
  ⟨[.loc 0],fMove,none,3⟩]
def c50_34 : ACode := .region o50_34 [(5,0)] false
def c50_17 : ACode := .seq c50_18 c50_34
def c50_13 : ACode := .seq c50_14 c50_17
def c50_12 : ACode := .loop c50_13
def c50_11 : ACode := .block 0 c50_12
def c50_9 : ACode := .seq c50_10 c50_11
def o50_36 : List AOper := [⟨[.var 3],fMove,none,0⟩,
  ⟨[.loc 0,.loc 0],fMakeSlice 1 8 [(.int .i64 (.ofNat 0))],none,1⟩,
  ⟨[.loc 0],fMove,none,3⟩]
def c50_36 : ACode := .region o50_36 [(7,0)] false
def o50_39 : List AOper := [⟨[.const (.int .i64 (.ofNat 0))],fMove,none,0⟩]
def c50_39 : ACode := .region o50_39 [(8,0)] false
def o50_44 : List AOper := [⟨[.var 8],fMove,none,0⟩,
  ⟨[.var 3],fMove,none,0⟩,
  ⟨[.loc 1,.loc 0],fBin .lss,none,3⟩]
def c50_44 : ACode := .region o50_44 [(12,0)] false
def c50_45 : ACode := .cond (.var 12) .skip (.exit 4)
def c50_43 : ACode := .seq c50_44 c50_45
def o50_48 : List AOper := [⟨[.var 7],fMove,none,0⟩,
  ⟨[.var 4],fMove,none,0⟩,
  ⟨[.var 8],fMove,none,0⟩,
  ⟨[.loc 1,.loc 0],fIndexAddr 1,none,6⟩,
  ⟨[.loc 0],fLoad1,none,14⟩,
  ⟨[.var 4],fMove,none,0⟩,
  ⟨[.var 8],fMove,none,0⟩,
  ⟨[.loc 0,.const (.int .i64 (.ofNat 1))],fBin .add,none,64⟩,
  ⟨[.var 3],fMove,none,0⟩,
  ⟨[.loc 1,.loc 0],fBin .rem,none,448⟩,
  ⟨[.loc 4,.loc 0],fIndexAddr 1,none,992⟩,
  ⟨[.loc 0],fLoad1,none,2016⟩,
  ⟨[.loc 11,.loc 7],fIndexAddr 1,none,4095⟩,
  ⟨[.loc 0,.loc 1],fStore 1,none,8191⟩]
def c50_48 : ACode := .region o50_48 [] true
def c50_47 : ACode := .block 5 c50_48
def o50_49 : List AOper := [⟨[.var 8],fMove,none,0⟩,
  ⟨[.loc 0,.const (.int .i64 (.ofNat 1))],fBin .add,none,1⟩,
  ⟨[.loc 0],fMove,none,3⟩]
def c50_49 : ACode := .region o50_49 [(8,0)] false
def c50_46 : ACode := .seq c50_47 c50_49
def c50_42 : ACode := .seq c50_43 c50_46
def c50_41 : ACode := .loop c50_42
def c50_40 : ACode := .block 4 c50_41
def c50_38 : ACode := .seq c50_39 c50_40
def o50_51 : List AOper := [⟨[.var 7],fMove,none,0⟩,
  ⟨[.loc 0],fMove,none,1⟩]
def c50_51 : ACode := .region o50_51 [(1,0)] false
def c50_50 : ACode := .seq c50_51 .ret
def c50_37 : ACode := .seq c50_38 c50_50
def c50_35 : ACode := .seq c50_36 c50_37
def c50_8 : ACode := .seq c50_9 c50_35
def c50_6 : ACode := .seq c50_7 c50_8
def c50_4 : ACode := .seq c50_5 c50_6
def c50_2 : ACode := .seq c50_3 c50_4
def c50_0 : ACode := .seq c50_1 c50_2
def vm50 : List Nat := [0, 2, 3, 4, 5, 6, 7, 8, 9, 18, 23, 32, 43]
def c50 : AFn := ⟨1, 13, [.var 1], c50_0⟩
/- 51 girouette/girouettelaw05.letters : slots [0, 2, 3, 4, 12] -/
def o51_1 : List AOper := [⟨[.const (.str [])],fMove,none,0⟩]
def c51_1 : ACode := .region o51_1 [(1,0)] false
def o51_3 : List AOper := [⟨[.const .nilslice],fMove,none,0⟩]
def c51_3 : ACode := .region o51_3 [(2,0)] false
def o51_6 : List AOper := [⟨[.const (.int .i64 (.ofNat 0))],fMove,none,0⟩]
def c51_6 : ACode := .region o51_6 [(3,0)] false
def o51_11 : List AOper := [⟨[.var 3],fMove,none,0⟩,
  ⟨[.var 0],fMove,none,0⟩,
  ⟨[.loc 0],fLenStr,none,2⟩,
  ⟨[.loc 2,.loc 0],fBin .lss,none,7⟩,
  ⟨[.loc 0],fMove,none,15⟩,
  ⟨[.var 3],fMove,(some (0,true)),31⟩,
  ⟨[.loc 0,.const (.int .i64 (.ofNat 11))],fBin .lss,(some (1,true)),63⟩,
  ⟨[.loc 2,.loc 0,.const (.bool false)],fPick,none,127⟩]
def c51_11 : ACode := .region o51_11 [(4,0)] false
def c51_12 : ACode := .cond (.var 4) .skip (.exit 0)
def c51_10 : ACode := .seq c51_11 c51_12
def o51_15 : List AOper := [⟨[.var 2],fMove,none,0⟩,
  ⟨[.var 0],fMove,none,0⟩,
  ⟨[.var 3],fMove,none,0⟩,
  ⟨[.loc 1,.loc 0],fIndexStr,none,6⟩,
  ⟨[.loc 0,.const (.int .u8 (.ofNat 2))],fBin .rem,none,14⟩,
  ⟨[.const (.str [76,82]),.loc 0],fIndexStr,none,30⟩,
  ⟨[.loc 0],fBuildSlice 1 1 [(.int .u8 (.ofNat 0))] [(0,1)],none,62⟩,
  ⟨[.loc 6,.loc 0],fAppend 1 1,none,127⟩,
  ⟨[.loc 0],fMove,none,255⟩]
def c51_15 : ACode := .region o51_15 [(2,0)] false
def c51_14 : ACode := .block 1 c51_15
def o51_16 : List AOper := [⟨[.var 3],fMove,none,0⟩,
  ⟨[.loc 0,.const (.int .i64 (.ofNat 1))],fBin .add,none,1⟩,
  ⟨[.loc 0],fMove,none,3⟩]
def c51_16 : ACode := .region o51_16 [(3,0)] false
def c51_13 : ACode := .seq c51_14 c51_16
def c51_9 : ACode := .seq c51_10 c51_13
def c51_8 : ACode := .loop c51_9
def c51_7 : ACode := .block 0 c51_8
def c51_5 : ACode := .seq c51_6 c51_7
def o51_18 : List AOper := [⟨[.var 2],fMove,none,0⟩,
  ⟨[.loc 0],fBytesToStr,none,1⟩,
  ⟨[.loc 0],fMove,none,3⟩]
def c51_18 : ACode := .region o51_18 [(1,0)] false
def c51_17 : ACode := .seq c51_18 .ret
def c51_4 : ACode := .seq c51_5 c51_17
def c51_2 : ACode := .seq c51_3 c51_4
def c51_0 : ACode := .seq c51_1 c51_2
def vm51 : List Nat := [0, 2, 3, 4, 12]
def c51 : AFn := ⟨1, 5, [.var 1], c51_0⟩
/- 52 girouette/girouetteref05.After : slots [0, 1, 4, 5, 6, 7, 8, 19, 29, 32, 35] -/
def o52_1 : List AOper := [⟨[.const (.bool false)],fMove,none,0⟩]
def c52_1 : ACode := .region o52_1 [(2,0)] false
def o52_3 : List AOper := [⟨[.var 0],fMove,none,0⟩,
  ⟨[.const (.func (.func 108) [] []),.loc 0],fCall,none,1⟩,
  ⟨[.loc 0],fMove,none,3⟩,
  ⟨[.loc 0],fExtract 0,none,7⟩,
  ⟨[.loc 1],fExtract 1,none,7⟩,
  ⟨[.loc 1],fMove,none,15⟩,
  ⟨[.loc 1],fMove,none,63⟩]
def c52_3 : ACode := .region o52_3 [(3,1),(4,0)] false
def o52_5 : List AOper := [⟨[.var 1],fMove,none,0⟩,
  ⟨[.const (.func (.func 108) [] []),.loc 0],fCall,none,1⟩,
  ⟨[.loc 0],fMove,none,3⟩,
  ⟨[.loc 0],fExtract 0,none,7⟩,
  ⟨[.loc 1],fExtract 1,none,7⟩,
  ⟨[.loc 1],fMove,none,15⟩,
  ⟨[.loc 1],fMove,none,63⟩]
def c52_5 : ACode := .region o52_5 [(5,1),(6,0)] false
def o52_9 : List AOper := [⟨[.var 4],fMove,none,0⟩,
  ⟨[.loc 0,.const (.int .i64 (.ofNat 1))],fBin .eql,none,1⟩,
  ⟨[.loc 0],fMove,none,3⟩,
  ⟨[.var 6],fMove,(some (0,true)),7⟩,
  ⟨[.loc 0,.const (.int .i64 (.ofNat 1))],fBin .eql,(some (1,true)),15⟩,
  ⟨[.loc 2,.loc 0,.const (.bool false)],fPick,none,31⟩,
  ⟨[.loc 0],fMove,none,63⟩]
def c52_9 : ACode := .region o52_9 [(7,0)] false
def o52_12 : List AOper := [⟨[.var 5],fMove,none,0⟩,
  ⟨[.var 3],fMove,none,0⟩,
  ⟨[.loc 1,.loc 0],fBin .lss,none,3⟩,
  ⟨[.loc 0],fMove,none,7⟩]
def c52_12 : ACode := .region o52_12 [(2,0)] false
def c52_11 : ACode := .seq c52_12 .ret
def o52_14 : List AOper := [⟨[.var 4],fMove,none,0⟩,
  ⟨[.loc 0,.const (.int .i64 (.ofNat 1))],fBin .eql,none,1⟩,
  ⟨[.loc 0],fMove,none,3⟩]
def c52_14 : ACode := .region o52_14 [(8,0)] false
def o52_17 : List AOper := [⟨[.const (.bool false)],fMove,none,0⟩]
def c52_17 : ACode := .region o52_17 [(2,0)] false
def c52_16 : ACode := .seq c52_17 .ret
def o52_19 : List AOper := [⟨[.var 6],fMove,none,0⟩,
  ⟨[.loc 0,.const (.int .i64 (.ofNat 1))],fBin .eql,none,1⟩,
  ⟨[.loc 0],fMove,none,3⟩]
def c52_19 : ACode := .region o52_19 [(9,0)] false
def o52_22 : List AOper := [⟨[.const (.bool true)],fMove,none,0⟩]
def c52_22 : ACode := .region o52_22 [(2,0)] false
def c52_21 : ACode := .seq c52_22 .ret
def o52_24 : List AOper := [⟨[.var 3],fMove,none,0⟩,
  ⟨[.var 5],fMove,none,0⟩,
  ⟨[.loc 1,.loc 0],fBin .neq,none,3⟩,
  ⟨[.loc 0],fMove,none,7⟩]
def c52_24 : ACode := .region o52_24 [(10,0)] false
def o52_27 : List AOper := [⟨[.var 5],fMove,none,0⟩,
  ⟨[.var 3],fMove,none,0⟩,
  ⟨[.loc 1,.loc 0],fBin .gtr,none,3⟩,
  ⟨[.loc 0],fMove,none,7⟩]
def c52_27 : ACode := .region o52_27 [(2,0)] false
def c52_26 : ACode := .seq c52_27 .ret
def c52_25 : ACode := .cond (.var 10) c52_26 .skip
def c52_23 : ACode := .seq c52_24 c52_25
def c52_20 : ACode := .cond (.var 9) c52_21 c52_23
def c52_18 : ACode := .seq c52_19 c52_20
def c52_15 : ACode := .cond (.var 8) c52_16 c52_18
def c52_13 : ACode := .seq c52_14 c52_15
def c52_10 : ACode := .cond (.var 7) c52_11 c52_13
def c52_8 : ACode := .seq c52_9 c52_10
def c52_7 : ACode := .block 0 c52_8
def o52_29 : List AOper := [⟨[.var 6],fMove,none,0⟩,
  ⟨[.var 4],fMove,none,0⟩,
  ⟨[.loc 1,.loc 0],fBin .gtr,none,3⟩,
  ⟨[.loc 0],fMove,none,7⟩]
def c52_29 : ACode := .region o52_29 [(2,0)] false
def c52_28 : ACode := .seq c52_29 .ret
def c52_6 : ACode := .seq c52_7 c52_28
def c52_4 : ACode := .seq c52_5 c52_6
def c52_2 : ACode := .seq c52_3 c52_4
def c52_0 : ACode := .seq c52_1 c52_2
def vm52 : List Nat := [0, 1, 4, 5, 6, 7, 8, 19, 29, 32, 35]
def c52 : AFn := ⟨2, 11, [.var 2], c52_0⟩
/- 53 girouette/cycles.Stefan : slots [0, 2, 3, 4, 5, 6, 7, 8, 9, 19, 26, 40, 41, 42, 43] -/
def o53_1 : List AOper := [⟨[.const .nilslice],fMove,none,0⟩,
  ⟨[.const (.int .i64 (.ofNat 0))],fMove,none,1⟩]
def c53_1 : ACode := .region o53_1 [(1,1),(2,0)] false
def o53_4 : List AOper := [⟨[.var 0],fMove,none,0⟩,
  ⟨[.loc 0,.const (.int .i64 (.ofNat 3))],fBin .neq,none,1⟩,
  ⟨[.loc 0],fMove,none,3⟩,
  ⟨[.var 0],fMove,(some (0,true)),7⟩,
  ⟨[.loc 0,.const (.int .i64 (.ofNat 5))],fBin .neq,(some (1,true)),15⟩,
  ⟨[.loc 2,.loc 0,.const (.bool false)],fPick,none,31⟩,
  ⟨[.loc 0],fMove,none,63⟩,
  ⟨[.var 0],fMove,(some (0,true)),127⟩,
  ⟨[.loc 0,.const (.int .i64 (.ofNat 7))],fBin .neq,(some (1,true)),255⟩,
  ⟨[.loc 2,.loc 0,.const (.bool false)],fPick,none,511⟩]
def c53_4 : ACode := .region o53_4 [(9,0)] false
def o53_7 : List AOper := [⟨[.const .nilslice],fMove,none,0⟩,
  ⟨[.const (.int .i64 (.ofNat 1))],fMove,none,1⟩]
def c53_7 : ACode := .region o53_7 [(1,1),(2,0)] false
def c53_6 : ACode := .seq c53_7 .ret
def c53_5 : ACode := .cond (.var 9) c53_6 .skip
def c53_3 : ACode := .seq c53_4 c53_5
def o53_9 : List AOper := [⟨[.var 0],fMove,none,0⟩,
  ⟨[.loc 0,.const (.int .i64 (.ofNat 2))],fBin .quo,none,1⟩,
  ⟨[.loc 0],fMove,none,3⟩]
def c53_9 : ACode := .region o53_9 [(3,0)] false
def o53_11 : List AOper := [⟨[.var 3],fMove,none,0⟩,
  ⟨[.loc 0],fBuildSlice 1 1 [(.int .i64 (.ofNat 0))] [(0,1)],none,1⟩,
  ⟨[.loc 0],fMove,none,3⟩]
def c53_11 : ACode := .region o53_11 [(4,0)] false
def o53_14 : List AOper := [⟨[.const (.int .i64 (.ofNat 1))],fMove,none,0⟩]
def c53_14 : ACode := .region o53_14 [(5,0)] false
def o53_19 : List AOper := [⟨[.var 5],fMove,none,0⟩,
  ⟨[.var 3],fMove,none,0⟩,
  ⟨[.loc 1,.loc 0],fBin .leq,none,3⟩]
def c53_19 : ACode := .region o53_19 [(10,0)] false
def c53_20 : ACode := .cond (.var 10) .skip (.exit 0)
def c53_18 : ACode := .seq c53_19 c53_20
def o53_23 : List AOper := [⟨[.var 4],fMove,none,0⟩,
  ⟨[.var 3],fMove,none,0⟩,
  ⟨[.var 5],fMove,none,0⟩,
  ⟨[.loc 1,.loc 0],fBin .add,none,6⟩,
  ⟨[.var 3],fMove,none,0⟩,
  ⟨[.var 5],fMove,none,0⟩,
  ⟨[.loc 1,.loc 0],fBin .sub,none,48⟩,
  ⟨[.loc 3,.loc 0],fBuildSlice 2 1 [(.int .i64 (.ofNat 0))] [(0,1),(1,1)],none,126⟩,
  ⟨[.loc 7,.loc 0],fAppend 1 8,none,255⟩,
  ⟨[.loc 0],fMove,none,511⟩]
def c53_23 : ACode := .region o53_23 [(4,0)] false
def c53_22 : ACode := .block 1 c53_23
def o53_24 : List AOper := [⟨[.var 5],fMove,none,0⟩,
  ⟨[.loc 0,.const (.int .i64 (.ofNat 1))],fBin .add,none,1⟩,
  ⟨[.loc 0],fMove,none,3⟩]
def c53_24 : ACode := .region o53_24 [(5,0)] false
def c53_21 : ACode := .seq c53_22 c53_24
def c53_17 : ACode := .seq c53_18 c53_21
def c53_16 : ACode := .loop c53_17
def c53_15 : ACode := .block 0 c53_16
def c53_13 : ACode := .seq c53_14 c53_15
def o53_26 : List AOper := [⟨[.var 0],fMove,none,0⟩,
  ⟨[.loc 0,.loc 0],fMakeSlice 1 8 [(.int .i64 (.ofNat 0))],none,1⟩,
  ⟨[.loc 0],fMove,none,3⟩]
def c53_26 : ACode := .region o53_26 [(6,0)] false
def o53_29 : List AOper := [⟨[.var 4],fMove,none,0⟩,
  ⟨[.loc 0],fLenSl,none,1⟩,
  ⟨[.const (.int .i64 (.ofNat 0))],fMove,none,0⟩]
def c53_29 : ACode := .region o53_29 [(11,2),(12,1),(13,0)] false
def o53_33 : List AOper := [⟨[.var 13,.var 12],fBin .lss,none,0⟩]
def c53_33 : ACode := .region o53_33 [(14,0)] false
def c53_35 : ACode := .cond (.var 14) .skip (.exit 2)
def o53_39 : List AOper := [⟨[.var 13],fMove,none,0⟩,
  ⟨[.var 11,.var 13],fIndexAddr 1,none,0⟩,
  ⟨[.loc 0],fLoad1,none,2⟩,
  ⟨[.loc 2],fMove,none,7⟩,
  ⟨[.loc 1],fMove,none,15⟩]
def c53_39 : ACode := .region o53_39 [(7,1),(8,0)] false
def o53_40 : List AOper := [⟨[.var 6],fMove,none,0⟩,
  ⟨[.var 8],fMove,none,0⟩,
  ⟨[.var 4],fMove,none,0⟩,
  ⟨[.var 7],fMove,none,0⟩,
  ⟨[.loc 0,.const (.int .i64 (.ofNat 1))],fBin .add,none,8⟩,
  ⟨[.var 0],fMove,none,0⟩,
  ⟨[.loc 1,.loc 0],fBin .rem,none,56⟩,
  ⟨[.loc 4,.loc 0],fIndexAddr 1,none,124⟩,
  ⟨[.loc 0],fLoad1,none,252⟩,
  ⟨[.loc 8,.loc 7],fIndexAddr 1,none,511⟩,
  ⟨[.loc 0,.loc 1],fStore 1,none,1023⟩]
def c53_40 : ACode := .region o53_40 [] false
def c53_38 : ACode := .seq c53_39 c53_40
def c53_37 : ACode := .block 3 c53_38
def o53_41 : List AOper := [⟨[.var 13,.const (.int .i64 (.ofNat 1))],fBin .add,none,0⟩,
  ⟨[.loc 0],fMove,none,1⟩]
def c53_41 : ACode := .region o53_41 [(13,0)] false
def c53_36 : ACode := .seq c53_37 c53_41
def c53_34 : ACode := .seq c53_35 c53_36
def c53_32 : ACode := .seq c53_33 c53_34
def c53_31 : ACode := .loop c53_32
def c53_30 : ACode := .block 2 c53_31
def c53_28 : ACode := .seq c53_29 c53_30
def o53_43 : List AOper := [⟨[.var 6],fMove,none,0⟩,
  ⟨[.loc 0],fMove,none,1⟩,
  ⟨[.const (.int .i64 (.ofNat 0))],fMove,none,3⟩]
def c53_43 : ACode := .region o53_43 [(1,1),(2,0)] false
def c53_42 : ACode := .seq c53_43 .ret
def c53_27 : ACode := .seq c53_28 c53_42
def c53_25 : ACode := .seq c53_26 c53_27
def c53_12 : ACode := .seq c53_13 c53_25
def c53_10 : ACode := .seq c53_11 c53_12
def c53_8 : ACode := .seq c53_9 c53_10
def c53_2 : ACode := .seq c53_3 c53_8
def c53_0 : ACode := .seq c53_1 c53_2
def vm53 : List Nat := [0, 2, 3, 4, 5, 6, 7, 8, 9, 19, 26, 40, 41, 42, 43]
def c53 : AFn := ⟨1, 15, [.var 1,.var 2], c53_0⟩
/- 54 girouette/girouetteref05.Plains : slots [0, 1, 4, 5, 6, 12, 18] -/
def o54_1 : List AOper := [⟨[.const (.int .i64 (.ofNat 0))],fMove,none,0⟩]
def c54_1 : ACode := .region o54_1 [(2,0)] false
def o54_3 : List AOper := [⟨[.var 0],fMove,none,0⟩,
  ⟨[.var 1],fMove,none,0⟩,
  ⟨[.const (.func (.func 70) [] []),.loc 1,.loc 0],fCall,none,3⟩,
  ⟨[.loc 0],fMove,none,7⟩]
def c54_3 : ACode := .region o54_3 [(3,0)] false
def o54_6 : List AOper := [⟨[.const (.int .i64 (.ofNat 1))],fMove,none,0⟩]
def c54_6 : ACode := .region o54_6 [(4,0)] false
def o54_11 : List AOper := [⟨[.var 4],fMove,none,0⟩,
  ⟨[.var 1],fMove,none,0⟩,
  ⟨[.loc 1,.loc 0],fBin .lss,none,3⟩]
def c54_11 : ACode := .region o54_11 [(5,0)] false
def c54_12 : ACode := .cond (.var 5) .skip (.exit 0)
def c54_10 : ACode := .seq c54_11 c54_12
def o54_16 : List AOper := [⟨[.var 1],fMove,none,0⟩,
  ⟨[.var 4],fMove,none,0⟩,
  ⟨[.loc 1,.loc 0],fBin .rem,none,3⟩,
  ⟨[.loc 0,.const (.int .i64 (.ofNat 0))],fBin .eql,none,7⟩]
def c54_16 : ACode := .region o54_16 [(6,0)] false
def o54_18 : List AOper := [⟨[.var 3],fMove,none,0⟩,
  ⟨[.var 0],fMove,none,0⟩,
  ⟨[.var 4],fMove,none,0⟩,
  ⟨[.const (.func (.func 54) [] []),.loc 1,.loc 0],fCall,none,6⟩,
  ⟨[.loc 3,.loc 0],fBin .sub,none,15⟩,
  ⟨[.loc 0],fMove,none,31⟩]
def c54_18 : ACode := .region o54_18 [(3,0)] false
def c54_17 : ACode := .cond (.var 6) c54_18 .skip
def c54_15 : ACode := .seq c54_16 c54_17
def c54_14 : ACode := .block 1 c54_15
def o54_19 : List AOper := [⟨[.var 4],fMove,none,0⟩,
  ⟨[.loc 0,.const (.int .i64 (.ofNat 1))],fBin .add,none,1⟩,
  ⟨[.loc 0],fMove,none,3⟩]
def c54_19 : ACode := .region o54_19 [(4,0)] false
def c54_13 : ACode := .seq c54_14 c54_19
def c54_9 : ACode := .seq c54_10 c54_13
def c54_8 : ACode := .loop c54_9
def c54_7 : ACode := .block 0 c54_8
def c54_5 : ACode := .seq c54_6 c54_7
def o54_21 : List AOper := [⟨[.var 3],fMove,none,0⟩,
  ⟨[.loc 0],fMove,none,1⟩]
def c54_21 : ACode := .region o54_21 [(2,0)] false
def c54_20 : ACode := .seq c54_21 .ret
def c54_4 : ACode := .seq c54_5 c54_20
def c54_2 : ACode := .seq c54_3 c54_4
def c54_0 : ACode := .seq c54_1 c54_2
def vm54 : List Nat := [0, 1, 4, 5, 6, 12, 18]
def c54 : AFn := ⟨2, 7, [.var 2], c54_0⟩
/- 55 girouette/girouetteref05.Plain : slots [0, 2, 3, 4, 5, 9, 23, 37] -/
def o55_1 : List AOper := [⟨[.const (.bool false)],fMove,none,0⟩]
def c55_1 : ACode := .region o55_1 [(1,0)] false
def o55_4 : List AOper := [⟨[.const (.int .i64 (.ofNat 1))],fMove,none,0⟩]
def c55_4 : ACode := .region o55_4 [(2,0)] false
def o55_9 : List AOper := [⟨[.var 2],fMove,none,0⟩,
  ⟨[.var 0],fMove,none,0⟩,
  ⟨[.loc 0],fLenSl,none,2⟩,
  ⟨[.loc 2,.loc 0],fBin .lss,none,7⟩]
def c55_9 : ACode := .region o55_9 [(5,0)] false
def c55_10 : ACode := .cond (.var 5) .skip (.exit 0)
def c55_8 : ACode := .seq c55_9 c55_10
def o55_14 : List AOper := [⟨[.var 0],fMove,none,0⟩,
  ⟨[.loc 0],fLenSl,none,1⟩,
  ⟨[.var 2],fMove,none,0⟩,
  ⟨[.loc 1,.loc 0],fBin .rem,none,7⟩,
  ⟨[.loc 0,.const (.int .i64 (.ofNat 0))],fBin .eql,none,15⟩,
  ⟨[.loc 0],fMove,none,31⟩]
def c55_14 : ACode := .region o55_14 [(3,0)] false
def o55_17 : List AOper := [⟨[.const (.int .i64 (.ofNat 0))],fMove,none,0⟩]
def c55_17 : ACode := .region o55_17 [(4,0)] false
def o55_22 : List AOper := [⟨[.var 4],fMove,none,0⟩,
  ⟨[.var 0],fMove,none,0⟩,
  ⟨[.loc 0],fLenSl,none,2⟩,
  ⟨[.loc 2,.loc 0],fBin .lss,none,7⟩,
  ⟨[.loc 0],fMove,none,15⟩,
  ⟨[.var 3],fMove,(some (0,true)),31⟩,
  ⟨[.loc 1,.loc 0,.const (.bool false)],fPick,none,63⟩]
def c55_22 : ACode := .region o55_22 [(6,0)] false
def c55_23 : ACode := .cond (.var 6) .skip (.exit 2)
def c55_21 : ACode := .seq c55_22 c55_23
def o55_26 : List AOper := [⟨[.var 0],fMove,none,0⟩,
  ⟨[.var 4],fMove,none,0⟩,
  ⟨[.loc 1,.loc 0],fIndexAddr 1,none,3⟩,
  ⟨[.loc 0],fLoad1,none,7⟩,
  ⟨[.var 0],fMove,none,0⟩,
  ⟨[.var 4],fMove,none,0⟩,
  ⟨[.var 2],fMove,none,0⟩,
  ⟨[.loc 1,.loc 0],fBin .rem,none,96⟩,
  ⟨[.loc 3,.loc 0],fIndexAddr 1,none,240⟩,
  ⟨[.loc 0],fLoad1,none,496⟩,
  ⟨[.loc 6,.loc 0],fBin .eql,none,1023⟩,
  ⟨[.loc 0],fMove,none,2047⟩]
def c55_26 : ACode := .region o55_26 [(3,0)] true
def c55_25 : ACode := .block 3 c55_26
def o55_27 : List AOper := [⟨[.var 4],fMove,none,0⟩,
  ⟨[.loc 0,.const (.int .i64 (.ofNat 1))],fBin .add,none,1⟩,
  ⟨[.loc 0],fMove,none,3⟩]
def c55_27 : ACode := .region o55_27 [(4,0)] false
def c55_24 : ACode := .seq c55_25 c55_27
def c55_20 : ACode := .seq c55_21 c55_24
def c55_19 : ACode := .loop c55_20
def c55_18 : ACode := .block 2 c55_19
def c55_16 : ACode := .seq c55_17 c55_18
def o55_29 : List AOper := [⟨[.var 3],fMove,none,0⟩]
def c55_29 : ACode := .region o55_29 [(7,0)] false
def o55_32 : List AOper := [⟨[.const (.bool false)],fMove,none,0⟩]
def c55_32 : ACode := .region o55_32 [(1,0)] false
def c55_31 : ACode := .seq c55_32 .ret
def c55_30 : ACode := .cond (.var 7) c55_31 .skip
def c55_28 : ACode := .seq c55_29 c55_30
def c55_15 : ACode := .seq c55_16 c55_28
def c55_13 : ACode := .seq c55_14 c55_15
def c55_12 : ACode := .block 1 c55_13
def o55_33 : List AOper := [⟨[.var 2],fMove,none,0⟩,
  ⟨[.loc 0,.const (.int .i64 (.ofNat 1))],fBin .add,none,1⟩,
  ⟨[.loc 0],fMove,none,3⟩]
def c55_33 : ACode := .region o55_33 [(2,0)] false
def c55_11 : ACode := .seq c55_12 c55_33
def c55_7 : ACode := .seq c55_8 c55_11
def c55_6 : ACode := .loop c55_7
def c55_5 : ACode := .block 0 c55_6
def c55_3 : ACode := .seq c55_4 c55_5
def o55_35 : List AOper := [⟨[.const (.bool true)],fMove,none,0⟩]
def c55_35 : ACode := .region o55_35 [(1,0)] false
def c55_34 : ACode := .seq c55_35 .ret
def c55_2 : ACode := .seq c55_3 c55_34
def c55_0 : ACode := .seq c55_1 c55_2
def vm55 : List Nat := [0, 2, 3, 4, 5, 9, 23, 37]
def c55 : AFn := ⟨1, 8, [.var 1], c55_0⟩
/- 56 girouette/cycles.Loops : slots [0, 1, 4, 5, 6, 7, 14, 18] -/
def o56_1 : List AOper := [⟨[.const (.int .i64 (.ofNat 0))],fMove,none,0⟩,
  ⟨[.const (.int .i64 (.ofNat 0))],fMove,none,1⟩]
def c56_1 : ACode := .region o56_1 [(2,1),(3,0)] false
def o56_3 : List AOper := [⟨[.var 0],fMove,none,0⟩,
  ⟨[.const (.func (.func 91) [] []),.loc 0],fCall,none,1⟩,
  ⟨[.loc 0],fMove,none,3⟩,
  ⟨[.loc 0],fExtract 0,none,7⟩,
  ⟨[.loc 1],fExtract 1,none,7⟩,
  ⟨[.loc 1],fMove,none,15⟩,
  ⟨[.loc 1],fMove,none,63⟩]
def c56_3 : ACode := .region o56_3 [(4,1),(5,0)] false
def o56_6 : List AOper := [⟨[.var 5],fMove,none,0⟩,
  ⟨[.loc 0,.const (.int .i64 (.ofNat 0))],fBin .neq,none,1⟩]
def c56_6 : ACode := .region o56_6 [(6,0)] false
def o56_9 : List AOper := [⟨[.var 5],fMove,none,0⟩,
  ⟨[.const (.int .i64 (.ofNat 0))],fMove,none,0⟩,
  ⟨[.loc 1],fMove,none,3⟩]
def c56_9 : ACode := .region o56_9 [(2,1),(3,0)] false
def c56_8 : ACode := .seq c56_9 .ret
def c56_7 : ACode := .cond (.var 6) c56_8 .skip
def c56_5 : ACode := .seq c56_6 c56_7
def o56_12 : List AOper := [⟨[.var 1],fMove,none,0⟩,
  ⟨[.const (.func (.func 109) [] []),.loc 0],fCall,none,1⟩,
  ⟨[.loc 0],fUn .not,none,3⟩]
def c56_12 : ACode := .region o56_12 [(7,0)] false
def o56_15 : List AOper := [⟨[.const (.int .i64 (.ofNat 0))],fMove,none,0⟩,
  ⟨[.const (.int .i64 (.ofNat 1))],fMove,none,1⟩]
def c56_15 : ACode := .region o56_15 [(2,1),(3,0)] false
def c56_14 : ACode := .seq c56_15 .ret
def c56_13 : ACode := .cond (.var 7) c56_14 .skip
def c56_11 : ACode := .seq c56_12 c56_13
def o56_17 : List AOper := [⟨[.var 4],fMove,none,0⟩,
  ⟨[.var 1],fMove,none,0⟩,
  ⟨[.const (.func (.func 110) [] []),.loc 1,.loc 0],fCall,none,3⟩,
  ⟨[.loc 0],fMove,none,7⟩,
  ⟨[.const (.int .i64 (.ofNat 0))],fMove,none,15⟩]
def c56_17 : ACode := .region o56_17 [(2,1),(3,0)] false
def c56_16 : ACode := .seq c56_17 .ret
def c56_10 : ACode := .seq c56_11 c56_16
def c56_4 : ACode := .seq c56_5 c56_10
def c56_2 : ACode := .seq c56_3 c56_4
def c56_0 : ACode := .seq c56_1 c56_2
def vm56 : List Nat := [0, 1, 4, 5, 6, 7, 14, 18]
def c56 : AFn := ⟨2, 8, [.var 2,.var 3], c56_0⟩
/- 66 girouette/cycles.Covers : slots [0, 1, 2, 6, 7, 8, 9, 16, 27] -/
def o66_1 : List AOper := [⟨[.const (.bool false)],fMove,none,0⟩,
  ⟨[.const (.int .i64 (.ofNat 0))],fMove,none,1⟩]
def c66_1 : ACode := .region o66_1 [(3,1),(4,0)] false
def o66_3 : List AOper := [⟨[.var 0],fMove,none,0⟩,
  ⟨[.const (.func (.func 91) [] []),.loc 0],fCall,none,1⟩,
  ⟨[.loc 0],fMove,none,3⟩,
  ⟨[.loc 0],fExtract 0,none,7⟩,
  ⟨[.loc 1],fExtract 1,none,7⟩,
  ⟨[.loc 1],fMove,none,15⟩,
  ⟨[.loc 1],fMove,none,63⟩]
def c66_3 : ACode := .region o66_3 [(5,1),(6,0)] false
def o66_6 : List AOper := [⟨[.var 6],fMove,none,0⟩,
  ⟨[.loc 0,.const (.int .i64 (.ofNat 0))],fBin .neq,none,1⟩]
def c66_6 : ACode := .region o66_6 [(7,0)] false
def o66_9 : List AOper := [⟨[.var 6],fMove,none,0⟩,
  ⟨[.const (.bool false)],fMove,none,0⟩,
  ⟨[.loc 1],fMove,none,3⟩]
def c66_9 : ACode := .region o66_9 [(3,1),(4,0)] false
def c66_8 : ACode := .seq c66_9 .ret
def c66_7 : ACode := .cond (.var 7) c66_8 .skip
def c66_5 : ACode := .seq c66_6 c66_7
def o66_12 : List AOper := [⟨[.var 5],fMove,none,0⟩,
  ⟨[.var 1],fMove,none,0⟩,
  ⟨[.const (.func (.func 116) [] []),.loc 1,.loc 0],fCall,none,3⟩,
  ⟨[.loc 0],fUn .not,none,7⟩,
  ⟨[.loc 0],fMove,none,15⟩,
  ⟨[.var 5],fMove,(some (0,false)),31⟩,
  ⟨[.var 2],fMove,(some (1,false)),31⟩,
  ⟨[.const (.func (.func 116) [] []),.loc 1,.loc 0],fCall,(some (2,false)),127⟩,
  ⟨[.loc 0],fUn .not,(some (3,false)),255⟩,
  ⟨[.loc 4,.const (.bool true),.loc 0],fPick,none,511⟩]
def c66_12 : ACode := .region o66_12 [(8,0)] false
def o66_15 : List AOper := [⟨[.const (.bool false)],fMove,none,0⟩,
  ⟨[.const (.int .i64 (.ofNat 1))],fMove,none,1⟩]
def c66_15 : ACode := .region o66_15 [(3,1),(4,0)] false
def c66_14 : ACode := .seq c66_15 .ret
def c66_13 : ACode := .cond (.var 8) c66_14 .skip
def c66_11 : ACode := .seq c66_12 c66_13
def o66_17 : List AOper := [⟨[.var 5],fMove,none,0⟩,
  ⟨[.var 1],fMove,none,0⟩,
  ⟨[.var 2],fMove,none,0⟩,
  ⟨[.const (.func (.func 117) [] []),.loc 2,.loc 1,.loc 0],fCall,none,7⟩,
  ⟨[.loc 0],fMove,none,15⟩,
  ⟨[.const (.int .i64 (.ofNat 0))],fMove,none,31⟩]
def c66_17 : ACode := .region o66_17 [(3,1),(4,0)] false
def c66_16 : ACode := .seq c66_17 .ret
def c66_10 : ACode := .seq c66_11 c66_16
def c66_4 : ACode := .seq c66_5 c66_10
def c66_2 : ACode := .seq c66_3 c66_4
def c66_0 : ACode := .seq c66_1 c66_2
def vm66 : List Nat := [0, 1, 2, 6, 7, 8, 9, 16, 27]
def c66 : AFn := ⟨3, 9, [.var 3,.var 4], c66_0⟩
/- 67 girouette/girouetteref05.Covers : slots [0, 1, 2, 6] -/
def o67_1 : List AOper := [⟨[.const (.bool false)],fMove,none,0⟩]
def c67_1 : ACode := .region o67_1 [(3,0)] false
def o67_3 : List AOper := [⟨[.var 2],fMove,none,0⟩,
  ⟨[.var 0],fMove,none,0⟩,
  ⟨[.var 1],fMove,none,0⟩,
  ⟨[.loc 1,.loc 0],fIndexAddr 1,none,6⟩,
  ⟨[.loc 0],fLoad1,none,14⟩,
  ⟨[.var 0],fMove,none,0⟩,
  ⟨[.var 1],fMove,none,0⟩,
  ⟨[.loc 0,.const (.int .i64 (.ofNat 1))],fBin .add,none,64⟩,
  ⟨[.loc 2,.loc 0],fIndexAddr 1,none,224⟩,
  ⟨[.loc 0],fLoad1,none,480⟩,
  ⟨[.loc 5,.loc 0],fMin,none,1022⟩,
  ⟨[.loc 10,.loc 0],fBin .geq,none,2047⟩,
  ⟨[.loc 0],fMove,none,4095⟩,
  ⟨[.var 2],fMove,(some (0,true)),8191⟩,
  ⟨[.var 0],fMove,(some (1,true)),8191⟩,
  ⟨[.var 1],fMove,(some (2,true)),8191⟩,
  ⟨[.loc 1,.loc 0],fIndexAddr 1,(some (3,true)),57343⟩,
  ⟨[.loc 0],fLoad1,(some (4,true)),122879⟩,
  ⟨[.var 0],fMove,(some (5,true)),8191⟩,
  ⟨[.var 1],fMove,(some (6,true)),8191⟩,
  ⟨[.loc 0,.const (.int .i64 (.ofNat 1))],fBin .add,(some (7,true)),532479⟩,
  ⟨[.loc 2,.loc 0],fIndexAddr 1,(some (8,true)),1843199⟩,
  ⟨[.loc 0],fLoad1,(some (9,true)),3940351⟩,
  ⟨[.loc 5,.loc 0],fMax,(some (10,true)),8380415⟩,
  ⟨[.loc 10,.loc 0],fBin .lss,(some (11,true)),16777215⟩,
  ⟨[.loc 12,.loc 0,.const (.bool false)],fPick,none,33554431⟩,
  ⟨[.loc 0],fMove,none,67108863⟩]
def c67_3 : ACode := .region o67_3 [(3,0)] true
def c67_2 : ACode := .seq c67_3 .ret
def c67_0 : ACode := .seq c67_1 c67_2
def vm67 : List Nat := [0, 1, 2, 6]
def c67 : AFn := ⟨3, 4, [.var 3], c67_0⟩
/- 68 girouette/cycles.Loop : slots [0, 1, 4, 5, 6, 7, 8, 9, 16, 20] -/
def o68_1 : List AOper := [⟨[.const .nilslice],fMove,none,0⟩,
  ⟨[.const (.bool false)],fMove,none,1⟩,
  ⟨[.const (.int .i64 (.ofNat 0))],fMove,none,3⟩]
def c68_1 : ACode := .region o68_1 [(2,2),(3,1),(4,0)] false
def o68_3 : List AOper := [⟨[.var 0],fMove,none,0⟩,
  ⟨[.const (.func (.func 91) [] []),.loc 0],fCall,none,1⟩,
  ⟨[.loc 0],fMove,none,3⟩,
  ⟨[.loc 0],fExtract 0,none,7⟩,
  ⟨[.loc 1],fExtract 1,none,7⟩,
  ⟨[.loc 1],fMove,none,15⟩,
  ⟨[.loc 1],fMove,none,63⟩]
def c68_3 : ACode := .region o68_3 [(5,1),(6,0)] false
def o68_6 : List AOper := [⟨[.var 6],fMove,none,0⟩,
  ⟨[.loc 0,.const (.int .i64 (.ofNat 0))],fBin .neq,none,1⟩]
def c68_6 : ACode := .region o68_6 [(8,0)] false
def o68_9 : List AOper := [⟨[.var 6],fMove,none,0⟩,
  ⟨[.const .nilslice],fMove,none,0⟩,
  ⟨[.const (.bool false)],fMove,none,2⟩,
  ⟨[.loc 2],fMove,none,7⟩]
def c68_9 : ACode := .region o68_9 [(2,2),(3,1),(4,0)] false
def c68_8 : ACode := .seq c68_9 .ret
def c68_7 : ACode := .cond (.var 8) c68_8 .skip
def c68_5 : ACode := .seq c68_6 c68_7
def o68_12 : List AOper := [⟨[.var 1],fMove,none,0⟩,
  ⟨[.const (.func (.func 109) [] []),.loc 0],fCall,none,1⟩,
  ⟨[.loc 0],fUn .not,none,3⟩]
def c68_12 : ACode := .region o68_12 [(9,0)] false
def o68_15 : List AOper := [⟨[.const .nilslice],fMove,none,0⟩,
  ⟨[.const (.bool false)],fMove,none,1⟩,
  ⟨[.const (.int .i64 (.ofNat 1))],fMove,none,3⟩]
def c68_15 : ACode := .region o68_15 [(2,2),(3,1),(4,0)] false
def c68_14 : ACode := .seq c68_15 .ret
def c68_13 : ACode := .cond (.var 9) c68_14 .skip
def c68_11 : ACode := .seq c68_12 c68_13
def o68_17 : List AOper := [⟨[.var 5],fMove,none,0⟩,
  ⟨[.var 1],fMove,none,0⟩,
  ⟨[.const (.func (.func 104) [] []),.loc 1,.loc 0],fCall,none,3⟩,
  ⟨[.loc 0],fMove,none,7⟩]
def c68_17 : ACode := .region o68_17 [(7,0)] false
def o68_19 : List AOper := [⟨[.var 7],fMove,none,0⟩,
  ⟨[.var 7],fMove,none,0⟩,
  ⟨[.loc 0,.const .nilslice],fEqNil true,none,2⟩,
  ⟨[.loc 2],fMove,none,1⟩,
  ⟨[.loc 1],fMove,none,15⟩,
  ⟨[.const (.int .i64 (.ofNat 0))],fMove,none,31⟩]
def c68_19 : ACode := .region o68_19 [(2,2),(3,1),(4,0)] false
def c68_18 : ACode := .seq c68_19 .ret
def c68_16 : ACode := .seq c68_17 c68_18
def c68_10 : ACode := .seq c68_11 c68_16
def c68_4 : ACode := .seq c68_5 c68_10
def c68_2 : ACode := .seq c68_3 c68_4
def c68_0 : ACode := .seq c68_1 c68_2
def vm68 : List Nat := [0, 1, 4, 5, 6, 7, 8, 9, 16, 20]
def c68 : AFn := ⟨2, 10, [.var 2,.var 3,.var 4], c68_0⟩
/- 69 girouette/girouetteref05.Loop : slots [0, 1, 4, 8] -/
def o69_1 : List AOper := [⟨[.const .nilslice],fMove,none,0⟩]
def c69_1 : ACode := .region o69_1 [(2,0)] false
def o69_4 : List AOper := [⟨[.var 0],fMove,none,0⟩,
  ⟨[.var 1],fMove,none,0⟩,
  ⟨[.const (.func (.func 54) [] []),.loc 1,.loc 0],fCall,none,3⟩,
  ⟨[.loc 0,.const (.int .i64 (.ofNat 0))],fBin .eql,none,7⟩]
def c69_4 : ACode := .region o69_4 [(3,0)] false
def o69_7 : List AOper := [⟨[.const .nilslice],fMove,none,0⟩]
def c69_7 : ACode := .region o69_7 [(2,0)] false
def c69_6 : ACode := .seq c69_7 .ret
def c69_5 : ACode := .cond (.var 3) c69_6 .skip
def c69_3 : ACode := .seq c69_4 c69_5
def o69_9 : List AOper := [⟨[.var 0],fMove,none,0⟩,
  ⟨[.var 1],fMove,none,0⟩,
  ⟨[.const (.func (.func 118) [] []),.loc 1,.loc 0,.const .nilslice],fCall,none,3⟩,
  ⟨[.loc 0],fMove,none,7⟩]
def c69_9 : ACode := .region o69_9 [(2,0)] false
def c69_8 : ACode := .seq c69_9 .ret
def c69_2 : ACode := .seq c69_3 c69_8
def c69_0 : ACode := .seq c69_1 c69_2
def vm69 : List Nat := [0, 1, 4, 8]
def c69 : AFn := ⟨2, 4, [.var 2], c69_0⟩
/- 70 girouette/girouetteref05.Loops : slots [0, 1, 4, 5, 6, 7, 8, 9, 10, 11, 12, 18, 28, 35, 40, 46] -/
def o70_1 : List AOper := [⟨[.const (.int .i64 (.ofNat 0))],fMove,none,0⟩]
def c70_1 : ACode := .region o70_1 [(2,0)] false
def o70_3 : List AOper := [⟨[.var 0],fMove,none,0⟩,
  ⟨[.loc 0],fLenSl,none,1⟩,
  ⟨[.loc 0,.const (.int .i64 (.ofNat 1))],fBin .sub,none,3⟩,
  ⟨[.loc 0],fMove,none,7⟩]
def c70_3 : ACode := .region o70_3 [(3,0)] false
def o70_5 : List AOper := [⟨[.const (.int .i64 (.ofNat 0))],fMove,none,0⟩]
def c70_5 : ACode := .region o70_5 [(4,0)] false
def o70_8 : List AOper := [⟨[.const (.int .i64 (.ofNat 0))],fMove,none,0⟩]
def c70_8 : ACode := .region o70_8 [(5,0)] false
def o70_13 : List AOper := [⟨[.var 5],fMove,none,0⟩,
  ⟨[.var 3],fMove,none,0⟩,
  ⟨[.loc 1,.loc 0],fBin .lss,none,3⟩]
def c70_13 : ACode := .region o70_13 [(11,0)] false
def c70_14 : ACode := .cond (.var 11) .skip (.exit 0)
def c70_12 : ACode := .seq c70_13 c70_14
def o70_18 : List AOper := [⟨[.var 3],fMove,none,0⟩,
  ⟨[.loc 0,.loc 0],fMakeSlice 1 8 [(.int .i64 (.ofNat 0))],none,1⟩,
  ⟨[.loc 0],fMove,none,3⟩]
def c70_18 : ACode := .region o70_18 [(6,0)] false
def o70_20 : List AOper := [⟨[.var 6],fMove,none,0⟩,
  ⟨[.var 5],fMove,none,0⟩,
  ⟨[.loc 1,.loc 0],fIndexAddr 1,none,3⟩,
  ⟨[.loc 0,.const (.int .i64 (.ofNat 1))],fStore 1,none,7⟩]
def c70_20 : ACode := .region o70_20 [] false
def o70_23 : List AOper := [⟨[.const (.int .i64 (.ofNat 0))],fMove,none,0⟩]
def c70_23 : ACode := .region o70_23 [(7,0)] false
def o70_28 : List AOper := [⟨[.var 7],fMove,none,0⟩,
  ⟨[.var 1],fMove,none,0⟩,
  ⟨[.loc 1,.loc 0],fBin .lss,none,3⟩]
def c70_28 : ACode := .region o70_28 [(12,0)] false
def c70_29 : ACode := .cond (.var 12) .skip (.exit 2)
def c70_27 : ACode := .seq c70_28 c70_29
def o70_33 : List AOper := [⟨[.var 3],fMove,none,0⟩,
  ⟨[.loc 0,.loc 0],fMakeSlice 1 8 [(.int .i64 (.ofNat 0))],none,1⟩,
  ⟨[.loc 0],fMove,none,3⟩]
def c70_33 : ACode := .region o70_33 [(8,0)] false
def o70_36 : List AOper := [⟨[.const (.int .i64 (.ofNat 0))],fMove,none,0⟩]
def c70_36 : ACode := .region o70_36 [(9,0)] false
def o70_41 : List AOper := [⟨[.var 9],fMove,none,0⟩,
  ⟨[.var 3],fMove,none,0⟩,
  ⟨[.loc 1,.loc 0],fBin .lss,none,3⟩]
def c70_41 : ACode := .region o70_41 [(13,0)] false
def c70_42 : ACode := .cond (.var 13) .skip (.exit 4)
def c70_40 : ACode := .seq c70_41 c70_42
def o70_46 : List AOper := [⟨[.const (.int .i64 (.ofNat 0))],fMove,none,0⟩]
def c70_46 : ACode := .region o70_46 [(10,0)] false
def o70_51 : List AOper := [⟨[.var 10],fMove,none,0⟩,
  ⟨[.var 3],fMove,none,0⟩,
  ⟨[.loc 1,.loc 0],fBin .lss,none,3⟩]
def c70_51 : ACode := .region o70_51 [(14,0)] false
def c70_52 : ACode := .cond (.var 14) .skip (.exit 6)
def c70_50 : ACode := .seq c70_51 c70_52
def o70_56 : List AOper := [⟨[.var 0],fMove,none,0⟩,
  ⟨[.var 9],fMove,none,0⟩,
  ⟨[.var 10],fMove,none,0⟩,
  ⟨[.const (.func (.func 67) [] []),.loc 2,.loc 1,.loc 0],fCall,none,7⟩]
def c70_56 : ACode := .region o70_56 [(15,0)] false
def o70_58 : List AOper := [⟨[.var 8],fMove,none,0⟩,
  ⟨[.var 10],fMove,none,0⟩,
  ⟨[.var 8],fMove,none,0⟩,
  ⟨[.var 10],fMove,none,0⟩,
  ⟨[.loc 1,.loc 0],fIndexAddr 1,none,12⟩,
  ⟨[.loc 0],fLoad1,none,28⟩,
  ⟨[.var 6],fMove,none,0⟩,
  ⟨[.var 9],fMove,none,0⟩,
  ⟨[.loc 1,.loc 0],fIndexAddr 1,none,192⟩,
  ⟨[.loc 0],fLoad1,none,448⟩,
  ⟨[.loc 4,.loc 0],fBin .add,none,1020⟩,
  ⟨[.loc 10,.loc 9],fIndexAddr 1,none,2047⟩,
  ⟨[.loc 0,.loc 1],fStore 1,none,4095⟩]
def c70_58 : ACode := .region o70_58 [] true
def c70_57 : ACode := .cond (.var 15) c70_58 .skip
def c70_55 : ACode := .seq c70_56 c70_57
def c70_54 : ACode := .block 7 c70_55
def o70_59 : List AOper := [⟨[.var 10],fMove,none,0⟩,
  ⟨[.loc 0,.const (.int .i64 (.ofNat 1))],fBin .add,none,1⟩,
  ⟨[.loc 0],fMove,none,3⟩]
def c70_59 : ACode := .region o70_59 [(10,0)] false
def c70_53 : ACode := .seq c70_54 c70_59
def c70_49 : ACode := .seq c70_50 c70_53
def c70_48 : ACode := .loop c70_49
def c70_47 : ACode := .block 6 c70_48
def c70_45 : ACode := .seq c70_46 c70_47
def c70_44 : ACode := .block 5 c70_45
def o70_60 : List AOper := [⟨[.var 9],fMove,none,0⟩,
  ⟨[.loc 0,.const (.int .i64 (.ofNat 1))],fBin .add,none,1⟩,
  ⟨[.loc 0],fMove,none,3⟩]
def c70_60 : ACode := .region o70_60 [(9,0)] false
def c70_43 : ACode := .seq c70_44 c70_60
def c70_39 : ACode := .seq c70_40 c70_43
def c70_38 : ACode := .loop c70_39
def c70_37 : ACode := .block 4 c70_38
def c70_35 : ACode := .seq c70_36 c70_37
def o70_61 : List AOper := [⟨[.var 8],fMove,none,0⟩,
  ⟨[.loc 0],fMove,none,1⟩]
def c70_61 : ACode := .region o70_61 [(6,0)] false
def c70_34 : ACode := .seq c70_35 c70_61
def c70_32 : ACode := .seq c70_33 c70_34
def c70_31 : ACode := .block 3 c70_32
def o70_62 : List AOper := [⟨[.var 7],fMove,none,0⟩,
  ⟨[.loc 0,.const (.int .i64 (.ofNat 1))],fBin .add,none,1⟩,
  ⟨[.loc 0],fMove,none,3⟩]
def c70_62 : ACode := .region o70_62 [(7,0)] false
def c70_30 : ACode := .seq c70_31 c70_62
def c70_26 : ACode := .seq c70_27 c70_30
def c70_25 : ACode := .loop c70_26
def c70_24 : ACode := .block 2 c70_25
def c70_22 : ACode := .seq c70_23 c70_24
def o70_63 : List AOper := [⟨[.var 4],fMove,none,0⟩,
  ⟨[.var 6],fMove,none,0⟩,
  ⟨[.var 5],fMove,none,0⟩,
  ⟨[.loc 1,.loc 0],fIndexAddr 1,none,6⟩,
  ⟨[.loc 0],fLoad1,none,14⟩,
  ⟨[.loc 4,.loc 0],fBin .add,none,31⟩,
  ⟨[.loc 0],fMove,none,63⟩]
def c70_63 : ACode := .region o70_63 [(4,0)] false
def c70_21 : ACode := .seq c70_22 c70_63
def c70_19 : ACode := .seq c70_20 c70_21
def c70_17 : ACode := .seq c70_18 c70_19
def c70_16 : ACode := .block 1 c70_17
def o70_64 : List AOper := [⟨[.var 5],fMove,none,0⟩,
  ⟨[.loc 0,.const (.int .i64 (.ofNat 1))],fBin .add,none,1⟩,
  ⟨[.loc 0],fMove,none,3⟩]
def c70_64 : ACode := .region o70_64 [(5,0)] false
def c70_15 : ACode := .seq c70_16 c70_64
def c70_11 : ACode := .seq c70_12 c70_15
def c70_10 : ACode := .loop c70_11
def c70_9 : ACode := .block 0 c70_10
def c70_7 : ACode := .seq c70_8 c70_9
def o70_66 : List AOper := [⟨[.var 4],fMove,none,0⟩,
  ⟨[.loc 0],fMove,none,1⟩]
def c70_66 : ACode := .region o70_66 [(2,0)] false
def c70_65 : ACode := .seq c70_66 .ret
def c70_6 : ACode := .seq c70_7 c70_65
def c70_4 : ACode := .seq c70_5 c70_6
def c70_2 : ACode := .seq c70_3 c70_4
def c70_0 : ACode := .seq c70_1 c70_2
def vm70 : List Nat := [0, 1, 4, 5, 6, 7, 8, 9, 10, 11, 12, 18, 28, 35, 40, 46]
def c70 : AFn := ⟨2, 16, [.var 2], c70_0⟩
/- 71 girouette/girouetteref05.Periods : slots [0, 2, 3, 4, 6, 18] -/
def o71_1 : List AOper := [⟨[.const .nilslice],fMove,none,0⟩]
def c71_1 : ACode := .region o71_1 [(1,0)] false
def o71_3 : List AOper := [⟨[.const .nilslice],fMove,none,0⟩]
def c71_3 : ACode := .region o71_3 [(2,0)] false
def o71_6 : List AOper := [⟨[.const (.int .i64 (.ofNat 1))],fMove,none,0⟩]
def c71_6 : ACode := .region o71_6 [(3,0)] false
def o71_11 : List AOper := [⟨[.var 3],fMove,none,0⟩,
  ⟨[.loc 0,.const (.int .i64 (.ofNat 12))],fBin .leq,none,1⟩]
def c71_11 : ACode := .region o71_11 [(4,0)] false
def c71_12 : ACode := .cond (.var 4) .skip (.exit 0)
def c71_10 : ACode := .seq c71_11 c71_12
def o71_16 : List AOper := [⟨[.var 0],fMove,none,0⟩,
  ⟨[.var 3],fMove,none,0⟩,
  ⟨[.const (.func (.func 54) [] []),.loc 1,.loc 0],fCall,none,3⟩,
  ⟨[.loc 0,.const (.int .i64 (.ofNat 0))],fBin .gtr,none,7⟩,
  ⟨[.loc 0],fMove,none,15⟩,
  ⟨[.var 3],fMove,(some (0,false)),31⟩,
  ⟨[.var 0],fMove,(some (1,false)),31⟩,
  ⟨[.loc 0],fLenSl,(some (2,false)),95⟩,
  ⟨[.loc 2,.loc 0],fBin .eql,(some (3,false)),255⟩,
  ⟨[.loc 4,.const (.bool true),.loc 0],fPick,none,511⟩]
def c71_16 : ACode := .region o71_16 [(5,0)] false
def o71_18 : List AOper := [⟨[.var 2],fMove,none,0⟩,
  ⟨[.var 3],fMove,none,0⟩,
  ⟨[.loc 0],fBuildSlice 1 1 [(.int .i64 (.ofNat 0))] [(0,1)],none,2⟩,
  ⟨[.loc 2,.loc 0],fAppend 1 8,none,7⟩,
  ⟨[.loc 0],fMove,none,15⟩]
def c71_18 : ACode := .region o71_18 [(2,0)] false
def c71_17 : ACode := .cond (.var 5) c71_18 .skip
def c71_15 : ACode := .seq c71_16 c71_17
def c71_14 : ACode := .block 1 c71_15
def o71_19 : List AOper := [⟨[.var 3],fMove,none,0⟩,
  ⟨[.loc 0,.const (.int .i64 (.ofNat 1))],fBin .add,none,1⟩,
  ⟨[.loc 0],fMove,none,3⟩]
def c71_19 : ACode := .region o71_19 [(3,0)] false
def c71_13 : ACode := .seq c71_14 c71_19
def c71_9 : ACode := .seq c71_10 c71_13
def c71_8 : ACode := .loop c71_9
def c71_7 : ACode := .block 0 c71_8
def c71_5 : ACode := .seq c71_6 c71_7
def o71_21 : List AOper := [⟨[.var 2],fMove,none,0⟩,
  ⟨[.loc 0],fMove,none,1⟩]
def c71_21 : ACode := .region o71_21 [(1,0)] false
def c71_20 : ACode := .seq c71_21 .ret
def c71_4 : ACode := .seq c71_5 c71_20
def c71_2 : ACode := .seq c71_3 c71_4
def c71_0 : ACode := .seq c71_1 c71_2
def vm71 : List Nat := [0, 2, 3, 4, 6, 18]
def c71 : AFn := ⟨1, 6, [.var 1], c71_0⟩
/- 72 girouette/girouetteref05.Mirror : slots [0, 2, 3, 4, 5, 10] -/
def o72_1 : List AOper := [⟨[.const .nilslice],fMove,none,0⟩]
def c72_1 : ACode := .region o72_1 [(1,0)] false
def o72_3 : List AOper := [⟨[.var 0],fMove,none,0⟩,
  ⟨[.loc 0],fLenSl,none,1⟩,
  ⟨[.loc 0],fMove,none,3⟩]
def c72_3 : ACode := .region o72_3 [(2,0)] false
def o72_5 : List AOper := [⟨[.const .nilslice],fMove,none,0⟩]
def c72_5 : ACode := .region o72_5 [(3,0)] false
def o72_8 : List AOper := [⟨[.const (.int .i64 (.ofNat 0))],fMove,none,0⟩]
def c72_8 : ACode := .region o72_8 [(4,0)] false
def o72_13 : List AOper := [⟨[.var 4],fMove,none,0⟩,
  ⟨[.var 2],fMove,none,0⟩,
  ⟨[.loc 1,.loc 0],fBin .lss,none,3⟩]
def c72_13 : ACode := .region o72_13 [(5,0)] false
def c72_14 : ACode := .cond (.var 5) .skip (.exit 0)
def c72_12 : ACode := .seq c72_13 c72_14
def o72_17 : List AOper := [⟨[.var 3],fMove,none,0⟩,
  ⟨[.var 2],fMove,none,0⟩,
  ⟨[.loc 0,.const (.int .i64 (.ofNat 1))],fBin .sub,none,2⟩,
  ⟨[.var 0],fMove,none,0⟩,
  ⟨[.var 2],fMove,none,0⟩,
  ⟨[.loc 0,.const (.int .i64 (.ofNat 1))],fBin .sub,none,16⟩,
  ⟨[.var 4],fMove,none,0⟩,
  ⟨[.loc 1,.loc 0],fBin .sub,none,112⟩,
  ⟨[.loc 4,.loc 0],fIndexAddr 1,none,248⟩,
  ⟨[.loc 0],fLoad1,none,504⟩,
  ⟨[.loc 7,.loc 0],fBin .sub,none,1022⟩,
  ⟨[.loc 0],fBuildSlice 1 1 [(.int .i64 (.ofNat 0))] [(0,1)],none,2046⟩,
  ⟨[.loc 11,.loc 0],fAppend 1 8,none,4095⟩,
  ⟨[.loc 0],fMove,none,8191⟩]
def c72_17 : ACode := .region o72_17 [(3,0)] false
def c72_16 : ACode := .block 1 c72_17
def o72_18 : List AOper := [⟨[.var 4],fMove,none,0⟩,
  ⟨[.loc 0,.const (.int .i64 (.ofNat 1))],fBin .add,none,1⟩,
  ⟨[.loc 0],fMove,none,3⟩]
def c72_18 : ACode := .region o72_18 [(4,0)] false
def c72_15 : ACode := .seq c72_16 c72_18
def c72_11 : ACode := .seq c72_12 c72_15
def c72_10 : ACode := .loop c72_11
def c72_9 : ACode := .block 0 c72_10
def c72_7 : ACode := .seq c72_8 c72_9
def o72_20 : List AOper := [⟨[.var 3],fMove,none,0⟩,
  ⟨[.loc 0],fMove,none,1⟩]
def c72_20 : ACode := .region o72_20 [(1,0)] false
def c72_19 : ACode := .seq c72_20 .ret
def c72_6 : ACode := .seq c72_7 c72_19
def c72_4 : ACode := .seq c72_5 c72_6
def c72_2 : ACode := .seq c72_3 c72_4
def c72_0 : ACode := .seq c72_1 c72_2
def vm72 : List Nat := [0, 2, 3, 4, 5, 10]
def c72 : AFn := ⟨1, 6, [.var 1], c72_0⟩
/- 73 girouette/cycles.Check : slots [0, 2, 4] -/
def o73_1 : List AOper := [⟨[.const (.int .i64 (.ofNat 0))],fMove,none,0⟩]
def c73_1 : ACode := .region o73_1 [(1,0)] false
def o73_3 : List AOper := [⟨[.var 0],fMove,none,0⟩,
  ⟨[.const (.func (.func 91) [] []),.loc 0],fCall,none,1⟩,
  ⟨[.loc 0],fMove,none,3⟩,
  ⟨[.loc 0],fExtract 0,none,7⟩,
  ⟨[.loc 1],fExtract 1,none,7⟩,
  ⟨[.loc 1],fMove,none,15⟩,
  ⟨[.loc 1],fMove,none,63⟩]
def c73_3 : ACode := .region o73_3 [(2,0)] false
def o73_5 : List AOper := [⟨[.var 2],fMove,none,0⟩,
  ⟨[.loc 0],fMove,none,1⟩]
def c73_5 : ACode := .region o73_5 [(1,0)] false
def c73_4 : ACode := .seq c73_5 .ret
def c73_2 : ACode := .seq c73_3 c73_4
def c73_0 : ACode := .seq c73_1 c73_2
def vm73 : List Nat := [0, 2, 4]
def c73 : AFn := ⟨1, 3, [.var 1], c73_0⟩
/- 74 girouette/cycles.Greatest$1 : slots [0, 1, 2, 3, 6, 10, 12, 17, 18, 19, 20] -/
def o74_2 : List AOper := [⟨[.var 0],fMove,none,0⟩,
  ⟨[.loc 0],fLenStr,none,1⟩,
  ⟨[.var 1],fLoad1,none,0⟩,
  ⟨[.loc 1,.loc 0],fBin .eql,none,7⟩]
def c74_2 : ACode := .region o74_2 [(5,0)] false
def o74_6 : List AOper := [⟨[.var 0],fMove,none,0⟩,
  ⟨[.const (.func (.func 75) [] []),.loc 0],fCall,none,1⟩]
def c74_6 : ACode := .region o74_6 [(6,0)] false
def o74_8 : List AOper := [⟨[.var 2],fLoad1,none,0⟩,
  ⟨[.var 0],fMove,none,0⟩,
  ⟨[.loc 0],fBuildSlice 1 1 [(.str [])] [(0,1)],none,2⟩,
  ⟨[.loc 2,.loc 0],fAppend 1 16,none,7⟩,
  ⟨[.var 2,.loc 0],fStore 1,none,15⟩]
def c74_8 : ACode := .region o74_8 [] false
def c74_7 : ACode := .cond (.var 6) c74_8 .skip
def c74_5 : ACode := .seq c74_6 c74_7
def c74_4 : ACode := .seq c74_5 .ret
def c74_3 : ACode := .cond (.var 5) c74_4 .skip
def c74_1 : ACode := .seq c74_2 c74_3
def o74_10 : List AOper := [⟨[.const (.str [76]),.const (.str [82])],fBuildSlice 2 1 [(.str [])] [(0,1),(1,1)],none,0⟩,
  ⟨[.loc 0],fLenSl,none,1⟩,
  ⟨[.const (.int .i64 (.ofNat 0))],fMove,none,0⟩]
def c74_10 : ACode := .region o74_10 [(7,2),(8,1),(9,0)] false
def o74_14 : List AOper := [⟨[.var 9,.var 8],fBin .lss,none,0⟩]
def c74_14 : ACode := .region o74_14 [(10,0)] false
def c74_16 : ACode := .cond (.var 10) .skip (.exit 0)
def o74_20 : List AOper := [⟨[.var 7,.var 9],fIndexAddr 1,none,0⟩,
  ⟨[.loc 0],fLoad1,none,1⟩,
  ⟨[.loc 0],fMove,none,3⟩]
def c74_20 : ACode := .region o74_20 [(4,0)] false
def o74_21 : List AOper := [⟨[.var 3],fLoad1,none,0⟩,
  ⟨[.var 0],fMove,none,0⟩,
  ⟨[.var 4],fMove,none,0⟩,
  ⟨[.loc 1,.loc 0],fBin .add,none,6⟩,
  ⟨[.loc 3,.loc 0],fCall,none,15⟩]
def c74_21 : ACode := .region o74_21 [] false
def c74_19 : ACode := .seq c74_20 c74_21
def c74_18 : ACode := .block 1 c74_19
def o74_22 : List AOper := [⟨[.var 9,.const (.int .i64 (.ofNat 1))],fBin .add,none,0⟩,
  ⟨[.loc 0],fMove,none,1⟩]
def c74_22 : ACode := .region o74_22 [(9,0)] false
def c74_17 : ACode := .seq c74_18 c74_22
def c74_15 : ACode := .seq c74_16 c74_17
def c74_13 : ACode := .seq c74_14 c74_15
def c74_12 : ACode := .loop c74_13
def c74_11 : ACode := .block 0 c74_12
def c74_9 : ACode := .seq c74_10 c74_11
def c74_0 : ACode := .seq c74_1 c74_9
def vm74 : List Nat := [0, 1, 2, 3, 6, 10, 12, 17, 18, 19, 20]
def c74 : AFn := ⟨4, 11, [], c74_0⟩
/- 75 (girouette/cycles.word).greatest : slots [0, 2, 3, 5, 6, 7, 17] -/
def o75_1 : List AOper := [⟨[.const (.bool false)],fMove,none,0⟩]
def c75_1 : ACode := .region o75_1 [(1,0)] false
def o75_4 : List AOper := [⟨[.var 0],fMove,none,0⟩,
  ⟨[.loc 0],fRangeStr,none,1⟩]
def c75_4 : ACode := .region o75_4 [(3,0)] false
def o75_8 : List AOper := [⟨[.var 3],fNextStr,none,0⟩,
  ⟨[.loc 0],fExtract 0,none,1⟩]
def c75_8 : ACode := .region o75_8 [(4,1),(5,0)] false
def c75_10 : ACode := .cond (.var 5) .skip (.exit 0)
def o75_13 : List AOper := [⟨[.var 4],fExtract 1,none,0⟩,
  ⟨[.loc 0],fMove,none,1⟩]
def c75_13 : ACode := .region o75_13 [(2,0)] false
def o75_15 : List AOper := [⟨[.var 0],fMove,none,0⟩,
  ⟨[.var 2],fMove,none,0⟩,
  ⟨[.loc 0,.const (.int .i64 (.ofNat 1))],fBin .add,none,2⟩,
  ⟨[.loc 2,.loc 0],fSliceStr true false,none,7⟩,
  ⟨[.const (.func (.func 96) [] []),.loc 0],fCall,none,15⟩,
  ⟨[.var 0],fMove,none,0⟩,
  ⟨[.const (.func (.func 96) [] []),.loc 0],fCall,none,63⟩,
  ⟨[.const (.func (.func 99) [] []),.loc 2,.loc 0],fCall,none,127⟩,
  ⟨[.loc 0,.const (.int .i64 (.ofNat 0))],fBin .geq,none,255⟩]
def c75_15 : ACode := .region o75_15 [(6,0)] false
def o75_18 : List AOper := [⟨[.const (.bool false)],fMove,none,0⟩]
def c75_18 : ACode := .region o75_18 [(1,0)] false
def c75_17 : ACode := .seq c75_18 .ret
def c75_16 : ACode := .cond (.var 6) c75_17 .skip
def c75_14 : ACode := .seq c75_15 c75_16
def c75_12 : ACode := .seq c75_13 c75_14
def c75_11 : ACode := .block 1 c75_12
def c75_9 : ACode := .seq c75_10 c75_11
def c75_7 : ACode := .seq c75_8 c75_9
def c75_6 : ACode := .loop c75_7
def c75_5 : ACode := .block 0 c75_6
def c75_3 : ACode := .seq c75_4 c75_5
def o75_20 : List AOper := [⟨[.const (.bool true)],fMove,none,0⟩]
def c75_20 : ACode := .region o75_20 [(1,0)] false
def c75_19 : ACode := .seq c75_20 .ret
def c75_2 : ACode := .seq c75_3 c75_19
def c75_0 : ACode := .seq c75_1 c75_2
def vm75 : List Nat := [0, 2, 3, 5, 6, 7, 17]
def c75 : AFn := ⟨1, 7, [.var 1], c75_0⟩
/- 91 girouette/cycles.open : slots [0, 2, 3, 4, 5, 13, 25, 35, 43] -/
def o91_1 : List AOper := [⟨[.const .nilslice],fMove,none,0⟩,
  ⟨[.const (.int .i64 (.ofNat 0))],fMove,none,1⟩]
def c91_1 : ACode := .region o91_1 [(1,1),(2,0)] false
def o91_4 : List AOper := [⟨[.var 0],fMove,none,0⟩,
  ⟨[.loc 0],fLenSl,none,1⟩,
  ⟨[.loc 0,.const (.int .i64 (.ofNat 2))],fBin .lss,none,3⟩,
  ⟨[.loc 0],fMove,none,7⟩,
  ⟨[.var 0],fMove,(some (0,false)),15⟩,
  ⟨[.loc 0],fLenSl,(some (1,false)),31⟩,
  ⟨[.loc 0,.const (.int .i64 (.ofNat 8))],fBin .gtr,(some (2,false)),63⟩,
  ⟨[.loc 3,.const (.bool true),.loc 0],fPick,none,127⟩]
def c91_4 : ACode := .region o91_4 [(5,0)] false
def o91_7 : List AOper := [⟨[.const .nilslice],fMove,none,0⟩,
  ⟨[.const (.int .i64 (.ofNat 50))],fMove,none,1⟩]
def c91_7 : ACode := .region o91_7 [(1,1),(2,0)] false
def c91_6 : ACode := .seq c91_7 .ret
def c91_5 : ACode := .cond (.var 5) c91_6 .skip
def c91_3 : ACode := .seq c91_4 c91_5
def o91_9 : List AOper := [⟨[.const (.int .i64 (.ofNat 0))],fMove,none,0⟩,
  ⟨[.const (.int .i64 (.ofNat 0))],fMove,none,1⟩]
def c91_9 : ACode := .region o91_9 [(3,1),(4,0)] false
def o91_16 : List AOper := [⟨[.var 0],fMove,none,0⟩,
  ⟨[.var 3],fMove,none,0⟩,
  ⟨[.loc 1,.loc 0],fIndexAddr 1,none,3⟩,
  ⟨[.loc 0],fLoad1,none,7⟩,
  ⟨[.loc 0],fMove,none,15⟩]
def c91_16 : ACode := .region o91_16 [(3,0)] false
def o91_18 : List AOper := [⟨[.var 3],fMove,none,0⟩,
  ⟨[.loc 0,.const (.int .i64 (.ofNat 0))],fBin .lss,none,1⟩,
  ⟨[.loc 0],fMove,none,3⟩,
  ⟨[.var 3],fMove,(some (0,false)),7⟩,
  ⟨[.var 0],fMove,(some (1,false)),7⟩,
  ⟨[.loc 0],fLenSl,(some (2,false)),23⟩,
  ⟨[.loc 2,.loc 0],fBin .geq,(some (3,false)),63⟩,
  ⟨[.loc 4,.const (.bool true),.loc 0],fPick,none,127⟩]
def c91_18 : ACode := .region o91_18 [(6,0)] false
def o91_21 : List AOper := [⟨[.const .nilslice],fMove,none,0⟩,
  ⟨[.const (.int .i64 (.ofNat 50))],fMove,none,1⟩]
def c91_21 : ACode := .region o91_21 [(1,1),(2,0)] false
def c91_20 : ACode := .seq c91_21 .ret
def c91_19 : ACode := .cond (.var 6) c91_20 .skip
def c91_17 : ACode := .seq c91_18 c91_19
def c91_15 : ACode := .seq c91_16 c91_17
def o91_23 : List AOper := [⟨[.var 4],fMove,none,0⟩,
  ⟨[.loc 0,.const (.int .i64 (.ofNat 1))],fBin .add,none,1⟩,
  ⟨[.loc 0],fMove,none,3⟩]
def c91_23 : ACode := .region o91_23 [(4,0)] false
def o91_25 : List AOper := [⟨[.var 3],fMove,none,0⟩,
  ⟨[.loc 0,.const (.int .i64 (.ofNat 0))],fBin .eql,none,1⟩,
  ⟨[.loc 0],fMove,none,3⟩,
  ⟨[.var 4],fMove,(some (0,false)),7⟩,
  ⟨[.var 0],fMove,(some (1,false)),7⟩,
  ⟨[.loc 0],fLenSl,(some (2,false)),23⟩,
  ⟨[.loc 2,.loc 0],fBin .gtr,(some (3,false)),63⟩,
  ⟨[.loc 4,.const (.bool true),.loc 0],fPick,none,127⟩]
def c91_25 : ACode := .region o91_25 [(7,0)] false
def c91_26 : ACode := .cond (.var 7) (.exit 0) .skip
def c91_24 : ACode := .seq c91_25 c91_26
def c91_22 : ACode := .seq c91_23 c91_24
def c91_14 : ACode := .seq c91_15 c91_22
def c91_13 : ACode := .block 1 c91_14
def c91_12 : ACode := .loop c91_13
def c91_11 : ACode := .block 0 c91_12
def o91_29 : List AOper := [⟨[.var 3],fMove,none,0⟩,
  ⟨[.loc 0,.const (.int .i64 (.ofNat 0))],fBin .neq,none,1⟩,
  ⟨[.loc 0],fMove,none,3⟩,
  ⟨[.var 4],fMove,(some (0,false)),7⟩,
  ⟨[.var 0],fMove,(some (1,false)),7⟩,
  ⟨[.loc 0],fLenSl,(some (2,false)),23⟩,
  ⟨[.loc 2,.loc 0],fBin .neq,(some (3,false)),63⟩,
  ⟨[.loc 4,.const (.bool true),.loc 0],fPick,none,127⟩]
def c91_29 : ACode := .region o91_29 [(8,0)] false
def o91_32 : List AOper := [⟨[.const .nilslice],fMove,none,0⟩,
  ⟨[.const (.int .i64 (.ofNat 50))],fMove,none,1⟩]
def c91_32 : ACode := .region o91_32 [(1,1),(2,0)] false
def c91_31 : ACode := .seq c91_32 .ret
def c91_30 : ACode := .cond (.var 8) c91_31 .skip
def c91_28 : ACode := .seq c91_29 c91_30
def o91_34 : List AOper := [⟨[.var 0],fMove,none,0⟩,
  ⟨[.loc 0],fMove,none,1⟩,
  ⟨[.const (.int .i64 (.ofNat 0))],fMove,none,3⟩]
def c91_34 : ACode := .region o91_34 [(1,1),(2,0)] false
def c91_33 : ACode := .seq c91_34 .ret
def c91_27 : ACode := .seq c91_28 c91_33
def c91_10 : ACode := .seq c91_11 c91_27
def c91_8 : ACode := .seq c91_9 c91_10
def c91_2 : ACode := .seq c91_3 c91_8
def c91_0 : ACode := .seq c91_1 c91_2
def vm91 : List Nat := [0, 2, 3, 4, 5, 13, 25, 35, 43]
def c91 : AFn := ⟨1, 9, [.var 1,.var 2], c91_0⟩
/- 92 (girouette/cycles.cycle).isLoop : slots [0, 1, 2, 6, 7, 8, 9, 18, 19, 20, 21, 22, 29, 48] -/
def o92_1 : List AOper := [⟨[.const (.bool false)],fMove,none,0⟩]
def c92_1 : ACode := .region o92_1 [(3,0)] false
def o92_4 : List AOper := [⟨[.var 1],fMove,none,0⟩,
  ⟨[.loc 0],fLenSl,none,1⟩,
  ⟨[.loc 0,.const (.int .i64 (.ofNat 1))],fBin .lss,none,3⟩,
  ⟨[.loc 0],fMove,none,7⟩,
  ⟨[.var 1],fMove,(some (0,false)),15⟩,
  ⟨[.loc 0],fLenSl,(some (1,false)),31⟩,
  ⟨[.var 2],fMove,(some (2,false)),15⟩,
  ⟨[.loc 1,.loc 0],fBin .gtr,(some (3,false)),127⟩,
  ⟨[.loc 4,.const (.bool true),.loc 0],fPick,none,255⟩]
def c92_4 : ACode := .region o92_4 [(7,0)] false
def o92_7 : List AOper := [⟨[.const (.bool false)],fMove,none,0⟩]
def c92_7 : ACode := .region o92_7 [(3,0)] false
def c92_6 : ACode := .seq c92_7 .ret
def c92_5 : ACode := .cond (.var 7) c92_6 .skip
def c92_3 : ACode := .seq c92_4 c92_5
def o92_10 : List AOper := [⟨[.var 1],fMove,none,0⟩,
  ⟨[.loc 0],fLenSl,none,1⟩,
  ⟨[.const (.int .i64 (.ofNat 0))],fMove,none,0⟩]
def c92_10 : ACode := .region o92_10 [(8,2),(9,1),(10,0)] false
def o92_14 : List AOper := [⟨[.var 10,.var 9],fBin .lss,none,0⟩]
def c92_14 : ACode := .region o92_14 [(11,0)] false
def c92_16 : ACode := .cond (.var 11) .skip (.exit 0)
def o92_20 : List AOper := [⟨[.var 10],fMove,none,0⟩,
  ⟨[.var 8,.var 10],fIndexAddr 1,none,0⟩,
  ⟨[.loc 0],fLoad1,none,2⟩,
  ⟨[.loc 2],fMove,none,7⟩,
  ⟨[.loc 1],fMove,none,15⟩]
def c92_20 : ACode := .region o92_20 [(4,1),(5,0)] false
def o92_23 : List AOper := [⟨[.var 0],fMove,none,0⟩,
  ⟨[.var 5],fMove,none,0⟩,
  ⟨[.const (.func (.func 116) [] []),.loc 1,.loc 0],fCall,none,3⟩,
  ⟨[.loc 0],fUn .not,none,7⟩]
def c92_23 : ACode := .region o92_23 [(12,0)] false
def o92_26 : List AOper := [⟨[.const (.bool false)],fMove,none,0⟩]
def c92_26 : ACode := .region o92_26 [(3,0)] false
def c92_25 : ACode := .seq c92_26 .ret
def c92_24 : ACode := .cond (.var 12) c92_25 .skip
def c92_22 : ACode := .seq c92_23 c92_24
def o92_28 : List AOper := [⟨[.var 1],fMove,none,0⟩,
  ⟨[.var 4],fMove,none,0⟩,
  ⟨[.loc 0,.const (.int .i64 (.ofNat 1))],fBin .add,none,2⟩,
  ⟨[.var 1],fMove,none,0⟩,
  ⟨[.loc 0],fLenSl,none,8⟩,
  ⟨[.loc 2,.loc 0],fBin .rem,none,30⟩,
  ⟨[.loc 5,.loc 0],fIndexAddr 1,none,63⟩,
  ⟨[.loc 0],fLoad1,none,127⟩,
  ⟨[.loc 0],fMove,none,255⟩]
def c92_28 : ACode := .region o92_28 [(6,0)] false
def o92_30 : List AOper := [⟨[.var 0],fMove,none,0⟩,
  ⟨[.var 6],fMove,none,0⟩,
  ⟨[.const (.func (.func 116) [] []),.loc 1,.loc 0],fCall,none,3⟩,
  ⟨[.loc 0],fUn .not,none,7⟩,
  ⟨[.loc 0],fMove,none,15⟩,
  ⟨[.var 0],fMove,(some (0,false)),31⟩,
  ⟨[.var 5],fMove,(some (1,false)),31⟩,
  ⟨[.var 6],fMove,(some (2,false)),31⟩,
  ⟨[.const (.func (.func 117) [] []),.loc 2,.loc 1,.loc 0],fCall,(some (3,false)),255⟩,
  ⟨[.loc 0],fUn .not,(some (4,false)),511⟩,
  ⟨[.loc 5,.const (.bool true),.loc 0],fPick,none,1023⟩]
def c92_30 : ACode := .region o92_30 [(13,0)] false
def o92_33 : List AOper := [⟨[.const (.bool false)],fMove,none,0⟩]
def c92_33 : ACode := .region o92_33 [(3,0)] false
def c92_32 : ACode := .seq c92_33 .ret
def c92_31 : ACode := .cond (.var 13) c92_32 .skip
def c92_29 : ACode := .seq c92_30 c92_31
def c92_27 : ACode := .seq c92_28 c92_29
def c92_21 : ACode := .seq c92_22 c92_27
def c92_19 : ACode := .seq c92_20 c92_21
def c92_18 : ACode := .block 1 c92_19
def o92_34 : List AOper := [⟨[.var 10,.const (.int .i64 (.ofNat 1))],fBin .add,none,0⟩,
  ⟨[.loc 0],fMove,none,1⟩]
def c92_34 : ACode := .region o92_34 [(10,0)] false
def c92_17 : ACode := .seq c92_18 c92_34
def c92_15 : ACode := .seq c92_16 c92_17
def c92_13 : ACode := .seq c92_14 c92_15
def c92_12 : ACode := .loop c92_13
def c92_11 : ACode := .block 0 c92_12
def c92_9 : ACode := .seq c92_10 c92_11
def o92_36 : List AOper := [⟨[.const (.bool true)],fMove,none,0⟩]
def c92_36 : ACode := .region o92_36 [(3,0)] false
def c92_35 : ACode := .seq c92_36 .ret
def c92_8 : ACode := .seq c92_9 c92_35
def c92_2 : ACode := .seq c92_3 c92_8
def c92_0 : ACode := .seq c92_1 c92_2
def vm92 : List Nat := [0, 1, 2, 6, 7, 8, 9, 18, 19, 20, 21, 22, 29, 48]
def c92 : AFn := ⟨3, 14, [.var 3], c92_0⟩
/- 93 girouette/cycles.lowest : slots [0, 1, 4, 5, 10] -/
def o93_1 : List AOper := [⟨[],fAlloc [(.int .i64 (.ofNat 0)),(.int .i64 (.ofNat 0))],none,0⟩]
def c93_1 : ACode := .region o93_1 [(2,0)] false
def o93_3 : List AOper := [⟨[.var 0],fMove,none,0⟩,
  ⟨[.var 1],fMove,none,0⟩,
  ⟨[.const (.func (.func 130) [] []),.loc 1,.loc 0],fCall,none,3⟩,
  ⟨[.loc 0],fMove,none,7⟩]
def c93_3 : ACode := .region o93_3 [(3,0)] false
def o93_6 : List AOper := [⟨[.var 1],fMove,none,0⟩,
  ⟨[.loc 0,.const (.int .i64 (.ofNat 0))],fBin .lss,none,1⟩]
def c93_6 : ACode := .region o93_6 [(4,0)] false
def o93_8 : List AOper := [⟨[.var 3],fMove,none,0⟩,
  ⟨[.loc 0],fUn .neg,none,1⟩,
  ⟨[.loc 0],fMove,none,3⟩]
def c93_8 : ACode := .region o93_8 [(3,0)] false
def c93_7 : ACode := .cond (.var 4) c93_8 .skip
def c93_5 : ACode := .seq c93_6 c93_7
def o93_10 : List AOper := [⟨[.var 0],fMove,none,0⟩,
  ⟨[.var 3],fMove,none,0⟩,
  ⟨[.loc 1,.loc 0],fBin .quo,none,3⟩,
  ⟨[.var 1],fMove,none,0⟩,
  ⟨[.var 3],fMove,none,0⟩,
  ⟨[.loc 1,.loc 0],fBin .quo,none,24⟩,
  ⟨[.loc 3,.loc 0],fBuild [(.int .i64 (.ofNat 0)),(.int .i64 (.ofNat 0))] [(0,1),(1,1)],none,63⟩,
  ⟨[.var 2,.loc 0],fStore 2,none,127⟩]
def c93_10 : ACode := .region o93_10 [] true
def c93_9 : ACode := .seq c93_10 .ret
def c93_4 : ACode := .seq c93_5 c93_9
def c93_2 : ACode := .seq c93_3 c93_4
def c93_0 : ACode := .seq c93_1 c93_2
def vm93 : List Nat := [0, 1, 4, 5, 10]
def c93 : AFn := ⟨2, 5, [.cell 2 (some 2)], c93_0⟩
/- 94 girouette/girouetteref05.gcd : slots [0, 1, 4, 6] -/
def o94_1 : List AOper := [⟨[.const (.int .i64 (.ofNat 0))],fMove,none,0⟩]
def c94_1 : ACode := .region o94_1 [(2,0)] false
def o94_7 : List AOper := [⟨[.var 1],fMove,none,0⟩,
  ⟨[.loc 0,.const (.int .i64 (.ofNat 0))],fBin .neq,none,1⟩]
def c94_7 : ACode := .region o94_7 [(3,0)] false
def c94_8 : ACode := .cond (.var 3) .skip (.exit 0)
def c94_6 : ACode := .seq c94_7 c94_8
def o94_10 : List AOper := [⟨[.var 1],fMove,none,0⟩,
  ⟨[.var 0],fMove,none,0⟩,
  ⟨[.var 1],fMove,none,0⟩,
  ⟨[.loc 1,.loc 0],fBin .rem,none,6⟩,
  ⟨[.loc 3],fMove,none,3⟩,
  ⟨[.loc 1],fMove,none,31⟩]
def c94_10 : ACode := .region o94_10 [(0,1),(1,0)] true
def c94_9 : ACode := .block 1 c94_10
def c94_5 : ACode := .seq c94_6 c94_9
def c94_4 : ACode := .loop c94_5
def c94_3 : ACode := .block 0 c94_4
def o94_12 : List AOper := [⟨[.var 0],fMove,none,0⟩,
  ⟨[.var 0],fMove,none,0⟩,
  ⟨[.loc 0],fUn .neg,none,2⟩,
  ⟨[.loc 2,.loc 0,.const (.int .i64 (.ofNat 1))],fMax,none,7⟩,
  ⟨[.loc 0],fMove,none,15⟩]
def c94_12 : ACode := .region o94_12 [(2,0)] false
def c94_11 : ACode := .seq c94_12 .ret
def c94_2 : ACode := .seq c94_3 c94_11
def c94_0 : ACode := .seq c94_1 c94_2
def vm94 : List Nat := [0, 1, 4, 6]
def c94 : AFn := ⟨2, 4, [.var 2], c94_0⟩
/- 95 (girouette/cycles.word).valid : slots [0, 2, 4, 6, 7, 8, 15] -/
def o95_1 : List AOper := [⟨[.const (.bool false)],fMove,none,0⟩]
def c95_1 : ACode := .region o95_1 [(1,0)] false
def o95_4 : List AOper := [⟨[.var 0],fMove,none,0⟩,
  ⟨[.loc 0],fRangeStr,none,1⟩]
def c95_4 : ACode := .region o95_4 [(3,0)] false
def o95_8 : List AOper := [⟨[.var 3],fNextStr,none,0⟩,
  ⟨[.loc 0],fExtract 0,none,1⟩]
def c95_8 : ACode := .region o95_8 [(4,1),(5,0)] false
def c95_10 : ACode := .cond (.var 5) .skip (.exit 0)
def o95_13 : List AOper := [⟨[.var 4],fExtract 2,none,0⟩,
  ⟨[.loc 0],fMove,none,1⟩]
def c95_13 : ACode := .region o95_13 [(2,0)] false
def o95_15 : List AOper := [⟨[.var 2],fMove,none,0⟩,
  ⟨[.loc 0,.const (.int .i32 (.ofNat 76))],fBin .neq,none,1⟩,
  ⟨[.loc 0],fMove,none,3⟩,
  ⟨[.var 2],fMove,(some (0,true)),7⟩,
  ⟨[.loc 0,.const (.int .i32 (.ofNat 82))],fBin .neq,(some (1,true)),15⟩,
  ⟨[.loc 2,.loc 0,.const (.bool false)],fPick,none,31⟩]
def c95_15 : ACode := .region o95_15 [(6,0)] false
def o95_18 : List AOper := [⟨[.const (.bool false)],fMove,none,0⟩]
def c95_18 : ACode := .region o95_18 [(1,0)] false
def c95_17 : ACode := .seq c95_18 .ret
def c95_16 : ACode := .cond (.var 6) c95_17 .skip
def c95_14 : ACode := .seq c95_15 c95_16
def c95_12 : ACode := .seq c95_13 c95_14
def c95_11 : ACode := .block 1 c95_12
def c95_9 : ACode := .seq c95_10 c95_11
def c95_7 : ACode := .seq c95_8 c95_9
def c95_6 : ACode := .loop c95_7
def c95_5 : ACode := .block 0 c95_6
def c95_3 : ACode := .seq c95_4 c95_5
def o95_20 : List AOper := [⟨[.var 0],fMove,none,0⟩,
  ⟨[.loc 0],fLenStr,none,1⟩,
  ⟨[.loc 0,.const (.int .i64 (.ofNat 11))],fBin .leq,none,3⟩,
  ⟨[.loc 0],fMove,none,7⟩]
def c95_20 : ACode := .region o95_20 [(1,0)] false
def c95_19 : ACode := .seq c95_20 .ret
def c95_2 : ACode := .seq c95_3 c95_19
def c95_0 : ACode := .seq c95_1 c95_2
def vm95 : List Nat := [0, 2, 4, 6, 7, 8, 15]
def c95 : AFn := ⟨1, 7, [.var 1], c95_0⟩
/- 96 (girouette/cycles.word).ended : slots [0, 2] -/
def o96_1 : List AOper := [⟨[.const (.str [])],fMove,none,0⟩]
def c96_1 : ACode := .region o96_1 [(1,0)] false
def o96_3 : List AOper := [⟨[.var 0],fMove,none,0⟩,
  ⟨[.loc 0,.const (.str [67])],fBin .add,none,1⟩,
  ⟨[.loc 0],fMove,none,3⟩]
def c96_3 : ACode := .region o96_3 [(1,0)] false
def c96_2 : ACode := .seq c96_3 .ret
def c96_0 : ACode := .seq c96_1 c96_2
def vm96 : List Nat := [0, 2]
def c96 : AFn := ⟨1, 2, [.var 1], c96_0⟩
/- 97 slices.Clone[[]girouette/cycles.word,girouette/cycles.word] : slots [0, 2, 4] -/
def o97_1 : List AOper := [⟨[.const .nilslice],fMove,none,0⟩]
def c97_1 : ACode := .region o97_1 [(1,0)] false
def o97_4 : List AOper := [⟨[.var 0],fMove,none,0⟩,
  ⟨[.loc 0,.const .nilslice],fEqNil false,none,1⟩]
def c97_4 : ACode := .region o97_4 [(2,0)] false
def o97_7 : List AOper := [⟨[.const .nilslice],fMove,none,0⟩]
def c97_7 : ACode := .region o97_7 [(1,0)] false
def c97_6 : ACode := .seq c97_7 .ret
def c97_5 : ACode := .cond (.var 2) c97_6 .skip
def c97_3 : ACode := .seq c97_4 c97_5
def o97_9 : List AOper := [⟨[],fBuildSlice 0 1 [(.str [])] [],none,0⟩,
  ⟨[.var 0],fMove,none,0⟩,
  ⟨[.loc 1,.loc 0],fAppend 1 16,none,3⟩,
  ⟨[.loc 0],fMove,none,7⟩]
def c97_9 : ACode := .region o97_9 [(1,0)] false
def c97_8 : ACode := .seq c97_9 .ret
def c97_2 : ACode := .seq c97_3 c97_8
def c97_0 : ACode := .seq c97_1 c97_2
def vm97 : List Nat := [0, 2, 4]
def c97 : AFn := ⟨1, 3, [.var 1], c97_0⟩
/- 98 slices.SortFunc[[]girouette/cycles.word,girouette/cycles.word] : slots [0, 1, 4] -/
def o98_1 : List AOper := [⟨[.var 0],fMove,none,0⟩,
  ⟨[.loc 0],fLenSl,none,1⟩,
  ⟨[.loc 0],fMove,none,3⟩]
def c98_1 : ACode := .region o98_1 [(2,0)] false
def o98_2 : List AOper := [⟨[.var 0],fMove,none,0⟩,
  ⟨[.var 2],fMove,none,0⟩,
  ⟨[.var 2],fMove,none,0⟩,
  ⟨[.loc 0],fConvInt .u64,none,4⟩,
  ⟨[.const (.func (.func 132) [] []),.loc 0],fCall,none,12⟩,
  ⟨[.var 1],fMove,none,0⟩,
  ⟨[.const (.func (.func 131) [] []),.loc 5,.const (.int .i64 (.ofNat 0)),.loc 4,.loc 1,.loc 0],fCall,none,63⟩]
def c98_2 : ACode := .region o98_2 [] false
def c98_0 : ACode := .seq c98_1 c98_2
def vm98 : List Nat := [0, 1, 4]
def c98 : AFn := ⟨2, 3, [], c98_0⟩
/- 99 (girouette/cycles.word).compare : slots [0, 1, 4, 5, 6, 7, 8, 14, 15, 16, 28, 31, 36] -/
def o99_1 : List AOper := [⟨[.const (.int .i64 (.ofNat 0))],fMove,none,0⟩]
def c99_1 : ACode := .region o99_1 [(2,0)] false
def o99_3 : List AOper := [⟨[.const (.int .i64 (.ofNat 1))],fMove,none,0⟩]
def c99_3 : ACode := .region o99_3 [(3,0)] false
def o99_6 : List AOper := [⟨[.var 0],fMove,none,0⟩,
  ⟨[.loc 0],fLenStr,none,1⟩,
  ⟨[.var 1],fMove,none,0⟩,
  ⟨[.loc 0],fLenStr,none,4⟩,
  ⟨[.loc 2,.loc 0],fBuildSlice 2 1 [(.int .i64 (.ofNat 0))] [(0,1),(1,1)],none,15⟩,
  ⟨[.const (.func (.func 105) [] []),.loc 0],fCall,none,31⟩,
  ⟨[.const (.int .i64 (.ofNat 0))],fMove,none,0⟩]
def c99_6 : ACode := .region o99_6 [(7,1),(8,0)] false
def o99_10 : List AOper := [⟨[.var 8,.var 7],fBin .lss,none,0⟩]
def c99_10 : ACode := .region o99_10 [(9,0)] false
def c99_12 : ACode := .cond (.var 9) .skip (.exit 0)
def o99_16 : List AOper := [⟨[.var 8],fMove,none,0⟩,
  ⟨[.loc 0],fMove,none,1⟩]
def c99_16 : ACode := .region o99_16 [(4,0)] false
def o99_18 : List AOper := [⟨[.var 0],fMove,none,0⟩,
  ⟨[.var 4],fMove,none,0⟩,
  ⟨[.loc 1,.loc 0],fIndexStr,none,3⟩,
  ⟨[.const (.func (.func 133) [] []),.loc 0],fCall,none,7⟩,
  ⟨[.var 1],fMove,none,0⟩,
  ⟨[.var 4],fMove,none,0⟩,
  ⟨[.loc 1,.loc 0],fIndexStr,none,48⟩,
  ⟨[.const (.func (.func 133) [] []),.loc 0],fCall,none,127⟩,
  ⟨[.loc 4],fMove,none,255⟩,
  ⟨[.loc 1],fMove,none,511⟩]
def c99_18 : ACode := .region o99_18 [(5,1),(6,0)] true
def o99_21 : List AOper := [⟨[.var 5],fMove,none,0⟩,
  ⟨[.var 6],fMove,none,0⟩,
  ⟨[.loc 1,.loc 0],fBin .neq,none,3⟩]
def c99_21 : ACode := .region o99_21 [(10,0)] false
def o99_25 : List AOper := [⟨[.var 5],fMove,none,0⟩,
  ⟨[.var 6],fMove,none,0⟩,
  ⟨[.loc 1,.loc 0],fBin .lss,none,3⟩]
def c99_25 : ACode := .region o99_25 [(11,0)] false
def o99_28 : List AOper := [⟨[.var 3],fMove,none,0⟩,
  ⟨[.loc 0],fUn .neg,none,1⟩,
  ⟨[.loc 0],fMove,none,3⟩]
def c99_28 : ACode := .region o99_28 [(2,0)] false
def c99_27 : ACode := .seq c99_28 .ret
def c99_26 : ACode := .cond (.var 11) c99_27 .skip
def c99_24 : ACode := .seq c99_25 c99_26
def o99_30 : List AOper := [⟨[.var 3],fMove,none,0⟩,
  ⟨[.loc 0],fMove,none,1⟩]
def c99_30 : ACode := .region o99_30 [(2,0)] false
def c99_29 : ACode := .seq c99_30 .ret
def c99_23 : ACode := .seq c99_24 c99_29
def c99_22 : ACode := .cond (.var 10) c99_23 .skip
def c99_20 : ACode := .seq c99_21 c99_22
def o99_32 : List AOper := [⟨[.var 5],fMove,none,0⟩,
  ⟨[.loc 0,.const (.int .i64 (.ofNat 2))],fBin .eql,none,1⟩]
def c99_32 : ACode := .region o99_32 [(12,0)] false
def o99_34 : List AOper := [⟨[.var 3],fMove,none,0⟩,
  ⟨[.loc 0],fUn .neg,none,1⟩,
  ⟨[.loc 0],fMove,none,3⟩]
def c99_34 : ACode := .region o99_34 [(3,0)] false
def c99_33 : ACode := .cond (.var 12) c99_34 .skip
def c99_31 : ACode := .seq c99_32 c99_33
def c99_19 : ACode := .seq c99_20 c99_31
def c99_17 : ACode := .seq c99_18 c99_19
def c99_15 : ACode := .seq c99_16 c99_17
def c99_14 : ACode := .block 1 c99_15
def o99_35 : List AOper := [⟨[.var 8,.const (.int .i64 (.ofNat 1))],fBin .add,none,0⟩,
  ⟨[.loc 0],fMove,none,1⟩]
def c99_35 : ACode := .region o99_35 [(8,0)] false
def c99_13 : ACode := .seq c99_14 c99_35
def c99_11 : ACode := .seq c99_12 c99_13
def c99_9 : ACode := .seq c99_10 c99_11
def c99_8 : ACode := .loop c99_9
def c99_7 : ACode := .block 0 c99_8
def c99_5 : ACode := .seq c99_6 c99_7
def o99_37 : List AOper := [⟨[.const (.int .i64 (.ofNat 0))],fMove,none,0⟩]
def c99_37 : ACode := .region o99_37 [(2,0)] false
def c99_36 : ACode := .seq c99_37 .ret
def c99_4 : ACode := .seq c99_5 c99_36
def c99_2 : ACode := .seq c99_3 c99_4
def c99_0 : ACode := .seq c99_1 c99_2
def vm99 : List Nat := [0, 1, 4, 5, 6, 7, 8, 14, 15, 16, 28, 31, 36]
def c99 : AFn := ⟨2, 13, [.var 2], c99_0⟩
/- 100 girouette/girouetteref05.once : slots [0, 2, 3, 4, 8, 18] -/
def o100_1 : List AOper := [⟨[.const (.bool false)],fMove,none,0⟩]
def c100_1 : ACode := .region o100_1 [(1,0)] false
def o100_3 : List AOper := [⟨[.const (.int .i64 (.ofNat 0))],fMove,none,0⟩]
def c100_3 : ACode := .region o100_3 [(2,0)] false
def o100_6 : List AOper := [⟨[.const (.int .i64 (.ofNat 0))],fMove,none,0⟩]
def c100_6 : ACode := .region o100_6 [(3,0)] false
def o100_11 : List AOper := [⟨[.var 3],fMove,none,0⟩,
  ⟨[.var 0],fMove,none,0⟩,
  ⟨[.loc 0],fLenSl,none,2⟩,
  ⟨[.loc 2,.loc 0],fBin .lss,none,7⟩]
def c100_11 : ACode := .region o100_11 [(4,0)] false
def c100_12 : ACode := .cond (.var 4) .skip (.exit 0)
def c100_10 : ACode := .seq c100_11 c100_12
def o100_17 : List AOper := [⟨[.var 2],fMove,none,0⟩,
  ⟨[.var 0],fMove,none,0⟩,
  ⟨[.var 3],fMove,none,0⟩,
  ⟨[.loc 1,.loc 0],fIndexAddr 1,none,6⟩,
  ⟨[.loc 0],fLoad1,none,14⟩,
  ⟨[.loc 4,.loc 0],fBin .shr,none,31⟩,
  ⟨[.loc 0,.const (.int .i64 (.ofNat 2))],fBin .rem,none,63⟩,
  ⟨[.loc 0,.const (.int .i64 (.ofNat 1))],fBin .eql,none,127⟩]
def c100_17 : ACode := .region o100_17 [(5,0)] false
def o100_20 : List AOper := [⟨[.const (.bool false)],fMove,none,0⟩]
def c100_20 : ACode := .region o100_20 [(1,0)] false
def c100_19 : ACode := .seq c100_20 .ret
def c100_18 : ACode := .cond (.var 5) c100_19 .skip
def c100_16 : ACode := .seq c100_17 c100_18
def o100_21 : List AOper := [⟨[.var 2],fMove,none,0⟩,
  ⟨[.var 0],fMove,none,0⟩,
  ⟨[.var 3],fMove,none,0⟩,
  ⟨[.loc 1,.loc 0],fIndexAddr 1,none,6⟩,
  ⟨[.loc 0],fLoad1,none,14⟩,
  ⟨[.const (.int .i64 (.ofNat 1)),.loc 0],fBin .shl,none,30⟩,
  ⟨[.loc 5,.loc 0],fBin .or,none,63⟩,
  ⟨[.loc 0],fMove,none,127⟩]
def c100_21 : ACode := .region o100_21 [(2,0)] false
def c100_15 : ACode := .seq c100_16 c100_21
def c100_14 : ACode := .block 1 c100_15
def o100_22 : List AOper := [⟨[.var 3],fMove,none,0⟩,
  ⟨[.loc 0,.const (.int .i64 (.ofNat 1))],fBin .add,none,1⟩,
  ⟨[.loc 0],fMove,none,3⟩]
def c100_22 : ACode := .region o100_22 [(3,0)] false
def c100_13 : ACode := .seq c100_14 c100_22
def c100_9 : ACode := .seq c100_10 c100_13
def c100_8 : ACode := .loop c100_9
def c100_7 : ACode := .block 0 c100_8
def c100_5 : ACode := .seq c100_6 c100_7
def o100_24 : List AOper := [⟨[.const (.bool true)],fMove,none,0⟩]
def c100_24 : ACode := .region o100_24 [(1,0)] false
def c100_23 : ACode := .seq c100_24 .ret
def c100_4 : ACode := .seq c100_5 c100_23
def c100_2 : ACode := .seq c100_3 c100_4
def c100_0 : ACode := .seq c100_1 c100_2
def vm100 : List Nat := [0, 2, 3, 4, 8, 18]
def c100 : AFn := ⟨1, 6, [.var 1], c100_0⟩
/- 101 girouette/cycles.isEnded : slots [0, 2] -/
def o101_1 : List AOper := [⟨[.const (.bool false)],fMove,none,0⟩]
def c101_1 : ACode := .region o101_1 [(1,0)] false
def o101_3 : List AOper := [⟨[.var 0],fMove,none,0⟩,
  ⟨[.loc 0],fLenStr,none,1⟩,
  ⟨[.loc 0,.const (.int .i64 (.ofNat 0))],fBin .gtr,none,3⟩,
  ⟨[.loc 0],fMove,none,7⟩,
  ⟨[.var 0],fMove,(some (0,true)),15⟩,
  ⟨[.var 0],fMove,(some (1,true)),15⟩,
  ⟨[.loc 0],fLenStr,(some (2,true)),47⟩,
  ⟨[.loc 0,.const (.int .i64 (.ofNat 1))],fBin .sub,(some (3,true)),111⟩,
  ⟨[.loc 3,.loc 0],fIndexStr,(some (4,true)),255⟩,
  ⟨[.loc 0,.const (.int .u8 (.ofNat 67))],fBin .eql,(some (5,true)),511⟩,
  ⟨[.loc 6,.loc 0,.const (.bool false)],fPick,none,1023⟩,
  ⟨[.loc 0],fMove,none,2047⟩,
  ⟨[.var 0],fMove,(some (0,true)),4095⟩,
  ⟨[.var 0],fMove,(some (1,true)),4095⟩,
  ⟨[.loc 0],fLenStr,(some (2,true)),12287⟩,
  ⟨[.loc 0,.const (.int .i64 (.ofNat 1))],fBin .sub,(some (3,true)),28671⟩,
  ⟨[.loc 3,.loc 0],fSliceStr false true,(some (4,true)),65535⟩,
  ⟨[.const (.func (.func 95) [] []),.loc 0],fCall,(some (5,true)),131071⟩,
  ⟨[.loc 6,.loc 0,.const (.bool false)],fPick,none,262143⟩,
  ⟨[.loc 0],fMove,none,524287⟩]
def c101_3 : ACode := .region o101_3 [(1,0)] false
def c101_2 : ACode := .seq c101_3 .ret
def c101_0 : ACode := .seq c101_1 c101_2
def vm101 : List Nat := [0, 2]
def c101 : AFn := ⟨1, 2, [.var 1], c101_0⟩
/- 102 (girouette/cycles.cycle).has : slots [0, 1, 3, 4] -/
def o102_1 : List AOper := [⟨[.var 1],fBox,none,0⟩,
  ⟨[.const (.bool false)],fMove,none,0⟩]
def c102_1 : ACode := .region o102_1 [(2,1),(3,0)] false
def o102_3 : List AOper := [⟨[.var 2],fFieldAddr 1,none,0⟩,
  ⟨[.loc 0],fLoad1,none,1⟩,
  ⟨[.loc 0,.const (.int .i64 (.ofNat 1))],fBin .geq,none,3⟩,
  ⟨[.loc 0],fMove,none,7⟩,
  ⟨[.var 2],fFieldAddr 1,(some (0,true)),15⟩,
  ⟨[.loc 0],fLoad1,(some (1,true)),31⟩,
  ⟨[.loc 0,.const (.int .i64 (.ofNat 1000000))],fBin .leq,(some (2,true)),63⟩,
  ⟨[.loc 3,.loc 0,.const (.bool false)],fPick,none,127⟩,
  ⟨[.loc 0],fMove,none,255⟩,
  ⟨[.var 2],fFieldAddr 0,(some (0,true)),511⟩,
  ⟨[.loc 0],fLoad1,(some (1,true)),1023⟩,
  ⟨[.loc 0,.const (.int .i64 (.ofNat 0))],fBin .geq,(some (2,true)),2047⟩,
  ⟨[.loc 3,.loc 0,.const (.bool false)],fPick,none,4095⟩,
  ⟨[.loc 0],fMove,none,8191⟩,
  ⟨[.var 2],fFieldAddr 0,(some (0,true)),16383⟩,
  ⟨[.loc 0],fLoad1,(some (1,true)),32767⟩,
  ⟨[.var 0],fMove,(some (2,true)),16383⟩,
  ⟨[.loc 0],fLenSl,(some (3,true)),81919⟩,
  ⟨[.loc 0,.const (.int .i64 (.ofNat 1))],fBin .sub,(some (4,true)),212991⟩,
  ⟨[.var 2],fFieldAddr 1,(some (5,true)),16383⟩,
  ⟨[.loc 0],fLoad1,(some (6,true)),540671⟩,
  ⟨[.loc 2,.loc 0],fBin .mul,(some (7,true)),2047999⟩,
  ⟨[.loc 6,.loc 0],fBin .leq,(some (8,true)),4194303⟩,
  ⟨[.loc 9,.loc 0,.const (.bool false)],fPick,none,8388607⟩,
  ⟨[.loc 0],fMove,none,16777215⟩,
  ⟨[.var 2],fFieldAddr 0,(some (0,true)),33554431⟩,
  ⟨[.loc 0],fLoad1,(some (1,true)),67108863⟩,
  ⟨[.var 2],fFieldAddr 1,(some (2,true)),33554431⟩,
  ⟨[.loc 0],fLoad1,(some (3,true)),167772159⟩,
  ⟨[.const (.func (.func 93) [] []),.loc 2,.loc 0],fCall,(some (4,true)),536870911⟩,
  ⟨[.var 2],fLoadN 2,(some (5,true)),33554431⟩,
  ⟨[.loc 1,.loc 0],fEqD false (.agg [(0,none,.i),(1,none,.i)]),(some (6,true)),2147483647⟩,
  ⟨[.loc 7,.loc 0,.const (.bool false)],fPick,none,4294967295⟩,
  ⟨[.loc 0],fMove,none,8589934591⟩]
def c102_3 : ACode := .region o102_3 [(3,0)] true
def c102_2 : ACode := .seq c102_3 .ret
def c102_0 : ACode := .seq c102_1 c102_2
def vm102 : List Nat := [0, 1, 3, 4]
def c102 : AFn := ⟨2, 4, [.var 3], c102_0⟩
/- 103 (girouette/cycles.cycle).value : slots [0, 1, 3, 4, 5, 6, 16] -/
def o103_1 : List AOper := [⟨[.var 1],fBox,none,0⟩,
  ⟨[],fAlloc [(.int .i64 (.ofNat 0)),(.int .i64 (.ofNat 0))],none,0⟩]
def c103_1 : ACode := .region o103_1 [(2,1),(3,0)] false
def o103_3 : List AOper := [⟨[.var 2],fFieldAddr 0,none,0⟩,
  ⟨[.loc 0],fLoad1,none,1⟩,
  ⟨[.var 2],fFieldAddr 1,none,0⟩,
  ⟨[.loc 0],fLoad1,none,4⟩,
  ⟨[.loc 2,.loc 0],fBin .quo,none,15⟩,
  ⟨[.loc 0],fMove,none,31⟩]
def c103_3 : ACode := .region o103_3 [(4,0)] false
def o103_6 : List AOper := [⟨[.var 4],fMove,none,0⟩,
  ⟨[.var 0],fMove,none,0⟩,
  ⟨[.loc 0],fLenSl,none,2⟩,
  ⟨[.loc 0,.const (.int .i64 (.ofNat 1))],fBin .sub,none,6⟩,
  ⟨[.loc 3,.loc 0],fBin .eql,none,15⟩]
def c103_6 : ACode := .region o103_6 [(6,0)] false
def o103_9 : List AOper := [⟨[.var 0],fMove,none,0⟩,
  ⟨[.var 4],fMove,none,0⟩,
  ⟨[.loc 1,.loc 0],fIndexAddr 1,none,3⟩,
  ⟨[.loc 0],fLoad1,none,7⟩,
  ⟨[.loc 0,.const (.int .i64 (.ofNat 1))],fBuild [(.int .i64 (.ofNat 0)),(.int .i64 (.ofNat 0))] [(0,1),(1,1)],none,15⟩,
  ⟨[.var 3,.loc 0],fStore 2,none,31⟩]
def c103_9 : ACode := .region o103_9 [] false
def c103_8 : ACode := .seq c103_9 .ret
def c103_7 : ACode := .cond (.var 6) c103_8 .skip
def c103_5 : ACode := .seq c103_6 c103_7
def o103_11 : List AOper := [⟨[.var 0],fMove,none,0⟩,
  ⟨[.var 4],fMove,none,0⟩,
  ⟨[.loc 0,.const (.int .i64 (.ofNat 1))],fBin .add,none,2⟩,
  ⟨[.loc 2,.loc 0],fIndexAddr 1,none,7⟩,
  ⟨[.loc 0],fLoad1,none,15⟩,
  ⟨[.var 0],fMove,none,0⟩,
  ⟨[.var 4],fMove,none,0⟩,
  ⟨[.loc 1,.loc 0],fIndexAddr 1,none,96⟩,
  ⟨[.loc 0],fLoad1,none,224⟩,
  ⟨[.loc 4,.loc 0],fBin .sub,none,511⟩,
  ⟨[.loc 0],fMove,none,1023⟩]
def c103_11 : ACode := .region o103_11 [(5,0)] true
def o103_13 : List AOper := [⟨[.var 0],fMove,none,0⟩,
  ⟨[.var 4],fMove,none,0⟩,
  ⟨[.loc 1,.loc 0],fIndexAddr 1,none,3⟩,
  ⟨[.loc 0],fLoad1,none,7⟩,
  ⟨[.var 2],fFieldAddr 1,none,0⟩,
  ⟨[.loc 0],fLoad1,none,16⟩,
  ⟨[.loc 2,.loc 0],fBin .mul,none,63⟩,
  ⟨[.var 2],fFieldAddr 0,none,0⟩,
  ⟨[.loc 0],fLoad1,none,128⟩,
  ⟨[.var 4],fMove,none,0⟩,
  ⟨[.var 2],fFieldAddr 1,none,0⟩,
  ⟨[.loc 0],fLoad1,none,1024⟩,
  ⟨[.loc 2,.loc 0],fBin .mul,none,3584⟩,
  ⟨[.loc 4,.loc 0],fBin .sub,none,8064⟩,
  ⟨[.var 5],fMove,none,0⟩,
  ⟨[.loc 1,.loc 0],fBin .mul,none,32640⟩,
  ⟨[.loc 9,.loc 0],fBin .add,none,65535⟩,
  ⟨[.var 2],fFieldAddr 1,none,0⟩,
  ⟨[.loc 0],fLoad1,none,131072⟩,
  ⟨[.const (.func (.func 93) [] []),.loc 2,.loc 0],fCall,none,524287⟩,
  ⟨[.var 3,.loc 0],fStore 2,none,1048575⟩]
def c103_13 : ACode := .region o103_13 [] true
def c103_12 : ACode := .seq c103_13 .ret
def c103_10 : ACode := .seq c103_11 c103_12
def c103_4 : ACode := .seq c103_5 c103_10
def c103_2 : ACode := .seq c103_3 c103_4
def c103_0 : ACode := .seq c103_1 c103_2
def vm103 : List Nat := [0, 1, 3, 4, 5, 6, 16]
def c103 : AFn := ⟨2, 7, [.cell 3 (some 2)], c103_0⟩
/- 104 (girouette/cycles.cycle).loop : slots [0, 1, 2, 3, 4, 5, 6, 7, 8, 9, 10, 16, 17, 18, 31] -/
def o104_1 : List AOper := [⟨[.var 0],fBox,none,0⟩,
  ⟨[.var 1],fBox,none,0⟩,
  ⟨[.const .nilslice],fMove,none,0⟩]
def c104_1 : ACode := .region o104_1 [(2,2),(3,1),(4,0)] false
def o104_3 : List AOper := [⟨[],fMakeMap,none,0⟩,
  ⟨[],fAlloc [.nilmap],none,0⟩,
  ⟨[.loc 0,.loc 1],fStore 1,none,3⟩]
def c104_3 : ACode := .region o104_3 [(5,1)] false
def o104_5 : List AOper := [⟨[],fAlloc [.nilfunc],none,0⟩]
def c104_5 : ACode := .region o104_5 [(6,0)] false
def o104_7 : List AOper := [⟨[.var 5,.var 2,.var 6],fMakeFunc (.func 134) 0,none,0⟩,
  ⟨[.var 6,.loc 0],fStore 1,none,1⟩]
def c104_7 : ACode := .region o104_7 [] false
def o104_9 : List AOper := [⟨[],fAlloc [.nilslice],none,0⟩,
  ⟨[],fAlloc [.nilslice],none,0⟩]
def c104_9 : ACode := .region o104_9 [(7,1),(8,0)] false
def o104_11 : List AOper := [⟨[],fAlloc [.nilfunc],none,0⟩]
def c104_11 : ACode := .region o104_11 [(9,0)] false
def o104_13 : List AOper := [⟨[.var 7,.var 3,.var 2,.var 8,.var 6,.var 9],fMakeFunc (.func 135) 0,none,0⟩,
  ⟨[.var 9,.loc 0],fStore 1,none,1⟩]
def c104_13 : ACode := .region o104_13 [] false
def o104_17 : List AOper := [⟨[.var 2],fLoad1,none,0⟩,
  ⟨[.loc 0],fLenSl,none,1⟩,
  ⟨[.loc 0,.const (.int .i64 (.ofNat 1))],fBin .sub,none,3⟩,
  ⟨[.const (.int .i64 (.ofNat 0))],fMove,none,0⟩]
def c104_17 : ACode := .region o104_17 [(11,1),(12,0)] false
def o104_21 : List AOper := [⟨[.var 12,.var 11],fBin .lss,none,0⟩]
def c104_21 : ACode := .region o104_21 [(13,0)] false
def c104_23 : ACode := .cond (.var 13) .skip (.exit 0)
def o104_27 : List AOper := [⟨[.var 12],fMove,none,0⟩,
  ⟨[.loc 0],fMove,none,1⟩]
def c104_27 : ACode := .region o104_27 [(10,0)] false
def o104_29 : List AOper := [⟨[.var 10],fMove,none,0⟩,
  ⟨[.loc 0],fBuildSlice 1 1 [(.int .i64 (.ofNat 0))] [(0,1)],none,1⟩,
  ⟨[.var 7,.loc 0],fStore 1,none,3⟩]
def c104_29 : ACode := .region o104_29 [] false
def o104_31 : List AOper := [⟨[.var 6],fLoad1,none,0⟩,
  ⟨[.var 3],fLoad1,none,0⟩,
  ⟨[.var 10],fMove,none,0⟩,
  ⟨[.var 10],fMove,none,0⟩,
  ⟨[.loc 2,.loc 1,.loc 0],fBuild [(.int .i64 (.ofNat 0)),(.int .i64 (.ofNat 0)),(.int .i64 (.ofNat 0))] [(0,1),(1,1),(2,1)],none,14⟩,
  ⟨[.loc 4,.loc 0],fCall,none,31⟩,
  ⟨[.loc 0],fMove,none,63⟩,
  ⟨[.var 9],fLoad1,(some (0,true)),127⟩,
  ⟨[.loc 0],fCall,(some (1,true)),255⟩,
  ⟨[.loc 2,.loc 0,.const (.bool false)],fPick,none,511⟩]
def c104_31 : ACode := .region o104_31 [(14,0)] false
def c104_32 : ACode := .cond (.var 14) (.exit 0) .skip
def c104_30 : ACode := .seq c104_31 c104_32
def c104_28 : ACode := .seq c104_29 c104_30
def c104_26 : ACode := .seq c104_27 c104_28
def c104_25 : ACode := .block 1 c104_26
def o104_33 : List AOper := [⟨[.var 12,.const (.int .i64 (.ofNat 1))],fBin .add,none,0⟩,
  ⟨[.loc 0],fMove,none,1⟩]
def c104_33 : ACode := .region o104_33 [(12,0)] false
def c104_24 : ACode := .seq c104_25 c104_33
def c104_22 : ACode := .seq c104_23 c104_24
def c104_20 : ACode := .seq c104_21 c104_22
def c104_19 : ACode := .loop c104_20
def c104_18 : ACode := .block 0 c104_19
def c104_16 : ACode := .seq c104_17 c104_18
def o104_35 : List AOper := [⟨[.var 8],fLoad1,none,0⟩,
  ⟨[.loc 0],fMove,none,1⟩]
def c104_35 : ACode := .region o104_35 [(4,0)] false
def c104_34 : ACode := .seq c104_35 .ret
def c104_15 : ACode := .seq c104_16 c104_34
def c104_14 : ACode := .seq .skip c104_15
def c104_12 : ACode := .seq c104_13 c104_14
def c104_10 : ACode := .seq c104_11 c104_12
def c104_8 : ACode := .seq c104_9 c104_10
def c104_6 : ACode := .seq c104_7 c104_8
def c104_4 : ACode := .seq c104_5 c104_6
def c104_2 : ACode := .seq c104_3 c104_4
def c104_0 : ACode := .seq c104_1 c104_2
def vm104 : List Nat := [0, 1, 2, 3, 4, 5, 6, 7, 8, 9, 10, 16, 17, 18, 31]
def c104 : AFn := ⟨2, 15, [.var 4], c104_0⟩
/- 105 girouette/cycles.least[int] : slots [0, 2] -/
def o105_1 : List AOper := [⟨[.const (.int .i64 (.ofNat 0))],fMove,none,0⟩]
def c105_1 : ACode := .region o105_1 [(1,0)] false
def o105_3 : List AOper := [⟨[.var 0],fMove,none,0⟩,
  ⟨[.const (.func (.func 138) [] []),.loc 0],fCall,none,1⟩,
  ⟨[.loc 0],fMove,none,3⟩]
def c105_3 : ACode := .region o105_3 [(1,0)] false
def c105_2 : ACode := .seq c105_3 .ret
def c105_0 : ACode := .seq c105_1 c105_2
def vm105 : List Nat := [0, 2]
def c105 : AFn := ⟨1, 2, [.var 1], c105_0⟩
/- 106 girouette/cycles.rank : slots [0, 2, 3, 6] -/
def o106_1 : List AOper := [⟨[.const (.int .i64 (.ofNat 0))],fMove,none,0⟩,
  ⟨[.const (.int .i64 (.ofNat 0))],fMove,none,1⟩]
def c106_1 : ACode := .region o106_1 [(1,1),(2,0)] false
def o106_7 : List AOper := [⟨[.var 0],fMove,none,0⟩,
  ⟨[.loc 0,.const (.int .i64 (.ofNat 2))],fBin .rem,none,1⟩,
  ⟨[.loc 0,.const (.int .i64 (.ofNat 0))],fBin .eql,none,3⟩]
def c106_7 : ACode := .region o106_7 [(3,0)] false
def c106_8 : ACode := .cond (.var 3) .skip (.exit 0)
def c106_6 : ACode := .seq c106_7 c106_8
def o106_11 : List AOper := [⟨[.var 0],fMove,none,0⟩,
  ⟨[.loc 0,.const (.int .i64 (.ofNat 2))],fBin .quo,none,1⟩,
  ⟨[.loc 0],fMove,none,3⟩]
def c106_11 : ACode := .region o106_11 [(0,0)] false
def o106_12 : List AOper := [⟨[.var 1],fMove,none,0⟩,
  ⟨[.loc 0,.const (.int .i64 (.ofNat 1))],fBin .add,none,1⟩,
  ⟨[.loc 0],fMove,none,3⟩]
def c106_12 : ACode := .region o106_12 [(1,0)] false
def c106_10 : ACode := .seq c106_11 c106_12
def c106_9 : ACode := .block 1 c106_10
def c106_5 : ACode := .seq c106_6 c106_9
def c106_4 : ACode := .loop c106_5
def c106_3 : ACode := .block 0 c106_4
def o106_14 : List AOper := [⟨[.var 1],fMove,none,0⟩,
  ⟨[.var 0],fMove,none,0⟩,
  ⟨[.loc 1],fMove,none,1⟩,
  ⟨[.loc 1],fMove,none,7⟩]
def c106_14 : ACode := .region o106_14 [(1,1),(2,0)] false
def c106_13 : ACode := .seq c106_14 .ret
def c106_2 : ACode := .seq c106_3 c106_13
def c106_0 : ACode := .seq c106_1 c106_2
def vm106 : List Nat := [0, 2, 3, 6]
def c106 : AFn := ⟨1, 4, [.var 1,.var 2], c106_0⟩
/- 107 girouette/girouetteref05.rank : slots [0, 2, 3, 4, 6] -/
def o107_1 : List AOper := [⟨[.const (.int .i64 (.ofNat 0))],fMove,none,0⟩]
def c107_1 : ACode := .region o107_1 [(1,0)] false
def o107_4 : List AOper := [⟨[.var 0],fMove,none,0⟩]
def c107_4 : ACode := .region o107_4 [(2,0)] false
def o107_7 : List AOper := [⟨[.var 2,.const (.int .u8 (.ofNat 76))],fBin .eql,none,0⟩,
  ⟨[.loc 0],fMove,none,1⟩]
def c107_7 : ACode := .region o107_7 [(3,0)] false
def o107_10 : List AOper := [⟨[.const (.int .i64 (.ofNat 0))],fMove,none,0⟩]
def c107_10 : ACode := .region o107_10 [(1,0)] false
def c107_9 : ACode := .seq c107_10 .ret
def o107_12 : List AOper := [⟨[.var 2,.const (.int .u8 (.ofNat 67))],fBin .eql,none,0⟩,
  ⟨[.loc 0],fMove,none,1⟩]
def c107_12 : ACode := .region o107_12 [(4,0)] false
def o107_15 : List AOper := [⟨[.const (.int .i64 (.ofNat 1))],fMove,none,0⟩]
def c107_15 : ACode := .region o107_15 [(1,0)] false
def c107_14 : ACode := .seq c107_15 .ret
def c107_13 : ACode := .cond (.var 4) c107_14 .skip
def c107_11 : ACode := .seq c107_12 c107_13
def c107_8 : ACode := .cond (.var 3) c107_9 c107_11
def c107_6 : ACode := .seq c107_7 c107_8
def c107_5 : ACode := .block 0 c107_6
def c107_3 : ACode := .seq c107_4 c107_5
def o107_17 : List AOper := [⟨[.const (.int .i64 (.ofNat 2))],fMove,none,0⟩]
def c107_17 : ACode := .region o107_17 [(1,0)] false
def c107_16 : ACode := .seq c107_17 .ret
def c107_2 : ACode := .seq c107_3 c107_16
def c107_0 : ACode := .seq c107_1 c107_2
def vm107 : List Nat := [0, 2, 3, 4, 6]
def c107 : AFn := ⟨1, 5, [.var 1], c107_0⟩
/- 108 girouette/girouetteref05.split : slots [0, 2, 3, 4, 7] -/
def o108_1 : List AOper := [⟨[.const (.int .i64 (.ofNat 0))],fMove,none,0⟩,
  ⟨[.const (.int .i64 (.ofNat 0))],fMove,none,1⟩]
def c108_1 : ACode := .region o108_1 [(1,1),(2,0)] false
def o108_3 : List AOper := [⟨[.const (.int .i64 (.ofNat 0))],fMove,none,0⟩]
def c108_3 : ACode := .region o108_3 [(3,0)] false
def o108_9 : List AOper := [⟨[.var 0],fMove,none,0⟩,
  ⟨[.loc 0,.const (.int .i64 (.ofNat 2))],fBin .rem,none,1⟩,
  ⟨[.loc 0,.const (.int .i64 (.ofNat 0))],fBin .eql,none,3⟩]
def c108_9 : ACode := .region o108_9 [(4,0)] false
def c108_10 : ACode := .cond (.var 4) .skip (.exit 0)
def c108_8 : ACode := .seq c108_9 c108_10
def o108_13 : List AOper := [⟨[.var 0],fMove,none,0⟩,
  ⟨[.loc 0,.const (.int .i64 (.ofNat 2))],fBin .quo,none,1⟩,
  ⟨[.loc 0],fMove,none,3⟩]
def c108_13 : ACode := .region o108_13 [(0,0)] false
def o108_14 : List AOper := [⟨[.var 3],fMove,none,0⟩,
  ⟨[.loc 0,.const (.int .i64 (.ofNat 1))],fBin .add,none,1⟩,
  ⟨[.loc 0],fMove,none,3⟩]
def c108_14 : ACode := .region o108_14 [(3,0)] false
def c108_12 : ACode := .seq c108_13 c108_14
def c108_11 : ACode := .block 1 c108_12
def c108_7 : ACode := .seq c108_8 c108_11
def c108_6 : ACode := .loop c108_7
def c108_5 : ACode := .block 0 c108_6
def o108_16 : List AOper := [⟨[.var 3],fMove,none,0⟩,
  ⟨[.var 0],fMove,none,0⟩,
  ⟨[.loc 1],fMove,none,1⟩,
  ⟨[.loc 1],fMove,none,7⟩]
def c108_16 : ACode := .region o108_16 [(1,1),(2,0)] false
def c108_15 : ACode := .seq c108_16 .ret
def c108_4 : ACode := .seq c108_5 c108_15
def c108_2 : ACode := .seq c108_3 c108_4
def c108_0 : ACode := .seq c108_1 c108_2
def vm108 : List Nat := [0, 2, 3, 4, 7]
def c108 : AFn := ⟨1, 5, [.var 1,.var 2], c108_0⟩
/- 109 girouette/cycles.isLength : slots [0, 2] -/
def o109_1 : List AOper := [⟨[.const (.bool false)],fMove,none,0⟩]
def c109_1 : ACode := .region o109_1 [(1,0)] false
def o109_3 : List AOper := [⟨[.var 0],fMove,none,0⟩,
  ⟨[.loc 0,.const (.int .i64 (.ofNat 1))],fBin .geq,none,1⟩,
  ⟨[.loc 0],fMove,none,3⟩,
  ⟨[.var 0],fMove,(some (0,true)),7⟩,
  ⟨[.loc 0,.const (.int .i64 (.ofNat 12))],fBin .leq,(some (1,true)),15⟩,
  ⟨[.loc 2,.loc 0,.const (.bool false)],fPick,none,31⟩,
  ⟨[.loc 0],fMove,none,63⟩]
def c109_3 : ACode := .region o109_3 [(1,0)] false
def c109_2 : ACode := .seq c109_3 .ret
def c109_0 : ACode := .seq c109_1 c109_2
def vm109 : List Nat := [0, 2]
def c109 : AFn := ⟨1, 2, [.var 1], c109_0⟩
/- 110 (girouette/cycles.cycle).loops : slots [0, 1, 4, 5, 6, 7, 8, 9, 10, 11, 13, 16, 17, 18, 22, 23, 24, 27, 28, 29, 33, 34, 35, 40, 60, 61, 62, 63] -/
def o110_1 : List AOper := [⟨[.const (.int .i64 (.ofNat 0))],fMove,none,0⟩]
def c110_1 : ACode := .region o110_1 [(2,0)] false
def o110_3 : List AOper := [⟨[.const .nilslice],fMove,none,0⟩]
def c110_3 : ACode := .region o110_3 [(3,0)] false
def o110_6 : List AOper := [⟨[.var 0],fMove,none,0⟩,
  ⟨[.loc 0],fLenSl,none,1⟩,
  ⟨[.loc 0,.const (.int .i64 (.ofNat 1))],fBin .sub,none,3⟩,
  ⟨[.const (.int .i64 (.ofNat 0))],fMove,none,0⟩]
def c110_6 : ACode := .region o110_6 [(11,1),(12,0)] false
def o110_10 : List AOper := [⟨[.var 12,.var 11],fBin .lss,none,0⟩]
def c110_10 : ACode := .region o110_10 [(13,0)] false
def c110_12 : ACode := .cond (.var 13) .skip (.exit 0)
def o110_16 : List AOper := [⟨[.var 12],fMove,none,0⟩,
  ⟨[.loc 0],fMove,none,1⟩]
def c110_16 : ACode := .region o110_16 [(4,0)] false
def o110_18 : List AOper := [⟨[],fAlloc [(.int .i64 (.ofNat 0)),(.int .i64 (.ofNat 0)),(.int .i64 (.ofNat 0)),(.int .i64 (.ofNat 0)),(.int .i64 (.ofNat 0)),(.int .i64 (.ofNat 0)),(.int .i64 (.ofNat 0)),(.int .i64 (.ofNat 0))],none,0⟩]
def c110_18 : ACode := .region o110_18 [(5,0)] false
def o110_20 : List AOper := [⟨[.var 4],fMove,none,0⟩,
  ⟨[.var 5,.loc 0],fIndexAddrArr 8 1,none,1⟩,
  ⟨[.loc 0,.const (.int .i64 (.ofNat 1))],fStore 1,none,3⟩]
def c110_20 : ACode := .region o110_20 [] false
def o110_23 : List AOper := [⟨[.var 1],fMove,none,0⟩,
  ⟨[.const (.int .i64 (.ofNat 0))],fMove,none,0⟩]
def c110_23 : ACode := .region o110_23 [(14,1),(15,0)] false
def o110_27 : List AOper := [⟨[.var 15,.var 14],fBin .lss,none,0⟩]
def c110_27 : ACode := .region o110_27 [(16,0)] false
def c110_29 : ACode := .cond (.var 16) .skip (.exit 2)
def o110_33 : List AOper := [⟨[],fAlloc [(.int .i64 (.ofNat 0)),(.int .i64 (.ofNat 0)),(.int .i64 (.ofNat 0)),(.int .i64 (.ofNat 0)),(.int .i64 (.ofNat 0)),(.int .i64 (.ofNat 0)),(.int .i64 (.ofNat 0)),(.int .i64 (.ofNat 0))],none,0⟩]
def c110_33 : ACode := .region o110_33 [(6,0)] false
def o110_36 : List AOper := [⟨[.var 0],fMove,none,0⟩,
  ⟨[.loc 0],fLenSl,none,1⟩,
  ⟨[.loc 0,.const (.int .i64 (.ofNat 1))],fBin .sub,none,3⟩,
  ⟨[.const (.int .i64 (.ofNat 0))],fMove,none,0⟩]
def c110_36 : ACode := .region o110_36 [(17,1),(18,0)] false
def o110_40 : List AOper := [⟨[.var 18,.var 17],fBin .lss,none,0⟩]
def c110_40 : ACode := .region o110_40 [(19,0)] false
def c110_42 : ACode := .cond (.var 19) .skip (.exit 4)
def o110_46 : List AOper := [⟨[.var 18],fMove,none,0⟩,
  ⟨[.loc 0],fMove,none,1⟩]
def c110_46 : ACode := .region o110_46 [(7,0)] false
def o110_48 : List AOper := [⟨[.var 0],fMove,none,0⟩,
  ⟨[.loc 0],fLenSl,none,1⟩,
  ⟨[.loc 0,.const (.int .i64 (.ofNat 1))],fBin .sub,none,3⟩,
  ⟨[.const (.int .i64 (.ofNat 0))],fMove,none,0⟩]
def c110_48 : ACode := .region o110_48 [(20,1),(21,0)] false
def o110_52 : List AOper := [⟨[.var 21,.var 20],fBin .lss,none,0⟩]
def c110_52 : ACode := .region o110_52 [(22,0)] false
def c110_54 : ACode := .cond (.var 22) .skip (.exit 6)
def o110_58 : List AOper := [⟨[.var 21],fMove,none,0⟩,
  ⟨[.loc 0],fMove,none,1⟩]
def c110_58 : ACode := .region o110_58 [(8,0)] false
def o110_60 : List AOper := [⟨[.var 0],fMove,none,0⟩,
  ⟨[.var 7],fMove,none,0⟩,
  ⟨[.var 8],fMove,none,0⟩,
  ⟨[.const (.func (.func 117) [] []),.loc 2,.loc 1,.loc 0],fCall,none,7⟩]
def c110_60 : ACode := .region o110_60 [(23,0)] false
def o110_62 : List AOper := [⟨[.var 8],fMove,none,0⟩,
  ⟨[.var 6,.loc 0],fIndexAddrArr 8 1,none,1⟩,
  ⟨[.loc 0],fLoad1,none,3⟩,
  ⟨[.var 7],fMove,none,0⟩,
  ⟨[.var 5,.loc 0],fIndexAddrArr 8 1,none,8⟩,
  ⟨[.loc 0],fLoad1,none,24⟩,
  ⟨[.loc 3,.loc 0],fBin .add,none,63⟩,
  ⟨[.var 6,.loc 6],fIndexAddrArr 8 1,none,127⟩,
  ⟨[.loc 0,.loc 1],fStore 1,none,255⟩]
def c110_62 : ACode := .region o110_62 [] true
def c110_61 : ACode := .cond (.var 23) c110_62 .skip
def c110_59 : ACode := .seq c110_60 c110_61
def c110_57 : ACode := .seq c110_58 c110_59
def c110_56 : ACode := .block 7 c110_57
def o110_63 : List AOper := [⟨[.var 21,.const (.int .i64 (.ofNat 1))],fBin .add,none,0⟩,
  ⟨[.loc 0],fMove,none,1⟩]
def c110_63 : ACode := .region o110_63 [(21,0)] false
def c110_55 : ACode := .seq c110_56 c110_63
def c110_53 : ACode := .seq c110_54 c110_55
def c110_51 : ACode := .seq c110_52 c110_53
def c110_50 : ACode := .loop c110_51
def c110_49 : ACode := .block 6 c110_50
def c110_47 : ACode := .seq c110_48 c110_49
def c110_45 : ACode := .seq c110_46 c110_47
def c110_44 : ACode := .block 5 c110_45
def o110_64 : List AOper := [⟨[.var 18,.const (.int .i64 (.ofNat 1))],fBin .add,none,0⟩,
  ⟨[.loc 0],fMove,none,1⟩]
def c110_64 : ACode := .region o110_64 [(18,0)] false
def c110_43 : ACode := .seq c110_44 c110_64
def c110_41 : ACode := .seq c110_42 c110_43
def c110_39 : ACode := .seq c110_40 c110_41
def c110_38 : ACode := .loop c110_39
def c110_37 : ACode := .block 4 c110_38
def c110_35 : ACode := .seq c110_36 c110_37
def o110_65 : List AOper := [⟨[.var 6],fLoadN 8,none,0⟩,
  ⟨[.var 5,.loc 0],fStore 8,none,1⟩]
def c110_65 : ACode := .region o110_65 [] false
def c110_34 : ACode := .seq c110_35 c110_65
def c110_32 : ACode := .seq c110_33 c110_34
def c110_31 : ACode := .block 3 c110_32
def o110_66 : List AOper := [⟨[.var 15,.const (.int .i64 (.ofNat 1))],fBin .add,none,0⟩,
  ⟨[.loc 0],fMove,none,1⟩]
def c110_66 : ACode := .region o110_66 [(15,0)] false
def c110_30 : ACode := .seq c110_31 c110_66
def c110_28 : ACode := .seq c110_29 c110_30
def c110_26 : ACode := .seq c110_27 c110_28
def c110_25 : ACode := .loop c110_26
def c110_24 : ACode := .block 2 c110_25
def c110_22 : ACode := .seq c110_23 c110_24
def o110_67 : List AOper := [⟨[.var 3],fMove,none,0⟩,
  ⟨[.var 4],fMove,none,0⟩,
  ⟨[.var 5,.loc 0],fIndexAddrArr 8 1,none,2⟩,
  ⟨[.loc 0],fLoad1,none,6⟩,
  ⟨[.loc 0],fBuildSlice 1 1 [(.int .i64 (.ofNat 0))] [(0,1)],none,14⟩,
  ⟨[.loc 4,.loc 0],fAppend 1 8,none,31⟩,
  ⟨[.loc 0],fMove,none,63⟩]
def c110_67 : ACode := .region o110_67 [(3,0)] false
def c110_21 : ACode := .seq c110_22 c110_67
def c110_19 : ACode := .seq c110_20 c110_21
def c110_17 : ACode := .seq c110_18 c110_19
def c110_15 : ACode := .seq c110_16 c110_17
def c110_14 : ACode := .block 1 c110_15
def o110_68 : List AOper := [⟨[.var 12,.const (.int .i64 (.ofNat 1))],fBin .add,none,0⟩,
  ⟨[.loc 0],fMove,none,1⟩]
def c110_68 : ACode := .region o110_68 [(12,0)] false
def c110_13 : ACode := .seq c110_14 c110_68
def c110_11 : ACode := .seq c110_12 c110_13
def c110_9 : ACode := .seq c110_10 c110_11
def c110_8 : ACode := .loop c110_9
def c110_7 : ACode := .block 0 c110_8
def c110_5 : ACode := .seq c110_6 c110_7
def o110_70 : List AOper := [⟨[.const (.int .i64 (.ofNat 0))],fMove,none,0⟩]
def c110_70 : ACode := .region o110_70 [(9,0)] false
def o110_73 : List AOper := [⟨[.var 3],fMove,none,0⟩,
  ⟨[.loc 0],fLenSl,none,1⟩,
  ⟨[.const (.int .i64 (.ofNat 0))],fMove,none,0⟩]
def c110_73 : ACode := .region o110_73 [(24,2),(25,1),(26,0)] false
def o110_77 : List AOper := [⟨[.var 26,.var 25],fBin .lss,none,0⟩]
def c110_77 : ACode := .region o110_77 [(27,0)] false
def c110_79 : ACode := .cond (.var 27) .skip (.exit 8)
def o110_83 : List AOper := [⟨[.var 24,.var 26],fIndexAddr 1,none,0⟩,
  ⟨[.loc 0],fLoad1,none,1⟩,
  ⟨[.loc 0],fMove,none,3⟩]
def c110_83 : ACode := .region o110_83 [(10,0)] false
def o110_84 : List AOper := [⟨[.var 9],fMove,none,0⟩,
  ⟨[.var 10],fMove,none,0⟩,
  ⟨[.loc 1,.loc 0],fBin .add,none,3⟩,
  ⟨[.loc 0],fMove,none,7⟩]
def c110_84 : ACode := .region o110_84 [(9,0)] false
def c110_82 : ACode := .seq c110_83 c110_84
def c110_81 : ACode := .block 9 c110_82
def o110_85 : List AOper := [⟨[.var 26,.const (.int .i64 (.ofNat 1))],fBin .add,none,0⟩,
  ⟨[.loc 0],fMove,none,1⟩]
def c110_85 : ACode := .region o110_85 [(26,0)] false
def c110_80 : ACode := .seq c110_81 c110_85
def c110_78 : ACode := .seq c110_79 c110_80
def c110_76 : ACode := .seq c110_77 c110_78
def c110_75 : ACode := .loop c110_76
def c110_74 : ACode := .block 8 c110_75
def c110_72 : ACode := .seq c110_73 c110_74
def o110_87 : List AOper := [⟨[.var 9],fMove,none,0⟩,
  ⟨[.loc 0],fMove,none,1⟩]
def c110_87 : ACode := .region o110_87 [(2,0)] false
def c110_86 : ACode := .seq c110_87 .ret
def c110_71 : ACode := .seq c110_72 c110_86
def c110_69 : ACode := .seq c110_70 c110_71
def c110_4 : ACode := .seq c110_5 c110_69
def c110_2 : ACode := .seq c110_3 c110_4
def c110_0 : ACode := .seq c110_1 c110_2
def vm110 : List Nat := [0, 1, 4, 5, 6, 7, 8, 9, 10, 11, 13, 16, 17, 18, 22, 23, 24, 27, 28, 29, 33, 34, 35, 40, 60, 61, 62, 63]
def c110 : AFn := ⟨2, 28, [.var 2], c110_0⟩
/- 116 (girouette/cycles.cycle).is : slots [0, 1, 4] -/
def o116_1 : List AOper := [⟨[.const (.bool false)],fMove,none,0⟩]
def c116_1 : ACode := .region o116_1 [(2,0)] false
def o116_3 : List AOper := [⟨[.var 1],fMove,none,0⟩,
  ⟨[.loc 0,.const (.int .i64 (.ofNat 0))],fBin .geq,none,1⟩,
  ⟨[.loc 0],fMove,none,3⟩,
  ⟨[.var 1],fMove,(some (0,true)),7⟩,
  ⟨[.var 0],fMove,(some (1,true)),7⟩,
  ⟨[.loc 0],fLenSl,(some (2,true)),23⟩,
  ⟨[.loc 0,.const (.int .i64 (.ofNat 1))],fBin .sub,(some (3,true)),55⟩,
  ⟨[.loc 3,.loc 0],fBin .lss,(some (4,true)),127⟩,
  ⟨[.loc 5,.loc 0,.const (.bool false)],fPick,none,255⟩,
  ⟨[.loc 0],fMove,none,511⟩]
def c116_3 : ACode := .region o116_3 [(2,0)] false
def c116_2 : ACode := .seq c116_3 .ret
def c116_0 : ACode := .seq c116_1 c116_2
def vm116 : List Nat := [0, 1, 4]
def c116 : AFn := ⟨2, 3, [.var 2], c116_0⟩
/- 117 (girouette/cycles.cycle).covers : slots [0, 1, 2, 6] -/
def o117_1 : List AOper := [⟨[.const (.bool false)],fMove,none,0⟩]
def c117_1 : ACode := .region o117_1 [(3,0)] false
def o117_3 : List AOper := [⟨[.var 2],fMove,none,0⟩,
  ⟨[.var 0],fMove,none,0⟩,
  ⟨[.var 1],fMove,none,0⟩,
  ⟨[.loc 1,.loc 0],fIndexAddr 1,none,6⟩,
  ⟨[.loc 0],fLoad1,none,14⟩,
  ⟨[.var 0],fMove,none,0⟩,
  ⟨[.var 1],fMove,none,0⟩,
  ⟨[.loc 0,.const (.int .i64 (.ofNat 1))],fBin .add,none,64⟩,
  ⟨[.loc 2,.loc 0],fIndexAddr 1,none,224⟩,
  ⟨[.loc 0],fLoad1,none,480⟩,
  ⟨[.loc 5,.loc 0],fBuildSlice 2 1 [(.int .i64 (.ofNat 0))] [(0,1),(1,1)],none,1022⟩,
  ⟨[.const (.func (.func 105) [] []),.loc 0],fCall,none,2046⟩,
  ⟨[.loc 11,.loc 0],fBin .geq,none,4095⟩,
  ⟨[.loc 0],fMove,none,8191⟩,
  ⟨[.var 2],fMove,(some (0,true)),16383⟩,
  ⟨[.var 0],fMove,(some (1,true)),16383⟩,
  ⟨[.var 1],fMove,(some (2,true)),16383⟩,
  ⟨[.loc 1,.loc 0],fIndexAddr 1,(some (3,true)),114687⟩,
  ⟨[.loc 0],fLoad1,(some (4,true)),245759⟩,
  ⟨[.var 0],fMove,(some (5,true)),16383⟩,
  ⟨[.var 1],fMove,(some (6,true)),16383⟩,
  ⟨[.loc 0,.const (.int .i64 (.ofNat 1))],fBin .add,(some (7,true)),1064959⟩,
  ⟨[.loc 2,.loc 0],fIndexAddr 1,(some (8,true)),3686399⟩,
  ⟨[.loc 0],fLoad1,(some (9,true)),7880703⟩,
  ⟨[.loc 5,.loc 0],fMax,(some (10,true)),16760831⟩,
  ⟨[.loc 10,.loc 0],fBin .lss,(some (11,true)),33554431⟩,
  ⟨[.loc 12,.loc 0,.const (.bool false)],fPick,none,67108863⟩,
  ⟨[.loc 0],fMove,none,134217727⟩]
def c117_3 : ACode := .region o117_3 [(3,0)] true
def c117_2 : ACode := .seq c117_3 .ret
def c117_0 : ACode := .seq c117_1 c117_2
def vm117 : List Nat := [0, 1, 2, 6]
def c117 : AFn := ⟨3, 4, [.var 3], c117_0⟩
/- 118 girouette/girouetteref05.loop : slots [0, 1, 2, 6, 7, 8, 9, 13, 20, 26, 56, 68] -/
def o118_1 : List AOper := [⟨[.const .nilslice],fMove,none,0⟩]
def c118_1 : ACode := .region o118_1 [(3,0)] false
def o118_4 : List AOper := [⟨[.var 2],fMove,none,0⟩,
  ⟨[.loc 0],fLenSl,none,1⟩,
  ⟨[.var 1],fMove,none,0⟩,
  ⟨[.loc 1,.loc 0],fBin .eql,none,7⟩]
def c118_4 : ACode := .region o118_4 [(7,0)] false
def o118_8 : List AOper := [⟨[.var 0],fMove,none,0⟩,
  ⟨[.var 2],fMove,none,0⟩,
  ⟨[.const (.func (.func 29) [] []),.loc 1,.loc 0],fCall,none,3⟩,
  ⟨[.loc 0],fMove,none,7⟩,
  ⟨[.var 2],fMove,(some (0,true)),15⟩,
  ⟨[.const (.func (.func 55) [] []),.loc 0],fCall,(some (1,true)),31⟩,
  ⟨[.loc 2,.loc 0,.const (.bool false)],fPick,none,63⟩]
def c118_8 : ACode := .region o118_8 [(8,0)] false
def o118_11 : List AOper := [⟨[.var 2],fMove,none,0⟩,
  ⟨[.loc 0],fMove,none,1⟩]
def c118_11 : ACode := .region o118_11 [(3,0)] false
def c118_10 : ACode := .seq c118_11 .ret
def c118_9 : ACode := .cond (.var 8) c118_10 .skip
def c118_7 : ACode := .seq c118_8 c118_9
def o118_13 : List AOper := [⟨[.const .nilslice],fMove,none,0⟩]
def c118_13 : ACode := .region o118_13 [(3,0)] false
def c118_12 : ACode := .seq c118_13 .ret
def c118_6 : ACode := .seq c118_7 c118_12
def c118_5 : ACode := .cond (.var 7) c118_6 .skip
def c118_3 : ACode := .seq c118_4 c118_5
def o118_16 : List AOper := [⟨[.const (.int .i64 (.ofNat 0))],fMove,none,0⟩]
def c118_16 : ACode := .region o118_16 [(4,0)] false
def o118_21 : List AOper := [⟨[.var 4],fMove,none,0⟩,
  ⟨[.var 0],fMove,none,0⟩,
  ⟨[.loc 0],fLenSl,none,2⟩,
  ⟨[.loc 0,.const (.int .i64 (.ofNat 1))],fBin .sub,none,6⟩,
  ⟨[.loc 3,.loc 0],fBin .lss,none,15⟩]
def c118_21 : ACode := .region o118_21 [(9,0)] false
def c118_22 : ACode := .cond (.var 9) .skip (.exit 0)
def c118_20 : ACode := .seq c118_21 c118_22
def o118_27 : List AOper := [⟨[.var 2],fMove,none,0⟩,
  ⟨[.loc 0],fLenSl,none,1⟩,
  ⟨[.loc 0,.const (.int .i64 (.ofNat 0))],fBin .gtr,none,3⟩,
  ⟨[.loc 0],fMove,none,7⟩,
  ⟨[.var 0],fMove,(some (0,true)),15⟩,
  ⟨[.var 2],fMove,(some (1,true)),15⟩,
  ⟨[.var 2],fMove,(some (2,true)),15⟩,
  ⟨[.loc 0],fLenSl,(some (3,true)),79⟩,
  ⟨[.loc 0,.const (.int .i64 (.ofNat 1))],fBin .sub,(some (4,true)),207⟩,
  ⟨[.loc 3,.loc 0],fIndexAddr 1,(some (5,true)),495⟩,
  ⟨[.loc 0],fLoad1,(some (6,true)),1007⟩,
  ⟨[.var 4],fMove,(some (7,true)),15⟩,
  ⟨[.const (.func (.func 67) [] []),.loc 7,.loc 1,.loc 0],fCall,(some (8,true)),4095⟩,
  ⟨[.loc 0],fUn .not,(some (9,true)),8191⟩,
  ⟨[.loc 0],fMove,(some (10,true)),16383⟩,
  ⟨[.var 0],fMove,(some (0,false)),32767⟩,
  ⟨[.var 4],fMove,(some (1,false)),32767⟩,
  ⟨[.var 2],fMove,(some (2,false)),32767⟩,
  ⟨[.loc 0,.const (.int .i64 (.ofNat 0))],fIndexAddr 1,(some (3,false)),163839⟩,
  ⟨[.loc 0],fLoad1,(some (4,false)),425983⟩,
  ⟨[.var 1],fMove,(some (5,false)),32767⟩,
  ⟨[.var 2],fMove,(some (6,false)),32767⟩,
  ⟨[.loc 0],fLenSl,(some (7,false)),2129919⟩,
  ⟨[.loc 2,.loc 0],fBin .sub,(some (8,false)),7372799⟩,
  ⟨[.const (.func (.func 140) [] []),.loc 8,.loc 7,.loc 4,.loc 0],fCall,(some (9,false)),16777215⟩,
  ⟨[.loc 0],fUn .not,(some (10,false)),33554431⟩,
  ⟨[.loc 11,.const (.bool true),.loc 0],fPick,(some (22,true)),67108863⟩,
  ⟨[.loc 23,.loc 0,.const (.bool false)],fPick,none,134217727⟩]
def c118_27 : ACode := .region o118_27 [(10,0)] false
def c118_28 : ACode := .cond (.var 10) (.exit 1) .skip
def c118_26 : ACode := .seq c118_27 c118_28
def o118_30 : List AOper := [⟨[.const .nilslice],fMove,none,0⟩]
def c118_30 : ACode := .region o118_30 [(5,0)] false
def o118_32 : List AOper := [⟨[.var 5],fMove,none,0⟩,
  ⟨[.var 2],fMove,none,0⟩,
  ⟨[.loc 1,.loc 0],fAppend 1 8,none,3⟩,
  ⟨[.loc 0],fMove,none,7⟩]
def c118_32 : ACode := .region o118_32 [(5,0)] false
def o118_34 : List AOper := [⟨[.var 0],fMove,none,0⟩,
  ⟨[.var 1],fMove,none,0⟩,
  ⟨[.var 5],fMove,none,0⟩,
  ⟨[.var 4],fMove,none,0⟩,
  ⟨[.loc 0],fBuildSlice 1 1 [(.int .i64 (.ofNat 0))] [(0,1)],none,8⟩,
  ⟨[.loc 2,.loc 0],fAppend 1 8,none,28⟩,
  ⟨[.const (.func (.func 118) [] []),.loc 5,.loc 4,.loc 0],fCall,none,63⟩,
  ⟨[.loc 0],fMove,none,127⟩]
def c118_34 : ACode := .region o118_34 [(6,0)] false
def o118_36 : List AOper := [⟨[.var 6],fMove,none,0⟩,
  ⟨[.loc 0,.const .nilslice],fEqNil true,none,1⟩]
def c118_36 : ACode := .region o118_36 [(11,0)] false
def o118_39 : List AOper := [⟨[.var 6],fMove,none,0⟩,
  ⟨[.loc 0],fMove,none,1⟩]
def c118_39 : ACode := .region o118_39 [(3,0)] false
def c118_38 : ACode := .seq c118_39 .ret
def c118_37 : ACode := .cond (.var 11) c118_38 .skip
def c118_35 : ACode := .seq c118_36 c118_37
def c118_33 : ACode := .seq c118_34 c118_35
def c118_31 : ACode := .seq c118_32 c118_33
def c118_29 : ACode := .seq c118_30 c118_31
def c118_25 : ACode := .seq c118_26 c118_29
def c118_24 : ACode := .block 1 c118_25
def o118_40 : List AOper := [⟨[.var 4],fMove,none,0⟩,
  ⟨[.loc 0,.const (.int .i64 (.ofNat 1))],fBin .add,none,1⟩,
  ⟨[.loc 0],fMove,none,3⟩]
def c118_40 : ACode := .region o118_40 [(4,0)] false
def c118_23 : ACode := .seq c118_24 c118_40
def c118_19 : ACode := .seq c118_20 c118_23
def c118_18 : ACode := .loop c118_19
def c118_17 : ACode := .block 0 c118_18
def c118_15 : ACode := .seq c118_16 c118_17
def o118_42 : List AOper := [⟨[.const .nilslice],fMove,none,0⟩]
def c118_42 : ACode := .region o118_42 [(3,0)] false
def c118_41 : ACode := .seq c118_42 .ret
def c118_14 : ACode := .seq c118_15 c118_41
def c118_2 : ACode := .seq c118_3 c118_14
def c118_0 : ACode := .seq c118_1 c118_2
def vm118 : List Nat := [0, 1, 2, 6, 7, 8, 9, 13, 20, 26, 56, 68]
def c118 : AFn := ⟨3, 12, [.var 3], c118_0⟩
/- 130 girouette/cycles.divisor[int64] : slots [0, 1, 4, 6] -/
def o130_1 : List AOper := [⟨[.const (.int .i64 (.ofNat 0))],fMove,none,0⟩]
def c130_1 : ACode := .region o130_1 [(2,0)] false
def o130_7 : List AOper := [⟨[.var 1],fMove,none,0⟩,
  ⟨[.loc 0,.const (.int .i64 (.ofNat 0))],fBin .neq,none,1⟩]
def c130_7 : ACode := .region o130_7 [(3,0)] false
def c130_8 : ACode := .cond (.var 3) .skip (.exit 0)
def c130_6 : ACode := .seq c130_7 c130_8
def o130_10 : List AOper := [⟨[.var 1],fMove,none,0⟩,
  ⟨[.var 0],fMove,none,0⟩,
  ⟨[.var 1],fMove,none,0⟩,
  ⟨[.loc 1,.loc 0],fBin .rem,none,6⟩,
  ⟨[.loc 3],fMove,none,3⟩,
  ⟨[.loc 1],fMove,none,31⟩]
def c130_10 : ACode := .region o130_10 [(0,1),(1,0)] true
def c130_9 : ACode := .block 1 c130_10
def c130_5 : ACode := .seq c130_6 c130_9
def c130_4 : ACode := .loop c130_5
def c130_3 : ACode := .block 0 c130_4
def o130_12 : List AOper := [⟨[.var 0],fMove,none,0⟩,
  ⟨[.var 0],fMove,none,0⟩,
  ⟨[.loc 0],fUn .neg,none,2⟩,
  ⟨[.loc 2,.loc 0],fMax,none,7⟩,
  ⟨[.loc 0],fMove,none,15⟩]
def c130_12 : ACode := .region o130_12 [(2,0)] false
def c130_11 : ACode := .seq c130_12 .ret
def c130_2 : ACode := .seq c130_3 c130_11
def c130_0 : ACode := .seq c130_1 c130_2
def vm130 : List Nat := [0, 1, 4, 6]
def c130 : AFn := ⟨2, 4, [.var 2], c130_0⟩
/- 131 slices.pdqsortCmpFunc[girouette/cycles.word] : slots [0, 1, 2, 3, 4, 10, 11, 12, 13, 14, 15, 16, 17, 18, 19, 20, 25, 32, 39, 56, 75, 80, 97, 125] -/
def o131_1 : List AOper := [⟨[.const (.bool true)],fMove,none,0⟩]
def c131_1 : ACode := .region o131_1 [(5,0)] false
def o131_3 : List AOper := [⟨[.const (.bool true)],fMove,none,0⟩]
def c131_3 : ACode := .region o131_3 [(6,0)] false
def o131_8 : List AOper := [⟨[.var 2],fMove,none,0⟩,
  ⟨[.var 1],fMove,none,0⟩,
  ⟨[.loc 1,.loc 0],fBin .sub,none,3⟩,
  ⟨[.loc 0],fMove,none,7⟩]
def c131_8 : ACode := .region o131_8 [(7,0)] false
def o131_11 : List AOper := [⟨[.var 7],fMove,none,0⟩,
  ⟨[.loc 0,.const (.int .i64 (.ofNat 12))],fBin .leq,none,1⟩]
def c131_11 : ACode := .region o131_11 [(16,0)] false
def o131_14 : List AOper := [⟨[.var 0],fMove,none,0⟩,
  ⟨[.var 1],fMove,none,0⟩,
  ⟨[.var 2],fMove,none,0⟩,
  ⟨[.var 4],fMove,none,0⟩,
  ⟨[.const (.func (.func 145) [] []),.loc 3,.loc 2,.loc 1,.loc 0],fCall,none,15⟩]
def c131_14 : ACode := .region o131_14 [] false
def c131_13 : ACode := .seq c131_14 .ret
def c131_12 : ACode := .cond (.var 16) c131_13 .skip
def c131_10 : ACode := .seq c131_11 c131_12
def o131_17 : List AOper := [⟨[.var 3],fMove,none,0⟩,
  ⟨[.loc 0,.const (.int .i64 (.ofNat 0))],fBin .eql,none,1⟩]
def c131_17 : ACode := .region o131_17 [(17,0)] false
def o131_20 : List AOper := [⟨[.var 0],fMove,none,0⟩,
  ⟨[.var 1],fMove,none,0⟩,
  ⟨[.var 2],fMove,none,0⟩,
  ⟨[.var 4],fMove,none,0⟩,
  ⟨[.const (.func (.func 146) [] []),.loc 3,.loc 2,.loc 1,.loc 0],fCall,none,15⟩]
def c131_20 : ACode := .region o131_20 [] false
def c131_19 : ACode := .seq c131_20 .ret
def c131_18 : ACode := .cond (.var 17) c131_19 .skip
def c131_16 : ACode := .seq c131_17 c131_18
def o131_23 : List AOper := [⟨[.var 5],fMove,none,0⟩,
  ⟨[.loc 0],fUn .not,none,1⟩]
def c131_23 : ACode := .region o131_23 [(18,0)] false
def o131_26 : List AOper := [⟨[.var 0],fMove,none,0⟩,
  ⟨[.var 1],fMove,none,0⟩,
  ⟨[.var 2],fMove,none,0⟩,
  ⟨[.var 4],fMove,none,0⟩,
  ⟨[.const (.func (.func 147) [] []),.loc 3,.loc 2,.loc 1,.loc 0],fCall,none,15⟩]
def c131_26 : ACode := .region o131_26 [] false
def o131_27 : List AOper := [⟨[.var 3],fMove,none,0⟩,
  ⟨[.loc 0,.const (.int .i64 (.ofNat 1))],fBin .sub,none,1⟩,
  ⟨[.loc 0],fMove,none,3⟩]
def c131_27 : ACode := .region o131_27 [(3,0)] false
def c131_25 : ACode := .seq c131_26 c131_27
def c131_24 : ACode := .cond (.var 18) c131_25 .skip
def c131_22 : ACode := .seq c131_23 c131_24
def o131_29 : List AOper := [⟨[.var 0],fMove,none,0⟩,
  ⟨[.var 1],fMove,none,0⟩,
  ⟨[.var 2],fMove,none,0⟩,
  ⟨[.var 4],fMove,none,0⟩,
  ⟨[.const (.func (.func 148) [] []),.loc 3,.loc 2,.loc 1,.loc 0],fCall,none,15⟩,
  ⟨[.loc 0],fMove,none,31⟩,
  ⟨[.loc 0],fExtract 0,none,63⟩,
  ⟨[.loc 1],fExtract 1,none,63⟩,
  ⟨[.loc 1],fMove,none,127⟩,
  ⟨[.loc 1],fMove,none,511⟩]
def c131_29 : ACode := .region o131_29 [(8,1),(9,0)] false
def o131_32 : List AOper := [⟨[.var 9],fMove,none,0⟩,
  ⟨[.loc 0,.const (.int .i64 (.ofNat 2))],fBin .eql,none,1⟩]
def c131_32 : ACode := .region o131_32 [(19,0)] false
def o131_35 : List AOper := [⟨[.var 0],fMove,none,0⟩,
  ⟨[.var 1],fMove,none,0⟩,
  ⟨[.var 2],fMove,none,0⟩,
  ⟨[.var 4],fMove,none,0⟩,
  ⟨[.const (.func (.func 149) [] []),.loc 3,.loc 2,.loc 1,.loc 0],fCall,none,15⟩]
def c131_35 : ACode := .region o131_35 [] false
def o131_37 : List AOper := [⟨[.var 2],fMove,none,0⟩,
  ⟨[.loc 0,.const (.int .i64 (.ofNat 1))],fBin .sub,none,1⟩,
  ⟨[.var 8],fMove,none,0⟩,
  ⟨[.var 1],fMove,none,0⟩,
  ⟨[.loc 1,.loc 0],fBin .sub,none,12⟩,
  ⟨[.loc 3,.loc 0],fBin .sub,none,31⟩,
  ⟨[.loc 0],fMove,none,63⟩]
def c131_37 : ACode := .region o131_37 [(8,0)] false
def o131_38 : List AOper := [⟨[.const (.int .i64 (.ofNat 1))],fMove,none,0⟩]
def c131_38 : ACode := .region o131_38 [(9,0)] false
def c131_36 : ACode := .seq c131_37 c131_38
def c131_34 : ACode := .seq c131_35 c131_36
def c131_33 : ACode := .cond (.var 19) c131_34 .skip
def c131_31 : ACode := .seq c131_32 c131_33
def o131_41 : List AOper := [⟨[.var 5],fMove,none,0⟩,
  ⟨[.loc 0],fMove,none,1⟩,
  ⟨[.var 6],fMove,(some (0,true)),3⟩,
  ⟨[.loc 1,.loc 0,.const (.bool false)],fPick,none,7⟩,
  ⟨[.loc 0],fMove,none,15⟩,
  ⟨[.var 9],fMove,(some (0,true)),31⟩,
  ⟨[.loc 0,.const (.int .i64 (.ofNat 1))],fBin .eql,(some (1,true)),63⟩,
  ⟨[.loc 2,.loc 0,.const (.bool false)],fPick,none,127⟩]
def c131_41 : ACode := .region o131_41 [(20,0)] false
def o131_44 : List AOper := [⟨[.var 0],fMove,none,0⟩,
  ⟨[.var 1],fMove,none,0⟩,
  ⟨[.var 2],fMove,none,0⟩,
  ⟨[.var 4],fMove,none,0⟩,
  ⟨[.const (.func (.func 150) [] []),.loc 3,.loc 2,.loc 1,.loc 0],fCall,none,15⟩]
def c131_44 : ACode := .region o131_44 [(21,0)] false
def c131_45 : ACode := .cond (.var 21) .ret .skip
def c131_43 : ACode := .seq c131_44 c131_45
def c131_42 : ACode := .cond (.var 20) c131_43 .skip
def c131_40 : ACode := .seq c131_41 c131_42
def o131_48 : List AOper := [⟨[.var 1],fMove,none,0⟩,
  ⟨[.loc 0,.const (.int .i64 (.ofNat 0))],fBin .gtr,none,1⟩,
  ⟨[.loc 0],fMove,none,3⟩,
  ⟨[.var 4],fMove,(some (0,true)),7⟩,
  ⟨[.var 0],fMove,(some (1,true)),7⟩,
  ⟨[.var 1],fMove,(some (2,true)),7⟩,
  ⟨[.loc 0,.const (.int .i64 (.ofNat 1))],fBin .sub,(some (3,true)),39⟩,
  ⟨[.loc 2,.loc 0],fIndexAddr 1,(some (4,true)),119⟩,
  ⟨[.loc 0],fLoad1,(some (5,true)),247⟩,
  ⟨[.var 0],fMove,(some (6,true)),7⟩,
  ⟨[.var 8],fMove,(some (7,true)),7⟩,
  ⟨[.loc 1,.loc 0],fIndexAddr 1,(some (8,true)),1543⟩,
  ⟨[.loc 0],fLoad1,(some (9,true)),3591⟩,
  ⟨[.loc 9,.loc 4,.loc 0],fCall,(some (10,true)),8191⟩,
  ⟨[.loc 0,.const (.int .i64 (.ofNat 0))],fBin .lss,(some (11,true)),16383⟩,
  ⟨[.loc 0],fUn .not,(some (12,true)),32767⟩,
  ⟨[.loc 13,.loc 0,.const (.bool false)],fPick,none,65535⟩]
def c131_48 : ACode := .region o131_48 [(22,0)] true
def o131_51 : List AOper := [⟨[.var 0],fMove,none,0⟩,
  ⟨[.var 1],fMove,none,0⟩,
  ⟨[.var 2],fMove,none,0⟩,
  ⟨[.var 8],fMove,none,0⟩,
  ⟨[.var 4],fMove,none,0⟩,
  ⟨[.const (.func (.func 151) [] []),.loc 4,.loc 3,.loc 2,.loc 1,.loc 0],fCall,none,31⟩,
  ⟨[.loc 0],fMove,none,63⟩]
def c131_51 : ACode := .region o131_51 [(10,0)] false
def o131_53 : List AOper := [⟨[.var 10],fMove,none,0⟩,
  ⟨[.loc 0],fMove,none,1⟩]
def c131_53 : ACode := .region o131_53 [(1,0)] false
def c131_52 : ACode := .seq c131_53 (.exit 1)
def c131_50 : ACode := .seq c131_51 c131_52
def c131_49 : ACode := .cond (.var 22) c131_50 .skip
def c131_47 : ACode := .seq c131_48 c131_49
def o131_55 : List AOper := [⟨[.var 0],fMove,none,0⟩,
  ⟨[.var 1],fMove,none,0⟩,
  ⟨[.var 2],fMove,none,0⟩,
  ⟨[.var 8],fMove,none,0⟩,
  ⟨[.var 4],fMove,none,0⟩,
  ⟨[.const (.func (.func 152) [] []),.loc 4,.loc 3,.loc 2,.loc 1,.loc 0],fCall,none,31⟩,
  ⟨[.loc 0],fMove,none,63⟩,
  ⟨[.loc 0],fExtract 0,none,127⟩,
  ⟨[.loc 1],fExtract 1,none,127⟩,
  ⟨[.loc 1],fMove,none,255⟩,
  ⟨[.loc 1],fMove,none,1023⟩]
def c131_55 : ACode := .region o131_55 [(11,1),(12,0)] false
def o131_57 : List AOper := [⟨[.var 12],fMove,none,0⟩,
  ⟨[.loc 0],fMove,none,1⟩]
def c131_57 : ACode := .region o131_57 [(6,0)] false
def o131_59 : List AOper := [⟨[.var 11],fMove,none,0⟩,
  ⟨[.var 1],fMove,none,0⟩,
  ⟨[.loc 1,.loc 0],fBin .sub,none,3⟩,
  ⟨[.var 2],fMove,none,0⟩,
  ⟨[.var 11],fMove,none,0⟩,
  ⟨[.loc 1,.loc 0],fBin .sub,none,24⟩,
  ⟨[.loc 3],fMove,none,7⟩,
  ⟨[.loc 1],fMove,none,127⟩]
def c131_59 : ACode := .region o131_59 [(13,1),(14,0)] false
def o131_61 : List AOper := [⟨[.var 7],fMove,none,0⟩,
  ⟨[.loc 0,.const (.int .i64 (.ofNat 8))],fBin .quo,none,1⟩,
  ⟨[.loc 0],fMove,none,3⟩]
def c131_61 : ACode := .region o131_61 [(15,0)] false
def o131_63 : List AOper := [⟨[.var 13],fMove,none,0⟩,
  ⟨[.var 14],fMove,none,0⟩,
  ⟨[.loc 1,.loc 0],fBin .lss,none,3⟩]
def c131_63 : ACode := .region o131_63 [(23,0)] false
def o131_66 : List AOper := [⟨[.var 13],fMove,none,0⟩,
  ⟨[.var 15],fMove,none,0⟩,
  ⟨[.loc 1,.loc 0],fBin .geq,none,3⟩,
  ⟨[.loc 0],fMove,none,7⟩]
def c131_66 : ACode := .region o131_66 [(5,0)] false
def o131_68 : List AOper := [⟨[.var 0],fMove,none,0⟩,
  ⟨[.var 1],fMove,none,0⟩,
  ⟨[.var 11],fMove,none,0⟩,
  ⟨[.var 3],fMove,none,0⟩,
  ⟨[.var 4],fMove,none,0⟩,
  ⟨[.const (.func (.func 131) [] []),.loc 4,.loc 3,.loc 2,.loc 1,.loc 0],fCall,none,31⟩]
def c131_68 : ACode := .region o131_68 [] false
def o131_69 : List AOper := [⟨[.var 11],fMove,none,0⟩,
  ⟨[.loc 0,.const (.int .i64 (.ofNat 1))],fBin .add,none,1⟩,
  ⟨[.loc 0],fMove,none,3⟩]
def c131_69 : ACode := .region o131_69 [(1,0)] false
def c131_67 : ACode := .seq c131_68 c131_69
def c131_65 : ACode := .seq c131_66 c131_67
def o131_71 : List AOper := [⟨[.var 14],fMove,none,0⟩,
  ⟨[.var 15],fMove,none,0⟩,
  ⟨[.loc 1,.loc 0],fBin .geq,none,3⟩,
  ⟨[.loc 0],fMove,none,7⟩]
def c131_71 : ACode := .region o131_71 [(5,0)] false
def o131_73 : List AOper := [⟨[.var 0],fMove,none,0⟩,
  ⟨[.var 11],fMove,none,0⟩,
  ⟨[.loc 0,.const (.int .i64 (.ofNat 1))],fBin .add,none,2⟩,
  ⟨[.var 2],fMove,none,0⟩,
  ⟨[.var 3],fMove,none,0⟩,
  ⟨[.var 4],fMove,none,0⟩,
  ⟨[.const (.func (.func 131) [] []),.loc 5,.loc 3,.loc 2,.loc 1,.loc 0],fCall,none,63⟩]
def c131_73 : ACode := .region o131_73 [] false
def o131_74 : List AOper := [⟨[.var 11],fMove,none,0⟩,
  ⟨[.loc 0],fMove,none,1⟩]
def c131_74 : ACode := .region o131_74 [(2,0)] false
def c131_72 : ACode := .seq c131_73 c131_74
def c131_70 : ACode := .seq c131_71 c131_72
def c131_64 : ACode := .cond (.var 23) c131_65 c131_70
def c131_62 : ACode := .seq c131_63 c131_64
def c131_60 : ACode := .seq c131_61 c131_62
def c131_58 : ACode := .seq c131_59 c131_60
def c131_56 : ACode := .seq c131_57 c131_58
def c131_54 : ACode := .seq c131_55 c131_56
def c131_46 : ACode := .seq c131_47 c131_54
def c131_39 : ACode := .seq c131_40 c131_46
def c131_30 : ACode := .seq c131_31 c131_39
def c131_28 : ACode := .seq c131_29 c131_30
def c131_21 : ACode := .seq c131_22 c131_28
def c131_15 : ACode := .seq c131_16 c131_21
def c131_9 : ACode := .seq c131_10 c131_15
def c131_7 : ACode := .seq c131_8 c131_9
def c131_6 : ACode := .block 1 c131_7
def c131_5 : ACode := .loop c131_6
def c131_4 : ACode := .block 0 c131_5
def c131_2 : ACode := .seq c131_3 c131_4
def c131_0 : ACode := .seq c131_1 c131_2
def vm131 : List Nat := [0, 1, 2, 3, 4, 10, 11, 12, 13, 14, 15, 16, 17, 18, 19, 20, 25, 32, 39, 56, 75, 80, 97, 125]
def c131 : AFn := ⟨5, 24, [], c131_0⟩
/- 132 math/bits.Len : slots [0, 2] -/
def o132_1 : List AOper := [⟨[.const (.int .i64 (.ofNat 0))],fMove,none,0⟩]
def c132_1 : ACode := .region o132_1 [(1,0)] false
def o132_5 : List AOper := [⟨[.var 0],fMove,none,0⟩,
  ⟨[.loc 0],fConvInt .u32,none,1⟩,
  ⟨[.const (.func (.func 153) [] []),.loc 0],fCall,none,3⟩,
  ⟨[.loc 0],fMove,none,7⟩]
def c132_5 : ACode := .region o132_5 [(1,0)] false
def c132_4 : ACode := .seq c132_5 .ret
def c132_3 : ACode := .cond (.const (.bool false)) c132_4 .skip
def o132_7 : List AOper := [⟨[.var 0],fMove,none,0⟩,
  ⟨[.const (.func (.func 154) [] []),.loc 0],fCall,none,1⟩,
  ⟨[.loc 0],fMove,none,3⟩]
def c132_7 : ACode := .region o132_7 [(1,0)] false
def c132_6 : ACode := .seq c132_7 .ret
def c132_2 : ACode := .seq c132_3 c132_6
def c132_0 : ACode := .seq c132_1 c132_2
def vm132 : List Nat := [0, 2]
def c132 : AFn := ⟨1, 2, [.var 1], c132_0⟩
/- 133 girouette/cycles.letter : slots [0, 2] -/
def o133_1 : List AOper := [⟨[.const (.int .i64 (.ofNat 0))],fMove,none,0⟩]
def c133_1 : ACode := .region o133_1 [(1,0)] false
def o133_3 : List AOper := [⟨[],fMakeMap,none,0⟩,
  ⟨[.loc 0,.const (.int .u8 (.ofNat 76)),.const (.int .i64 (.ofNat 0))],fMapUpdate .i,none,1⟩,
  ⟨[.loc 1,.const (.int .u8 (.ofNat 67)),.const (.int .i64 (.ofNat 1))],fMapUpdate .i,none,1⟩,
  ⟨[.loc 2,.const (.int .u8 (.ofNat 82)),.const (.int .i64 (.ofNat 2))],fMapUpdate .i,none,1⟩,
  ⟨[.loc 3],fMove,none,15⟩,
  ⟨[.var 0],fMove,none,0⟩,
  ⟨[.loc 1,.loc 0],fLookup .i (.int .i64 (.ofNat 0)) false,none,63⟩,
  ⟨[.loc 0],fMove,none,127⟩]
def c133_3 : ACode := .region o133_3 [(1,0)] false
def c133_2 : ACode := .seq c133_3 .ret
def c133_0 : ACode := .seq c133_1 c133_2
def vm133 : List Nat := [0, 2]
def c133 : AFn := ⟨1, 2, [.var 1], c133_0⟩
/- 134 (girouette/cycles.cycle).loop$1 : slots [0, 1, 2, 3, 4, 5, 6, 7, 8, 9, 12, 24, 28, 29, 30] -/
def o134_1 : List AOper := [⟨[.var 0],fBox,none,0⟩,
  ⟨[.const (.bool false)],fMove,none,0⟩]
def c134_1 : ACode := .region o134_1 [(4,1),(5,0)] false
def o134_4 : List AOper := [⟨[.var 4],fFieldAddr 0,none,0⟩,
  ⟨[.loc 0],fLoad1,none,1⟩,
  ⟨[.loc 0,.const (.int .i64 (.ofNat 0))],fBin .eql,none,3⟩]
def c134_4 : ACode := .region o134_4 [(10,0)] false
def o134_7 : List AOper := [⟨[.var 4],fFieldAddr 1,none,0⟩,
  ⟨[.loc 0],fLoad1,none,1⟩,
  ⟨[.var 4],fFieldAddr 2,none,0⟩,
  ⟨[.loc 0],fLoad1,none,4⟩,
  ⟨[.loc 2,.loc 0],fBin .eql,none,15⟩,
  ⟨[.loc 0],fMove,none,31⟩]
def c134_7 : ACode := .region o134_7 [(5,0)] false
def c134_6 : ACode := .seq c134_7 .ret
def c134_5 : ACode := .cond (.var 10) c134_6 .skip
def c134_3 : ACode := .seq c134_4 c134_5
def o134_10 : List AOper := [⟨[.var 1],fLoad1,none,0⟩,
  ⟨[.var 4],fLoadN 3,none,0⟩,
  ⟨[.loc 1,.loc 0],fLookup (.agg [(0,none,.i),(1,none,.i),(2,none,.i)]) (.bool false) true,none,3⟩,
  ⟨[.loc 0],fMove,none,7⟩,
  ⟨[.loc 0],fExtract 0,none,15⟩,
  ⟨[.loc 1],fExtract 1,none,15⟩,
  ⟨[.loc 1],fMove,none,31⟩,
  ⟨[.loc 1],fMove,none,127⟩]
def c134_10 : ACode := .region o134_10 [(6,1),(7,0)] false
def o134_12 : List AOper := [⟨[.var 7],fMove,none,0⟩]
def c134_12 : ACode := .region o134_12 [(11,0)] false
def o134_15 : List AOper := [⟨[.var 6],fMove,none,0⟩,
  ⟨[.loc 0],fMove,none,1⟩]
def c134_15 : ACode := .region o134_15 [(5,0)] false
def c134_14 : ACode := .seq c134_15 .ret
def c134_13 : ACode := .cond (.var 11) c134_14 .skip
def c134_11 : ACode := .seq c134_12 c134_13
def c134_9 : ACode := .seq c134_10 c134_11
def o134_17 : List AOper := [⟨[.const (.bool false)],fMove,none,0⟩]
def c134_17 : ACode := .region o134_17 [(8,0)] false
def o134_20 : List AOper := [⟨[.var 2],fLoad1,none,0⟩,
  ⟨[.loc 0],fLenSl,none,1⟩,
  ⟨[.loc 0,.const (.int .i64 (.ofNat 1))],fBin .sub,none,3⟩,
  ⟨[.const (.int .i64 (.ofNat 0))],fMove,none,0⟩]
def c134_20 : ACode := .region o134_20 [(12,1),(13,0)] false
def o134_24 : List AOper := [⟨[.var 13,.var 12],fBin .lss,none,0⟩]
def c134_24 : ACode := .region o134_24 [(14,0)] false
def c134_26 : ACode := .cond (.var 14) .skip (.exit 0)
def o134_30 : List AOper := [⟨[.var 13],fMove,none,0⟩,
  ⟨[.loc 0],fMove,none,1⟩]
def c134_30 : ACode := .region o134_30 [(9,0)] false
def o134_31 : List AOper := [⟨[.var 8],fMove,none,0⟩,
  ⟨[.loc 0],fMove,none,1⟩,
  ⟨[.var 2],fLoad1,(some (0,false)),3⟩,
  ⟨[.var 4],fFieldAddr 1,(some (1,false)),3⟩,
  ⟨[.loc 0],fLoad1,(some (2,false)),11⟩,
  ⟨[.var 9],fMove,(some (3,false)),3⟩,
  ⟨[.const (.func (.func 117) [] []),.loc 3,.loc 1,.loc 0],fCall,(some (4,false)),63⟩,
  ⟨[.loc 0],fMove,(some (5,false)),127⟩,
  ⟨[.var 3],fLoad1,(some (0,true)),255⟩,
  ⟨[.var 4],fFieldAddr 0,(some (1,true)),255⟩,
  ⟨[.loc 0],fLoad1,(some (2,true)),767⟩,
  ⟨[.loc 0,.const (.int .i64 (.ofNat 1))],fBin .sub,(some (3,true)),1791⟩,
  ⟨[.var 9],fMove,(some (4,true)),255⟩,
  ⟨[.var 4],fFieldAddr 2,(some (5,true)),255⟩,
  ⟨[.loc 0],fLoad1,(some (6,true)),8447⟩,
  ⟨[.loc 3,.loc 2,.loc 0],fBuild [(.int .i64 (.ofNat 0)),(.int .i64 (.ofNat 0)),(.int .i64 (.ofNat 0))] [(0,1),(1,1),(2,1)],(some (7,true)),32511⟩,
  ⟨[.loc 7,.loc 0],fCall,(some (8,true)),65535⟩,
  ⟨[.loc 9,.loc 0,.const (.bool false)],fPick,(some (15,false)),131071⟩,
  ⟨[.loc 16,.const (.bool true),.loc 0],fPick,none,262143⟩,
  ⟨[.loc 0],fMove,none,524287⟩]
def c134_31 : ACode := .region o134_31 [(8,0)] false
def c134_29 : ACode := .seq c134_30 c134_31
def c134_28 : ACode := .block 1 c134_29
def o134_32 : List AOper := [⟨[.var 13,.const (.int .i64 (.ofNat 1))],fBin .add,none,0⟩,
  ⟨[.loc 0],fMove,none,1⟩]
def c134_32 : ACode := .region o134_32 [(13,0)] false
def c134_27 : ACode := .seq c134_28 c134_32
def c134_25 : ACode := .seq c134_26 c134_27
def c134_23 : ACode := .seq c134_24 c134_25
def c134_22 : ACode := .loop c134_23
def c134_21 : ACode := .block 0 c134_22
def c134_19 : ACode := .seq c134_20 c134_21
def o134_34 : List AOper := [⟨[.var 1],fLoad1,none,0⟩,
  ⟨[.var 4],fLoadN 3,none,0⟩,
  ⟨[.var 8],fMove,none,0⟩,
  ⟨[.loc 2,.loc 1,.loc 0],fMapUpdate (.agg [(0,none,.i),(1,none,.i),(2,none,.i)]),none,7⟩]
def c134_34 : ACode := .region o134_34 [] false
def o134_36 : List AOper := [⟨[.var 8],fMove,none,0⟩,
  ⟨[.loc 0],fMove,none,1⟩]
def c134_36 : ACode := .region o134_36 [(5,0)] false
def c134_35 : ACode := .seq c134_36 .ret
def c134_33 : ACode := .seq c134_34 c134_35
def c134_18 : ACode := .seq c134_19 c134_33
def c134_16 : ACode := .seq c134_17 c134_18
def c134_8 : ACode := .seq c134_9 c134_16
def c134_2 : ACode := .seq c134_3 c134_8
def c134_0 : ACode := .seq c134_1 c134_2
def vm134 : List Nat := [0, 1, 2, 3, 4, 5, 6, 7, 8, 9, 12, 24, 28, 29, 30]
def c134 : AFn := ⟨4, 15, [.var 5], c134_0⟩
/- 135 (girouette/cycles.cycle).loop$2 : slots [0, 1, 2, 3, 4, 5, 6, 7, 8, 18, 28, 33, 34, 35, 55, 61] -/
def o135_1 : List AOper := [⟨[.const (.bool false)],fMove,none,0⟩]
def c135_1 : ACode := .region o135_1 [(6,0)] false
def o135_3 : List AOper := [⟨[.var 0],fLoad1,none,0⟩,
  ⟨[.var 0],fLoad1,none,0⟩,
  ⟨[.loc 0],fLenSl,none,2⟩,
  ⟨[.loc 0,.const (.int .i64 (.ofNat 1))],fBin .sub,none,6⟩,
  ⟨[.loc 3,.loc 0],fIndexAddr 1,none,15⟩,
  ⟨[.loc 0],fLoad1,none,31⟩,
  ⟨[.loc 0],fMove,none,63⟩]
def c135_3 : ACode := .region o135_3 [(7,0)] false
def o135_6 : List AOper := [⟨[.var 0],fLoad1,none,0⟩,
  ⟨[.loc 0],fLenSl,none,1⟩,
  ⟨[.var 1],fLoad1,none,0⟩,
  ⟨[.loc 1,.loc 0],fBin .eql,none,7⟩]
def c135_6 : ACode := .region o135_6 [(9,0)] false
def o135_10 : List AOper := [⟨[.var 2],fLoad1,none,0⟩,
  ⟨[.var 7],fMove,none,0⟩,
  ⟨[.var 0],fLoad1,none,0⟩,
  ⟨[.loc 0,.const (.int .i64 (.ofNat 0))],fIndexAddr 1,none,4⟩,
  ⟨[.loc 0],fLoad1,none,12⟩,
  ⟨[.const (.func (.func 117) [] []),.loc 4,.loc 3,.loc 0],fCall,none,31⟩,
  ⟨[.loc 0],fMove,none,63⟩,
  ⟨[.var 0],fLoad1,(some (0,true)),127⟩,
  ⟨[.const (.func (.func 136) [] []),.loc 0],fCall,(some (1,true)),255⟩,
  ⟨[.loc 2,.loc 0,.const (.bool false)],fPick,none,511⟩]
def c135_10 : ACode := .region o135_10 [(10,0)] true
def o135_13 : List AOper := [⟨[.var 0],fLoad1,none,0⟩,
  ⟨[.const (.func (.func 137) [] []),.loc 0],fCall,none,1⟩,
  ⟨[.var 3,.loc 0],fStore 1,none,3⟩]
def c135_13 : ACode := .region o135_13 [] false
def o135_15 : List AOper := [⟨[.const (.bool true)],fMove,none,0⟩]
def c135_15 : ACode := .region o135_15 [(6,0)] false
def c135_14 : ACode := .seq c135_15 .ret
def c135_12 : ACode := .seq c135_13 c135_14
def c135_11 : ACode := .cond (.var 10) c135_12 .skip
def c135_9 : ACode := .seq c135_10 c135_11
def o135_17 : List AOper := [⟨[.const (.bool false)],fMove,none,0⟩]
def c135_17 : ACode := .region o135_17 [(6,0)] false
def c135_16 : ACode := .seq c135_17 .ret
def c135_8 : ACode := .seq c135_9 c135_16
def c135_7 : ACode := .cond (.var 9) c135_8 .skip
def c135_5 : ACode := .seq c135_6 c135_7
def o135_20 : List AOper := [⟨[.var 2],fLoad1,none,0⟩,
  ⟨[.loc 0],fLenSl,none,1⟩,
  ⟨[.loc 0,.const (.int .i64 (.ofNat 1))],fBin .sub,none,3⟩,
  ⟨[.const (.int .i64 (.ofNat 0))],fMove,none,0⟩]
def c135_20 : ACode := .region o135_20 [(11,1),(12,0)] false
def o135_24 : List AOper := [⟨[.var 12,.var 11],fBin .lss,none,0⟩]
def c135_24 : ACode := .region o135_24 [(13,0)] false
def c135_26 : ACode := .cond (.var 13) .skip (.exit 0)
def o135_30 : List AOper := [⟨[.var 12],fMove,none,0⟩,
  ⟨[.loc 0],fMove,none,1⟩]
def c135_30 : ACode := .region o135_30 [(8,0)] false
def o135_33 : List AOper := [⟨[.var 2],fLoad1,none,0⟩,
  ⟨[.var 7],fMove,none,0⟩,
  ⟨[.var 8],fMove,none,0⟩,
  ⟨[.const (.func (.func 117) [] []),.loc 2,.loc 1,.loc 0],fCall,none,7⟩,
  ⟨[.loc 0],fUn .not,none,15⟩,
  ⟨[.loc 0],fMove,none,31⟩,
  ⟨[.var 4],fLoad1,(some (0,false)),63⟩,
  ⟨[.var 1],fLoad1,(some (1,false)),63⟩,
  ⟨[.var 0],fLoad1,(some (2,false)),63⟩,
  ⟨[.loc 0],fLenSl,(some (3,false)),319⟩,
  ⟨[.loc 2,.loc 0],fBin .sub,(some (4,false)),959⟩,
  ⟨[.var 8],fMove,(some (5,false)),63⟩,
  ⟨[.var 0],fLoad1,(some (6,false)),63⟩,
  ⟨[.loc 0,.const (.int .i64 (.ofNat 0))],fIndexAddr 1,(some (7,false)),4159⟩,
  ⟨[.loc 0],fLoad1,(some (8,false)),12351⟩,
  ⟨[.loc 4,.loc 3,.loc 0],fBuild [(.int .i64 (.ofNat 0)),(.int .i64 (.ofNat 0)),(.int .i64 (.ofNat 0))] [(0,1),(1,1),(2,1)],(some (9,false)),32703⟩,
  ⟨[.loc 9,.loc 0],fCall,(some (10,false)),65535⟩,
  ⟨[.loc 0],fUn .not,(some (11,false)),131071⟩,
  ⟨[.loc 12,.const (.bool true),.loc 0],fPick,none,262143⟩]
def c135_33 : ACode := .region o135_33 [(14,0)] true
def c135_34 : ACode := .cond (.var 14) (.exit 1) .skip
def c135_32 : ACode := .seq c135_33 c135_34
def o135_36 : List AOper := [⟨[.var 0],fLoad1,none,0⟩,
  ⟨[.var 8],fMove,none,0⟩,
  ⟨[.loc 0],fBuildSlice 1 1 [(.int .i64 (.ofNat 0))] [(0,1)],none,2⟩,
  ⟨[.loc 2,.loc 0],fAppend 1 8,none,7⟩,
  ⟨[.var 0,.loc 0],fStore 1,none,15⟩]
def c135_36 : ACode := .region o135_36 [] false
def o135_39 : List AOper := [⟨[.var 5],fLoad1,none,0⟩,
  ⟨[.loc 0],fCall,none,1⟩]
def c135_39 : ACode := .region o135_39 [(15,0)] false
def o135_42 : List AOper := [⟨[.const (.bool true)],fMove,none,0⟩]
def c135_42 : ACode := .region o135_42 [(6,0)] false
def c135_41 : ACode := .seq c135_42 .ret
def c135_40 : ACode := .cond (.var 15) c135_41 .skip
def c135_38 : ACode := .seq c135_39 c135_40
def o135_43 : List AOper := [⟨[.var 0],fLoad1,none,0⟩,
  ⟨[.var 0],fLoad1,none,0⟩,
  ⟨[.loc 0],fLenSl,none,2⟩,
  ⟨[.loc 0,.const (.int .i64 (.ofNat 1))],fBin .sub,none,6⟩,
  ⟨[.loc 3,.loc 0],fSlice 1 false true,none,15⟩,
  ⟨[.var 0,.loc 0],fStore 1,none,31⟩]
def c135_43 : ACode := .region o135_43 [] false
def c135_37 : ACode := .seq c135_38 c135_43
def c135_35 : ACode := .seq c135_36 c135_37
def c135_31 : ACode := .seq c135_32 c135_35
def c135_29 : ACode := .seq c135_30 c135_31
def c135_28 : ACode := .block 1 c135_29
def o135_44 : List AOper := [⟨[.var 12,.const (.int .i64 (.ofNat 1))],fBin .add,none,0⟩,
  ⟨[.loc 0],fMove,none,1⟩]
def c135_44 : ACode := .region o135_44 [(12,0)] false
def c135_27 : ACode := .seq c135_28 c135_44
def c135_25 : ACode := .seq c135_26 c135_27
def c135_23 : ACode := .seq c135_24 c135_25
def c135_22 : ACode := .loop c135_23
def c135_21 : ACode := .block 0 c135_22
def c135_19 : ACode := .seq c135_20 c135_21
def o135_46 : List AOper := [⟨[.const (.bool false)],fMove,none,0⟩]
def c135_46 : ACode := .region o135_46 [(6,0)] false
def c135_45 : ACode := .seq c135_46 .ret
def c135_18 : ACode := .seq c135_19 c135_45
def c135_4 : ACode := .seq c135_5 c135_18
def c135_2 : ACode := .seq c135_3 c135_4
def c135_0 : ACode := .seq c135_1 c135_2
def vm135 : List Nat := [0, 1, 2, 3, 4, 5, 6, 7, 8, 18, 28, 33, 34, 35, 55, 61]
def c135 : AFn := ⟨6, 16, [.var 6], c135_0⟩
/- 137 slices.Clone[[]int,int] : slots [0, 2, 4] -/
def o137_1 : List AOper := [⟨[.const .nilslice],fMove,none,0⟩]
def c137_1 : ACode := .region o137_1 [(1,0)] false
def o137_4 : List AOper := [⟨[.var 0],fMove,none,0⟩,
  ⟨[.loc 0,.const .nilslice],fEqNil false,none,1⟩]
def c137_4 : ACode := .region o137_4 [(2,0)] false
def o137_7 : List AOper := [⟨[.const .nilslice],fMove,none,0⟩]
def c137_7 : ACode := .region o137_7 [(1,0)] false
def c137_6 : ACode := .seq c137_7 .ret
def c137_5 : ACode := .cond (.var 2) c137_6 .skip
def c137_3 : ACode := .seq c137_4 c137_5
def o137_9 : List AOper := [⟨[],fBuildSlice 0 1 [(.int .i64 (.ofNat 0))] [],none,0⟩,
  ⟨[.var 0],fMove,none,0⟩,
  ⟨[.loc 1,.loc 0],fAppend 1 8,none,3⟩,
  ⟨[.loc 0],fMove,none,7⟩]
def c137_9 : ACode := .region o137_9 [(1,0)] false
def c137_8 : ACode := .seq c137_9 .ret
def c137_2 : ACode := .seq c137_3 c137_8
def c137_0 : ACode := .seq c137_1 c137_2
def vm137 : List Nat := [0, 2, 4]
def c137 : AFn := ⟨1, 3, [.var 1], c137_0⟩
/- 138 slices.Min[[]int,int] : slots [0, 2, 3, 4, 7, 15] -/
def o138_1 : List AOper := [⟨[.const (.int .i64 (.ofNat 0))],fMove,none,0⟩]
def c138_1 : ACode := .region o138_1 [(1,0)] false
def o138_4 : List AOper := [⟨[.var 0],fMove,none,0⟩,
  ⟨[.loc 0],fLenSl,none,1⟩,
  ⟨[.loc 0,.const (.int .i64 (.ofNat 1))],fBin .lss,none,3⟩]
def c138_4 : ACode := .region o138_4 [(4,0)] false
def o138_6 : List AOper := [⟨[.const (.str [115,108,105,99,101,115,46,77,105,110,58,32,101,109,112,116,121,32,108,105,115,116])],fMakeIface 9,none,0⟩,
  ⟨[.loc 0],fBad,none,1⟩]
def c138_6 : ACode := .region o138_6 [] false
def c138_5 : ACode := .cond (.var 4) c138_6 .skip
def c138_3 : ACode := .seq c138_4 c138_5
def o138_8 : List AOper := [⟨[.var 0],fMove,none,0⟩,
  ⟨[.loc 0,.const (.int .i64 (.ofNat 0))],fIndexAddr 1,none,1⟩,
  ⟨[.loc 0],fLoad1,none,3⟩,
  ⟨[.loc 0],fMove,none,7⟩]
def c138_8 : ACode := .region o138_8 [(2,0)] false
def o138_11 : List AOper := [⟨[.const (.int .i64 (.ofNat 1))],fMove,none,0⟩]
def c138_11 : ACode := .region o138_11 [(3,0)] false
def o138_16 : List AOper := [⟨[.var 3],fMove,none,0⟩,
  ⟨[.var 0],fMove,none,0⟩,
  ⟨[.loc 0],fLenSl,none,2⟩,
  ⟨[.loc 2,.loc 0],fBin .lss,none,7⟩]
def c138_16 : ACode := .region o138_16 [(5,0)] false
def c138_17 : ACode := .cond (.var 5) .skip (.exit 0)
def c138_15 : ACode := .seq c138_16 c138_17
def o138_20 : List AOper := [⟨[.var 2],fMove,none,0⟩,
  ⟨[.var 0],fMove,none,0⟩,
  ⟨[.var 3],fMove,none,0⟩,
  ⟨[.loc 1,.loc 0],fIndexAddr 1,none,6⟩,
  ⟨[.loc 0],fLoad1,none,14⟩,
  ⟨[.loc 4,.loc 0],fMin,none,31⟩,
  ⟨[.loc 0],fMove,none,63⟩]
def c138_20 : ACode := .region o138_20 [(2,0)] false
def c138_19 : ACode := .block 1 c138_20
def o138_21 : List AOper := [⟨[.var 3],fMove,none,0⟩,
  ⟨[.loc 0,.const (.int .i64 (.ofNat 1))],fBin .add,none,1⟩,
  ⟨[.loc 0],fMove,none,3⟩]
def c138_21 : ACode := .region o138_21 [(3,0)] false
def c138_18 : ACode := .seq c138_19 c138_21
def c138_14 : ACode := .seq c138_15 c138_18
def c138_13 : ACode := .loop c138_14
def c138_12 : ACode := .block 0 c138_13
def c138_10 : ACode := .seq c138_11 c138_12
def o138_23 : List AOper := [⟨[.var 2],fMove,none,0⟩,
  ⟨[.loc 0],fMove,none,1⟩]
def c138_23 : ACode := .region o138_23 [(1,0)] false
def c138_22 : ACode := .seq c138_23 .ret
def c138_9 : ACode := .seq c138_10 c138_22
def c138_7 : ACode := .seq c138_8 c138_9
def c138_2 : ACode := .seq c138_3 c138_7
def c138_0 : ACode := .seq c138_1 c138_2
def vm138 : List Nat := [0, 2, 3, 4, 7, 15]
def c138 : AFn := ⟨1, 6, [.var 1], c138_0⟩
/- 140 girouette/girouetteref05.back : slots [0, 1, 2, 3, 8, 9, 10, 11, 12, 13, 18, 25, 32, 45] -/
def o140_1 : List AOper := [⟨[.const (.bool false)],fMove,none,0⟩]
def c140_1 : ACode := .region o140_1 [(4,0)] false
def o140_3 : List AOper := [⟨[.var 1],fMove,none,0⟩,
  ⟨[.const (.int .i64 (.ofNat 1)),.loc 0],fBin .shl,none,1⟩,
  ⟨[.loc 0],fMove,none,3⟩]
def c140_3 : ACode := .region o140_3 [(5,0)] false
def o140_6 : List AOper := [⟨[.const (.int .i64 (.ofNat 0))],fMove,none,0⟩]
def c140_6 : ACode := .region o140_6 [(6,0)] false
def o140_11 : List AOper := [⟨[.var 6],fMove,none,0⟩,
  ⟨[.var 3],fMove,none,0⟩,
  ⟨[.loc 1,.loc 0],fBin .lss,none,3⟩]
def c140_11 : ACode := .region o140_11 [(10,0)] false
def c140_12 : ACode := .cond (.var 10) .skip (.exit 0)
def c140_10 : ACode := .seq c140_11 c140_12
def o140_16 : List AOper := [⟨[.const (.int .i64 (.ofNat 0))],fMove,none,0⟩]
def c140_16 : ACode := .region o140_16 [(7,0)] false
def o140_19 : List AOper := [⟨[.const (.int .i64 (.ofNat 0))],fMove,none,0⟩]
def c140_19 : ACode := .region o140_19 [(8,0)] false
def o140_24 : List AOper := [⟨[.var 8],fMove,none,0⟩,
  ⟨[.var 0],fMove,none,0⟩,
  ⟨[.loc 0],fLenSl,none,2⟩,
  ⟨[.loc 0,.const (.int .i64 (.ofNat 1))],fBin .sub,none,6⟩,
  ⟨[.loc 3,.loc 0],fBin .lss,none,15⟩]
def c140_24 : ACode := .region o140_24 [(11,0)] false
def c140_25 : ACode := .cond (.var 11) .skip (.exit 2)
def c140_23 : ACode := .seq c140_24 c140_25
def o140_29 : List AOper := [⟨[.const (.int .i64 (.ofNat 0))],fMove,none,0⟩]
def c140_29 : ACode := .region o140_29 [(9,0)] false
def o140_34 : List AOper := [⟨[.var 9],fMove,none,0⟩,
  ⟨[.var 0],fMove,none,0⟩,
  ⟨[.loc 0],fLenSl,none,2⟩,
  ⟨[.loc 0,.const (.int .i64 (.ofNat 1))],fBin .sub,none,6⟩,
  ⟨[.loc 3,.loc 0],fBin .lss,none,15⟩]
def c140_34 : ACode := .region o140_34 [(12,0)] false
def c140_35 : ACode := .cond (.var 12) .skip (.exit 4)
def c140_33 : ACode := .seq c140_34 c140_35
def o140_39 : List AOper := [⟨[.var 5],fMove,none,0⟩,
  ⟨[.var 8],fMove,none,0⟩,
  ⟨[.loc 1,.loc 0],fBin .shr,none,3⟩,
  ⟨[.loc 0,.const (.int .i64 (.ofNat 2))],fBin .rem,none,7⟩,
  ⟨[.loc 0,.const (.int .i64 (.ofNat 1))],fBin .eql,none,15⟩,
  ⟨[.loc 0],fMove,none,31⟩,
  ⟨[.var 0],fMove,(some (0,true)),63⟩,
  ⟨[.var 8],fMove,(some (1,true)),63⟩,
  ⟨[.var 9],fMove,(some (2,true)),63⟩,
  ⟨[.const (.func (.func 67) [] []),.loc 2,.loc 1,.loc 0],fCall,(some (3,true)),511⟩,
  ⟨[.loc 4,.loc 0,.const (.bool false)],fPick,none,1023⟩]
def c140_39 : ACode := .region o140_39 [(13,0)] false
def o140_41 : List AOper := [⟨[.var 7],fMove,none,0⟩,
  ⟨[.var 9],fMove,none,0⟩,
  ⟨[.const (.int .i64 (.ofNat 1)),.loc 0],fBin .shl,none,2⟩,
  ⟨[.loc 2,.loc 0],fBin .or,none,7⟩,
  ⟨[.loc 0],fMove,none,15⟩]
def c140_41 : ACode := .region o140_41 [(7,0)] false
def c140_40 : ACode := .cond (.var 13) c140_41 .skip
def c140_38 : ACode := .seq c140_39 c140_40
def c140_37 : ACode := .block 5 c140_38
def o140_42 : List AOper := [⟨[.var 9],fMove,none,0⟩,
  ⟨[.loc 0,.const (.int .i64 (.ofNat 1))],fBin .add,none,1⟩,
  ⟨[.loc 0],fMove,none,3⟩]
def c140_42 : ACode := .region o140_42 [(9,0)] false
def c140_36 : ACode := .seq c140_37 c140_42
def c140_32 : ACode := .seq c140_33 c140_36
def c140_31 : ACode := .loop c140_32
def c140_30 : ACode := .block 4 c140_31
def c140_28 : ACode := .seq c140_29 c140_30
def c140_27 : ACode := .block 3 c140_28
def o140_43 : List AOper := [⟨[.var 8],fMove,none,0⟩,
  ⟨[.loc 0,.const (.int .i64 (.ofNat 1))],fBin .add,none,1⟩,
  ⟨[.loc 0],fMove,none,3⟩]
def c140_43 : ACode := .region o140_43 [(8,0)] false
def c140_26 : ACode := .seq c140_27 c140_43
def c140_22 : ACode := .seq c140_23 c140_26
def c140_21 : ACode := .loop c140_22
def c140_20 : ACode := .block 2 c140_21
def c140_18 : ACode := .seq c140_19 c140_20
def o140_44 : List AOper := [⟨[.var 7],fMove,none,0⟩,
  ⟨[.loc 0],fMove,none,1⟩]
def c140_44 : ACode := .region o140_44 [(5,0)] false
def c140_17 : ACode := .seq c140_18 c140_44
def c140_15 : ACode := .seq c140_16 c140_17
def c140_14 : ACode := .block 1 c140_15
def o140_45 : List AOper := [⟨[.var 6],fMove,none,0⟩,
  ⟨[.loc 0,.const (.int .i64 (.ofNat 1))],fBin .add,none,1⟩,
  ⟨[.loc 0],fMove,none,3⟩]
def c140_45 : ACode := .region o140_45 [(6,0)] false
def c140_13 : ACode := .seq c140_14 c140_45
def c140_9 : ACode := .seq c140_10 c140_13
def c140_8 : ACode := .loop c140_9
def c140_7 : ACode := .block 0 c140_8
def c140_5 : ACode := .seq c140_6 c140_7
def o140_47 : List AOper := [⟨[.var 5],fMove,none,0⟩,
  ⟨[.var 2],fMove,none,0⟩,
  ⟨[.loc 1,.loc 0],fBin .shr,none,3⟩,
  ⟨[.loc 0,.const (.int .i64 (.ofNat 2))],fBin .rem,none,7⟩,
  ⟨[.loc 0,.const (.int .i64 (.ofNat 1))],fBin .eql,none,15⟩,
  ⟨[.loc 0],fMove,none,31⟩]
def c140_47 : ACode := .region o140_47 [(4,0)] false
def c140_46 : ACode := .seq c140_47 .ret
def c140_4 : ACode := .seq c140_5 c140_46
def c140_2 : ACode := .seq c140_3 c140_4
def c140_0 : ACode := .seq c140_1 c140_2
def vm140 : List Nat := [0, 1, 2, 3, 8, 9, 10, 11, 12, 13, 18, 25, 32, 45]
def c140 : AFn := ⟨4, 14, [.var 4], c140_0⟩
/- 145 slices.insertionSortCmpFunc[girouette/cycles.word] : slots [0, 1, 2, 3, 8, 9, 14, 34] -/
def o145_1 : List AOper := [⟨[.var 1],fMove,none,0⟩,
  ⟨[.loc 0,.const (.int .i64 (.ofNat 1))],fBin .add,none,1⟩,
  ⟨[.loc 0],fMove,none,3⟩]
def c145_1 : ACode := .region o145_1 [(4,0)] false
def o145_6 : List AOper := [⟨[.var 4],fMove,none,0⟩,
  ⟨[.var 2],fMove,none,0⟩,
  ⟨[.loc 1,.loc 0],fBin .lss,none,3⟩]
def c145_6 : ACode := .region o145_6 [(6,0)] false
def c145_7 : ACode := .cond (.var 6) .skip (.exit 0)
def c145_5 : ACode := .seq c145_6 c145_7
def o145_11 : List AOper := [⟨[.var 4],fMove,none,0⟩,
  ⟨[.loc 0],fMove,none,1⟩]
def c145_11 : ACode := .region o145_11 [(5,0)] false
def o145_16 : List AOper := [⟨[.var 5],fMove,none,0⟩,
  ⟨[.var 1],fMove,none,0⟩,
  ⟨[.loc 1,.loc 0],fBin .gtr,none,3⟩,
  ⟨[.loc 0],fMove,none,7⟩,
  ⟨[.var 3],fMove,(some (0,true)),15⟩,
  ⟨[.var 0],fMove,(some (1,true)),15⟩,
  ⟨[.var 5],fMove,(some (2,true)),15⟩,
  ⟨[.loc 1,.loc 0],fIndexAddr 1,(some (3,true)),111⟩,
  ⟨[.loc 0],fLoad1,(some (4,true)),239⟩,
  ⟨[.var 0],fMove,(some (5,true)),15⟩,
  ⟨[.var 5],fMove,(some (6,true)),15⟩,
  ⟨[.loc 0,.const (.int .i64 (.ofNat 1))],fBin .sub,(some (7,true)),1039⟩,
  ⟨[.loc 2,.loc 0],fIndexAddr 1,(some (8,true)),3599⟩,
  ⟨[.loc 0],fLoad1,(some (9,true)),7695⟩,
  ⟨[.loc 9,.loc 5,.loc 0],fCall,(some (10,true)),16383⟩,
  ⟨[.loc 0,.const (.int .i64 (.ofNat 0))],fBin .lss,(some (11,true)),32767⟩,
  ⟨[.loc 12,.loc 0,.const (.bool false)],fPick,none,65535⟩]
def c145_16 : ACode := .region o145_16 [(7,0)] true
def c145_17 : ACode := .cond (.var 7) .skip (.exit 2)
def c145_15 : ACode := .seq c145_16 c145_17
def o145_20 : List AOper := [⟨[.var 0],fMove,none,0⟩,
  ⟨[.var 5],fMove,none,0⟩,
  ⟨[.var 0],fMove,none,0⟩,
  ⟨[.var 5],fMove,none,0⟩,
  ⟨[.loc 0,.const (.int .i64 (.ofNat 1))],fBin .sub,none,8⟩,
  ⟨[.var 0],fMove,none,0⟩,
  ⟨[.var 5],fMove,none,0⟩,
  ⟨[.loc 0,.const (.int .i64 (.ofNat 1))],fBin .sub,none,64⟩,
  ⟨[.loc 2,.loc 0],fIndexAddr 1,none,224⟩,
  ⟨[.loc 0],fLoad1,none,480⟩,
  ⟨[.var 0],fMove,none,0⟩,
  ⟨[.var 5],fMove,none,0⟩,
  ⟨[.loc 1,.loc 0],fIndexAddr 1,none,3072⟩,
  ⟨[.loc 0],fLoad1,none,7168⟩,
  ⟨[.loc 13,.loc 12],fIndexAddr 1,none,16355⟩,
  ⟨[.loc 0,.loc 5],fStore 1,none,32739⟩,
  ⟨[.loc 13,.loc 11],fIndexAddr 1,none,65535⟩,
  ⟨[.loc 0,.loc 3],fStore 1,none,131071⟩]
def c145_20 : ACode := .region o145_20 [] true
def c145_19 : ACode := .block 3 c145_20
def o145_21 : List AOper := [⟨[.var 5],fMove,none,0⟩,
  ⟨[.loc 0,.const (.int .i64 (.ofNat 1))],fBin .sub,none,1⟩,
  ⟨[.loc 0],fMove,none,3⟩]
def c145_21 : ACode := .region o145_21 [(5,0)] false
def c145_18 : ACode := .seq c145_19 c145_21
def c145_14 : ACode := .seq c145_15 c145_18
def c145_13 : ACode := .loop c145_14
def c145_12 : ACode := .block 2 c145_13
def c145_10 : ACode := .seq c145_11 c145_12
def c145_9 : ACode := .block 1 c145_10
def o145_22 : List AOper := [⟨[.var 4],fMove,none,0⟩,
  ⟨[.loc 0,.const (.int .i64 (.ofNat 1))],fBin .add,none,1⟩,
  ⟨[.loc 0],fMove,none,3⟩]
def c145_22 : ACode := .region o145_22 [(4,0)] false
def c145_8 : ACode := .seq c145_9 c145_22
def c145_4 : ACode := .seq c145_5 c145_8
def c145_3 : ACode := .loop c145_4
def c145_2 : ACode := .block 0 c145_3
def c145_0 : ACode := .seq c145_1 c145_2
def vm145 : List Nat := [0, 1, 2, 3, 8, 9, 14, 34]
def c145 : AFn := ⟨4, 8, [], c145_0⟩
/- 153 math/bits.Len32 : slots [0, 2, 4, 8] -/
def o153_1 : List AOper := [⟨[.const (.int .i64 (.ofNat 0))],fMove,none,0⟩]
def c153_1 : ACode := .region o153_1 [(1,0)] false
def o153_4 : List AOper := [⟨[.var 0],fMove,none,0⟩,
  ⟨[.loc 0,.const (.int .u32 (.ofNat 65536))],fBin .geq,none,1⟩]
def c153_4 : ACode := .region o153_4 [(2,0)] false
def o153_7 : List AOper := [⟨[.var 0],fMove,none,0⟩,
  ⟨[.loc 0,.const (.int .u64 (.ofNat 16))],fBin .shr,none,1⟩,
  ⟨[.loc 0],fMove,none,3⟩]
def c153_7 : ACode := .region o153_7 [(0,0)] false
def o153_8 : List AOper := [⟨[.const (.int .i64 (.ofNat 16))],fMove,none,0⟩]
def c153_8 : ACode := .region o153_8 [(1,0)] false
def c153_6 : ACode := .seq c153_7 c153_8
def c153_5 : ACode := .cond (.var 2) c153_6 .skip
def c153_3 : ACode := .seq c153_4 c153_5
def o153_11 : List AOper := [⟨[.var 0],fMove,none,0⟩,
  ⟨[.loc 0,.const (.int .u32 (.ofNat 256))],fBin .geq,none,1⟩]
def c153_11 : ACode := .region o153_11 [(3,0)] false
def o153_14 : List AOper := [⟨[.var 0],fMove,none,0⟩,
  ⟨[.loc 0,.const (.int .u64 (.ofNat 8))],fBin .shr,none,1⟩,
  ⟨[.loc 0],fMove,none,3⟩]
def c153_14 : ACode := .region o153_14 [(0,0)] false
def o153_15 : List AOper := [⟨[.var 1],fMove,none,0⟩,
  ⟨[.loc 0,.const (.int .i64 (.ofNat 8))],fBin .add,none,1⟩,
  ⟨[.loc 0],fMove,none,3⟩]
def c153_15 : ACode := .region o153_15 [(1,0)] false
def c153_13 : ACode := .seq c153_14 c153_15
def c153_12 : ACode := .cond (.var 3) c153_13 .skip
def c153_10 : ACode := .seq c153_11 c153_12
def o153_17 : List AOper := [⟨[.var 1],fMove,none,0⟩,
  ⟨[.var 0],fMove,none,0⟩,
  ⟨[.loc 0],fConvInt .u8,none,2⟩,
  ⟨[.const (.str [0,1,2,2,3,3,3,3,4,4,4,4,4,4,4,4,5,5,5,5,5,5,5,5,5,5,5,5,5,5,5,5,6,6,6,6,6,6,6,6,6,6,6,6,6,6,6,6,6,6,6,6,6,6,6,6,6,6,6,6,6,6,6,6,7,7,7,7,7,7,7,7,7,7,7,7,7,7,7,7,7,7,7,7,7,7,7,7,7,7,7,7,7,7,7,7,7,7,7,7,7,7,7,7,7,7,7,7,7,7,7,7,7,7,7,7,7,7,7,7,7,7,7,7,7,7,7,7,8,8,8,8,8,8,8,8,8,8,8,8,8,8,8,8,8,8,8,8,8,8,8,8,8,8,8,8,8,8,8,8,8,8,8,8,8,8,8,8,8,8,8,8,8,8,8,8,8,8,8,8,8,8,8,8,8,8,8,8,8,8,8,8,8,8,8,8,8,8,8,8,8,8,8,8,8,8,8,8,8,8,8,8,8,8,8,8,8,8,8,8,8,8,8,8,8,8,8,8,8,8,8,8,8,8,8,8,8,8,8,8,8,8,8,8,8,8,8,8,8,8,8,8,8,8,8,8]),.loc 0],fIndexStr,none,6⟩,
  ⟨[.loc 0],fConvInt .i64,none,14⟩,
  ⟨[.loc 4,.loc 0],fBin .add,none,31⟩,
  ⟨[.loc 0],fMove,none,63⟩]
def c153_17 : ACode := .region o153_17 [(1,0)] false
def c153_16 : ACode := .seq c153_17 .ret
def c153_9 : ACode := .seq c153_10 c153_16
def c153_2 : ACode := .seq c153_3 c153_9
def c153_0 : ACode := .seq c153_1 c153_2
def vm153 : List Nat := [0, 2, 4, 8]
def c153 : AFn := ⟨1, 4, [.var 1], c153_0⟩
/- 154 math/bits.Len64 : slots [0, 2, 4, 8, 14] -/
def o154_1 : List AOper := [⟨[.const (.int .i64 (.ofNat 0))],fMove,none,0⟩]
def c154_1 : ACode := .region o154_1 [(1,0)] false
def o154_4 : List AOper := [⟨[.var 0],fMove,none,0⟩,
  ⟨[.loc 0,.const (.int .u64 (.ofNat 4294967296))],fBin .geq,none,1⟩]
def c154_4 : ACode := .region o154_4 [(2,0)] false
def o154_7 : List AOper := [⟨[.var 0],fMove,none,0⟩,
  ⟨[.loc 0,.const (.int .u64 (.ofNat 32))],fBin .shr,none,1⟩,
  ⟨[.loc 0],fMove,none,3⟩]
def c154_7 : ACode := .region o154_7 [(0,0)] false
def o154_8 : List AOper := [⟨[.const (.int .i64 (.ofNat 32))],fMove,none,0⟩]
def c154_8 : ACode := .region o154_8 [(1,0)] false
def c154_6 : ACode := .seq c154_7 c154_8
def c154_5 : ACode := .cond (.var 2) c154_6 .skip
def c154_3 : ACode := .seq c154_4 c154_5
def o154_11 : List AOper := [⟨[.var 0],fMove,none,0⟩,
  ⟨[.loc 0,.const (.int .u64 (.ofNat 65536))],fBin .geq,none,1⟩]
def c154_11 : ACode := .region o154_11 [(3,0)] false
def o154_14 : List AOper := [⟨[.var 0],fMove,none,0⟩,
  ⟨[.loc 0,.const (.int .u64 (.ofNat 16))],fBin .shr,none,1⟩,
  ⟨[.loc 0],fMove,none,3⟩]
def c154_14 : ACode := .region o154_14 [(0,0)] false
def o154_15 : List AOper := [⟨[.var 1],fMove,none,0⟩,
  ⟨[.loc 0,.const (.int .i64 (.ofNat 16))],fBin .add,none,1⟩,
  ⟨[.loc 0],fMove,none,3⟩]
def c154_15 : ACode := .region o154_15 [(1,0)] false
def c154_13 : ACode := .seq c154_14 c154_15
def c154_12 : ACode := .cond (.var 3) c154_13 .skip
def c154_10 : ACode := .seq c154_11 c154_12
def o154_18 : List AOper := [⟨[.var 0],fMove,none,0⟩,
  ⟨[.loc 0,.const (.int .u64 (.ofNat 256))],fBin .geq,none,1⟩]
def c154_18 : ACode := .region o154_18 [(4,0)] false
def o154_21 : List AOper := [⟨[.var 0],fMove,none,0⟩,
  ⟨[.loc 0,.const (.int .u64 (.ofNat 8))],fBin .shr,none,1⟩,
  ⟨[.loc 0],fMove,none,3⟩]
def c154_21 : ACode := .region o154_21 [(0,0)] false
def o154_22 : List AOper := [⟨[.var 1],fMove,none,0⟩,
  ⟨[.loc 0,.const (.int .i64 (.ofNat 8))],fBin .add,none,1⟩,
  ⟨[.loc 0],fMove,none,3⟩]
def c154_22 : ACode := .region o154_22 [(1,0)] false
def c154_20 : ACode := .seq c154_21 c154_22
def c154_19 : ACode := .cond (.var 4) c154_20 .skip
def c154_17 : ACode := .seq c154_18 c154_19
def o154_24 : List AOper := [⟨[.var 1],fMove,none,0⟩,
  ⟨[.var 0],fMove,none,0⟩,
  ⟨[.loc 0],fConvInt .u8,none,2⟩,
  ⟨[.const (.str [0,1,2,2,3,3,3,3,4,4,4,4,4,4,4,4,5,5,5,5,5,5,5,5,5,5,5,5,5,5,5,5,6,6,6,6,6,6,6,6,6,6,6,6,6,6,6,6,6,6,6,6,6,6,6,6,6,6,6,6,6,6,6,6,7,7,7,7,7,7,7,7,7,7,7,7,7,7,7,7,7,7,7,7,7,7,7,7,7,7,7,7,7,7,7,7,7,7,7,7,7,7,7,7,7,7,7,7,7,7,7,7,7,7,7,7,7,7,7,7,7,7,7,7,7,7,7,7,8,8,8,8,8,8,8,8,8,8,8,8,8,8,8,8,8,8,8,8,8,8,8,8,8,8,8,8,8,8,8,8,8,8,8,8,8,8,8,8,8,8,8,8,8,8,8,8,8,8,8,8,8,8,8,8,8,8,8,8,8,8,8,8,8,8,8,8,8,8,8,8,8,8,8,8,8,8,8,8,8,8,8,8,8,8,8,8,8,8,8,8,8,8,8,8,8,8,8,8,8,8,8,8,8,8,8,8,8,8,8,8,8,8,8,8,8,8,8,8,8,8,8,8,8,8,8,8]),.loc 0],fIndexStr,none,6⟩,
  ⟨[.loc 0],fConvInt .i64,none,14⟩,
  ⟨[.loc 4,.loc 0],fBin .add,none,31⟩,
  ⟨[.loc 0],fMove,none,63⟩]
def c154_24 : ACode := .region o154_24 [(1,0)] false
def c154_23 : ACode := .seq c154_24 .ret
def c154_16 : ACode := .seq c154_17 c154_23
def c154_9 : ACode := .seq c154_10 c154_16
def c154_2 : ACode := .seq c154_3 c154_9
def c154_0 : ACode := .seq c154_1 c154_2
def vm154 : List Nat := [0, 2, 4, 8, 14]
def c154 : AFn := ⟨1, 5, [.var 1], c154_0⟩
/- 156 slices.Equal[[]int,int] : slots [0, 1, 4, 5, 10, 12, 13, 14, 24] -/
def o156_1 : List AOper := [⟨[.const (.bool false)],fMove,none,0⟩]
def c156_1 : ACode := .region o156_1 [(2,0)] false
def o156_4 : List AOper := [⟨[.var 0],fMove,none,0⟩,
  ⟨[.loc 0],fLenSl,none,1⟩,
  ⟨[.var 1],fMove,none,0⟩,
  ⟨[.loc 0],fLenSl,none,4⟩,
  ⟨[.loc 2,.loc 0],fBin .neq,none,15⟩]
def c156_4 : ACode := .region o156_4 [(4,0)] false
def o156_7 : List AOper := [⟨[.const (.bool false)],fMove,none,0⟩]
def c156_7 : ACode := .region o156_7 [(2,0)] false
def c156_6 : ACode := .seq c156_7 .ret
def c156_5 : ACode := .cond (.var 4) c156_6 .skip
def c156_3 : ACode := .seq c156_4 c156_5
def o156_10 : List AOper := [⟨[.var 0],fMove,none,0⟩,
  ⟨[.loc 0],fLenSl,none,1⟩,
  ⟨[.const (.int .i64 (.ofNat 0))],fMove,none,0⟩]
def c156_10 : ACode := .region o156_10 [(5,1),(6,0)] false
def o156_14 : List AOper := [⟨[.var 6,.var 5],fBin .lss,none,0⟩]
def c156_14 : ACode := .region o156_14 [(7,0)] false
def c156_16 : ACode := .cond (.var 7) .skip (.exit 0)
def o156_20 : List AOper := [⟨[.var 6],fMove,none,0⟩,
  ⟨[.loc 0],fMove,none,1⟩]
def c156_20 : ACode := .region o156_20 [(3,0)] false
def o156_22 : List AOper := [⟨[.var 0],fMove,none,0⟩,
  ⟨[.var 3],fMove,none,0⟩,
  ⟨[.loc 1,.loc 0],fIndexAddr 1,none,3⟩,
  ⟨[.loc 0],fLoad1,none,7⟩,
  ⟨[.var 1],fMove,none,0⟩,
  ⟨[.var 3],fMove,none,0⟩,
  ⟨[.loc 1,.loc 0],fIndexAddr 1,none,48⟩,
  ⟨[.loc 0],fLoad1,none,112⟩,
  ⟨[.loc 4,.loc 0],fBin .neq,none,255⟩]
def c156_22 : ACode := .region o156_22 [(8,0)] true
def o156_25 : List AOper := [⟨[.const (.bool false)],fMove,none,0⟩]
def c156_25 : ACode := .region o156_25 [(2,0)] false
def c156_24 : ACode := .seq c156_25 .ret
def c156_23 : ACode := .cond (.var 8) c156_24 .skip
def c156_21 : ACode := .seq c156_22 c156_23
def c156_19 : ACode := .seq c156_20 c156_21
def c156_18 : ACode := .block 1 c156_19
def o156_26 : List AOper := [⟨[.var 6,.const (.int .i64 (.ofNat 1))],fBin .add,none,0⟩,
  ⟨[.loc 0],fMove,none,1⟩]
def c156_26 : ACode := .region o156_26 [(6,0)] false
def c156_17 : ACode := .seq c156_18 c156_26
def c156_15 : ACode := .seq c156_16 c156_17
def c156_13 : ACode := .seq c156_14 c156_15
def c156_12 : ACode := .loop c156_13
def c156_11 : ACode := .block 0 c156_12
def c156_9 : ACode := .seq c156_10 c156_11
def o156_28 : List AOper := [⟨[.const (.bool true)],fMove,none,0⟩]
def c156_28 : ACode := .region o156_28 [(2,0)] false
def c156_27 : ACode := .seq c156_28 .ret
def c156_8 : ACode := .seq c156_9 c156_27
def c156_2 : ACode := .seq c156_3 c156_8
def c156_0 : ACode := .seq c156_1 c156_2
def vm156 : List Nat := [0, 1, 4, 5, 10, 12, 13, 14, 24]
def c156 : AFn := ⟨2, 9, [.var 2], c156_0⟩
/- 157 slices.Repeat[[]int,int] : slots [0, 1, 4, 5, 6, 7, 8, 10, 26, 37] -/
def o157_1 : List AOper := [⟨[.const .nilslice],fMove,none,0⟩]
def c157_1 : ACode := .region o157_1 [(2,0)] false
def o157_4 : List AOper := [⟨[.var 1],fMove,none,0⟩,
  ⟨[.loc 0,.const (.int .i64 (.ofNat 0))],fBin .lss,none,1⟩]
def c157_4 : ACode := .region o157_4 [(7,0)] false
def o157_6 : List AOper := [⟨[.const (.str [99,97,110,110,111,116,32,98,101,32,110,101,103,97,116,105,118,101])],fMakeIface 9,none,0⟩,
  ⟨[.loc 0],fBad,none,1⟩]
def c157_6 : ACode := .region o157_6 [] false
def c157_5 : ACode := .cond (.var 7) c157_6 .skip
def c157_3 : ACode := .seq c157_4 c157_5
def o157_8 : List AOper := [⟨[.var 0],fMove,none,0⟩,
  ⟨[.loc 0],fLenSl,none,1⟩,
  ⟨[.loc 0],fConvInt .u64,none,3⟩,
  ⟨[.var 1],fMove,none,0⟩,
  ⟨[.loc 0],fConvInt .u64,none,8⟩,
  ⟨[.const (.func (.func 173) [] []),.loc 2,.loc 0],fCall,none,31⟩,
  ⟨[.loc 0],fMove,none,63⟩,
  ⟨[.loc 0],fExtract 0,none,127⟩,
  ⟨[.loc 1],fExtract 1,none,127⟩,
  ⟨[.loc 1],fMove,none,255⟩,
  ⟨[.loc 1],fMove,none,1023⟩]
def c157_8 : ACode := .region o157_8 [(3,1),(4,0)] false
def o157_11 : List AOper := [⟨[.var 3],fMove,none,0⟩,
  ⟨[.loc 0,.const (.int .u64 (.ofNat 0))],fBin .gtr,none,1⟩,
  ⟨[.loc 0],fMove,none,3⟩,
  ⟨[.var 4],fMove,(some (0,false)),7⟩,
  ⟨[.loc 0,.const (.int .u64 (.ofNat 9223372036854775807))],fBin .gtr,(some (1,false)),15⟩,
  ⟨[.loc 2,.const (.bool true),.loc 0],fPick,none,31⟩]
def c157_11 : ACode := .region o157_11 [(8,0)] false
def o157_13 : List AOper := [⟨[.const (.str [116,104,101,32,114,101,115,117,108,116,32,111,102,32,40,108,101,110,40,120,41,32,42,32,99,111,117,110,116,41,32,111,118,101,114,102,108,111,119,115])],fMakeIface 9,none,0⟩,
  ⟨[.loc 0],fBad,none,1⟩]
def c157_13 : ACode := .region o157_13 [] false
def c157_12 : ACode := .cond (.var 8) c157_13 .skip
def c157_10 : ACode := .seq c157_11 c157_12
def o157_15 : List AOper := [⟨[.var 4],fMove,none,0⟩,
  ⟨[.loc 0],fConvInt .i64,none,1⟩,
  ⟨[.loc 0,.loc 0],fMakeSlice 1 8 [(.int .i64 (.ofNat 0))],none,3⟩,
  ⟨[.loc 0],fMove,none,7⟩]
def c157_15 : ACode := .region o157_15 [(5,0)] false
def o157_17 : List AOper := [⟨[.var 5],fMove,none,0⟩,
  ⟨[.var 0],fMove,none,0⟩,
  ⟨[.loc 1,.loc 0],fCopy 1,none,3⟩,
  ⟨[.loc 0],fMove,none,7⟩]
def c157_17 : ACode := .region o157_17 [(6,0)] false
def o157_23 : List AOper := [⟨[.var 6],fMove,none,0⟩,
  ⟨[.var 5],fMove,none,0⟩,
  ⟨[.loc 0],fLenSl,none,2⟩,
  ⟨[.loc 2,.loc 0],fBin .lss,none,7⟩]
def c157_23 : ACode := .region o157_23 [(9,0)] false
def c157_24 : ACode := .cond (.var 9) .skip (.exit 0)
def c157_22 : ACode := .seq c157_23 c157_24
def o157_26 : List AOper := [⟨[.var 6],fMove,none,0⟩,
  ⟨[.var 5],fMove,none,0⟩,
  ⟨[.var 6],fMove,none,0⟩,
  ⟨[.loc 1,.loc 0],fSlice 1 true false,none,6⟩,
  ⟨[.var 5],fMove,none,0⟩,
  ⟨[.var 6],fMove,none,0⟩,
  ⟨[.loc 1,.loc 0],fSlice 1 false true,none,48⟩,
  ⟨[.loc 3,.loc 0],fCopy 1,none,126⟩,
  ⟨[.loc 7,.loc 0],fBin .add,none,255⟩,
  ⟨[.loc 0],fMove,none,511⟩]
def c157_26 : ACode := .region o157_26 [(6,0)] true
def c157_25 : ACode := .block 1 c157_26
def c157_21 : ACode := .seq c157_22 c157_25
def c157_20 : ACode := .loop c157_21
def c157_19 : ACode := .block 0 c157_20
def o157_28 : List AOper := [⟨[.var 5],fMove,none,0⟩,
  ⟨[.loc 0],fMove,none,1⟩]
def c157_28 : ACode := .region o157_28 [(2,0)] false
def c157_27 : ACode := .seq c157_28 .ret
def c157_18 : ACode := .seq c157_19 c157_27
def c157_16 : ACode := .seq c157_17 c157_18
def c157_14 : ACode := .seq c157_15 c157_16
def c157_9 : ACode := .seq c157_10 c157_14
def c157_7 : ACode := .seq c157_8 c157_9
def c157_2 : ACode := .seq c157_3 c157_7
def c157_0 : ACode := .seq c157_1 c157_2
def vm157 : List Nat := [0, 1, 4, 5, 6, 7, 8, 10, 26, 37]
def c157 : AFn := ⟨2, 10, [.var 2], c157_0⟩
/- 173 math/bits.Mul : slots [0, 1, 4, 5, 6, 7, 8, 9] -/
def o173_1 : List AOper := [⟨[.const (.int .u64 (.ofNat 0))],fMove,none,0⟩,
  ⟨[.const (.int .u64 (.ofNat 0))],fMove,none,1⟩]
def c173_1 : ACode := .region o173_1 [(2,1),(3,0)] false
def o173_5 : List AOper := [⟨[.var 0],fMove,none,0⟩,
  ⟨[.loc 0],fConvInt .u32,none,1⟩,
  ⟨[.var 1],fMove,none,0⟩,
  ⟨[.loc 0],fConvInt .u32,none,4⟩,
  ⟨[.const (.func (.func 178) [] []),.loc 2,.loc 0],fCall,none,15⟩,
  ⟨[.loc 0],fMove,none,31⟩,
  ⟨[.loc 0],fExtract 0,none,63⟩,
  ⟨[.loc 1],fExtract 1,none,63⟩,
  ⟨[.loc 1],fMove,none,127⟩,
  ⟨[.loc 1],fMove,none,511⟩]
def c173_5 : ACode := .region o173_5 [(4,1),(5,0)] false
def o173_7 : List AOper := [⟨[.var 4],fMove,none,0⟩,
  ⟨[.loc 0],fConvInt .u64,none,1⟩,
  ⟨[.var 5],fMove,none,0⟩,
  ⟨[.loc 0],fConvInt .u64,none,4⟩,
  ⟨[.loc 2],fMove,none,3⟩,
  ⟨[.loc 1],fMove,none,31⟩]
def c173_7 : ACode := .region o173_7 [(2,1),(3,0)] false
def c173_6 : ACode := .seq c173_7 .ret
def c173_4 : ACode := .seq c173_5 c173_6
def c173_3 : ACode := .cond (.const (.bool false)) c173_4 .skip
def o173_9 : List AOper := [⟨[.var 0],fMove,none,0⟩,
  ⟨[.var 1],fMove,none,0⟩,
  ⟨[.const (.func (.func 179) [] []),.loc 1,.loc 0],fCall,none,3⟩,
  ⟨[.loc 0],fMove,none,7⟩,
  ⟨[.loc 0],fExtract 0,none,15⟩,
  ⟨[.loc 1],fExtract 1,none,15⟩,
  ⟨[.loc 1],fMove,none,31⟩,
  ⟨[.loc 1],fMove,none,127⟩]
def c173_9 : ACode := .region o173_9 [(6,1),(7,0)] false
def o173_11 : List AOper := [⟨[.var 6],fMove,none,0⟩,
  ⟨[.var 7],fMove,none,0⟩,
  ⟨[.loc 1],fMove,none,1⟩,
  ⟨[.loc 1],fMove,none,7⟩]
def c173_11 : ACode := .region o173_11 [(2,1),(3,0)] false
def c173_10 : ACode := .seq c173_11 .ret
def c173_8 : ACode := .seq c173_9 c173_10
def c173_2 : ACode := .seq c173_3 c173_8
def c173_0 : ACode := .seq c173_1 c173_2
def vm173 : List Nat := [0, 1, 4, 5, 6, 7, 8, 9]
def c173 : AFn := ⟨2, 8, [.var 2,.var 3], c173_0⟩
/- 178 math/bits.Mul32 : slots [0, 1, 4, 5, 6] -/
def o178_1 : List AOper := [⟨[.const (.int .u32 (.ofNat 0))],fMove,none,0⟩,
  ⟨[.const (.int .u32 (.ofNat 0))],fMove,none,1⟩]
def c178_1 : ACode := .region o178_1 [(2,1),(3,0)] false
def o178_3 : List AOper := [⟨[.var 0],fMove,none,0⟩,
  ⟨[.loc 0],fConvInt .u64,none,1⟩,
  ⟨[.var 1],fMove,none,0⟩,
  ⟨[.loc 0],fConvInt .u64,none,4⟩,
  ⟨[.loc 2,.loc 0],fBin .mul,none,15⟩,
  ⟨[.loc 0],fMove,none,31⟩]
def c178_3 : ACode := .region o178_3 [(4,0)] false
def o178_5 : List AOper := [⟨[.var 4],fMove,none,0⟩,
  ⟨[.loc 0,.const (.int .u64 (.ofNat 32))],fBin .shr,none,1⟩,
  ⟨[.loc 0],fConvInt .u32,none,3⟩,
  ⟨[.var 4],fMove,none,0⟩,
  ⟨[.loc 0],fConvInt .u32,none,8⟩,
  ⟨[.loc 2],fMove,none,7⟩,
  ⟨[.loc 1],fMove,none,63⟩]
def c178_5 : ACode := .region o178_5 [(2,1),(3,0)] false
def c178_4 : ACode := .seq c178_5 .ret
def c178_2 : ACode := .seq c178_3 c178_4
def c178_0 : ACode := .seq c178_1 c178_2
def vm178 : List Nat := [0, 1, 4, 5, 6]
def c178 : AFn := ⟨2, 5, [.var 2,.var 3], c178_0⟩
/- 179 math/bits.Mul64 : slots [0, 1, 4, 5, 6, 7, 8, 9, 10, 11, 12, 13] -/
def o179_1 : List AOper := [⟨[.const (.int .u64 (.ofNat 0))],fMove,none,0⟩,
  ⟨[.const (.int .u64 (.ofNat 0))],fMove,none,1⟩]
def c179_1 : ACode := .region o179_1 [(2,1),(3,0)] false
def o179_3 : List AOper := [⟨[.var 0],fMove,none,0⟩,
  ⟨[.loc 0,.const (.int .u64 (.ofNat 4294967295))],fBin .and,none,1⟩,
  ⟨[.loc 0],fMove,none,3⟩]
def c179_3 : ACode := .region o179_3 [(4,0)] false
def o179_5 : List AOper := [⟨[.var 0],fMove,none,0⟩,
  ⟨[.loc 0,.const (.int .u64 (.ofNat 32))],fBin .shr,none,1⟩,
  ⟨[.loc 0],fMove,none,3⟩]
def c179_5 : ACode := .region o179_5 [(5,0)] false
def o179_7 : List AOper := [⟨[.var 1],fMove,none,0⟩,
  ⟨[.loc 0,.const (.int .u64 (.ofNat 4294967295))],fBin .and,none,1⟩,
  ⟨[.loc 0],fMove,none,3⟩]
def c179_7 : ACode := .region o179_7 [(6,0)] false
def o179_9 : List AOper := [⟨[.var 1],fMove,none,0⟩,
  ⟨[.loc 0,.const (.int .u64 (.ofNat 32))],fBin .shr,none,1⟩,
  ⟨[.loc 0],fMove,none,3⟩]
def c179_9 : ACode := .region o179_9 [(7,0)] false
def o179_11 : List AOper := [⟨[.var 4],fMove,none,0⟩,
  ⟨[.var 6],fMove,none,0⟩,
  ⟨[.loc 1,.loc 0],fBin .mul,none,3⟩,
  ⟨[.loc 0],fMove,none,7⟩]
def c179_11 : ACode := .region o179_11 [(8,0)] false
def o179_13 : List AOper := [⟨[.var 5],fMove,none,0⟩,
  ⟨[.var 6],fMove,none,0⟩,
  ⟨[.loc 1,.loc 0],fBin .mul,none,3⟩,
  ⟨[.var 8],fMove,none,0⟩,
  ⟨[.loc 0,.const (.int .u64 (.ofNat 32))],fBin .shr,none,8⟩,
  ⟨[.loc 2,.loc 0],fBin .add,none,31⟩,
  ⟨[.loc 0],fMove,none,63⟩]
def c179_13 : ACode := .region o179_13 [(9,0)] false
def o179_15 : List AOper := [⟨[.var 9],fMove,none,0⟩,
  ⟨[.loc 0,.const (.int .u64 (.ofNat 4294967295))],fBin .and,none,1⟩,
  ⟨[.loc 0],fMove,none,3⟩]
def c179_15 : ACode := .region o179_15 [(10,0)] false
def o179_17 : List AOper := [⟨[.var 9],fMove,none,0⟩,
  ⟨[.loc 0,.const (.int .u64 (.ofNat 32))],fBin .shr,none,1⟩,
  ⟨[.loc 0],fMove,none,3⟩]
def c179_17 : ACode := .region o179_17 [(11,0)] false
def o179_19 : List AOper := [⟨[.var 10],fMove,none,0⟩,
  ⟨[.var 4],fMove,none,0⟩,
  ⟨[.var 7],fMove,none,0⟩,
  ⟨[.loc 1,.loc 0],fBin .mul,none,6⟩,
  ⟨[.loc 3,.loc 0],fBin .add,none,15⟩,
  ⟨[.loc 0],fMove,none,31⟩]
def c179_19 : ACode := .region o179_19 [(10,0)] false
def o179_21 : List AOper := [⟨[.var 5],fMove,none,0⟩,
  ⟨[.var 7],fMove,none,0⟩,
  ⟨[.loc 1,.loc 0],fBin .mul,none,3⟩,
  ⟨[.var 11],fMove,none,0⟩,
  ⟨[.loc 1,.loc 0],fBin .add,none,15⟩,
  ⟨[.var 10],fMove,none,0⟩,
  ⟨[.loc 0,.const (.int .u64 (.ofNat 32))],fBin .shr,none,32⟩,
  ⟨[.loc 2,.loc 0],fBin .add,none,127⟩,
  ⟨[.loc 0],fMove,none,255⟩]
def c179_21 : ACode := .region o179_21 [(2,0)] false
def o179_23 : List AOper := [⟨[.var 0],fMove,none,0⟩,
  ⟨[.var 1],fMove,none,0⟩,
  ⟨[.loc 1,.loc 0],fBin .mul,none,3⟩,
  ⟨[.loc 0],fMove,none,7⟩]
def c179_23 : ACode := .region o179_23 [(3,0)] false
def c179_22 : ACode := .seq c179_23 .ret
def c179_20 : ACode := .seq c179_21 c179_22
def c179_18 : ACode := .seq c179_19 c179_20
def c179_16 : ACode := .seq c179_17 c179_18
def c179_14 : ACode := .seq c179_15 c179_16
def c179_12 : ACode := .seq c179_13 c179_14
def c179_10 : ACode := .seq c179_11 c179_12
def c179_8 : ACode := .seq c179_9 c179_10
def c179_6 : ACode := .seq c179_7 c179_8
def c179_4 : ACode := .seq c179_5 c179_6
def c179_2 : ACode := .seq c179_3 c179_4
def c179_0 : ACode := .seq c179_1 c179_2
def vm179 : List Nat := [0, 1, 4, 5, 6, 7, 8, 9, 10, 11, 12, 13]
def c179 : AFn := ⟨2, 12, [.var 2,.var 3], c179_0⟩
end Go.Absm.D
