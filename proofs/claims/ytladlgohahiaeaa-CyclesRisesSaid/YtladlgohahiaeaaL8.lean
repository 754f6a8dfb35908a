/- Part of the proof by the abstract machine. -/
import Derived.Test.YtladlgohahiaeaaL7
import Derived.KernelRfl
set_option linter.unusedSimpArgs false
set_option linter.unusedVariables false
namespace Go.Absm.D
open Go Go.Absm Go.Proofs
set_option maxRecDepth 1000000
def v6_0 (a b : Int) : List AVal := [(.int .i64 a),(.int .i64 b),(.bool false),(.slice 6 0 1 1),(.int .i64 (.ofNat 0)),.undef,.undef,.undef,.undef,.undef,.undef,.undef,.undef,(.bool false),.undef,.undef,.undef,.undef,.undef]
theorem q6_0_0 (a b y : Int) : ph2 (v6_0 a b) h6_0 7 0 6 0 1 0 y b = some (.bool true, [], 0) := by kernel_rfl
def v6_1 (a b : Int) : List AVal := [(.int .i64 a),(.int .i64 b),(.bool false),(.slice 7 0 1 1),(.int .i64 (.ofNat 0)),.undef,.undef,.undef,.undef,.undef,.undef,.undef,.undef,(.bool false),.undef,.undef,.undef,.undef,.undef]
theorem q6_1_0 (a b y : Int) : ph2 (v6_1 a b) h6_1 8 0 7 0 1 0 y b = some (.bool true, [], 0) := by kernel_rfl
def v6_2 (a b : Int) : List AVal := [(.int .i64 a),(.int .i64 b),(.bool false),(.slice 10 0 2 1),(.int .i64 (.ofNat 0)),.undef,.undef,.undef,.undef,.undef,.undef,.undef,.undef,(.bool false),.undef,.undef,.undef,.undef,.undef]
theorem q6_2_0 (a b y : Int) : ph2 (v6_2 a b) h6_2 11 0 10 0 2 0 y b = some (.bool true, [], 0) := by kernel_rfl
theorem q6_2_1 (a b y : Int) : ph2 (v6_2 a b) h6_2 11 0 10 0 2 1 y b = some (.bool true, [], 0) := by kernel_rfl
def v6_3 (a b : Int) : List AVal := [(.int .i64 a),(.int .i64 b),(.bool false),(.slice 14 0 3 1),(.int .i64 (.ofNat 0)),.undef,.undef,.undef,.undef,.undef,.undef,.undef,.undef,(.bool false),.undef,.undef,.undef,.undef,.undef]
theorem q6_3_0 (a b y : Int) : ph2 (v6_3 a b) h6_3 15 0 14 0 3 0 y b = some (.bool true, [], 0) := by kernel_rfl
theorem q6_3_1 (a b y : Int) : ph2 (v6_3 a b) h6_3 15 0 14 0 3 1 y b = some (.bool true, [], 0) := by kernel_rfl
theorem q6_3_2 (a b y : Int) : ph2 (v6_3 a b) h6_3 15 0 14 0 3 2 y b = some (.bool true, [], 0) := by kernel_rfl
def v6_4 (a b : Int) : List AVal := [(.int .i64 a),(.int .i64 b),(.bool false),(.slice 21 0 5 1),(.int .i64 (.ofNat 0)),.undef,.undef,.undef,.undef,.undef,.undef,.undef,.undef,(.bool false),.undef,.undef,.undef,.undef,.undef]
theorem q6_4_0 (a b y : Int) : ph2 (v6_4 a b) h6_4 22 0 21 0 5 0 y b = some (.bool true, [], 0) := by kernel_rfl
theorem q6_4_1 (a b y : Int) : ph2 (v6_4 a b) h6_4 22 0 21 0 5 1 y b = some (.bool true, [], 0) := by kernel_rfl
theorem q6_4_2 (a b y : Int) : ph2 (v6_4 a b) h6_4 22 0 21 0 5 2 y b = some (.bool true, [], 0) := by kernel_rfl
theorem q6_4_3 (a b y : Int) : ph2 (v6_4 a b) h6_4 22 0 21 0 5 3 y b = some (.bool true, [], 0) := by kernel_rfl
theorem q6_4_4 (a b y : Int) : ph2 (v6_4 a b) h6_4 22 0 21 0 5 4 y b = some (.bool true, [], 0) := by kernel_rfl
def v6_5 (a b : Int) : List AVal := [(.int .i64 a),(.int .i64 b),(.bool false),(.slice 35 0 9 1),(.int .i64 (.ofNat 0)),.undef,.undef,.undef,.undef,.undef,.undef,.undef,.undef,(.bool false),.undef,.undef,.undef,.undef,.undef]
theorem q6_5_0 (a b y : Int) : ph2 (v6_5 a b) h6_5 36 0 35 0 9 0 y b = some (.bool true, [], 0) := by kernel_rfl
theorem q6_5_1 (a b y : Int) : ph2 (v6_5 a b) h6_5 36 0 35 0 9 1 y b = some (.bool true, [], 0) := by kernel_rfl
theorem q6_5_2 (a b y : Int) : ph2 (v6_5 a b) h6_5 36 0 35 0 9 2 y b = some (.bool true, [], 0) := by kernel_rfl
theorem q6_5_3 (a b y : Int) : ph2 (v6_5 a b) h6_5 36 0 35 0 9 3 y b = some (.bool true, [], 0) := by kernel_rfl
theorem q6_5_4 (a b y : Int) : ph2 (v6_5 a b) h6_5 36 0 35 0 9 4 y b = some (.bool true, [], 0) := by kernel_rfl
theorem q6_5_5 (a b y : Int) : ph2 (v6_5 a b) h6_5 36 0 35 0 9 5 y b = some (.bool true, [], 0) := by kernel_rfl
theorem q6_5_6 (a b y : Int) : ph2 (v6_5 a b) h6_5 36 0 35 0 9 6 y b = some (.bool true, [], 0) := by kernel_rfl
theorem q6_5_7 (a b y : Int) : ph2 (v6_5 a b) h6_5 36 0 35 0 9 7 y b = some (.bool true, [], 0) := by kernel_rfl
theorem q6_5_8 (a b y : Int) : ph2 (v6_5 a b) h6_5 36 0 35 0 9 8 y b = some (.bool true, [], 0) := by kernel_rfl
def v6_6 (a b : Int) : List AVal := [(.int .i64 a),(.int .i64 b),(.bool false),(.slice 59 0 16 1),(.int .i64 (.ofNat 0)),.undef,.undef,.undef,.undef,.undef,.undef,.undef,.undef,(.bool false),.undef,.undef,.undef,.undef,.undef]
theorem q6_6_0 (a b y : Int) : ph2 (v6_6 a b) h6_6 60 0 59 0 16 0 y b = some (.bool true, [], 0) := by kernel_rfl
theorem q6_6_1 (a b y : Int) : ph2 (v6_6 a b) h6_6 60 0 59 0 16 1 y b = some (.bool true, [], 0) := by kernel_rfl
theorem q6_6_2 (a b y : Int) : ph2 (v6_6 a b) h6_6 60 0 59 0 16 2 y b = some (.bool true, [], 0) := by kernel_rfl
theorem q6_6_3 (a b y : Int) : ph2 (v6_6 a b) h6_6 60 0 59 0 16 3 y b = some (.bool true, [], 0) := by kernel_rfl
theorem q6_6_4 (a b y : Int) : ph2 (v6_6 a b) h6_6 60 0 59 0 16 4 y b = some (.bool true, [], 0) := by kernel_rfl
theorem q6_6_5 (a b y : Int) : ph2 (v6_6 a b) h6_6 60 0 59 0 16 5 y b = some (.bool true, [], 0) := by kernel_rfl
theorem q6_6_6 (a b y : Int) : ph2 (v6_6 a b) h6_6 60 0 59 0 16 6 y b = some (.bool true, [], 0) := by kernel_rfl
theorem q6_6_7 (a b y : Int) : ph2 (v6_6 a b) h6_6 60 0 59 0 16 7 y b = some (.bool true, [], 0) := by kernel_rfl
theorem q6_6_8 (a b y : Int) : ph2 (v6_6 a b) h6_6 60 0 59 0 16 8 y b = some (.bool true, [], 0) := by kernel_rfl
theorem q6_6_9 (a b y : Int) : ph2 (v6_6 a b) h6_6 60 0 59 0 16 9 y b = some (.bool true, [], 0) := by kernel_rfl
theorem q6_6_10 (a b y : Int) : ph2 (v6_6 a b) h6_6 60 0 59 0 16 10 y b = some (.bool true, [], 0) := by kernel_rfl
theorem q6_6_11 (a b y : Int) : ph2 (v6_6 a b) h6_6 60 0 59 0 16 11 y b = some (.bool true, [], 0) := by kernel_rfl
theorem q6_6_12 (a b y : Int) : ph2 (v6_6 a b) h6_6 60 0 59 0 16 12 y b = some (.bool true, [], 0) := by kernel_rfl
theorem q6_6_13 (a b y : Int) : ph2 (v6_6 a b) h6_6 60 0 59 0 16 13 y b = some (.bool true, [], 0) := by kernel_rfl
theorem q6_6_14 (a b y : Int) : ph2 (v6_6 a b) h6_6 60 0 59 0 16 14 y b = some (.bool true, [], 0) := by kernel_rfl
theorem q6_6_15 (a b y : Int) : ph2 (v6_6 a b) h6_6 60 0 59 0 16 15 y b = some (.bool true, [], 0) := by kernel_rfl
end Go.Absm.D
