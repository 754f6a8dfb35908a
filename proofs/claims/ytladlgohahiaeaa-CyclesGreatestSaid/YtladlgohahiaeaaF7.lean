/- CyclesGreatest's rounds: numbers. -/
import Derived.Test.YtladlgohahiaeaaF6
import Derived.Test.YtladlgohahiaeaaU1
set_option linter.unusedSimpArgs false
set_option linter.unusedVariables false
namespace Go.Absm.D
open Go Go.Absm
set_option maxRecDepth 100000
set_option linter.unusedSimpArgs false
set_option maxHeartbeats 2000000
theorem b_shl {y : Nat} {k : IntKind} (h : y ≤ 60) : fBin .shl [.int .i64 (.ofNat 1), .int k (.ofNat y)] = .pure (.int .i64 (.ofNat (2 ^ y))) := by
  have e1 : Nat.min y IntKind.i64.bits = y := Nat.min_eq_left (by show y ≤ 64; omega)
  have hp : 2 ^ y ≤ 2 ^ 60 := Nat.pow_le_pow_right (by omega) h
  simp only [fBin, binK, shiftI, ofO, e1]
  rw [show (Int.ofNat 1 * 2 ^ y : Int) = Int.ofNat (2 ^ y) by simp, wrap_i64 (by omega)]
theorem mul_neg1 {y : Nat} (h0 : 0 < y) (h : y ≤ 9223372036854775807) : mulI .i64 (.negSucc 0) (.ofNat y) = .negSucc (y - 1) := by
  rw [mulI_eq, show (Int.negSucc 0 * Int.ofNat y : Int) = Int.negSucc (y - 1) by simp only [Int.negSucc_eq, Int.ofNat_eq_natCast]; omega]
  have := wrap_int (x := Int.negSucc (y - 1)) (by simp only [Int.negSucc_eq]; omega) (by simp only [Int.negSucc_eq]; omega)
  rw [wrapN_eq] at this
  exact this
theorem add_neg {a b : Nat} (h : b < a) (ha : a ≤ 9223372036854775807) : addI .i64 (.ofNat a) (.negSucc b) = .ofNat (a - (b + 1)) := by
  rw [addI_eq, show (Int.ofNat a + Int.negSucc b : Int) = Int.ofNat (a - (b + 1)) by simp only [Int.negSucc_eq, Int.ofNat_eq_natCast]; omega]
  exact wrap_fast (by simp only [fastMax]; omega)
theorem neg_one : fUn .neg [.int .i64 (.ofNat 1)] = .pure (.int .i64 (.negSucc 0)) := (rfl)
/-- Moebius' function at odd numbers below 12 -/
def moebA (d : Nat) : Int := match d with
  | 1 => .ofNat 1
  | 9 => .ofNat 0
  | _ => .negSucc 0
section
variable {t : Nat → Option Entry} (T : Tab t) {m n : Nat} {h : Heap} {kq : AVal → Ans} {ke : AVal → Heap → Nat → Nat → Ans}
include T
theorem moeb_run {d : Nat} (hm : 40 ≤ m) (hd : d = 1 ∨ d = 3 ∨ d = 5 ∨ d = 7 ∨ d = 9 ∨ d = 11) : exec t m 17 [.int .i64 (.ofNat d)] h n kq ke = kq (.int .i64 (moebA d)) := by
  obtain ⟨m, rfl⟩ : ∃ q, m = q + 1 := ⟨m - 1, by omega⟩
  obtain ⟨m, rfl⟩ : ∃ q, m = q + 20 := ⟨m - 20, by omega⟩
  rw [exec_code T.h17, c17, callCode_eq (by simp)]
  rcases hd with rfl | rfl | rfl | rfl | rfl | rfl <;> simp (disch := omega) only [o17_1, den_unf c17_1.eq_1, o17_3, den_unf c17_3.eq_1, o17_6, den_unf c17_6.eq_1, o17_11, den_unf c17_11.eq_1, den_unf c17_12.eq_1, den_unf c17_10.eq_1, o17_17, den_unf c17_17.eq_1, den_unf c17_18.eq_1, den_unf c17_16.eq_1, o17_20, den_unf c17_20.eq_1, o17_23, den_unf c17_23.eq_1, o17_26, den_unf c17_26.eq_1, den_unf c17_25.eq_1, den_unf c17_24.eq_1, den_unf c17_22.eq_1, o17_27, den_unf c17_27.eq_1, den_unf c17_21.eq_1, den_unf c17_19.eq_1, den_unf c17_15.eq_1, den_unf c17_14.eq_1, o17_28, den_unf c17_28.eq_1, den_unf c17_13.eq_1, den_unf c17_9.eq_1, den_unf c17_8.eq_1, den_unf c17_7.eq_1, den_unf c17_5.eq_1, o17_30, den_unf c17_30.eq_1, den_unf c17_29.eq_1, den_unf c17_4.eq_1, den_unf c17_2.eq_1, den_unf c17_0.eq_1, tag_eq, den_seq, den_cond, den_block, den_loop, den_reg, den_draw, den_skip, den_exit, den_ret, exitK_eq, exitK_ne, condB_t, condB_f, regionK_app, upV_nil, upV_cons, updAt_zero, updAt_succ, nthD_zero, nthD_succ, ev_loc, ev_var, ev_const, evs_nil, evs_cons, start_cons, start_nil, run_nil, run_n, run_g, gif_t, gif_f, guard_t, guard_f, notB_t, notB_f, draw_cons, drw_nil, drw_n, drw_g, drawE_pure, drawE_read, loudK_eq, nble_t, nble_f, nblt_t, nblt_f, drawE_new, drawE_write, drawE_call, drawE_append, drawE_copy, covers_eq, lor_eq, pow_eq, add_eq', sub_eq', mul_eq', eff_pure, eff_new, eff_read, readE_some, readV_some, eff_write, writeE_some, writeV_some, eff_call, eff_append, eff_copy, minN_l, minN_r, padTo_z, padTo_n, padTo_c, retK_eq, retE_some, resOfs_nil, consO_some, resOfs_cons, resOf_var, one_one, one_two, one_nil, finish_q, finish_w, nr_bool, nr_int, nr_str, nr_nils, nr_slice, nr_ptr, nr_func, nr_map, nr_tuple, nr_agg, nrs_nil, nrs_cons, f_makeSlice, f_slice_lo, f_slice_hi, f_slice_lohi, f_slice_all, f_slice_nil_hi, f_slice_nil_lo, f_slice_nil_all, f_copy, f_append_nn, f_append_ss, f_append_sn, f_append_0, repL_zero, repL_succ, newO_some, f_buildSlice, aggO_some, f_build, fillO_some, fill_nil, fill_int, fill_str, fill_bool, nth_ints, nth_nats, nth_strs, nth_bools, takeN_ints, takeN_nats, takeN_strs, dropN_ints, dropN_nats, dropN_strs, setAt_ints, setAt_nats, setAt_bools, allCells_ints, allCells_nats, allCells_strs, hget_same, hget_ne, hset_same, hset_ne, hdel_same, hdel_ne, hdel_nil, hget_del_ne, hget_set_ne, hget_set_same, dropN_zero, ofO_some, f_move, f_pick_t, f_pick_f, f_alloc, f_box, cells_int, cells_bool, cells_str, cells_slice, cells_nils, cells_ptr, cells_func, cells_map, cells_agg, f_load1, k_load1, f_loadN, k_loadN, nth_zero, nth_succ, f_store, undefO_some, ic_int, ic_bool, ic_str, ic_slice, ic_nils, ic_ptr, ic_func, ic_map, k_store_int, k_store_bool, k_store_str, k_store_slice, k_store_nils, k_store_func, k_store_map, setAt_zero, consS_some, setAt_succ, f_nilCheck, f_nilCheckF, f_notB, f_func, f_call, f_extract, f_lenSl, f_lenNil, f_lenStr, f_index, f_indexA, f_field, f_conv, wrap_i64, wrap_u64, wrap_int, b_add, b_sub, b_mul, b_quo, b_rem, b_eql, b_neq, b_lss, b_leq, b_gtr, b_geq, add_nat, add_u64, sub_nat, mul_nat, div_nat, rem_nat, eq_nat, lt_nat, dec_t, dec_f, f_max, f_min, max_nat, min_nat, List.nil_append, List.append_nil, List.cons_append, Nat.zero_add, Nat.add_zero, Nat.mul_one, Bool.and_true, Bool.and_false, Bool.true_and, Bool.false_and, Nat.reduceAdd, Nat.reduceSub, Nat.reduceMul, Nat.reduceAnd, Nat.reduceOr, Nat.reducePow, Nat.reduceEqDiff, decide_true, decide_false, loopN_succ, neg_one, moebA]
end
end Go.Absm.D
