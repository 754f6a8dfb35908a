/- slices.Equal, bits.Mul, slices.Repeat. -/
import Derived.Test.YtladlgohahiaeaaM8
import Derived.Test.YtladlgohahiaeaaM4
import Derived.Test.YtladlgohahiaeaaTB
set_option linter.unusedSimpArgs false
set_option linter.unusedVariables false
namespace Go.Absm.D
open Go Go.Absm
set_option maxRecDepth 100000
set_option linter.unusedSimpArgs false
section
variable {t : Nat → Option Entry} (T : Tab t)
theorem c156_go {cf : CallF} {F : Nat} {ke : Nat → KV} {kr : KV} {h : Heap} {n low b c : Nat} {x y : List Int} {ro ro' : Bool} (hx : hget h b = some (.cells ro (ints x))) (hy : hget h c = some (.cells ro' (ints y))) (hl : y.length = x.length)
    (hB : x.length ≤ 1000) (hbn : b < n) (hcn : c < n) {R : Ans}
    (hk : ∀ u1 u2 u3 u4 u5 u6, x = y → ke 0 [.slice b 0 x.length 1, .slice c 0 x.length 1, .bool false, u1, u2, u3, u4, u5, u6] h n low = R)
    (hr : ∀ u1 u2 u3 u4 u5 u6, x ≠ y → kr [.slice b 0 x.length 1, .slice c 0 x.length 1, .bool false, u1, u2, u3, u4, u5, u6] h n low = R) :
    ∀ (d m i : Nat) (u1 u2 u3 u4 : AVal), x.length - i = d → i ≤ x.length → (∀ j, j < i → x.getD j 0 = y.getD j 0) → d < m →
    loopN (fun k => den cf F c156_13 k ke kr) m [.slice b 0 x.length 1, .slice c 0 x.length 1, .bool false, u1, u2, .int .i64 (.ofNat x.length), .int .i64 (.ofNat i), u3, u4] h n low = R := by
  intro d
  induction d with
  | zero =>
    intro m i u1 u2 u3 u4 hd hi hj hm
    obtain ⟨m, rfl⟩ : ∃ q, m = q + 1 := ⟨m - 1, by omega⟩
    have e : x = y := by
      refine List.ext_getElem (by omega) fun j h1 h2 => ?_
      have := hj j (by omega)
      rw [List.getD_eq_getElem?_getD, List.getD_eq_getElem?_getD, List.getElem?_eq_getElem h1, List.getElem?_eq_getElem h2] at this
      exact this
    rw [loopN_succ]
    simp (disch := omega) only [O156, U156, SS0, SS1, SS2, SS3, tag_eq, List.nil_append, List.append_nil, List.cons_append, Nat.reduceAdd, Nat.reduceSub, Nat.reduceMul, Nat.reduceAnd, Nat.reduceOr, Nat.reducePow, Nat.reduceEqDiff, decide_true, decide_false]
    exact hk _ _ _ _ _ _ e
  | succ d ih =>
    intro m i u1 u2 u3 u4 hd hi hj hm
    obtain ⟨m, rfl⟩ : ∃ q, m = q + 1 := ⟨m - 1, by omega⟩
    rw [loopN_succ]
    by_cases e : x.getD i 0 = y.getD i 0
    · simp (disch := omega) only [O156, U156, SS0, SS1, SS2, SS3, tag_eq, List.nil_append, List.append_nil, List.cons_append, Nat.reduceAdd, Nat.reduceSub, Nat.reduceMul, Nat.reduceAnd, Nat.reduceOr, Nat.reducePow, Nat.reduceEqDiff, decide_true, decide_false, hx, hy, eq_int, e]
      exact ih m (i + 1) _ _ _ _ (by omega) (by omega) (fun j hj' => by
        by_cases e' : j = i
        · subst e'; exact e
        · exact hj j (by omega)) (by omega)
    · have ne : x ≠ y := fun h' => e (by rw [h'])
      simp (disch := omega) only [O156, U156, SS0, SS1, SS2, SS3, tag_eq, List.nil_append, List.append_nil, List.cons_append, Nat.reduceAdd, Nat.reduceSub, Nat.reduceMul, Nat.reduceAnd, Nat.reduceOr, Nat.reducePow, Nat.reduceEqDiff, decide_true, decide_false, hx, hy, eq_int]
      exact hr _ _ _ _ _ _ ne
end
end Go.Absm.D

/- slices.Equal, bits.Mul. -/
namespace Go.Absm.D
open Go Go.Absm
set_option maxRecDepth 100000
set_option linter.unusedSimpArgs false
theorem and_u64 {a : Nat} (h : a ≤ 4294967295) : fBin .and [.int .u64 (.ofNat a), .int .u64 (.ofNat 4294967295)] = .pure (.int .u64 (.ofNat a)) := by
  simp only [fBin, binK_one (op := .and) (by simp) (by simp) rfl, binI, bitsI, ofO]
  have e : (BitVec.ofInt IntKind.u64.bits (Int.ofNat a) &&& BitVec.ofInt IntKind.u64.bits (Int.ofNat 4294967295)).toNat = a := by
    show (BitVec.ofInt 64 (a : Int) &&& BitVec.ofInt 64 ((4294967295 : Nat) : Int)).toNat = a
    rw [BitVec.ofInt_natCast, BitVec.ofInt_natCast, BitVec.toNat_and, BitVec.toNat_ofNat, BitVec.toNat_ofNat, Nat.mod_eq_of_lt (by omega : a < 2 ^ 64), Nat.mod_eq_of_lt (by omega : 4294967295 < 2 ^ 64)]
    rw [show (4294967295 : Nat) = 2 ^ 32 - 1 from rfl, Nat.and_two_pow_sub_one_eq_mod, Nat.mod_eq_of_lt (by omega)]
  rw [e]
  have := wrap_fast (k := .u64) (m := a) (by simp [fastMax]; omega)
  exact congrArg (fun x => Eff.pure (AVal.int .u64 x)) this
theorem shr_u64 {a : Nat} {k : IntKind} (h : a ≤ 4294967295) : fBin .shr [.int .u64 (.ofNat a), .int k (.ofNat 32)] = .pure (.int .u64 (.ofNat 0)) := by
  simp only [fBin, binK, shiftI, ofO]
  have e : Int.fdiv (Int.ofNat a) (2 ^ Nat.min 32 IntKind.u64.bits) = Int.ofNat 0 := by
    show Int.fdiv (a : Int) (((2 ^ 32 : Nat) : Int)) = 0
    rw [show ((2 ^ 32 : Nat) : Int) = 4294967296 from rfl]
    rw [Int.fdiv_eq_ediv_of_nonneg _ (by omega)]
    omega
  rw [e]
theorem mul_u64 {a b : Nat} (h : a * b ≤ 18446744073709551615) : mulI .u64 (.ofNat a) (.ofNat b) = .ofNat (a * b) := by rw [mulI_eq]; exact wrap_fast h
section
variable {t : Nat → Option Entry} (T : Tab t)
include T
theorem mul64_run {m a b n : Nat} {h : Heap} {kq : AVal → Ans} {ke : AVal → Heap → Nat → Nat → Ans} (hm : 10 ≤ m) (hab : a * b ≤ 1000) (ha : a ≤ 1000) (hb : b ≤ 1000) :
    exec t m 179 [.int .u64 (.ofNat a), .int .u64 (.ofNat b)] h n kq ke = kq (.tuple [.int .u64 (.ofNat 0), .int .u64 (.ofNat (a * b))]) := by
  obtain ⟨m, rfl⟩ : ∃ q, m = q + 1 := ⟨m - 1, by omega⟩
  rw [exec_code T.h179, c179, callCode_eq (by simp)]
  simp (disch := omega) only [O179, U179, SS0, SS1, SS2, SS3, tag_eq, List.nil_append, List.append_nil, List.cons_append, Nat.reduceAdd, Nat.reduceSub, Nat.reduceMul, Nat.reduceAnd, Nat.reduceOr, Nat.reducePow, Nat.reduceEqDiff, decide_true, decide_false, and_u64, shr_u64, mul_u64, Nat.zero_mul, Nat.mul_zero]
theorem mul_run {m a b n : Nat} {h : Heap} {kq : AVal → Ans} {ke : AVal → Heap → Nat → Nat → Ans} (hm : 20 ≤ m) (hab : a * b ≤ 1000) (ha : a ≤ 1000) (hb : b ≤ 1000) :
    exec t m 173 [.int .u64 (.ofNat a), .int .u64 (.ofNat b)] h n kq ke = kq (.tuple [.int .u64 (.ofNat 0), .int .u64 (.ofNat (a * b))]) := by
  obtain ⟨m, rfl⟩ : ∃ q, m = q + 1 := ⟨m - 1, by omega⟩
  rw [exec_code T.h173, c173, callCode_eq (by simp)]
  simp (disch := omega) only [O173, U173, SS0, SS1, SS2, SS3, tag_eq, List.nil_append, List.append_nil, List.cons_append, Nat.reduceAdd, Nat.reduceSub, Nat.reduceMul, Nat.reduceAnd, Nat.reduceOr, Nat.reducePow, Nat.reduceEqDiff, decide_true, decide_false, mul64_run T]
theorem equal_run {m n b c : Nat} {h : Heap} {x y : List Int} {ro ro' : Bool} {kq : AVal → Ans} {ke : AVal → Heap → Nat → Nat → Ans} (hm : x.length + 10 ≤ m) (hx : hget h b = some (.cells ro (ints x))) (hy : hget h c = some (.cells ro' (ints y))) (hl : y.length = x.length)
    (hB : x.length ≤ 1000) (hbn : b < n) (hcn : c < n) :
    exec t m 156 [.slice b 0 x.length 1, .slice c 0 x.length 1] h n kq ke = kq (.bool (decide (x = y))) := by
  obtain ⟨m, rfl⟩ : ∃ q, m = q + 1 := ⟨m - 1, by omega⟩
  rw [exec_code T.h156, c156, callCode_eq (by simp)]
  simp (disch := omega) only [O156, U156, SS0, SS1, SS2, SS3, tag_eq, List.nil_append, List.append_nil, List.cons_append, Nat.reduceAdd, Nat.reduceSub, Nat.reduceMul, Nat.reduceAnd, Nat.reduceOr, Nat.reducePow, Nat.reduceEqDiff, decide_true, decide_false]
  refine c156_go hx hy hl hB hbn hcn ?_ ?_ x.length _ 0 _ _ _ _ (by omega) (by omega) (by omega) (by omega)
  · intro u1 u2 u3 u4 u5 u6 e
    rw [decide_eq_true e]
    simp (disch := omega) only [O156, U156, SS0, SS1, SS2, SS3, tag_eq, List.nil_append, List.append_nil, List.cons_append, Nat.reduceAdd, Nat.reduceSub, Nat.reduceMul, Nat.reduceAnd, Nat.reduceOr, Nat.reducePow, Nat.reduceEqDiff, decide_true, decide_false]
  · intro u1 u2 u3 u4 u5 u6 e
    rw [decide_eq_false e]
    simp (disch := omega) only [O156, U156, SS0, SS1, SS2, SS3, tag_eq, List.nil_append, List.append_nil, List.cons_append, Nat.reduceAdd, Nat.reduceSub, Nat.reduceMul, Nat.reduceAnd, Nat.reduceOr, Nat.reducePow, Nat.reduceEqDiff, decide_true, decide_false]
end
end Go.Absm.D

/- slices.Repeat. -/
namespace Go.Absm.D
open Go Go.Absm
set_option maxRecDepth 100000
set_option linter.unusedSimpArgs false
/-- the first d numbers of a list, again and again -/
def per (l : List Int) (d L : Nat) : List Int := (List.range L).map fun i => l.getD (i % d) 0
theorem per_len {l : List Int} {d L : Nat} : (per l d L).length = L := by simp [per]
theorem per_get {l : List Int} {d L i : Nat} (h : i < L) : (per l d L)[i]? = some (l.getD (i % d) 0) := by
  simp [per, h]
theorem per_step {l : List Int} {d L n k : Nat} (hn : n % d = 0) (hk : n + k ≤ L) : (per l d L).take n ++ (per l d L).take k = (per l d L).take (n + k) := by
  apply List.ext_getElem?
  intro i
  by_cases h1 : i < n
  · rw [List.getElem?_append_left (by simp [per_len]; omega), List.getElem?_take_of_lt h1, List.getElem?_take_of_lt (by omega)]
  · rw [List.getElem?_append_right (by simp [per_len]; omega)]
    have hl : ((per l d L).take n).length = n := by simp [per_len]; omega
    rw [hl]
    by_cases h2 : i < n + k
    · rw [List.getElem?_take_of_lt (by omega), List.getElem?_take_of_lt h2, per_get (by omega), per_get (by omega)]
      have : (i - n) % d = i % d := by
        obtain ⟨q, hq⟩ := Nat.dvd_of_mod_eq_zero hn
        rw [hq] at h1 ⊢
        rw [show i = (i - d * q) + d * q by omega, Nat.add_mul_mod_self_left]
        congr 1; omega
      rw [this]
    · rw [List.getElem?_eq_none (by simp; omega), List.getElem?_eq_none (by simp; omega)]
theorem per_start {l : List Int} {d L : Nat} (hd : d ≤ L) (hl : d ≤ l.length) : l.take d = (per l d L).take d := by
  apply List.ext_getElem?
  intro i
  by_cases h1 : i < d
  · rw [List.getElem?_take_of_lt h1, List.getElem?_take_of_lt h1, per_get (by omega), Nat.mod_eq_of_lt h1, List.getD_eq_getElem?_getD, List.getElem?_eq_getElem (by omega)]; rfl
  · rw [List.getElem?_eq_none (by simp; omega), List.getElem?_eq_none (by simp; omega)]
/-- what has been written so far -/
def part (l : List Int) (d L n : Nat) : List Int := (per l d L).take n ++ List.replicate (L - n) 0
theorem part_len {l : List Int} {d L n : Nat} (h : n ≤ L) : (part l d L n).length = L := by simp [part, per_len]; omega
theorem part_all {l : List Int} {d L : Nat} : part l d L L = per l d L := by simp [part, List.take_of_length_le, per_len]
theorem part_take {l : List Int} {d L n k : Nat} (h : k ≤ n) (hn : n ≤ L) : (part l d L n).take k = (per l d L).take k := by
  rw [part, List.take_append_of_le_length (by simp [per_len]; omega), List.take_take, Nat.min_eq_left h]
theorem part_step {l : List Int} {d L n k : Nat} (hn : n % d = 0) (hk : n + k ≤ L) : setCells (ints (part l d L n)) n (ints ((per l d L).take k)) = some (ints (part l d L (n + k))) := by
  have hkl : ((per l d L).take k).length = k := by simp [per_len]; omega
  have hnl : ((per l d L).take n).length = n := by simp [per_len]; omega
  rw [setCells_eq allCells_ints (by rw [ints_len, ints_len, hkl, part_len (by omega)]; omega)]
  refine congrArg some ?_
  simp only [ints, ← List.map_take, ← List.map_drop, ← List.map_append, List.length_map, hkl]
  refine congrArg _ ?_
  rw [part_take (Nat.le_refl _) (by omega), per_step hn hk]
  unfold part
  rw [List.drop_append, hnl]
  have : List.drop (n + k) ((per l d L).take n) = [] := List.drop_eq_nil_of_le (by omega)
  rw [this, List.drop_replicate]
  simp
  omega
section
variable {t : Nat → Option Entry} (T : Tab t)
theorem c157_go {cf : CallF} {F : Nat} {ke : Nat → KV} {kr : KV} {h : Heap} {n low c d L : Nat} {l : List Int} {u0 u1 u2 u3 u4 : AVal} {R : Ans} (hL : L % d = 0) (hB : L ≤ 1000) (hlow : low = c) (hcn : c < n)
    (hk : ∀ u7 u8 u9, ke 0 [u0, u1, u2, u3, u4, .slice c 0 L 1, u7, u8, u9, .bool false] ((c, .cells false (ints (per l d L))) :: h) n low = R) :
    ∀ (e m p : Nat) (u7 u8 u9 : AVal), L - p = e → 0 < p → p ≤ L → p % d = 0 → e < m →
    loopN (fun k => den cf F c157_21 k ke kr) m [u0, u1, u2, u3, u4, .slice c 0 L 1, .int .i64 (.ofNat p), u7, u8, u9] ((c, .cells false (ints (part l d L p))) :: h) n low = R := by
  subst hlow
  intro e
  induction e using Nat.strongRecOn with
  | ind e ih =>
  intro m p u7 u8 u9 he h0 hp hpd hm
  obtain ⟨m, rfl⟩ : ∃ q, m = q + 1 := ⟨m - 1, by omega⟩
  rw [loopN_succ]
  by_cases hlt : p < L
  · simp (disch := omega) only [O157, U157, SS0, SS1, SS2, SS3, tag_eq, List.nil_append, List.append_nil, List.cons_append, Nat.reduceAdd, Nat.reduceSub, Nat.reduceMul, Nat.reduceAnd, Nat.reduceOr, Nat.reducePow, Nat.reduceEqDiff, decide_true, decide_false]
    have h1 : takeN (min p (L - p) * 1) (dropN 0 (ints (part l d L p))) = some (ints ((per l d L).take (min p (L - p)))) := by
      rw [dropN_zero, Nat.mul_one, takeN_ints (by rw [part_len hp]; omega), part_take (by omega) hp]
    rw [eff_copy_eq hget_same h1 hget_same (part_step hpd (by omega))]
    simp (disch := omega) only [O157, U157, SS0, SS1, SS2, SS3, tag_eq, List.nil_append, List.append_nil, List.cons_append, Nat.reduceAdd, Nat.reduceSub, Nat.reduceMul, Nat.reduceAnd, Nat.reduceOr, Nat.reducePow, Nat.reduceEqDiff, decide_true, decide_false]
    refine ih (L - (p + min p (L - p))) (by omega) m _ _ _ _ rfl (by omega) (by omega) ?_ (by omega)
    rcases Nat.le_total p (L - p) with h2 | h2
    · rw [Nat.min_eq_left h2, Nat.add_mod, hpd]; simp
    · rw [Nat.min_eq_right h2, show p + (L - p) = L by omega, hL]
  · obtain rfl : p = L := by omega
    simp (disch := omega) only [O157, U157, SS0, SS1, SS2, SS3, tag_eq, List.nil_append, List.append_nil, List.cons_append, Nat.reduceAdd, Nat.reduceSub, Nat.reduceMul, Nat.reduceAnd, Nat.reduceOr, Nat.reducePow, Nat.reduceEqDiff, decide_true, decide_false, part_all]
    exact hk _ _ _
theorem per_zero {l : List Int} {d L : Nat} : part l d L 0 = List.replicate L 0 := by simp [part]
include T
theorem repeat_run {m b c d n : Nat} {h : Heap} {l : List Int} {ro : Bool} {kq : AVal → Ans} {ke : AVal → Heap → Nat → Nat → Ans} (hm : 1100 ≤ m) (hb : hget h b = some (.cells ro (ints l))) (hbn : b < n) (hd : 0 < d) (hl : d ≤ l.length) (hc : 0 < c) (hcd : d * c ≤ 1000) :
    exec t m 157 [.slice b 0 d 1, .int .i64 (.ofNat c)] h n kq ke = ke (.slice n 0 (d * c) 1) ((n, .cells false (ints (per l d (d * c)))) :: h) (n + 1) n := by
  obtain ⟨m, rfl⟩ : ∃ q, m = q + 1 := ⟨m - 1, by omega⟩
  have hd1 : d ≤ d * c := Nat.le_mul_of_pos_right d hc
  have hc1 : c ≤ d * c := Nat.le_mul_of_pos_left c hd
  rw [exec_code T.h157, c157, callCode_eq (by simp)]
  simp (disch := omega) only [O157, U157, SS0, SS1, SS2, SS3, tag_eq, List.nil_append, List.append_nil, List.cons_append, Nat.reduceAdd, Nat.reduceSub, Nat.reduceMul, Nat.reduceAnd, Nat.reduceOr, Nat.reducePow, Nat.reduceEqDiff, decide_true, decide_false, mul_run T, rep_ints]
  rw [Nat.min_eq_left hd1]
  have h1 : takeN (d * 1) (dropN 0 (ints l)) = some (ints ((per l d (d * c)).take d)) := by
    rw [dropN_zero, Nat.mul_one, takeN_ints hl, per_start hd1 hl]
  have h2 : setCells (ints (List.replicate (d * c) 0)) 0 (ints ((per l d (d * c)).take d)) = some (ints (part l d (d * c) d)) := by
    have := part_step (l := l) (d := d) (L := d * c) (n := 0) (k := d) (by simp) (by omega)
    rw [per_zero, Nat.zero_add] at this; exact this
  rw [eff_copy_eq (by rw [hget_ne (by omega)]; exact hb) h1 hget_same h2]
  simp (disch := omega) only [O157, U157, SS0, SS1, SS2, SS3, tag_eq, List.nil_append, List.append_nil, List.cons_append, Nat.reduceAdd, Nat.reduceSub, Nat.reduceMul, Nat.reduceAnd, Nat.reduceOr, Nat.reducePow, Nat.reduceEqDiff, decide_true, decide_false]
  refine c157_go (by simp) hcd rfl (by omega) ?_ (d * c - d) _ d _ _ _ rfl (by omega) (by omega) (by simp) (by omega)
  intro u7 u8 u9
  simp (disch := omega) only [O157, U157, SS0, SS1, SS2, SS3, tag_eq, List.nil_append, List.append_nil, List.cons_append, Nat.reduceAdd, Nat.reduceSub, Nat.reduceMul, Nat.reduceAnd, Nat.reduceOr, Nat.reducePow, Nat.reduceEqDiff, decide_true, decide_false]
end
end Go.Absm.D
