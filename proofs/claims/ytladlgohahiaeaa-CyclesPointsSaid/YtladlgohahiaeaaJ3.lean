/- tame: a cycle of any numbers. -/
import Derived.Test.YtladlgohahiaeaaM8
import Derived.Test.YtladlgohahiaeaaJ2
import Derived.Test.YtladlgohahiaeaaU1
set_option linter.unusedSimpArgs false
set_option linter.unusedVariables false
namespace Go.Absm.D
open Go Go.Absm
set_option maxRecDepth 100000
set_option linter.unusedSimpArgs false
set_option maxHeartbeats 2000000
/-- a list of any numbers, nil where it may be empty; it lies below n -/
def SlI (h : Heap) (n : Nat) (v : AVal) (l : List Int) : Prop := (l = [] ∧ v = .nilslice) ∨ ∃ b ro, v = .slice b 0 l.length 1 ∧ (0 < l.length → hget h b = some (.cells ro (ints l))) ∧ b < n
theorem SlI.len {h : Heap} {n : Nat} {v : AVal} {l : List Int} (s : SlI h n v l) : fLenSl [v] = .pure (.int .i64 (.ofNat l.length)) := by
  rcases s with ⟨rfl, rfl⟩ | ⟨b, ro, rfl, _⟩ <;> rfl
theorem SlI.mono {h h' : Heap} {n : Nat} {v : AVal} {l : List Int} (s : SlI h n v l) (hf : ∀ c, c < n → hget h' c = hget h c) : SlI h' n v l := by
  rcases s with ⟨e1, e2⟩ | ⟨b, ro, e1, e2, e3⟩
  · exact .inl ⟨e1, e2⟩
  · exact .inr ⟨b, ro, e1, fun h0 => by rw [hf b e3]; exact e2 h0, e3⟩
/-- numbers made here -/
def RepN (h : Heap) (lo n : Nat) (v : AVal) (o : List Nat) : Prop :=
  (o = [] ∧ v = .nilslice) ∨ ∃ b, v = .slice b 0 o.length 1 ∧ hget h b = some (.cells false (nats o)) ∧ lo ≤ b ∧ b < n ∧ 0 < o.length
theorem nats_app {a b : List Nat} : nats a ++ nats b = nats (a ++ b) := by simp [nats]
theorem nats_one {x : Nat} : [AVal.int .i64 (.ofNat x)] = nats [x] := rfl
section
variable {t : Nat → Option Entry} (T : Tab t)
theorem c25_ins {m F lo n a v : Nat} {o : List Nat} {l v7 v8 u9 u10 v11 u6 ord : AVal} {n2 : Nat} {kE : Nat → KV} {kr k : KV} {R : Ans} {h : Heap} (ho : o.length = v) (ha : a ≤ v) (hv : v ≤ 8) (hr : RepN h lo n ord o) (hlo : lo ≤ n)
    (hk : ∀ h' n' ord' u6, RepN h' lo n' ord' (o.take a ++ [v] ++ o.drop a) → lo ≤ n' → (∀ c, c < lo → hget h' c = hget h c) → k [l, .nilslice, .int .i64 (.ofNat n2), ord', .int .i64 (.ofNat v), .int .i64 (.ofNat a), u6, v7, v8, u9, u10, v11] h' n' lo = R) :
    den (exec t m) F c25_24 k kE kr [l, .nilslice, .int .i64 (.ofNat n2), ord, .int .i64 (.ofNat v), .int .i64 (.ofNat a), u6, v7, v8, u9, u10, v11] h n lo = R := by
  rcases hr with ⟨e1, rfl⟩ | ⟨nb, rfl, g1, g2, g3, g4⟩
  · subst e1
    have : v = 0 := by simpa using ho.symm
    subst this
    obtain rfl : a = 0 := by omega
    simp (disch := omega) only [O25, U25, SS0, SS1, SS2, SS3, tag_eq, List.nil_append, List.append_nil, List.cons_append, Nat.reduceAdd, Nat.reduceSub, Nat.reduceMul, Nat.reduceAnd, Nat.reduceOr, Nat.reducePow, Nat.reduceEqDiff, decide_true, decide_false, f_slice_nil_hi, f_slice_nil_lo, f_append_0, app_zero_nil]
    rw [app_nil (by omega) (new := nats [0]) (by rw [src_eq hget_same]; rfl) rfl]
    simp (disch := omega) only [O25, U25, SS0, SS1, SS2, SS3, tag_eq, List.nil_append, List.append_nil, List.cons_append, Nat.reduceAdd, Nat.reduceSub, Nat.reduceMul, Nat.reduceAnd, Nat.reduceOr, Nat.reducePow, Nat.reduceEqDiff, decide_true, decide_false, f_slice_nil_hi, f_slice_nil_lo, f_append_0, app_zero_nil, f_append_sn, app_zero_some]
    refine hk _ _ _ _ (.inr ⟨n + 1, rfl, hget_same, by omega, by omega, by simp⟩) (by omega) (fun c hc => ?_)
    simp (disch := omega) only [hget_ne, hget_del_ne]
  · have hnb : nb ≠ n := by omega
    have hnb1 : nb ≠ n + 1 := by omega
    have hm1 : minN n lo = lo := by rw [minN_eq]; omega
    have hm2 : minN (n + 1) lo = lo := by rw [minN_eq]; omega
    have hm3 : minN (n + 1 + 1) lo = lo := by rw [minN_eq]; omega
    by_cases ha0 : a = 0
    · subst ha0
      have e : fAppend 1 8 [.nilslice, .slice nb 0 0 1] = .append none (some (nb, 0)) [] 0 1 := f_append_nn (by omega)
      simp (disch := omega) only [O25, U25, SS0, SS1, SS2, SS3, tag_eq, List.nil_append, List.append_nil, List.cons_append, Nat.reduceAdd, Nat.reduceSub, Nat.reduceMul, Nat.reduceAnd, Nat.reduceOr, Nat.reducePow, Nat.reduceEqDiff, decide_true, decide_false, app_zero_nil, e]
      rw [app_nil (by omega) (new := nats [v]) (by rw [src_eq hget_same]; rfl) rfl]
      simp (disch := omega) only [O25, U25, SS0, SS1, SS2, SS3, tag_eq, List.nil_append, List.append_nil, List.cons_append, Nat.reduceAdd, Nat.reduceSub, Nat.reduceMul, Nat.reduceAnd, Nat.reduceOr, Nat.reducePow, Nat.reduceEqDiff, decide_true, decide_false, Nat.sub_zero]
      rw [app_some (by omega) (new := nats o) (by rw [src_eq (by rw [hget_ne (by omega), hget_ne (by omega)]; exact g1), Nat.mul_one, dropN_nats, takeN_nats (by simp), List.drop_zero, List.take_length]) allCells_nats hget_same (old := nats [v]) rfl]
      simp (disch := omega) only [O25, U25, SS0, SS1, SS2, SS3, tag_eq, List.nil_append, List.append_nil, List.cons_append, Nat.reduceAdd, Nat.reduceSub, Nat.reduceMul, Nat.reduceAnd, Nat.reduceOr, Nat.reducePow, Nat.reduceEqDiff, decide_true, decide_false, hm2]
      refine hk _ _ _ _ ?_ (by omega) (fun c hc => ?_)
      · refine .inr ⟨n + 1 + 1, ?_, ?_, by omega, by omega, by simp⟩
        · simp [ho, Nat.add_comm]
        · rw [hget_same, nats_app]; simp
      simp (disch := omega) only [hget_ne, hget_del_ne]
    · have e1 : takeN (a * 1) (dropN 0 (nats o)) = some (nats (o.take a)) := by rw [dropN_zero, Nat.mul_one, takeN_nats (by omega)]
      have hal : (o.take a).length = a := by simp; omega
      simp (disch := omega) only [O25, U25, SS0, SS1, SS2, SS3, tag_eq, List.nil_append, List.append_nil, List.cons_append, Nat.reduceAdd, Nat.reduceSub, Nat.reduceMul, Nat.reduceAnd, Nat.reduceOr, Nat.reducePow, Nat.reduceEqDiff, decide_true, decide_false, app_zero_nil]
      rw [app_nil (by omega) (new := nats (o.take a)) (by rw [src_eq g1, e1]) allCells_nats]
      simp (disch := omega) only [O25, U25, SS0, SS1, SS2, SS3, tag_eq, List.nil_append, List.append_nil, List.cons_append, Nat.reduceAdd, Nat.reduceSub, Nat.reduceMul, Nat.reduceAnd, Nat.reduceOr, Nat.reducePow, Nat.reduceEqDiff, decide_true, decide_false]
      have e2 : takeN (a * 1) (dropN 0 (nats (o.take a))) = some (nats (o.take a)) := by rw [dropN_zero, Nat.mul_one, takeN_nats (by omega)]; rw [List.take_take, Nat.min_self]
      rw [app_some (by omega) (new := nats [v]) (by rw [src_eq hget_same]; rfl) rfl (by rw [hget_ne (by omega), hget_same]) (old := nats (o.take a)) e2]
      simp (disch := omega) only [O25, U25, SS0, SS1, SS2, SS3, tag_eq, List.nil_append, List.append_nil, List.cons_append, Nat.reduceAdd, Nat.reduceSub, Nat.reduceMul, Nat.reduceAnd, Nat.reduceOr, Nat.reducePow, Nat.reduceEqDiff, decide_true, decide_false, hm1]
      by_cases hal2 : a = v
      · subst hal2
        have e3 : o.length - a = 0 := by omega
        simp (disch := omega) only [O25, U25, SS0, SS1, SS2, SS3, tag_eq, List.nil_append, List.append_nil, List.cons_append, Nat.reduceAdd, Nat.reduceSub, Nat.reduceMul, Nat.reduceAnd, Nat.reduceOr, Nat.reducePow, Nat.reduceEqDiff, decide_true, decide_false, e3, app_zero_some]
        refine hk _ _ _ _ ?_ (by omega) (fun c hc => ?_)
        · refine .inr ⟨n + 1 + 1, ?_, ?_, by omega, by omega, by simp; omega⟩
          · simp [ho]
          · rw [hget_same, nats_app, show o.drop a = [] from List.drop_eq_nil_of_le (by omega), List.append_nil]
        simp (disch := omega) only [hget_ne, hget_del_ne]
      · simp (disch := omega) only [O25, U25, SS0, SS1, SS2, SS3, tag_eq, List.nil_append, List.append_nil, List.cons_append, Nat.reduceAdd, Nat.reduceSub, Nat.reduceMul, Nat.reduceAnd, Nat.reduceOr, Nat.reducePow, Nat.reduceEqDiff, decide_true, decide_false]
        have e4 : takeN ((o.length - a) * 1) (dropN a (nats o)) = some (nats (o.drop a)) := by rw [Nat.mul_one, dropN_nats, takeN_nats (by simp), List.take_of_length_le (by simp)]
        rw [app_some (by omega) (new := nats (o.drop a)) (by rw [src_eq (by simp (disch := omega) only [hget_ne, hget_del_ne]; exact g1), e4]) allCells_nats hget_same (old := nats (o.take a ++ [v])) (by
          rw [dropN_zero, Nat.mul_one, nats_app, takeN_nats (by simp; omega)]; rw [List.take_of_length_le (by simp; omega)])]
        simp (disch := omega) only [O25, U25, SS0, SS1, SS2, SS3, tag_eq, List.nil_append, List.append_nil, List.cons_append, Nat.reduceAdd, Nat.reduceSub, Nat.reduceMul, Nat.reduceAnd, Nat.reduceOr, Nat.reducePow, Nat.reduceEqDiff, decide_true, decide_false, hm3]
        refine hk _ _ _ _ ?_ (by omega) (fun c hc => ?_)
        · refine .inr ⟨n + 1 + 1 + 1, ?_, ?_, by omega, by omega, by simp; omega⟩
          · congr 1; simp; omega
          · rw [hget_same, nats_app]
        simp (disch := omega) only [hget_ne, hget_del_ne]
/-- the order -/
theorem c25_ord {m F lo n2 : Nat} {l : List Int} {v v7 v8 : AVal} {kE : Nat → KV} {kr : KV} {R : Ans} {h0 : Heap} (hl : SlI h0 lo v l) (h8 : n2 ≤ 8) (h2 : 2 ≤ n2)
    (hk : ∀ h n ord o u5 u6 u9 u10 u11, PermN o n2 → RepN h lo n ord o → lo ≤ n → (∀ c, c < lo → hget h c = hget h0 c) → kE 0 [v, .nilslice, .int .i64 (.ofNat n2), ord, .int .i64 (.ofNat n2), u5, u6, v7, v8, u9, u10, u11] h n lo = R) :
    ∀ (d q i n : Nat) (h : Heap) (ord u5 u6 u9 u10 u11 : AVal) (o : List Nat), n2 - i = d → i ≤ n2 → PermN o i → RepN h lo n ord o → lo ≤ n → (∀ c, c < lo → hget h c = hget h0 c) → d < q →
    loopN (fun k => den (exec t m) F c25_11 k kE kr) q [v, .nilslice, .int .i64 (.ofNat n2), ord, .int .i64 (.ofNat i), u5, u6, v7, v8, u9, u10, u11] h n lo = R := by
  intro d
  induction d with
  | zero =>
    intro q i n h ord u5 u6 u9 u10 u11 o hd hi ho hr hn hf hq
    obtain ⟨q, rfl⟩ : ∃ x, q = x + 1 := ⟨q - 1, by omega⟩
    rw [loopN_succ]
    obtain rfl : i = n2 := by omega
    simp (disch := omega) only [O25, U25, SS0, SS1, SS2, SS3, tag_eq, List.nil_append, List.append_nil, List.cons_append, Nat.reduceAdd, Nat.reduceSub, Nat.reduceMul, Nat.reduceAnd, Nat.reduceOr, Nat.reducePow, Nat.reduceEqDiff, decide_true, decide_false]
    exact hk _ _ _ _ _ _ _ _ _ ho hr hn hf
  | succ d ih =>
    intro q i n h ord u5 u6 u9 u10 u11 o hd hi ho hr hn hf hq
    obtain ⟨q, rfl⟩ : ∃ x, q = x + 1 := ⟨q - 1, by omega⟩
    rw [loopN_succ]
    have hl' := hl.mono (h' := h) hf
    have hlb : l.length < i + 1 ∨ i < l.length := by omega
    by_cases hil : i < l.length
    · rcases hl' with ⟨e1, e2⟩ | ⟨b, ro, rfl, g, gn⟩
      · subst e1; simp at hil
      · have g := g (by omega)
        obtain ⟨y, j, hj, e1, e2⟩ := remU_of (l.getD i 0) (i + 1) (by omega)
        have e3 : wrapN .u64 (.ofNat (i + 1)) = .ofNat (i + 1) := wrap_u64 (by omega)
        simp only [f_conv] at e1
        have e1 := Eff.pure.inj e1
        have e1 := (AVal.int.inj e1).2
        simp (disch := omega) only [o25_1, den_unf c25_1.eq_1, o25_3, den_unf c25_3.eq_1, o25_5, den_unf c25_5.eq_1, o25_8, den_unf c25_8.eq_1, o25_13, den_unf c25_13.eq_1, den_unf c25_14.eq_1, den_unf c25_12.eq_1, o25_18, den_unf c25_18.eq_1, o25_21, den_unf c25_21.eq_1, o25_23, den_unf c25_23.eq_1, den_unf c25_22.eq_1, den_unf c25_20.eq_1, o25_25, den_unf c25_25.eq_1, o25_27, den_unf c25_27.eq_1, o25_29, den_unf c25_29.eq_1, o25_30, den_unf c25_30.eq_1, den_unf c25_28.eq_1, den_unf c25_26.eq_1, den_unf c25_19.eq_1, den_unf c25_17.eq_1, den_unf c25_16.eq_1, o25_31, den_unf c25_31.eq_1, den_unf c25_15.eq_1, den_unf c25_11.eq_1, den_unf c25_10.eq_1, den_unf c25_9.eq_1, den_unf c25_7.eq_1, o25_33, den_unf c25_33.eq_1, o25_36, den_unf c25_36.eq_1, o25_41, den_unf c25_41.eq_1, den_unf c25_42.eq_1, den_unf c25_40.eq_1, o25_45, den_unf c25_45.eq_1, den_unf c25_44.eq_1, o25_46, den_unf c25_46.eq_1, den_unf c25_43.eq_1, den_unf c25_39.eq_1, den_unf c25_38.eq_1, den_unf c25_37.eq_1, den_unf c25_35.eq_1, o25_48, den_unf c25_48.eq_1, den_unf c25_47.eq_1, den_unf c25_34.eq_1, den_unf c25_32.eq_1, den_unf c25_6.eq_1, den_unf c25_4.eq_1, den_unf c25_2.eq_1, den_unf c25_0.eq_1, SS0, SS1, SS2, SS3, tag_eq, List.nil_append, List.append_nil, List.cons_append, Nat.reduceAdd, Nat.reduceSub, Nat.reduceMul, Nat.reduceAnd, Nat.reduceOr, Nat.reducePow, Nat.reduceEqDiff, decide_true, decide_false, g, e1, e2, e3]
        refine c25_ins (n2 := n2) ho.len (a := j) (v := i) (by omega) (by omega) hr hn (fun h' n' ord' u6' hr' hn' hf' => ?_)
        simp (disch := omega) only [o25_1, den_unf c25_1.eq_1, o25_3, den_unf c25_3.eq_1, o25_5, den_unf c25_5.eq_1, o25_8, den_unf c25_8.eq_1, o25_13, den_unf c25_13.eq_1, den_unf c25_14.eq_1, den_unf c25_12.eq_1, o25_18, den_unf c25_18.eq_1, o25_21, den_unf c25_21.eq_1, o25_23, den_unf c25_23.eq_1, den_unf c25_22.eq_1, den_unf c25_20.eq_1, o25_25, den_unf c25_25.eq_1, o25_27, den_unf c25_27.eq_1, o25_29, den_unf c25_29.eq_1, o25_30, den_unf c25_30.eq_1, den_unf c25_28.eq_1, den_unf c25_26.eq_1, den_unf c25_19.eq_1, den_unf c25_17.eq_1, den_unf c25_16.eq_1, o25_31, den_unf c25_31.eq_1, den_unf c25_15.eq_1, den_unf c25_11.eq_1, den_unf c25_10.eq_1, den_unf c25_9.eq_1, den_unf c25_7.eq_1, o25_33, den_unf c25_33.eq_1, o25_36, den_unf c25_36.eq_1, o25_41, den_unf c25_41.eq_1, den_unf c25_42.eq_1, den_unf c25_40.eq_1, o25_45, den_unf c25_45.eq_1, den_unf c25_44.eq_1, o25_46, den_unf c25_46.eq_1, den_unf c25_43.eq_1, den_unf c25_39.eq_1, den_unf c25_38.eq_1, den_unf c25_37.eq_1, den_unf c25_35.eq_1, o25_48, den_unf c25_48.eq_1, den_unf c25_47.eq_1, den_unf c25_34.eq_1, den_unf c25_32.eq_1, den_unf c25_6.eq_1, den_unf c25_4.eq_1, den_unf c25_2.eq_1, den_unf c25_0.eq_1, SS0, SS1, SS2, SS3, tag_eq, List.nil_append, List.append_nil, List.cons_append, Nat.reduceAdd, Nat.reduceSub, Nat.reduceMul, Nat.reduceAnd, Nat.reduceOr, Nat.reducePow, Nat.reduceEqDiff, decide_true, decide_false]
        exact ih q (i + 1) _ _ _ _ _ _ _ _ _ (by omega) (by omega) (ho.ins j) hr' hn' (fun c hc => by rw [hf' c hc, hf c hc]) (by omega)
    · simp (disch := omega) only [o25_1, den_unf c25_1.eq_1, o25_3, den_unf c25_3.eq_1, o25_5, den_unf c25_5.eq_1, o25_8, den_unf c25_8.eq_1, o25_13, den_unf c25_13.eq_1, den_unf c25_14.eq_1, den_unf c25_12.eq_1, o25_18, den_unf c25_18.eq_1, o25_21, den_unf c25_21.eq_1, o25_23, den_unf c25_23.eq_1, den_unf c25_22.eq_1, den_unf c25_20.eq_1, o25_25, den_unf c25_25.eq_1, o25_27, den_unf c25_27.eq_1, o25_29, den_unf c25_29.eq_1, o25_30, den_unf c25_30.eq_1, den_unf c25_28.eq_1, den_unf c25_26.eq_1, den_unf c25_19.eq_1, den_unf c25_17.eq_1, den_unf c25_16.eq_1, o25_31, den_unf c25_31.eq_1, den_unf c25_15.eq_1, den_unf c25_11.eq_1, den_unf c25_10.eq_1, den_unf c25_9.eq_1, den_unf c25_7.eq_1, o25_33, den_unf c25_33.eq_1, o25_36, den_unf c25_36.eq_1, o25_41, den_unf c25_41.eq_1, den_unf c25_42.eq_1, den_unf c25_40.eq_1, o25_45, den_unf c25_45.eq_1, den_unf c25_44.eq_1, o25_46, den_unf c25_46.eq_1, den_unf c25_43.eq_1, den_unf c25_39.eq_1, den_unf c25_38.eq_1, den_unf c25_37.eq_1, den_unf c25_35.eq_1, o25_48, den_unf c25_48.eq_1, den_unf c25_47.eq_1, den_unf c25_34.eq_1, den_unf c25_32.eq_1, den_unf c25_6.eq_1, den_unf c25_4.eq_1, den_unf c25_2.eq_1, den_unf c25_0.eq_1, SS0, SS1, SS2, SS3, tag_eq, List.nil_append, List.append_nil, List.cons_append, Nat.reduceAdd, Nat.reduceSub, Nat.reduceMul, Nat.reduceAnd, Nat.reduceOr, Nat.reducePow, Nat.reduceEqDiff, decide_true, decide_false, hl'.len]
      refine c25_ins (n2 := n2) ho.len (a := 0) (v := i) (by omega) (by omega) hr hn (fun h' n' ord' u6' hr' hn' hf' => ?_)
      simp (disch := omega) only [o25_1, den_unf c25_1.eq_1, o25_3, den_unf c25_3.eq_1, o25_5, den_unf c25_5.eq_1, o25_8, den_unf c25_8.eq_1, o25_13, den_unf c25_13.eq_1, den_unf c25_14.eq_1, den_unf c25_12.eq_1, o25_18, den_unf c25_18.eq_1, o25_21, den_unf c25_21.eq_1, o25_23, den_unf c25_23.eq_1, den_unf c25_22.eq_1, den_unf c25_20.eq_1, o25_25, den_unf c25_25.eq_1, o25_27, den_unf c25_27.eq_1, o25_29, den_unf c25_29.eq_1, o25_30, den_unf c25_30.eq_1, den_unf c25_28.eq_1, den_unf c25_26.eq_1, den_unf c25_19.eq_1, den_unf c25_17.eq_1, den_unf c25_16.eq_1, o25_31, den_unf c25_31.eq_1, den_unf c25_15.eq_1, den_unf c25_11.eq_1, den_unf c25_10.eq_1, den_unf c25_9.eq_1, den_unf c25_7.eq_1, o25_33, den_unf c25_33.eq_1, o25_36, den_unf c25_36.eq_1, o25_41, den_unf c25_41.eq_1, den_unf c25_42.eq_1, den_unf c25_40.eq_1, o25_45, den_unf c25_45.eq_1, den_unf c25_44.eq_1, o25_46, den_unf c25_46.eq_1, den_unf c25_43.eq_1, den_unf c25_39.eq_1, den_unf c25_38.eq_1, den_unf c25_37.eq_1, den_unf c25_35.eq_1, o25_48, den_unf c25_48.eq_1, den_unf c25_47.eq_1, den_unf c25_34.eq_1, den_unf c25_32.eq_1, den_unf c25_6.eq_1, den_unf c25_4.eq_1, den_unf c25_2.eq_1, den_unf c25_0.eq_1, SS0, SS1, SS2, SS3, tag_eq, List.nil_append, List.append_nil, List.cons_append, Nat.reduceAdd, Nat.reduceSub, Nat.reduceMul, Nat.reduceAnd, Nat.reduceOr, Nat.reducePow, Nat.reduceEqDiff, decide_true, decide_false]
      exact ih q (i + 1) _ _ _ _ _ _ _ _ _ (by omega) (by omega) (ho.ins 0) hr' hn' (fun c hc => by rw [hf' c hc, hf c hc]) (by omega)
/-- the cycle -/
theorem c25_cyc {m F lo n2 n bo bp : Nat} {v v4 v5 v6 u9 u10 : AVal} {o : List Nat} {kE : Nat → KV} {kr : KV} {R : Ans} {h0 : Heap} (ho : PermN o n2) (h8 : n2 ≤ 8) (h2 : 2 ≤ n2) (hbo : bo < bp) (hbp : bp < n) (hlo : lo ≤ bo)
    (hk : ∀ h p u8 u11, p.length = n2 → (∀ j, j < n2 → p.getD (o.getD j 0) 0 = o.getD ((j + 1) % n2) 0) → hget h bp = some (.cells false (nats p)) → (∀ c, c < lo → hget h c = hget h0 c) → kE 2 [v, .nilslice, .int .i64 (.ofNat n2), .slice bo 0 n2 1, v4, v5, v6, .slice bp 0 n2 1, u8, u9, u10, u11] h n lo = R) :
    ∀ (d q i : Nat) (h : Heap) (u11 : AVal) (p : List Nat), n2 - i = d → i ≤ n2 → p.length = n2 → (∀ j, j < i → p.getD (o.getD j 0) 0 = o.getD ((j + 1) % n2) 0) → hget h bo = some (.cells false (nats o)) → hget h bp = some (.cells false (nats p)) → (∀ c, c < lo → hget h c = hget h0 c) → d < q →
    loopN (fun k => den (exec t m) F c25_39 k kE kr) q [v, .nilslice, .int .i64 (.ofNat n2), .slice bo 0 n2 1, v4, v5, v6, .slice bp 0 n2 1, .int .i64 (.ofNat i), u9, u10, u11] h n lo = R := by
  intro d
  induction d with
  | zero =>
    intro q i h u11 p hd hi hp hj g1 g2 hf hq
    obtain ⟨q, rfl⟩ : ∃ x, q = x + 1 := ⟨q - 1, by omega⟩
    rw [loopN_succ]
    obtain rfl : i = n2 := by omega
    simp (disch := omega) only [O25, U25, SS0, SS1, SS2, SS3, tag_eq, List.nil_append, List.append_nil, List.cons_append, Nat.reduceAdd, Nat.reduceSub, Nat.reduceMul, Nat.reduceAnd, Nat.reduceOr, Nat.reducePow, Nat.reduceEqDiff, decide_true, decide_false]
    exact hk _ _ _ _ hp hj g2 hf
  | succ d ih =>
    intro q i h u11 p hd hi hp hj g1 g2 hf hq
    obtain ⟨q, rfl⟩ : ∃ x, q = x + 1 := ⟨q - 1, by omega⟩
    rw [loopN_succ]
    have hin : i < n2 := by omega
    have hol := ho.len
    have hmod : (i + 1) % n2 < n2 := Nat.mod_lt _ (by omega)
    have w1 := ho.lt hin
    have w2 := ho.lt hmod
    have hm1 : minN bp lo = lo := by rw [minN_eq]; omega
    simp (disch := omega) only [O25, U25, SS0, SS1, SS2, SS3, tag_eq, List.nil_append, List.append_nil, List.cons_append, Nat.reduceAdd, Nat.reduceSub, Nat.reduceMul, Nat.reduceAnd, Nat.reduceOr, Nat.reducePow, Nat.reduceEqDiff, decide_true, decide_false, g1, g2, hm1]
    refine ih q (i + 1) _ _ (p.set (o.getD i 0) (o.getD ((i + 1) % n2) 0)) (by omega) (by omega) (by simp [hp]) (fun j hj' => ?_) ?_ ?_ (fun c hc => ?_) (by omega)
    · by_cases e : j = i
      · subst e
        rw [List.getD_eq_getElem?_getD, List.getElem?_set_self (by omega)]; rfl
      · have hne : o.getD i 0 ≠ o.getD j 0 := fun h => e (ho.inj (by omega) (by omega) h.symm)
        rw [← hj j (by omega), List.getD_eq_getElem?_getD, List.getElem?_set_ne hne, ← List.getD_eq_getElem?_getD]
    · simp (disch := omega) only [hget_set_ne]; exact g1
    · exact hget_set_same g2
    · simp (disch := omega) only [hget_set_ne]; exact hf c hc
include T in
theorem tame_run {m lo n : Nat} {h : Heap} {l : List Int} {v : AVal} {kq : AVal → Ans} {ke : AVal → Heap → Nat → Nat → Ans} {R : Ans} (hm : 40 ≤ m) (hl : SlI h n v l) (hB : l.length ≤ 9223372036854775807)
    (hk : ∀ h' n' b p, Cyc p → hget h' b = some (.cells false (nats p)) → n ≤ b → b < n' → (∀ c, c < n → hget h' c = hget h c) → ke (.slice b 0 p.length 1) h' n' n = R) :
    exec t m 25 [v] h n kq ke = R := by
  obtain ⟨m, rfl⟩ : ∃ q, m = q + 1 := ⟨m - 1, by omega⟩
  rw [exec_code T.h25, c25, callCode_eq (by simp)]
  have hr : l.length % 7 < 7 := Nat.mod_lt _ (by omega)
  simp (disch := omega) only [O25, U25, SS0, SS1, SS2, SS3, tag_eq, List.nil_append, List.append_nil, List.cons_append, Nat.reduceAdd, Nat.reduceSub, Nat.reduceMul, Nat.reduceAnd, Nat.reduceOr, Nat.reducePow, Nat.reduceEqDiff, decide_true, decide_false, hl.len]
  generalize hn2 : 2 + l.length % 7 = n2
  refine c25_ord (h0 := h) hl (n2 := n2) (by omega) (by omega) (fun h1 n1 ord o u5 u6 u9 u10 u11 ho hr1 hn1 hf1 => ?_) n2 _ 0 _ _ _ _ _ _ _ _ [] (by omega) (by omega) PermN.zero (.inl ⟨rfl, rfl⟩) (Nat.le_refl _) (fun _ _ => rfl) (by omega)
  have hol := ho.len
  rcases hr1 with ⟨e1, rfl⟩ | ⟨nb, rfl, g1, g2, g3, g4⟩
  · subst e1; simp at hol; omega
  simp (disch := omega) only [O25, U25, SS0, SS1, SS2, SS3, tag_eq, List.nil_append, List.append_nil, List.cons_append, Nat.reduceAdd, Nat.reduceSub, Nat.reduceMul, Nat.reduceAnd, Nat.reduceOr, Nat.reducePow, Nat.reduceEqDiff, decide_true, decide_false, hol]
  refine c25_cyc (h0 := h) (n2 := n2) (lo := n) (n := n1 + 1) (bo := nb) (bp := n1) ho (by omega) (by omega) (by omega) (by omega) (by omega) (fun h2 p u8 u11 hp hj g5 hf2 => ?_) n2 _ 0 _ _ (List.replicate n2 0) (by omega) (by omega) (by simp) (by omega) ?_ ?_ ?_ (by omega)
  · simp (disch := omega) only [O25, U25, SS0, SS1, SS2, SS3, tag_eq, List.nil_append, List.append_nil, List.cons_append, Nat.reduceAdd, Nat.reduceSub, Nat.reduceMul, Nat.reduceAnd, Nat.reduceOr, Nat.reducePow, Nat.reduceEqDiff, decide_true, decide_false]
    have := hk h2 (n1 + 1) n1 p (cyc_of ho (by omega) (by omega) hp hj) g5 (by omega) (by omega) hf2
    rw [hp] at this
    exact this
  · simp (disch := omega) only [hget_ne]; exact g1
  · rw [hget_same, rep_nats]
  · intro c hc; simp (disch := omega) only [hget_ne]; exact hf1 c hc
end
end Go.Absm.D
