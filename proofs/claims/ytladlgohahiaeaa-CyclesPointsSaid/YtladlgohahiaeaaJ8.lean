/- CyclesPoints: the whole run. -/
import Derived.Test.YtladlgohahiaeaaM8
import Derived.Test.YtladlgohahiaeaaJ7
import Derived.Test.YtladlgohahiaeaaW3
set_option linter.unusedSimpArgs false
set_option linter.unusedVariables false
namespace Go.Absm.D
open Go Go.Absm Go.Proofs
set_option maxRecDepth 1000000
set_option linter.unusedSimpArgs false
set_option maxHeartbeats 4000000
/-- the table of the laws about cycles -/
def tA : Nat → Option Entry := hooked 18 (hookOf awakeS) tb0
theorem tA_ok : TableOk Try.prog tA := hooked_ok hook18 tb0_ok
theorem tA_tab : Tab tA := tab_h18 tb0_tab _
theorem awakeA {m n : Nat} {h : Heap} {kq : AVal → Ans} {kx : AVal → Heap → Nat → Nat → Ans} (hm : 1 ≤ m) : exec tA m 18 [] h n kq kx = kq (.bool true) := by
  obtain ⟨m, rfl⟩ : ∃ q, m = q + 1 := ⟨m - 1, by omega⟩
  exact exec_both (S := hookOf awakeS) (fn := c18) rfl rfl
theorem f_neP_self {x y : Int} : fEqD true (.agg [(0, none, .i), (1, none, .i)]) [.agg [.int .i64 x, .int .i64 y], .agg [.int .i64 x, .int .i64 y]] = .pure (.bool false) := by
  rw [f_neP, decide_eq_true rfl, decide_eq_true rfl]; rfl
theorem neB_self {u : Bool} : fEqD true .b [.bool u, .bool u] = .pure (.bool false) := by cases u <;> rfl
section
variable {m n low bx bp : Nat} {ro : Bool} {p : List Nat} {h : Heap} {kE : Nat → KV} {kr k : KV} {F : Nat} {R : Ans}
theorem c7_end {a b : Int} {v0 v1 v3 v5 v6 v7 v8 v9 v10 v11 v12 v13 v14 v15 v16 : AVal} (hm : 700 ≤ m) (c : Cyc p) (hp : hget h bp = some (.cells ro (nats p))) (hpn : bp < n) (hx : hget h bx = some (.cells false [.int .i64 a, .int .i64 b])) (hxn : bx < n) (hne : bx ≠ bp) (hlow : low ≤ bx)
    (hk : ∀ h' a' b' v12, hget h' bp = some (.cells ro (nats p)) → hget h' bx = some (.cells false [.int .i64 a', .int .i64 b']) → k [v0, v1, .ptr bx 0, v3, .slice bp 0 p.length 1, v5, v6, v7, v8, v9, v10, v11, v12, v13, v14, v15, v16] h' n low = R) :
    den (exec tA m) F c7_35 k kE kr [v0, v1, .ptr bx 0, v3, .slice bp 0 p.length 1, v5, v6, v7, v8, v9, v10, v11, v12, v13, v14, v15, v16] h n low = R := by
  have two := c.two
  have eight := c.eight
  obtain ⟨y, j, hj, e1, e2⟩ := remU_of b 60 (by omega)
  simp only [f_conv] at e1
  have e1 := (AVal.int.inj (Eff.pure.inj e1)).2
  have M0 : (1 + j) * (p.length - 1) ≤ 60 * 7 := Nat.mul_le_mul (by omega) (by omega)
  have M : mulI .i64 (.ofNat (1 + j)) (.ofNat (p.length - 1)) = .ofNat ((1 + j) * (p.length - 1)) := mul_nat (by omega)
  generalize hN : (1 + j) * (p.length - 1) = N at M M0
  obtain ⟨y', j', hj', e1', e2'⟩ := remU_of a (N + 1) (by omega)
  simp only [f_conv] at e1'
  have e1' := (AVal.int.inj (Eff.pure.inj e1')).2
  have L := fun (h : Heap) (n : Nat) (kq : AVal → Ans) (kx : AVal → Heap → Nat → Nat → Ans) => lowest2_run tA_tab (m := m) (h := h) (n := n) (kq := kq) (ke := kx) (a := j') (b := 1 + j) (by omega) (by omega) (by omega) (by omega)
  have hmin : minN bx low = low := by rw [minN_eq]; omega
  have e3 : wrapN .u64 (.ofNat (N + 1)) = .ofNat (N + 1) := wrap_u64 (by omega)
  simp (disch := omega) only [O7, U7, SS0, SS1, SS2, SS3, tag_eq, List.nil_append, List.append_nil, List.cons_append, Nat.reduceAdd, Nat.reduceSub, Nat.reduceMul, Nat.reduceAnd, Nat.reduceOr, Nat.reducePow, Nat.reduceEqDiff, decide_true, decide_false, hx, e1, e2, M, e1', e2', e3, L, k_store2, hmin]
  exact hk _ _ _ _ (by rw [hget_set_ne hne]; exact hp) (hget_set_same hx)
theorem c7_round {a b : Int} {v0 v1 v5 v6 v7 v8 v9 v10 v11 v12 v13 v14 v15 v16 : AVal} (hm : 700 ≤ m) (c : Cyc p) (hp : hget h bp = some (.cells ro (nats p))) (hpn : bp < n) (hx : hget h bx = some (.cells false [.int .i64 a, .int .i64 b])) (hxn : bx < n) (hne : bx ≠ bp) (hlow : low ≤ bx)
    (hk : ∀ h' n' a' b' v6 v7 v8 v9 v10 v11 v12 v14 v15 v16, hget h' bp = some (.cells ro (nats p)) → hget h' bx = some (.cells false [.int .i64 a', .int .i64 b']) → n ≤ n' → k [v0, v1, .ptr bx 0, .bool false, .slice bp 0 p.length 1, v5, v6, v7, v8, v9, v10, v11, v12, v13, v14, v15, v16] h' n' low = R) :
    den (exec tA m) F c7_15 k kE kr [v0, v1, .ptr bx 0, .bool false, .slice bp 0 p.length 1, v5, v6, v7, v8, v9, v10, v11, v12, v13, v14, v15, v16] h n low = R := by
  have two := c.two
  have eight := c.eight
  have hxP : ∀ o, hget ((n, o) :: h) bx = some (.cells false [.int .i64 a, .int .i64 b]) := fun o => by rw [hget_ne (by omega)]; exact hx
  have hpP : ∀ o, hget ((n, o) :: h) bp = some (.cells ro (nats p)) := fun o => by rw [hget_ne (by omega)]; exact hp
  cases e : ptB p a b with
  | false =>
    have V := fun (kq : AVal → Ans) (kx : AVal → Heap → Nat → Nat → Ans) => Value_bad tA_tab (b0 := bp) (m := m) (h := h) (n := n) (kq := kq) (ke := kx) (by omega) c hp hpn e
    have Q := fun (o : AObj) (kq : AVal → Ans) (kx : AVal → Heap → Nat → Nat → Ans) => Period_bad tA_tab (b0 := bp) (m := m) (h := (n, o) :: h) (n := n + 1) (kq := kq) (ke := kx) (by omega) c (hpP o) (by omega) e
    have P := fun (o : AObj) (kq : AVal → Ans) (kx : AVal → Heap → Nat → Nat → Ans) => rpoint_run tA_tab (b0 := bp) (m := m) (h := (n, o) :: h) (n := n + 1) (a := a) (b := b) (kq := kq) (ke := kx) (by omega) c
    rw [e] at P
    have hmin : minN n low = low := by rw [minN_eq]; omega
    simp (disch := omega) only [o7_1, den_unf c7_1.eq_1, o7_3, den_unf c7_3.eq_1, o7_6, den_unf c7_6.eq_1, o7_11, den_unf c7_11.eq_1, den_unf c7_12.eq_1, den_unf c7_10.eq_1, o7_16, den_unf c7_16.eq_1, o7_18, den_unf c7_18.eq_1, o7_21, den_unf c7_21.eq_1, o7_24, den_unf c7_24.eq_1, o7_27, den_unf c7_27.eq_1, den_unf c7_26.eq_1, den_unf c7_25.eq_1, den_unf c7_23.eq_1, o7_29, den_unf c7_29.eq_1, o7_31, den_unf c7_31.eq_1, o7_34, den_unf c7_34.eq_1, den_unf c7_33.eq_1, den_unf c7_32.eq_1, den_unf c7_30.eq_1, den_unf c7_28.eq_1, den_unf c7_22.eq_1, den_unf c7_20.eq_1, o7_36, den_unf c7_36.eq_1, o7_37, den_unf c7_37.eq_1, den_unf c7_19.eq_1, den_unf c7_17.eq_1, den_unf c7_15.eq_1, den_unf c7_14.eq_1, o7_38, den_unf c7_38.eq_1, den_unf c7_13.eq_1, den_unf c7_9.eq_1, den_unf c7_8.eq_1, den_unf c7_7.eq_1, den_unf c7_5.eq_1, o7_40, den_unf c7_40.eq_1, den_unf c7_39.eq_1, den_unf c7_4.eq_1, den_unf c7_2.eq_1, den_unf c7_0.eq_1, SS0, SS1, SS2, SS3, tag_eq, List.nil_append, List.append_nil, List.cons_append, Nat.reduceAdd, Nat.reduceSub, Nat.reduceMul, Nat.reduceAnd, Nat.reduceOr, Nat.reducePow, Nat.reduceEqDiff, decide_true, decide_false, hx, V, Q, P, k_loadN2, f_loadN, k_store2, hmin, prZ, f_neP_self]
    refine c7_end hm c (hpP _) (by omega) (hxP _) (by omega) hne hlow (fun h' a' b' v12 g1 g2 => ?_)
    exact hk _ _ _ _ _ _ _ _ _ _ _ _ _ _ g1 g2 (by omega)
  | true =>
    obtain ⟨x, y, rfl, rfl, pt⟩ := ptB_pt e
    have V := fun (kq : AVal → Ans) (kx : AVal → Heap → Nat → Nat → Ans) => Value_run tA_tab (b0 := bp) (m := m) (h := h) (n := n) (kq := kq) (ke := kx) (by omega) c hp hpn e
    have Q := fun (o : AObj) (kq : AVal → Ans) (kx : AVal → Heap → Nat → Nat → Ans) => Period_run tA_tab (b0 := bp) (m := m) (h := (n, o) :: h) (n := n + 1) (kq := kq) (ke := kx) (by omega) c (hpP o) (by omega) e
    have P := fun (o : AObj) (kq : AVal → Ans) (kx : AVal → Heap → Nat → Nat → Ans) => rpoint_run tA_tab (b0 := bp) (m := m) (h := (n, o) :: h) (n := n + 1) (a := .ofNat x) (b := .ofNat y) (kq := kq) (ke := kx) (by omega) c
    have W := fun (o : AObj) (kq : AVal → Ans) (kx : AVal → Heap → Nat → Nat → Ans) => rvalue_run tA_tab (b0 := bp) (m := m) (h := (n, o) :: h) (n := n + 1) (kq := kq) (ke := kx) (by omega) c (hpP o) (by omega) pt
    have U := fun (o : AObj) (kq : AVal → Ans) (kx : AVal → Heap → Nat → Nat → Ans) => rperiod_run tA_tab (b0 := bp) (m := m) (h := (n, o) :: h) (n := n + 1) (kq := kq) (ke := kx) (by omega) c (hpP o) (by omega) pt
    rw [e] at P
    have hmin : minN n low = low := by rw [minN_eq]; omega
    simp only [perT] at Q
    by_cases h0 : 0 < perA p (x, y)
    · simp (disch := omega) only [o7_1, den_unf c7_1.eq_1, o7_3, den_unf c7_3.eq_1, o7_6, den_unf c7_6.eq_1, o7_11, den_unf c7_11.eq_1, den_unf c7_12.eq_1, den_unf c7_10.eq_1, o7_16, den_unf c7_16.eq_1, o7_18, den_unf c7_18.eq_1, o7_21, den_unf c7_21.eq_1, o7_24, den_unf c7_24.eq_1, o7_27, den_unf c7_27.eq_1, den_unf c7_26.eq_1, den_unf c7_25.eq_1, den_unf c7_23.eq_1, o7_29, den_unf c7_29.eq_1, o7_31, den_unf c7_31.eq_1, o7_34, den_unf c7_34.eq_1, den_unf c7_33.eq_1, den_unf c7_32.eq_1, den_unf c7_30.eq_1, den_unf c7_28.eq_1, den_unf c7_22.eq_1, den_unf c7_20.eq_1, o7_36, den_unf c7_36.eq_1, o7_37, den_unf c7_37.eq_1, den_unf c7_19.eq_1, den_unf c7_17.eq_1, den_unf c7_15.eq_1, den_unf c7_14.eq_1, o7_38, den_unf c7_38.eq_1, den_unf c7_13.eq_1, den_unf c7_9.eq_1, den_unf c7_8.eq_1, den_unf c7_7.eq_1, den_unf c7_5.eq_1, o7_40, den_unf c7_40.eq_1, den_unf c7_39.eq_1, den_unf c7_4.eq_1, den_unf c7_2.eq_1, den_unf c7_0.eq_1, SS0, SS1, SS2, SS3, tag_eq, List.nil_append, List.append_nil, List.cons_append, Nat.reduceAdd, Nat.reduceSub, Nat.reduceMul, Nat.reduceAnd, Nat.reduceOr, Nat.reducePow, Nat.reduceEqDiff, decide_true, decide_false, hx, V, Q, P, W, U, k_loadN2, f_loadN, k_store2, hmin, prZ, f_neP_self, neB_self]
      refine c7_end hm c (hpP _) (by omega) (hxP _) (by omega) hne hlow (fun h' a' b' v12 g1 g2 => ?_)
      exact hk _ _ _ _ _ _ _ _ _ _ _ _ _ _ g1 g2 (by omega)
    · simp (disch := omega) only [o7_1, den_unf c7_1.eq_1, o7_3, den_unf c7_3.eq_1, o7_6, den_unf c7_6.eq_1, o7_11, den_unf c7_11.eq_1, den_unf c7_12.eq_1, den_unf c7_10.eq_1, o7_16, den_unf c7_16.eq_1, o7_18, den_unf c7_18.eq_1, o7_21, den_unf c7_21.eq_1, o7_24, den_unf c7_24.eq_1, o7_27, den_unf c7_27.eq_1, den_unf c7_26.eq_1, den_unf c7_25.eq_1, den_unf c7_23.eq_1, o7_29, den_unf c7_29.eq_1, o7_31, den_unf c7_31.eq_1, o7_34, den_unf c7_34.eq_1, den_unf c7_33.eq_1, den_unf c7_32.eq_1, den_unf c7_30.eq_1, den_unf c7_28.eq_1, den_unf c7_22.eq_1, den_unf c7_20.eq_1, o7_36, den_unf c7_36.eq_1, o7_37, den_unf c7_37.eq_1, den_unf c7_19.eq_1, den_unf c7_17.eq_1, den_unf c7_15.eq_1, den_unf c7_14.eq_1, o7_38, den_unf c7_38.eq_1, den_unf c7_13.eq_1, den_unf c7_9.eq_1, den_unf c7_8.eq_1, den_unf c7_7.eq_1, den_unf c7_5.eq_1, o7_40, den_unf c7_40.eq_1, den_unf c7_39.eq_1, den_unf c7_4.eq_1, den_unf c7_2.eq_1, den_unf c7_0.eq_1, SS0, SS1, SS2, SS3, tag_eq, List.nil_append, List.append_nil, List.cons_append, Nat.reduceAdd, Nat.reduceSub, Nat.reduceMul, Nat.reduceAnd, Nat.reduceOr, Nat.reducePow, Nat.reduceEqDiff, decide_true, decide_false, hx, V, Q, P, W, U, k_loadN2, f_loadN, k_store2, hmin, prZ, f_neP_self, neB_self]
      refine c7_end hm c (hpP _) (by omega) (hxP _) (by omega) hne hlow (fun h' a' b' v12 g1 g2 => ?_)
      exact hk _ _ _ _ _ _ _ _ _ _ _ _ _ _ g1 g2 (by omega)
end
theorem run7 {l : List Int} {v : AVal} {h : Heap} {n : Nat} (a b : Int) (hl : SlI h n v l) (hB : l.length ≤ 9223372036854775807) : exec tA 7001 7 [v, .agg [.int .i64 a, .int .i64 b]] h n kq0 ke0 = some (.bool true, [], 0) := by
  rw [exec_code tA_tab.h7, c7, callCode_eq (by simp)]
  have A := fun (h : Heap) (n : Nat) (kq : AVal → Ans) (kx : AVal → Heap → Nat → Nat → Ans) => awakeA (m := 7000) (h := h) (n := n) (kq := kq) (kx := kx) (by omega)
  have hl' : SlI ((n, .cells false [.int .i64 a, .int .i64 b]) :: h) (n + 1) v l := by
    rcases hl with ⟨e1, e2⟩ | ⟨b, ro, e1, e2, e3⟩
    · exact .inl ⟨e1, e2⟩
    · exact .inr ⟨b, ro, e1, fun h0 => by rw [hget_ne (by omega)]; exact e2 h0, by omega⟩
  simp (disch := omega) only [o7_1, den_unf c7_1.eq_1, o7_3, den_unf c7_3.eq_1, o7_6, den_unf c7_6.eq_1, o7_11, den_unf c7_11.eq_1, den_unf c7_12.eq_1, den_unf c7_10.eq_1, o7_16, den_unf c7_16.eq_1, o7_18, den_unf c7_18.eq_1, o7_21, den_unf c7_21.eq_1, o7_24, den_unf c7_24.eq_1, o7_27, den_unf c7_27.eq_1, den_unf c7_26.eq_1, den_unf c7_25.eq_1, den_unf c7_23.eq_1, o7_29, den_unf c7_29.eq_1, o7_31, den_unf c7_31.eq_1, o7_34, den_unf c7_34.eq_1, den_unf c7_33.eq_1, den_unf c7_32.eq_1, den_unf c7_30.eq_1, den_unf c7_28.eq_1, den_unf c7_22.eq_1, den_unf c7_20.eq_1, o7_36, den_unf c7_36.eq_1, o7_37, den_unf c7_37.eq_1, den_unf c7_35.eq_1, den_unf c7_19.eq_1, den_unf c7_17.eq_1, den_unf c7_14.eq_1, o7_38, den_unf c7_38.eq_1, den_unf c7_13.eq_1, den_unf c7_9.eq_1, den_unf c7_8.eq_1, den_unf c7_7.eq_1, den_unf c7_5.eq_1, o7_40, den_unf c7_40.eq_1, den_unf c7_39.eq_1, den_unf c7_4.eq_1, den_unf c7_2.eq_1, den_unf c7_0.eq_1, SS0, SS1, SS2, SS3, tag_eq, List.nil_append, List.append_nil, List.cons_append, Nat.reduceAdd, Nat.reduceSub, Nat.reduceMul, Nat.reduceAnd, Nat.reduceOr, Nat.reducePow, Nat.reduceEqDiff, decide_true, decide_false, agg_cells]
  refine tame_run tA_tab (lo := 0) (by omega) hl' hB (fun h1 n1 bp p c g1 g2 g3 g4 => ?_)
  have hm1 : minN (n + 1) n = n := by rw [minN_eq]; omega
  have hx := g4 n (by omega)
  rw [hget_same] at hx
  simp (disch := omega) only [o7_1, den_unf c7_1.eq_1, o7_3, den_unf c7_3.eq_1, o7_6, den_unf c7_6.eq_1, o7_11, den_unf c7_11.eq_1, den_unf c7_12.eq_1, den_unf c7_10.eq_1, o7_16, den_unf c7_16.eq_1, o7_18, den_unf c7_18.eq_1, o7_21, den_unf c7_21.eq_1, o7_24, den_unf c7_24.eq_1, o7_27, den_unf c7_27.eq_1, den_unf c7_26.eq_1, den_unf c7_25.eq_1, den_unf c7_23.eq_1, o7_29, den_unf c7_29.eq_1, o7_31, den_unf c7_31.eq_1, o7_34, den_unf c7_34.eq_1, den_unf c7_33.eq_1, den_unf c7_32.eq_1, den_unf c7_30.eq_1, den_unf c7_28.eq_1, den_unf c7_22.eq_1, den_unf c7_20.eq_1, o7_36, den_unf c7_36.eq_1, o7_37, den_unf c7_37.eq_1, den_unf c7_35.eq_1, den_unf c7_19.eq_1, den_unf c7_17.eq_1, den_unf c7_14.eq_1, o7_38, den_unf c7_38.eq_1, den_unf c7_13.eq_1, den_unf c7_9.eq_1, den_unf c7_8.eq_1, den_unf c7_7.eq_1, den_unf c7_5.eq_1, o7_40, den_unf c7_40.eq_1, den_unf c7_39.eq_1, den_unf c7_4.eq_1, den_unf c7_2.eq_1, den_unf c7_0.eq_1, SS0, SS1, SS2, SS3, tag_eq, List.nil_append, List.append_nil, List.cons_append, Nat.reduceAdd, Nat.reduceSub, Nat.reduceMul, Nat.reduceAnd, Nat.reduceOr, Nat.reducePow, Nat.reduceEqDiff, decide_true, decide_false, hm1]
  rw [show (7000 : Nat) = 6997 + 1 + 1 + 1 from rfl, loopN_succ]
  simp (disch := omega) only [o7_1, den_unf c7_1.eq_1, o7_3, den_unf c7_3.eq_1, o7_6, den_unf c7_6.eq_1, o7_11, den_unf c7_11.eq_1, den_unf c7_12.eq_1, den_unf c7_10.eq_1, o7_16, den_unf c7_16.eq_1, o7_18, den_unf c7_18.eq_1, o7_21, den_unf c7_21.eq_1, o7_24, den_unf c7_24.eq_1, o7_27, den_unf c7_27.eq_1, den_unf c7_26.eq_1, den_unf c7_25.eq_1, den_unf c7_23.eq_1, o7_29, den_unf c7_29.eq_1, o7_31, den_unf c7_31.eq_1, o7_34, den_unf c7_34.eq_1, den_unf c7_33.eq_1, den_unf c7_32.eq_1, den_unf c7_30.eq_1, den_unf c7_28.eq_1, den_unf c7_22.eq_1, den_unf c7_20.eq_1, o7_36, den_unf c7_36.eq_1, o7_37, den_unf c7_37.eq_1, den_unf c7_35.eq_1, den_unf c7_19.eq_1, den_unf c7_17.eq_1, den_unf c7_14.eq_1, o7_38, den_unf c7_38.eq_1, den_unf c7_13.eq_1, den_unf c7_9.eq_1, den_unf c7_8.eq_1, den_unf c7_7.eq_1, den_unf c7_5.eq_1, o7_40, den_unf c7_40.eq_1, den_unf c7_39.eq_1, den_unf c7_4.eq_1, den_unf c7_2.eq_1, den_unf c7_0.eq_1, SS0, SS1, SS2, SS3, tag_eq, List.nil_append, List.append_nil, List.cons_append, Nat.reduceAdd, Nat.reduceSub, Nat.reduceMul, Nat.reduceAnd, Nat.reduceOr, Nat.reducePow, Nat.reduceEqDiff, decide_true, decide_false]
  refine c7_round (by omega) c g1 g3 hx (by omega) (by omega) (by omega) (fun h2 n2 a' b' v6 v7 v8 v9 v10 v11 v12 v14 v15 v16 q1 q2 q3 => ?_)
  simp (disch := omega) only [o7_1, den_unf c7_1.eq_1, o7_3, den_unf c7_3.eq_1, o7_6, den_unf c7_6.eq_1, o7_11, den_unf c7_11.eq_1, den_unf c7_12.eq_1, den_unf c7_10.eq_1, o7_16, den_unf c7_16.eq_1, o7_18, den_unf c7_18.eq_1, o7_21, den_unf c7_21.eq_1, o7_24, den_unf c7_24.eq_1, o7_27, den_unf c7_27.eq_1, den_unf c7_26.eq_1, den_unf c7_25.eq_1, den_unf c7_23.eq_1, o7_29, den_unf c7_29.eq_1, o7_31, den_unf c7_31.eq_1, o7_34, den_unf c7_34.eq_1, den_unf c7_33.eq_1, den_unf c7_32.eq_1, den_unf c7_30.eq_1, den_unf c7_28.eq_1, den_unf c7_22.eq_1, den_unf c7_20.eq_1, o7_36, den_unf c7_36.eq_1, o7_37, den_unf c7_37.eq_1, den_unf c7_35.eq_1, den_unf c7_19.eq_1, den_unf c7_17.eq_1, den_unf c7_14.eq_1, o7_38, den_unf c7_38.eq_1, den_unf c7_13.eq_1, den_unf c7_9.eq_1, den_unf c7_8.eq_1, den_unf c7_7.eq_1, den_unf c7_5.eq_1, o7_40, den_unf c7_40.eq_1, den_unf c7_39.eq_1, den_unf c7_4.eq_1, den_unf c7_2.eq_1, den_unf c7_0.eq_1, SS0, SS1, SS2, SS3, tag_eq, List.nil_append, List.append_nil, List.cons_append, Nat.reduceAdd, Nat.reduceSub, Nat.reduceMul, Nat.reduceAnd, Nat.reduceOr, Nat.reducePow, Nat.reduceEqDiff, decide_true, decide_false]
  rw [loopN_succ]
  simp (disch := omega) only [o7_1, den_unf c7_1.eq_1, o7_3, den_unf c7_3.eq_1, o7_6, den_unf c7_6.eq_1, o7_11, den_unf c7_11.eq_1, den_unf c7_12.eq_1, den_unf c7_10.eq_1, o7_16, den_unf c7_16.eq_1, o7_18, den_unf c7_18.eq_1, o7_21, den_unf c7_21.eq_1, o7_24, den_unf c7_24.eq_1, o7_27, den_unf c7_27.eq_1, den_unf c7_26.eq_1, den_unf c7_25.eq_1, den_unf c7_23.eq_1, o7_29, den_unf c7_29.eq_1, o7_31, den_unf c7_31.eq_1, o7_34, den_unf c7_34.eq_1, den_unf c7_33.eq_1, den_unf c7_32.eq_1, den_unf c7_30.eq_1, den_unf c7_28.eq_1, den_unf c7_22.eq_1, den_unf c7_20.eq_1, o7_36, den_unf c7_36.eq_1, o7_37, den_unf c7_37.eq_1, den_unf c7_35.eq_1, den_unf c7_19.eq_1, den_unf c7_17.eq_1, den_unf c7_14.eq_1, o7_38, den_unf c7_38.eq_1, den_unf c7_13.eq_1, den_unf c7_9.eq_1, den_unf c7_8.eq_1, den_unf c7_7.eq_1, den_unf c7_5.eq_1, o7_40, den_unf c7_40.eq_1, den_unf c7_39.eq_1, den_unf c7_4.eq_1, den_unf c7_2.eq_1, den_unf c7_0.eq_1, SS0, SS1, SS2, SS3, tag_eq, List.nil_append, List.append_nil, List.cons_append, Nat.reduceAdd, Nat.reduceSub, Nat.reduceMul, Nat.reduceAnd, Nat.reduceOr, Nat.reducePow, Nat.reduceEqDiff, decide_true, decide_false]
  refine c7_round (by omega) c q1 (by omega) q2 (by omega) (by omega) (by omega) (fun h3 n3 a' b' v6 v7 v8 v9 v10 v11 v12 v14 v15 v16 w1 w2 w3 => ?_)
  simp (disch := omega) only [o7_1, den_unf c7_1.eq_1, o7_3, den_unf c7_3.eq_1, o7_6, den_unf c7_6.eq_1, o7_11, den_unf c7_11.eq_1, den_unf c7_12.eq_1, den_unf c7_10.eq_1, o7_16, den_unf c7_16.eq_1, o7_18, den_unf c7_18.eq_1, o7_21, den_unf c7_21.eq_1, o7_24, den_unf c7_24.eq_1, o7_27, den_unf c7_27.eq_1, den_unf c7_26.eq_1, den_unf c7_25.eq_1, den_unf c7_23.eq_1, o7_29, den_unf c7_29.eq_1, o7_31, den_unf c7_31.eq_1, o7_34, den_unf c7_34.eq_1, den_unf c7_33.eq_1, den_unf c7_32.eq_1, den_unf c7_30.eq_1, den_unf c7_28.eq_1, den_unf c7_22.eq_1, den_unf c7_20.eq_1, o7_36, den_unf c7_36.eq_1, o7_37, den_unf c7_37.eq_1, den_unf c7_35.eq_1, den_unf c7_19.eq_1, den_unf c7_17.eq_1, den_unf c7_14.eq_1, o7_38, den_unf c7_38.eq_1, den_unf c7_13.eq_1, den_unf c7_9.eq_1, den_unf c7_8.eq_1, den_unf c7_7.eq_1, den_unf c7_5.eq_1, o7_40, den_unf c7_40.eq_1, den_unf c7_39.eq_1, den_unf c7_4.eq_1, den_unf c7_2.eq_1, den_unf c7_0.eq_1, SS0, SS1, SS2, SS3, tag_eq, List.nil_append, List.append_nil, List.cons_append, Nat.reduceAdd, Nat.reduceSub, Nat.reduceMul, Nat.reduceAnd, Nat.reduceOr, Nat.reducePow, Nat.reduceEqDiff, decide_true, decide_false]
  rw [loopN_succ]
  simp (disch := omega) only [o7_1, den_unf c7_1.eq_1, o7_3, den_unf c7_3.eq_1, o7_6, den_unf c7_6.eq_1, o7_11, den_unf c7_11.eq_1, den_unf c7_12.eq_1, den_unf c7_10.eq_1, o7_16, den_unf c7_16.eq_1, o7_18, den_unf c7_18.eq_1, o7_21, den_unf c7_21.eq_1, o7_24, den_unf c7_24.eq_1, o7_27, den_unf c7_27.eq_1, den_unf c7_26.eq_1, den_unf c7_25.eq_1, den_unf c7_23.eq_1, o7_29, den_unf c7_29.eq_1, o7_31, den_unf c7_31.eq_1, o7_34, den_unf c7_34.eq_1, den_unf c7_33.eq_1, den_unf c7_32.eq_1, den_unf c7_30.eq_1, den_unf c7_28.eq_1, den_unf c7_22.eq_1, den_unf c7_20.eq_1, o7_36, den_unf c7_36.eq_1, o7_37, den_unf c7_37.eq_1, den_unf c7_35.eq_1, den_unf c7_19.eq_1, den_unf c7_17.eq_1, den_unf c7_14.eq_1, o7_38, den_unf c7_38.eq_1, den_unf c7_13.eq_1, den_unf c7_9.eq_1, den_unf c7_8.eq_1, den_unf c7_7.eq_1, den_unf c7_5.eq_1, o7_40, den_unf c7_40.eq_1, den_unf c7_39.eq_1, den_unf c7_4.eq_1, den_unf c7_2.eq_1, den_unf c7_0.eq_1, SS0, SS1, SS2, SS3, tag_eq, List.nil_append, List.append_nil, List.cons_append, Nat.reduceAdd, Nat.reduceSub, Nat.reduceMul, Nat.reduceAnd, Nat.reduceOr, Nat.reducePow, Nat.reduceEqDiff, decide_true, decide_false, A, kq0]
end Go.Absm.D
