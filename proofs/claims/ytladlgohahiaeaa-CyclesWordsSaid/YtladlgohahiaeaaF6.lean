/- The reference's list of all greatest words. -/
import Derived.Test.YtladlgohahiaeaaM8
import Derived.Test.YtladlgohahiaeaaF5
set_option linter.unusedSimpArgs false
set_option linter.unusedVariables false
namespace Go.Absm.D
open Go Go.Absm
set_option maxRecDepth 100000
set_option linter.unusedSimpArgs false
set_option maxHeartbeats 2000000
def two (u : List Nat) : List (List Nat) := [u ++ [76], u ++ [82]]
/-- all words of r more letters behind w -/
def ext : Nat → List Nat → List (List Nat)
  | 0, w => [w]
  | r + 1, w => ext r (w ++ [76]) ++ ext r (w ++ [82])
theorem ext_step : ∀ (r : Nat) (w : List Nat), ext (r + 1) w = (ext r w).flatMap two
  | 0, w => by simp [ext, two]
  | r + 1, w => by
    rw [ext, ext_step r, ext_step r, ← List.flatMap_append]; rfl
theorem ext_filter : ∀ (r : Nat) (w : List Nat), allW r w = (ext r w).filter grA
  | 0, w => by simp only [allW, ext, List.filter_cons]; split <;> simp
  | r + 1, w => by rw [allW, ext, List.filter_append, ext_filter r, ext_filter r]
theorem ext_len : ∀ (r : Nat) (w : List Nat), (ext r w).length = 2 ^ r
  | 0, w => by simp [ext]
  | r + 1, w => by simp only [ext, List.length_append, ext_len r, Nat.pow_succ]; omega
theorem ext_LR : ∀ (r : Nat) (w : List Nat), LR w → ∀ u ∈ ext r w, LR u ∧ u.length = w.length + r
  | 0, w, hw, u, hu => by simp [ext] at hu; subst hu; exact ⟨hw, rfl⟩
  | r + 1, w, hw, u, hu => by
    rw [ext] at hu
    rcases List.mem_append.1 hu with h | h
    · have := ext_LR r _ (hw.snoc (.inl rfl)) u h; simp at this; exact ⟨this.1, by omega⟩
    · have := ext_LR r _ (hw.snoc (.inr rfl)) u h; simp at this; exact ⟨this.1, by omega⟩
theorem take_two {l : List (List Nat)} {k : Nat} (h : k < l.length) : (l.take (k + 1)).flatMap two = (l.take k).flatMap two ++ two (l.getD k []) := by
  rw [List.take_add_one, List.getElem?_eq_getElem h, List.flatMap_append, List.getD_eq_getElem?_getD, List.getElem?_eq_getElem h]
  simp
theorem take_filter {l : List (List Nat)} {k : Nat} (h : k < l.length) : (l.take (k + 1)).filter grA = (l.take k).filter grA ++ (if grA (l.getD k []) then [l.getD k []] else []) := by
  rw [List.take_add_one, List.getElem?_eq_getElem h, List.filter_append, List.getD_eq_getElem?_getD, List.getElem?_eq_getElem h]
  simp [List.filter_cons]
theorem two_len {l : List (List Nat)} : (l.flatMap two).length = 2 * l.length := by
  induction l with
  | nil => rfl
  | cons a l ih => rw [List.flatMap_cons, List.length_append, ih]; simp [two]; omega
/-- a list of words, nil where it is empty -/
def Rep (h : Heap) (lo n : Nat) (v : AVal) (ws : List (List Nat)) : Prop :=
  (ws = [] ∧ v = .nilslice) ∨ ∃ b, v = .slice b 0 ws.length 1 ∧ hget h b = some (.cells false (strs ws)) ∧ lo ≤ b ∧ b < n
section
variable {t : Nat → Option Entry} (T : Tab t)
theorem c16_in {m F L i b lo : Nat} {l : List (List Nat)} {kE : Nat → KV} {kr : KV} {R : Ans} {h0 : Heap} (hl : l.length ≤ 2048) (hw : ∀ u ∈ l, u.length ≤ 11)
    (hk : ∀ h n v4 v9, Rep h lo n v4 (l.flatMap two) → lo ≤ n → (∀ c, c < lo → hget h c = hget h0 c) → kE 2 [.int .i64 (.ofNat L), .nilslice, .slice b 0 l.length 1, .int .i64 (.ofNat i), v4, .int .i64 (.ofNat l.length), .undef, .undef, .bool true, v9, .undef, .undef] h n lo = R) :
    ∀ (d q k n : Nat) (h : Heap) (v4 u9 : AVal), l.length - k = d → k ≤ l.length → d < q → hget h b = some (.cells false (strs l)) → b < n → lo ≤ n → Rep h lo n v4 ((l.take k).flatMap two) → (∀ b', v4 = .slice b' 0 ((l.take k).flatMap two).length 1 → b' ≠ b) → (∀ c, c < lo → hget h c = hget h0 c) →
    loopN (fun k => den (exec t m) F c16_22 k kE kr) q [.int .i64 (.ofNat L), .nilslice, .slice b 0 l.length 1, .int .i64 (.ofNat i), v4, .int .i64 (.ofNat k), .undef, .undef, .bool true, u9, .undef, .undef] h n lo = R := by
  intro d
  induction d with
  | zero =>
    intro q k n h v4 u9 hd hi hq hb hbn hn hrep hne hf
    obtain ⟨q, rfl⟩ : ∃ x, q = x + 1 := ⟨q - 1, by omega⟩
    rw [loopN_succ]
    obtain rfl : k = l.length := by omega
    rw [List.take_length] at hrep
    simp (disch := omega) only [O16, U16, SS0, SS1, SS2, SS3, tag_eq, List.nil_append, List.append_nil, List.cons_append, Nat.reduceAdd, Nat.reduceSub, Nat.reduceMul, Nat.reduceAnd, Nat.reduceOr, Nat.reducePow, Nat.reduceEqDiff, decide_true, decide_false]
    exact hk h n v4 _ hrep hn hf
  | succ d ih =>
    intro q k n h v4 u9 hd hi hq hb hbn hn hrep hne hf
    obtain ⟨q, rfl⟩ : ∃ x, q = x + 1 := ⟨q - 1, by omega⟩
    rw [loopN_succ]
    have hkl : k < l.length := by omega
    have hlen : (l.getD k []).length ≤ 11 := by
      rw [List.getD_eq_getElem?_getD, List.getElem?_eq_getElem hkl]; exact hw _ (List.getElem_mem hkl)
    have l1 : (l.getD k []).length + [76].length ≤ 9223372036854775807 := by show (l.getD k []).length + 1 ≤ _; omega
    have l2 : (l.getD k []).length + [82].length ≤ 9223372036854775807 := by show (l.getD k []).length + 1 ≤ _; omega
    have ht := take_two hkl
    rcases hrep with ⟨e1, rfl⟩ | ⟨nb, rfl, g1, g2, g3⟩
    · simp (disch := omega) only [O16, U16, SS0, SS1, SS2, SS3, tag_eq, List.nil_append, List.append_nil, List.cons_append, Nat.reduceAdd, Nat.reduceSub, Nat.reduceMul, Nat.reduceAnd, Nat.reduceOr, Nat.reducePow, Nat.reduceEqDiff, decide_true, decide_false, hb, b_addS l1, b_addS l2]
      rw [app_nil (by omega) (new := [.str (l.getD k [] ++ [76]), .str (l.getD k [] ++ [82])]) (by rw [src_eq hget_same]; rfl) rfl]
      simp (disch := omega) only [O16, U16, SS0, SS1, SS2, SS3, tag_eq, List.nil_append, List.append_nil, List.cons_append, Nat.reduceAdd, Nat.reduceSub, Nat.reduceMul, Nat.reduceAnd, Nat.reduceOr, Nat.reducePow, Nat.reduceEqDiff, decide_true, decide_false]
      refine ih q (k + 1) (n + 1 + 1) _ _ _ (by omega) (by omega) (by omega) ?_ (by omega) (by omega) (.inr ⟨n + 1, ?_, ?_, by omega, by omega⟩) ?_ ?_
      · rw [hget_ne (by omega), hget_ne (by omega)]; exact hb
      · rw [ht, e1]; rfl
      · rw [hget_same, ht, e1]; rfl
      · intro b' e; have e := (AVal.slice.inj e).1; omega
      · intro c hc; rw [hget_ne (by omega), hget_ne (by omega), hf c hc]
    · have hnb : nb ≠ b := hne nb rfl
      have hlw : ((l.take k).flatMap two).length = 2 * k := by rw [two_len]; simp; omega
      simp (disch := omega) only [O16, U16, SS0, SS1, SS2, SS3, tag_eq, List.nil_append, List.append_nil, List.cons_append, Nat.reduceAdd, Nat.reduceSub, Nat.reduceMul, Nat.reduceAnd, Nat.reduceOr, Nat.reducePow, Nat.reduceEqDiff, decide_true, decide_false, hb, b_addS l1, b_addS l2]
      rw [app_some (by omega) (new := [.str (l.getD k [] ++ [76]), .str (l.getD k [] ++ [82])]) (by rw [src_eq hget_same]; rfl) rfl (by rw [hget_ne (by omega)]; exact g1) (old := strs ((l.take k).flatMap two)) (by rw [dropN_zero, Nat.mul_one, takeN_strs (Nat.le_refl _), List.take_length])]
      have hmin : minN nb lo = lo := by rw [minN_eq]; omega
      simp (disch := omega) only [O16, U16, SS0, SS1, SS2, SS3, tag_eq, List.nil_append, List.append_nil, List.cons_append, Nat.reduceAdd, Nat.reduceSub, Nat.reduceMul, Nat.reduceAnd, Nat.reduceOr, Nat.reducePow, Nat.reduceEqDiff, decide_true, decide_false, hmin]
      refine ih q (k + 1) (n + 1 + 1) _ _ _ (by omega) (by omega) (by omega) ?_ (by omega) (by omega) (.inr ⟨n + 1, ?_, ?_, by omega, by omega⟩) ?_ ?_
      · rw [hget_ne (by omega), hget_ne (by omega), hget_del_ne hnb]; exact hb
      · rw [ht, List.length_append]; rfl
      · rw [hget_same, ht]; simp [strs, two]
      · intro b' e; have e := (AVal.slice.inj e).1; omega
      · intro c hc; rw [hget_ne (by omega), hget_ne (by omega), hget_del_ne (by omega), hf c hc]
theorem ext_ne {r : Nat} : ext r [] ≠ [] := fun h => by
  have e := ext_len r []
  rw [h] at e
  have hp : 0 < 2 ^ r := Nat.two_pow_pos r
  simp at e
  omega
theorem c16_out {m F L lo : Nat} {kE : Nat → KV} {kr : KV} {R : Ans} {h0 : Heap} (hL : L ≤ 11) (hF : 2200 ≤ F)
    (hk : ∀ h n b v4 v5 v8 v9, hget h b = some (.cells false (strs (ext L []))) → lo ≤ b → b < n → lo ≤ n → (∀ c, c < lo → hget h c = hget h0 c) →
      kE 0 [.int .i64 (.ofNat L), .nilslice, .slice b 0 (ext L []).length 1, .int .i64 (.ofNat L), v4, v5, .undef, .undef, v8, v9, .undef, .undef] h n lo = R) :
    ∀ (d q i n b : Nat) (h : Heap) (v4 v5 v8 v9 : AVal), L - i = d → i ≤ L → d < q → hget h b = some (.cells false (strs (ext i []))) → lo ≤ b → b < n → (∀ c, c < lo → hget h c = hget h0 c) →
    loopN (fun k => den (exec t m) F c16_9 k kE kr) q [.int .i64 (.ofNat L), .nilslice, .slice b 0 (ext i []).length 1, .int .i64 (.ofNat i), v4, v5, .undef, .undef, v8, v9, .undef, .undef] h n lo = R := by
  intro d
  induction d with
  | zero =>
    intro q i n b h v4 v5 v8 v9 hd hi hq hb hlo hbn hf
    obtain ⟨q, rfl⟩ : ∃ x, q = x + 1 := ⟨q - 1, by omega⟩
    rw [loopN_succ]
    obtain rfl : i = L := by omega
    simp (disch := omega) only [O16, U16, SS0, SS1, SS2, SS3, tag_eq, List.nil_append, List.append_nil, List.cons_append, Nat.reduceAdd, Nat.reduceSub, Nat.reduceMul, Nat.reduceAnd, Nat.reduceOr, Nat.reducePow, Nat.reduceEqDiff, decide_true, decide_false]
    exact hk _ _ _ _ _ _ _ hb hlo hbn (by omega) hf
  | succ d ih =>
    intro q i n b h v4 v5 v8 v9 hd hi hq hb hlo hbn hf
    obtain ⟨q, rfl⟩ : ∃ x, q = x + 1 := ⟨q - 1, by omega⟩
    rw [loopN_succ]
    have hp : 2 ^ i ≤ 2 ^ 10 := Nat.pow_le_pow_right (by omega) (by omega)
    have hel := ext_len i []
    simp (disch := omega) only [O16, U16, SS0, SS1, SS2, SS3, tag_eq, List.nil_append, List.append_nil, List.cons_append, Nat.reduceAdd, Nat.reduceSub, Nat.reduceMul, Nat.reduceAnd, Nat.reduceOr, Nat.reducePow, Nat.reduceEqDiff, decide_true, decide_false]
    refine c16_in (h0 := h0) (by omega) (fun u hu => by have := (ext_LR i [] (fun c hc => by cases hc) u hu).2; simp at this; omega) (fun h' n' v4' v9' hrep hn' hf' => ?_) (ext i []).length _ 0 n h _ _ (by omega) (by omega) (by omega) hb hbn (by omega) (.inl ⟨by simp, rfl⟩) (fun b' e => by cases e) hf
    rw [← ext_step] at hrep
    rcases hrep with ⟨e1, _⟩ | ⟨nb, rfl, g1, g2, g3⟩
    · exact absurd e1 ext_ne
    · simp (disch := omega) only [O16, U16, SS0, SS1, SS2, SS3, tag_eq, List.nil_append, List.append_nil, List.cons_append, Nat.reduceAdd, Nat.reduceSub, Nat.reduceMul, Nat.reduceAnd, Nat.reduceOr, Nat.reducePow, Nat.reduceEqDiff, decide_true, decide_false]
      exact ih q (i + 1) n' nb h' _ _ _ _ (by omega) (by omega) (by omega) g1 g2 g3 hf'
include T in
theorem c16_fil {m F lo b : Nat} {l : List (List Nat)} {kE : Nat → KV} {kr : KV} {R : Ans} {h0 : Heap} {w0 w3 w4 w5 w8 w9 : AVal} (hm : 100 ≤ m) (hl : l.length ≤ 2048) (hw : ∀ u ∈ l, LR u ∧ u.length ≤ 11)
    (hk : ∀ h n v6 v7 v10 v11, Rep h lo n v6 (l.filter grA) → lo ≤ n → (∀ c, c < lo → hget h c = hget h0 c) → kE 4 [w0, .nilslice, .slice b 0 l.length 1, w3, w4, w5, v6, v7, w8, w9, v10, v11] h n lo = R) :
    ∀ (d q k n : Nat) (h : Heap) (v6 u10 u11 : AVal), l.length - k = d → k ≤ l.length → d < q → hget h b = some (.cells false (strs l)) → b < n → lo ≤ n → Rep h lo n v6 ((l.take k).filter grA) → (∀ b', v6 = .slice b' 0 ((l.take k).filter grA).length 1 → b' ≠ b) → (∀ c, c < lo → hget h c = hget h0 c) →
    loopN (fun k => den (exec t m) F c16_39 k kE kr) q [w0, .nilslice, .slice b 0 l.length 1, w3, w4, w5, v6, .int .i64 (.ofNat k), w8, w9, u10, u11] h n lo = R := by
  intro d
  induction d with
  | zero =>
    intro q k n h v6 u10 u11 hd hi hq hb hbn hn hrep hne hf
    obtain ⟨q, rfl⟩ : ∃ x, q = x + 1 := ⟨q - 1, by omega⟩
    rw [loopN_succ]
    obtain rfl : k = l.length := by omega
    rw [List.take_length] at hrep
    simp (disch := omega) only [O16, U16, SS0, SS1, SS2, SS3, tag_eq, List.nil_append, List.append_nil, List.cons_append, Nat.reduceAdd, Nat.reduceSub, Nat.reduceMul, Nat.reduceAnd, Nat.reduceOr, Nat.reducePow, Nat.reduceEqDiff, decide_true, decide_false]
    exact hk h n v6 _ _ _ hrep hn hf
  | succ d ih =>
    intro q k n h v6 u10 u11 hd hi hq hb hbn hn hrep hne hf
    obtain ⟨q, rfl⟩ : ∃ x, q = x + 1 := ⟨q - 1, by omega⟩
    rw [loopN_succ]
    have hkl : k < l.length := by omega
    have hu : LR (l.getD k []) ∧ (l.getD k []).length ≤ 11 := by
      rw [List.getD_eq_getElem?_getD, List.getElem?_eq_getElem hkl]; exact hw _ (List.getElem_mem hkl)
    have ht := take_filter hkl
    have G := fun (kq : AVal → Ans) (kx : AVal → Heap → Nat → Nat → Ans) => rgreatest_run T (m := m) (h := h) (n := n) (kq := kq) (ke := kx) (w := l.getD k []) (by omega) hu.1.lcr (by omega)
    have hfl : ((l.take k).filter grA).length ≤ k := by
      have := List.length_filter_le grA (l.take k); simp at this; omega
    cases e : grA (l.getD k []) with
    | false =>
      rw [e] at ht
      have ht : (l.take (k + 1)).filter grA = (l.take k).filter grA := by simpa using ht
      simp (disch := omega) only [O16, U16, SS0, SS1, SS2, SS3, tag_eq, List.nil_append, List.append_nil, List.cons_append, Nat.reduceAdd, Nat.reduceSub, Nat.reduceMul, Nat.reduceAnd, Nat.reduceOr, Nat.reducePow, Nat.reduceEqDiff, decide_true, decide_false, hb, G, e]
      exact ih q (k + 1) n h v6 _ _ (by omega) (by omega) (by omega) hb hbn hn (by rw [ht]; exact hrep) (by rw [ht]; exact hne) hf
    | true =>
      rw [e] at ht
      have ht : (l.take (k + 1)).filter grA = (l.take k).filter grA ++ [l.getD k []] := by simpa using ht
      rcases hrep with ⟨e1, rfl⟩ | ⟨nb, rfl, g1, g2, g3⟩
      · simp (disch := omega) only [O16, U16, SS0, SS1, SS2, SS3, tag_eq, List.nil_append, List.append_nil, List.cons_append, Nat.reduceAdd, Nat.reduceSub, Nat.reduceMul, Nat.reduceAnd, Nat.reduceOr, Nat.reducePow, Nat.reduceEqDiff, decide_true, decide_false, hb, G, e]
        rw [app_nil (by omega) (new := [.str (l.getD k [])]) (by rw [src_eq hget_same]; rfl) rfl]
        simp (disch := omega) only [O16, U16, SS0, SS1, SS2, SS3, tag_eq, List.nil_append, List.append_nil, List.cons_append, Nat.reduceAdd, Nat.reduceSub, Nat.reduceMul, Nat.reduceAnd, Nat.reduceOr, Nat.reducePow, Nat.reduceEqDiff, decide_true, decide_false]
        refine ih q (k + 1) (n + 1 + 1) _ _ _ _ (by omega) (by omega) (by omega) ?_ (by omega) (by omega) (.inr ⟨n + 1, ?_, ?_, by omega, by omega⟩) ?_ ?_
        · rw [hget_ne (by omega), hget_ne (by omega)]; exact hb
        · rw [ht, e1]; rfl
        · rw [hget_same, ht, e1]; rfl
        · intro b' e; have e := (AVal.slice.inj e).1; omega
        · intro c hc; rw [hget_ne (by omega), hget_ne (by omega), hf c hc]
      · have hnb : nb ≠ b := hne nb rfl
        simp (disch := omega) only [O16, U16, SS0, SS1, SS2, SS3, tag_eq, List.nil_append, List.append_nil, List.cons_append, Nat.reduceAdd, Nat.reduceSub, Nat.reduceMul, Nat.reduceAnd, Nat.reduceOr, Nat.reducePow, Nat.reduceEqDiff, decide_true, decide_false, hb, G, e]
        rw [app_some (by omega) (new := [.str (l.getD k [])]) (by rw [src_eq hget_same]; rfl) rfl (by rw [hget_ne (by omega)]; exact g1) (old := strs ((l.take k).filter grA)) (by rw [dropN_zero, Nat.mul_one, takeN_strs (Nat.le_refl _), List.take_length])]
        have hmin : minN nb lo = lo := by rw [minN_eq]; omega
        simp (disch := omega) only [O16, U16, SS0, SS1, SS2, SS3, tag_eq, List.nil_append, List.append_nil, List.cons_append, Nat.reduceAdd, Nat.reduceSub, Nat.reduceMul, Nat.reduceAnd, Nat.reduceOr, Nat.reducePow, Nat.reduceEqDiff, decide_true, decide_false, hmin]
        refine ih q (k + 1) (n + 1 + 1) _ _ _ _ (by omega) (by omega) (by omega) ?_ (by omega) (by omega) (.inr ⟨n + 1, ?_, ?_, by omega, by omega⟩) ?_ ?_
        · rw [hget_ne (by omega), hget_ne (by omega), hget_del_ne hnb]; exact hb
        · rw [ht, List.length_append]; rfl
        · rw [hget_same, ht]; simp [strs]
        · intro b' e; have e := (AVal.slice.inj e).1; omega
        · intro c hc; rw [hget_ne (by omega), hget_ne (by omega), hget_del_ne (by omega), hf c hc]
include T in
theorem all_run {m n L : Nat} {h : Heap} {kq : AVal → Ans} {ke : AVal → Heap → Nat → Nat → Ans} {R : Ans} (hm : 2300 ≤ m) (hL : L ≤ 11)
    (hq : allW L [] = [] → kq .nilslice = R)
    (hke : ∀ h' n' b, n ≤ b → b < n' → hget h' b = some (.cells false (strs (allW L []))) → (∀ c, c < n → hget h' c = hget h c) → ke (.slice b 0 (allW L []).length 1) h' n' n = R) :
    exec t m 16 [.int .i64 (.ofNat L)] h n kq ke = R := by
  obtain ⟨m, rfl⟩ : ∃ q, m = q + 1 := ⟨m - 1, by omega⟩
  rw [exec_code T.h16, c16, callCode_eq (by simp)]
  simp (disch := omega) only [O16, U16, SS0, SS1, SS2, SS3, tag_eq, List.nil_append, List.append_nil, List.cons_append, Nat.reduceAdd, Nat.reduceSub, Nat.reduceMul, Nat.reduceAnd, Nat.reduceOr, Nat.reducePow, Nat.reduceEqDiff, decide_true, decide_false]
  have hp : 2 ^ L ≤ 2 ^ 11 := Nat.pow_le_pow_right (by omega) hL
  have hel := ext_len L []
  refine c16_out (h0 := h) hL (by omega) (fun h1 n1 b1 v4 v5 v8 v9 k1 k2 k3 k4 k5 => ?_) L _ 0 (n + 1) n _ _ _ _ _ rfl (by omega) (by omega) ?_ (by omega) (by omega) ?_
  · simp (disch := omega) only [O16, U16, SS0, SS1, SS2, SS3, tag_eq, List.nil_append, List.append_nil, List.cons_append, Nat.reduceAdd, Nat.reduceSub, Nat.reduceMul, Nat.reduceAnd, Nat.reduceOr, Nat.reducePow, Nat.reduceEqDiff, decide_true, decide_false]
    refine c16_fil T (h0 := h) (by omega) (by omega) (fun u hu => by have := ext_LR L [] (fun c hc => by cases hc) u hu; simp at this; exact ⟨this.1, by omega⟩) (fun h2 n2 v6 v7 v10 v11 hrep hn2 hf2 => ?_) (ext L []).length _ 0 n1 h1 _ _ _ (by omega) (by omega) (by omega) k1 k3 k4 (.inl ⟨by simp, rfl⟩) (fun b' e => by cases e) k5
    rw [← ext_filter] at hrep
    rcases hrep with ⟨e1, rfl⟩ | ⟨nb, rfl, g1, g2, g3⟩
    · simp (disch := omega) only [O16, U16, SS0, SS1, SS2, SS3, tag_eq, List.nil_append, List.append_nil, List.cons_append, Nat.reduceAdd, Nat.reduceSub, Nat.reduceMul, Nat.reduceAnd, Nat.reduceOr, Nat.reducePow, Nat.reduceEqDiff, decide_true, decide_false]
      exact hq e1
    · simp (disch := omega) only [O16, U16, SS0, SS1, SS2, SS3, tag_eq, List.nil_append, List.append_nil, List.cons_append, Nat.reduceAdd, Nat.reduceSub, Nat.reduceMul, Nat.reduceAnd, Nat.reduceOr, Nat.reducePow, Nat.reduceEqDiff, decide_true, decide_false]
      exact hke h2 n2 nb g2 g3 g1 hf2
  · rw [hget_same]; rfl
  · intro c hc; rw [hget_ne (by omega)]
end
end Go.Absm.D
