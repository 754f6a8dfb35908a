/- Greatest: all greatest words. -/
import Derived.Test.YtladlgohahiaeaaM8
import Derived.Test.YtladlgohahiaeaaF3
set_option linter.unusedSimpArgs false
set_option linter.unusedVariables false
namespace Go.Absm.D
open Go Go.Absm
set_option maxRecDepth 100000
set_option linter.unusedSimpArgs false
set_option maxHeartbeats 2000000
/-- words of L and R -/
def LR (a : List Nat) : Prop := ∀ c ∈ a, c = 76 ∨ c = 82
theorem LR.lcr {a : List Nat} (h : LR a) : LCR a := fun c hc => by rcases h c hc with h | h <;> simp [h]
theorem LR.snoc {a : List Nat} {x : Nat} (h : LR a) (hx : x = 76 ∨ x = 82) : LR (a ++ [x]) := fun c hc => by
  rcases List.mem_append.1 hc with h' | h'
  · exact h c h'
  · simp at h'; subst h'; exact hx
/-- all greatest words of r more letters behind w -/
def allW : Nat → List Nat → List (List Nat)
  | 0, w => if grA w then [w] else []
  | r + 1, w => allW r (w ++ [76]) ++ allW r (w ++ [82])
theorem allW_len : ∀ (r : Nat) (w : List Nat), (allW r w).length ≤ 2 ^ r
  | 0, w => by simp only [allW]; split <;> simp
  | r + 1, w => by
    have h1 := allW_len r (w ++ [76])
    have h2 := allW_len r (w ++ [82])
    simp only [allW, List.length_append, Nat.pow_succ]; omega
/-- memory while words are gathered: a: how many letters, o: the list, g: the function -/
structure GI (L a o g : Nat) (h : Heap) (n b : Nat) (ws : List (List Nat)) : Prop where
  ha : hget h a = some (.cells false [.int .i64 (.ofNat L)])
  ho : hget h o = some (.cells false [.slice b 0 ws.length 1])
  hg : hget h g = some (.cells false [.func (.func 74) [] [.ptr a 0, .ptr o 0, .ptr g 0]])
  hb : hget h b = some (.cells false (strs ws))
  la : a < n
  lo : o < n
  lg : g < n
  lb : b < n
  ao : a < o
  ab : a < b
  bo : b ≠ o
  bg : b ≠ g
  og : o ≠ g
  ag : a ≠ g
theorem strs_snoc {ws : List (List Nat)} {w : List Nat} : strs ws ++ [.str w] = strs (ws ++ [w]) := by simp [strs]
section
variable {t : Nat → Option Entry} (T : Tab t) (T133 : t 133 = some (.both (hookOf letterS) c133)) (T75 : t 75 = some (.code c75))
include T T133 T75 in
theorem grow_leaf {L a o g m n b : Nat} {w : List Nat} {ws : List (List Nat)} {h : Heap} {kq : AVal → Ans} {ke : AVal → Heap → Nat → Nat → Ans} {R : Ans} (hw : LR w) (hl : w.length = L) (hL : L ≤ 11) (hm : 100 ≤ m) (hi : GI L a o g h n b ws) (hB : ws.length + 1 ≤ 5000)
    (hkq : allW 0 w = [] → kq (.tuple []) = R)
    (hke : ∀ h' n' b' low', low' ≤ o → a ≤ low' → n ≤ n' → GI L a o g h' n' b' (ws ++ allW 0 w) → (b' = b ∨ n ≤ b') → (∀ c, c < n → c ≠ o → c ≠ b → hget h' c = hget h c) → ke (.tuple []) h' n' low' = R) :
    exec t m 74 [.str w, .ptr a 0, .ptr o 0, .ptr g 0] h n kq ke = R := by
  obtain ⟨m, rfl⟩ : ∃ q, m = q + 1 := ⟨m - 1, by omega⟩
  rw [exec_code T.h74, c74, callCode_eq (by simp)]
  have G := fun (kq : AVal → Ans) (kx : AVal → Heap → Nat → Nat → Ans) => greatest_run T T133 T75 (m := m) (h := h) (n := n) (kq := kq) (ke := kx) (w := w) (by omega) hw.lcr (by omega)
  have i1 := hi.ha
  have i2 := hi.ho
  have i3 := hi.hb
  have j1 := hi.la
  have j2 := hi.lo
  have j3 := hi.lb
  have j4 := hi.bo
  have j5 := hi.ao
  have j6 := hi.ab
  have j7 := hi.lg
  cases e : grA w with
  | false =>
    have e0 : allW 0 w = [] := by simp [allW, e]
    simp (disch := omega) only [O74, U74, SS0, SS1, SS2, SS3, tag_eq, List.nil_append, List.append_nil, List.cons_append, Nat.reduceAdd, Nat.reduceSub, Nat.reduceMul, Nat.reduceAnd, Nat.reduceOr, Nat.reducePow, Nat.reduceEqDiff, decide_true, decide_false, G, i1, e]
    exact hkq e0
  | true =>
    have e0 : allW 0 w = [w] := by simp [allW, e]
    rw [e0] at hke
    simp (disch := omega) only [O74, U74, SS0, SS1, SS2, SS3, tag_eq, List.nil_append, List.append_nil, List.cons_append, Nat.reduceAdd, Nat.reduceSub, Nat.reduceMul, Nat.reduceAnd, Nat.reduceOr, Nat.reducePow, Nat.reduceEqDiff, decide_true, decide_false, G, i1, i2, e]
    rw [app_some (by omega) (new := [.str w]) (by rw [src_eq hget_same]; rfl) rfl (by rw [hget_ne (by omega)]; exact i3) (old := strs ws) (by rw [dropN_zero, Nat.mul_one, takeN_strs (Nat.le_refl _), List.take_length])]
    simp (disch := omega) only [O74, U74, SS0, SS1, SS2, SS3, tag_eq, List.nil_append, List.append_nil, List.cons_append, Nat.reduceAdd, Nat.reduceSub, Nat.reduceMul, Nat.reduceAnd, Nat.reduceOr, Nat.reducePow, Nat.reduceEqDiff, decide_true, decide_false, i2, strs_snoc]
    have hlow : a < minN o b ∧ minN o b ≤ o := by rw [minN_eq]; omega
    rw [finish_w (by omega)]
    have hne : ∀ c, c < n → c ≠ o → c ≠ b → hget (hset (hdel h b) o (.cells false [.slice (n + 1) 0 (ws.length + 1) 1])) c = hget h c := fun c h1 h2 h3 => by
      rw [hget_set_ne (by omega), hget_del_ne (by omega)]
    refine hke _ (n + 1 + 1) (n + 1) _ ?_ ?_ (by omega) ⟨?_, ?_, ?_, ?_, by omega, by omega, by omega, by omega, hi.ao, by omega, by omega, by omega, hi.og, hi.ag⟩ (.inr (by omega)) ?_
    · omega
    · omega
    · rw [hget_ne (by omega), hget_ne (by omega), hne a j1 (by omega) (by omega)]; exact hi.ha
    · rw [hget_ne (by omega), hget_ne (by omega), hget_set_same (o' := .cells false [.slice b 0 ws.length 1]) (by rw [hget_del_ne (by omega)]; exact i2)]
      simp
    · rw [hget_ne (by omega), hget_ne (by omega), hne g j7 (Ne.symm hi.og) (Ne.symm hi.bg)]; exact hi.hg
    · rw [hget_same]
    · intro c h1 h2 h3
      rw [hget_ne (by omega), hget_ne (by omega), hne c h1 h2 h3]
/-- what grow does with r letters to come -/
def Grows (t : Nat → Option Entry) (L a o g r : Nat) : Prop := ∀ (w : List Nat) (m : Nat) (h : Heap) (n b : Nat) (ws : List (List Nat)) (kq : AVal → Ans) (ke : AVal → Heap → Nat → Nat → Ans) (R : Ans), LR w → w.length + r = L → 100 + 20 * r ≤ m → GI L a o g h n b ws → ws.length + 2 ^ r ≤ 5000 →
    (allW r w = [] → kq (.tuple []) = R) →
    (∀ h' n' b' low', low' ≤ o → a ≤ low' → n ≤ n' → GI L a o g h' n' b' (ws ++ allW r w) → (b' = b ∨ n ≤ b') → (∀ c, c < n → c ≠ o → c ≠ b → hget h' c = hget h c) → ke (.tuple []) h' n' low' = R) →
    exec t m 74 [.str w, .ptr a 0, .ptr o 0, .ptr g 0] h n kq ke = R
theorem grow_step {L a o g r m F q n b s low i x : Nat} {w : List Nat} {ws : List (List Nat)} {h : Heap} {kE : Nat → KV} {kr : KV} {R : Ans} {u4 u6 u10 : AVal} (ih : Grows t L a o g r) (hw : LR w) (hL : L ≤ 11) (hl : w.length + (r + 1) = L) (hm : 100 + 20 * r ≤ m)
    (hx : (i = 0 ∧ x = 76) ∨ (i = 1 ∧ x = 82)) (hi : GI L a o g h n b ws) (hB : ws.length + 2 ^ r ≤ 5000) (hs : hget h s = some (.cells false [.str [76], .str [82]])) (hso : s ≠ o) (hsb : s ≠ b)
    (hq : allW r (w ++ [x]) = [] → ∀ v10, loopN (fun k => den (exec t m) F c74_13 k kE kr) q [.str w, .ptr a 0, .ptr o 0, .ptr g 0, .str [x], .bool false, u6, .slice s 0 2 1, .int .i64 (.ofNat 2), .int .i64 (.ofNat (i + 1)), v10] h n low = R)
    (he : ∀ h2 n2 b2 low2 v10, low2 ≤ o → a ≤ low2 → n ≤ n2 → GI L a o g h2 n2 b2 (ws ++ allW r (w ++ [x])) → (b2 = b ∨ n ≤ b2) → (∀ c, c < n → c ≠ o → c ≠ b → hget h2 c = hget h c) →
      loopN (fun k => den (exec t m) F c74_13 k kE kr) q [.str w, .ptr a 0, .ptr o 0, .ptr g 0, .str [x], .bool false, u6, .slice s 0 2 1, .int .i64 (.ofNat 2), .int .i64 (.ofNat (i + 1)), v10] h2 n2 (minN low2 low) = R) :
    loopN (fun k => den (exec t m) F c74_13 k kE kr) (q + 1) [.str w, .ptr a 0, .ptr o 0, .ptr g 0, u4, .bool false, u6, .slice s 0 2 1, .int .i64 (.ofNat 2), .int .i64 (.ofNat i), u10] h n low = R := by
  have g1 := hi.hg
  have l1 : w.length + [x].length ≤ 9223372036854775807 := by simp; omega
  have l0 : i < 2 := by omega
  rw [loopN_succ]
  have e : nth [.str [76], .str [82]] i = some (AVal.str [x]) := by rcases hx with ⟨rfl, rfl⟩ | ⟨rfl, rfl⟩ <;> rfl
  simp (disch := omega) only [O74, U74, SS0, SS1, SS2, SS3, tag_eq, List.nil_append, List.append_nil, List.cons_append, Nat.reduceAdd, Nat.reduceSub, Nat.reduceMul, Nat.reduceAnd, Nat.reduceOr, Nat.reducePow, Nat.reduceEqDiff, decide_true, decide_false, hs, g1, e, b_addS l1]
  refine ih (w ++ [x]) m h n b ws _ _ R (hw.snoc (by omega)) (by simp; omega) hm hi hB (fun e0 => ?_) (fun h2 n2 b2 low2 k1 k2 k3 k4 k5 k6 => ?_)
  · simp (disch := omega) only [O74, U74, SS0, SS1, SS2, SS3, tag_eq, List.nil_append, List.append_nil, List.cons_append, Nat.reduceAdd, Nat.reduceSub, Nat.reduceMul, Nat.reduceAnd, Nat.reduceOr, Nat.reducePow, Nat.reduceEqDiff, decide_true, decide_false]
    exact hq e0 _
  · simp (disch := omega) only [O74, U74, SS0, SS1, SS2, SS3, tag_eq, List.nil_append, List.append_nil, List.cons_append, Nat.reduceAdd, Nat.reduceSub, Nat.reduceMul, Nat.reduceAnd, Nat.reduceOr, Nat.reducePow, Nat.reduceEqDiff, decide_true, decide_false]
    exact he h2 n2 b2 low2 _ k1 k2 k3 k4 k5 k6
include T T133 T75 in
theorem grow_all {L a o g : Nat} (hL : L ≤ 11) : ∀ r, Grows t L a o g r
  | 0 => fun w m h n b ws kq ke R hw hl hm hi hB hkq hke => grow_leaf T T133 T75 hw (by omega) hL (by omega) hi (by simpa using hB) hkq hke
  | r + 1 => fun w m h n b ws kq ke R hw hl hm hi hB hkq hke => by
    obtain ⟨m, rfl⟩ : ∃ q, m = q + 1 := ⟨m - 1, by omega⟩
    obtain ⟨m, rfl⟩ : ∃ q, m = q + 10 := ⟨m - 10, by omega⟩
    have ih := grow_all (a := a) (o := o) (g := g) hL r
    rw [exec_code T.h74, c74, callCode_eq (by simp)]
    have i1 := hi.ha
    have j1 := hi.la
    have j2 := hi.lo
    have j3 := hi.lb
    have j7 := hi.lg
    have hp : 2 ^ (r + 1) = 2 ^ r + 2 ^ r := by rw [Nat.pow_succ]; omega
    have len1 := allW_len r (w ++ [76])
    simp (disch := omega) only [O74, U74, SS0, SS1, SS2, SS3, tag_eq, List.nil_append, List.append_nil, List.cons_append, Nat.reduceAdd, Nat.reduceSub, Nat.reduceMul, Nat.reduceAnd, Nat.reduceOr, Nat.reducePow, Nat.reduceEqDiff, decide_true, decide_false, i1]
    -- memory with the letters
    obtain ⟨h0, e0⟩ : ∃ h0, ((n, AObj.cells false [.str [76], .str [82]]) :: h) = h0 := ⟨_, rfl⟩
    have hold : ∀ c, c < n → hget h0 c = hget h c := fun c hc => by rw [← e0, hget_ne (by omega)]
    have hs : hget h0 n = some (.cells false [.str [76], .str [82]]) := by rw [← e0, hget_same]
    have hi0 : GI L a o g h0 (n + 1) b ws := ⟨by rw [hold a j1]; exact hi.ha, by rw [hold o j2]; exact hi.ho, by rw [hold g j7]; exact hi.hg, by rw [hold b j3]; exact hi.hb, by omega, by omega, by omega, by omega, hi.ao, hi.ab, hi.bo, hi.bg, hi.og, hi.ag⟩
    rw [e0]
    refine grow_step (x := 76) ih hw hL hl (by omega) (.inl ⟨rfl, rfl⟩) hi0 (by omega) hs (by omega) (by omega) (fun w1 v10 => ?_) (fun h1 n1 b1 low1 v10 k1 k2 k3 k4 k5 k6 => ?_)
    · refine grow_step (x := 82) ih hw hL hl (by omega) (.inr ⟨rfl, rfl⟩) hi0 (by omega) hs (by omega) (by omega) (fun w2 v10 => ?_) (fun h2 n2 b2 low2 v10 k1 k2 k3 k4 k5 k6 => ?_)
      · rw [loopN_succ]
        simp (disch := omega) only [O74, U74, SS0, SS1, SS2, SS3, tag_eq, List.nil_append, List.append_nil, List.cons_append, Nat.reduceAdd, Nat.reduceSub, Nat.reduceMul, Nat.reduceAnd, Nat.reduceOr, Nat.reducePow, Nat.reduceEqDiff, decide_true, decide_false]
        exact hkq (by simp only [allW, w1, w2, List.append_nil])
      · rw [loopN_succ]
        have hlow : a ≤ minN low2 n ∧ minN low2 n ≤ o := by rw [minN_eq]; omega
        generalize minN low2 n = lw at hlow ⊢
        simp (disch := omega) only [O74, U74, SS0, SS1, SS2, SS3, tag_eq, List.nil_append, List.append_nil, List.cons_append, Nat.reduceAdd, Nat.reduceSub, Nat.reduceMul, Nat.reduceAnd, Nat.reduceOr, Nat.reducePow, Nat.reduceEqDiff, decide_true, decide_false]
        refine hke h2 n2 b2 _ hlow.2 hlow.1 (by omega) (by simpa only [allW, w1, List.nil_append] using k4) (by omega) (fun c h1 h2 h3 => by rw [k6 c (by omega) h2 h3, hold c h1])
    · have hs1 : hget h1 n = some (.cells false [.str [76], .str [82]]) := by rw [k6 n (by omega) (by omega) (by omega)]; exact hs
      have hlow : a ≤ minN low1 n ∧ minN low1 n ≤ o := by rw [minN_eq]; omega
      generalize minN low1 n = lw at hlow ⊢
      refine grow_step (x := 82) ih hw hL hl (by omega) (.inr ⟨rfl, rfl⟩) k4 (by simp; omega) hs1 (by omega) (by omega) (fun w2 v10 => ?_) (fun h2 n2 b2 low2 v10 q1 q2 q3 q4 q5 q6 => ?_)
      · rw [loopN_succ]
        simp (disch := omega) only [O74, U74, SS0, SS1, SS2, SS3, tag_eq, List.nil_append, List.append_nil, List.cons_append, Nat.reduceAdd, Nat.reduceSub, Nat.reduceMul, Nat.reduceAnd, Nat.reduceOr, Nat.reducePow, Nat.reduceEqDiff, decide_true, decide_false]
        refine hke h1 n1 b1 _ hlow.2 hlow.1 (by omega) (by simpa only [allW, w2, List.append_nil] using k4) (by omega) (fun c h1 h2 h3 => by rw [k6 c (by omega) h2 h3, hold c h1])
      · rw [loopN_succ]
        have hlow2 : a ≤ minN low2 lw ∧ minN low2 lw ≤ o := by rw [minN_eq]; omega
        generalize minN low2 lw = lw2 at hlow2 ⊢
        simp (disch := omega) only [O74, U74, SS0, SS1, SS2, SS3, tag_eq, List.nil_append, List.append_nil, List.cons_append, Nat.reduceAdd, Nat.reduceSub, Nat.reduceMul, Nat.reduceAnd, Nat.reduceOr, Nat.reducePow, Nat.reduceEqDiff, decide_true, decide_false]
        refine hke h2 n2 b2 _ hlow2.2 hlow2.1 (by omega) (by simpa only [allW, List.append_assoc] using q4) (by omega) (fun c h1 h2 h3 => ?_)
        rw [q6 c (by omega) h2 (by omega), k6 c (by omega) h2 h3, hold c h1]
end
end Go.Absm.D
