/- The body of plain's loop. -/
import Derived.Test.YtladlgohahiaeaaM8
import Derived.Test.YtladlgohahiaeaaM5
import Derived.Test.YtladlgohahiaeaaM6
import Derived.Test.YtladlgohahiaeaaQ1
import Derived.Test.YtladlgohahiaeaaB1
set_option linter.unusedSimpArgs false
set_option linter.unusedVariables false
namespace Go.Absm.D
open Go Go.Absm Go.Proofs
set_option maxRecDepth 100000
set_option linter.unusedSimpArgs false
section
variable {cf : CallF} {F : Nat} {k : KV} {ke : Nat → KV} {kr : KV} {vars : List AVal} {h : Heap} {n low : Nat}
/- the body of the range in 136 girouette/cycles.plain, after #[7]: slots [1, 2, 3, 17] of 18-/
def o136_502 : List AOper := [⟨[.var 0],fLoad1,none,0⟩,
  ⟨[.var 0],fLoad1,none,0⟩,
  ⟨[.var 2],fMove,none,0⟩,
  ⟨[.loc 1,.loc 0],fSlice 1 false true,none,6⟩,
  ⟨[.var 0],fLoad1,none,0⟩,
  ⟨[.loc 0],fLenSl,none,16⟩,
  ⟨[.var 2],fMove,none,0⟩,
  ⟨[.loc 1,.loc 0],fBin .quo,none,112⟩,
  ⟨[.const (.func (.func 157) [] []),.loc 4,.loc 0],fCall,none,254⟩,
  ⟨[.const (.func (.func 156) [] []),.loc 8,.loc 0],fCall,none,511⟩]
def c136_502 : ACode := .region o136_502 [(3,0)] true
def o136_505 : List AOper := [⟨[.var 1,.const (.bool false)],fStore 1,none,0⟩]
def c136_505 : ACode := .region o136_505 [] false
def c136_504 : ACode := .seq c136_505 .ret
def c136_503 : ACode := .cond (.var 3) c136_504 .skip
def c136_501 : ACode := .seq c136_502 c136_503
def c136_500 : ACode := .block 1 c136_501
def vmb136 : List Nat := [1, 2, 3, 17]
def b136 : ACode := c136_500
end
def rangeBody : Code → Option Code
  | .seq a b => (rangeBody a).orElse fun _ => rangeBody b
  | .block _ c => rangeBody c
  | .rangeFunc _ _ _ b => some b
  | _ => none
noncomputable def code136 : Code := match Try.f136.body with
  | some c => (rangeBody c).getD .skip
  | none => .skip
theorem comp136 : compCode Try.prog 18 vmb136 code136 = some b136 := by kernel_rfl
theorem nd136 : codeNoDefer code136 = true := by kernel_rfl
/-- a list is no shorter one, several times -/
def repD (l : List Int) (d : Nat) : Bool := decide (l = per l d l.length)
def h136 (l : List Int) : Heap := [(2, .cells false [.bool false]), (1, .cells false [.slice 0 0 l.length 1]), (0, .cells true (ints l))]
section
variable {t : Nat → Option Entry} (T : Tab t)
include T
theorem body136 {m F d : Nat} {l : List Int} {k : KV} {ke : Nat → KV} {kr : KV} (hm : 1200 ≤ m) (h1 : 0 < d) (h2 : d < l.length) (h3 : l.length % d = 0) (h4 : l.length ≤ 12) (u : AVal) :
    den (exec t m) F b136 k ke kr [.ptr 1 0, .ptr 2 0, .int .i64 (.ofNat d), u] (h136 l) 3 3 = if repD l d = true then
      kr [.ptr 1 0, .ptr 2 0, .int .i64 (.ofNat d), .bool true] ((3, .cells false (ints (per l d l.length))) :: h136 l) 4 2 else
      k [.ptr 1 0, .ptr 2 0, .int .i64 (.ofNat d), .bool false] ((3, .cells false (ints (per l d l.length))) :: h136 l) 4 3 := by
  have hq : 0 < l.length / d := Nat.div_pos (by omega) h1
  have hdc : d * (l.length / d) = l.length := Nat.mul_div_cancel' (Nat.dvd_of_mod_eq_zero h3)
  have hqle : l.length / d ≤ l.length := Nat.div_le_self _ _
  have R := fun (kq : AVal → Ans) (kx : AVal → Heap → Nat → Nat → Ans) => repeat_run T (m := m) (b := 0) (c := l.length / d) (d := d) (n := 3) (h := h136 l) (l := l) (ro := true) (kq := kq) (ke := kx) (by omega) rfl (by omega) h1 (by omega) hq (by omega)
  rw [hdc] at R
  have E := fun (kq : AVal → Ans) (kx : AVal → Heap → Nat → Nat → Ans) => equal_run T (m := m) (b := 0) (c := 3) (n := 4) (h := (3, .cells false (ints (per l d l.length))) :: h136 l) (x := l) (y := per l d l.length) (ro := true) (ro' := false) (kq := kq) (ke := kx) (by omega) rfl rfl per_len (by omega) (by omega) (by omega)
  unfold b136
  simp only [h136] at R E
  simp (disch := omega) only [h136, o136_502, den_unf c136_502.eq_1, o136_505, den_unf c136_505.eq_1, den_unf c136_504.eq_1, den_unf c136_503.eq_1, den_unf c136_501.eq_1, den_unf c136_500.eq_1, SS0, SS1, SS2, SS3, tag_eq, List.nil_append, List.append_nil, List.cons_append, Nat.reduceAdd, Nat.reduceSub, Nat.reduceMul, Nat.reduceAnd, Nat.reduceOr, Nat.reducePow, Nat.reduceEqDiff, decide_true, decide_false, R, E]
  by_cases e : repD l d = true
  · have e' : decide (l = per l d l.length) = true := e
    rw [if_pos e]
    simp (disch := omega) only [o136_502, den_unf c136_502.eq_1, o136_505, den_unf c136_505.eq_1, den_unf c136_504.eq_1, den_unf c136_503.eq_1, den_unf c136_501.eq_1, den_unf c136_500.eq_1, SS0, SS1, SS2, SS3, tag_eq, List.nil_append, List.append_nil, List.cons_append, Nat.reduceAdd, Nat.reduceSub, Nat.reduceMul, Nat.reduceAnd, Nat.reduceOr, Nat.reducePow, Nat.reduceEqDiff, decide_true, decide_false, e']
  · have e' : decide (l = per l d l.length) = false := by simpa [repD] using e
    rw [if_neg e]
    simp (disch := omega) only [o136_502, den_unf c136_502.eq_1, o136_505, den_unf c136_505.eq_1, den_unf c136_504.eq_1, den_unf c136_503.eq_1, den_unf c136_501.eq_1, den_unf c136_500.eq_1, SS0, SS1, SS2, SS3, tag_eq, List.nil_append, List.append_nil, List.cons_append, Nat.reduceAdd, Nat.reduceSub, Nat.reduceMul, Nat.reduceAnd, Nat.reduceOr, Nat.reducePow, Nat.reduceEqDiff, decide_true, decide_false, e']
end
end Go.Absm.D

/- plain. -/
namespace Go.Proofs
open Go.RowKit Go.Absm Go.Absm.D

theorem HRel.kept' {μ : Mu} {h : Heap} {w w' : World} (hr : HRel μ h w) (hb : Below w.heap.size w w') : HRel μ h w' :=
  hr.kept ⟨hb.size, fun β hβ => hb.block β hβ, hb.os, hb.tape, hb.output⟩
theorem cellsOnly136 (l : List Int) : CellsOnly (h136 l) := by
  intro b o hb
  unfold h136 at hb
  simp only [hget_cons] at hb
  split at hb
  · cases hb; exact ⟨_, _, rfl⟩
  · split at hb
    · cases hb; exact ⟨_, _, rfl⟩
    · split at hb
      · cases hb; exact ⟨_, _, rfl⟩
      · simp [hget] at hb
attribute [local go_sem] Oper.semAt_some
def plainB (l : List Int) : Bool := (divsB l.length l.length).all fun d => !(repD l d)

set_option maxRecDepth 100000 in
set_option maxHeartbeats 2000000 in
theorem Try.plain_calls (l : List Int) (h1 : 1 ≤ l.length) (h2 : l.length ≤ 12) (μ : Mu) (v0 : Value) (w : World) (hr : HRel μ [(0, .cells true (ints l))] w) (hf : Fr μ 1) (hv : VRel μ (.slice 0 0 l.length 1) v0) :
    Calls Try.prog 136 #[v0] w fun e w' => e = .returned (.bool (plainB l)) ∧ Below w.heap.size w w' := by
  obtain ⟨lc, o, cap, hμ, rfl, hcap, hsz, ho⟩ := id hv
  refine (callsIn_wide (n := 4)).1 ?_
  refine callsIn_of_wp_marks Try.func136 rfl trivial ?_ rfl
  simp only [Try.ntmps136, List.size_toArray, List.length_cons, List.length_nil, Nat.reduceAdd, Nat.reduceSub, Array.replicate_succ, Array.replicate_zero, List.push_toArray, List.append_toArray, List.nil_append, List.cons_append]
  gi_wp2
  refine ⟨trivial, (Try.divisors_in Fence.wide _ trivial rfl _ _).mono ?_⟩
  rintro e w' ⟨rfl, rfl⟩
  gi_wp2
  obtain ⟨W0, hW0⟩ : ∃ W0, ((w.alloc (.cells #[.slice (some ⟨lc.blk, o, none⟩) l.length cap] 41)).alloc (.cells #[.bool false] 4)).alloc (.cells #[.int .i64 l.length] 3) = W0 := ⟨_, rfl⟩
  have hs0 : W0.heap.size = w.heap.size + 3 := by rw [← hW0]; simp
  have hbw : Below w.heap.size w W0 := by
    rw [← hW0]
    exact (((Below.refl _ _).alloc (Nat.le_refl _) _).alloc (by simp) _).alloc (by simp; omega) _
  -- memory's names
  obtain ⟨μ2, hμ2⟩ : ∃ μ2, (μ.put 1 ⟨w.heap.size, 0, 1⟩).put 2 ⟨w.heap.size + 1, 0, 1⟩ = μ2 := ⟨_, rfl⟩
  have hr0 : HRel μ2 (h136 l) W0 := by
    have g1 := (HRel.new (w' := w.alloc (.cells #[.slice (some ⟨lc.blk, o, none⟩) l.length cap] 41)) (o := .cells false [.slice 0 0 l.length 1]) hr (hf 1 (by omega)) 1 rfl ⟨rfl, rfl, rfl⟩ (by
      refine ⟨⟨w.heap.size, 0, 1⟩, _, _, _, Mu.put_same _ _ _, World.alloc_heap_new w _, rfl, by simp, ?_, by simp⟩
      intro i x hx
      cases i with
      | zero =>
        simp [nth] at hx
        subst hx
        exact ⟨_, rfl, lc, o, cap, by rw [Mu.put_ne _ _ (by omega)]; exact hμ, rfl, hcap, hsz, ho⟩
      | succ i => simp [nth] at hx)).1
    have g2 := (HRel.new (w' := (w.alloc (.cells #[.slice (some ⟨lc.blk, o, none⟩) l.length cap] 41)).alloc (.cells #[.bool false] 4)) (o := .cells false [.bool false]) (n := 2) g1 (by rw [Mu.put_ne _ _ (by omega)]; exact hf 2 (by omega)) 1 rfl ⟨rfl, rfl, rfl⟩ (by
      refine ⟨⟨(w.alloc (.cells #[.slice (some ⟨lc.blk, o, none⟩) l.length cap] 41)).heap.size, 0, 1⟩, _, _, _, Mu.put_same _ _ _, World.alloc_heap_new _ _, rfl, by simp, ?_, by simp⟩
      intro i x hx
      cases i with
      | zero =>
        simp [nth] at hx
        subst hx
        exact ⟨_, rfl, rfl⟩
      | succ i => simp [nth] at hx)).1
    rw [World.size_alloc, hμ2] at g2
    rw [← hW0]
    exact HRel.kept' g2 ((Below.refl _ _).alloc (Nat.le_refl _) _)
  have hf0 : Fr μ2 3 := fun b hb => by
    rw [← hμ2, Mu.put_ne _ _ (by omega), Mu.put_ne _ _ (by omega)]; exact hf b (by omega)
  have hμ1 : μ2 1 = some ⟨w.heap.size, 0, 1⟩ := by rw [← hμ2, Mu.put_ne _ _ (by omega), Mu.put_same]
  have hμ2' : μ2 2 = some ⟨w.heap.size + 1, 0, 1⟩ := by rw [← hμ2, Mu.put_same]
  have hμ0 : μ2 0 = some lc := by rw [← hμ2, Mu.put_ne _ _ (by omega), Mu.put_ne _ _ (by omega)]; exact hμ
  have hlc : lc.blk < w.heap.size := by
    obtain ⟨l', e1, e2⟩ := (hr.obj 0 _ rfl).fresh
    rw [hμ] at e1; cases e1; exact e2
  have hnb : ∀ b q, μ2 b = some q → b < 3 → q.blk < w.heap.size + 2 := fun b q hq hb => by
    match b, hb with
    | 0, _ => rw [hμ0] at hq; cases hq; omega
    | 1, _ => rw [hμ1] at hq; cases hq; show w.heap.size < _; omega
    | 2, _ => rw [hμ2'] at hq; cases hq; show w.heap.size + 1 < _; omega
  have hM : W0.heap[w.heap.size + 2]? = some (.cells #[.int .i64 l.length] 3 (0, 0)) := by
    rw [← hW0]
    have := World.alloc_heap_new ((w.alloc (.cells #[.slice (some ⟨lc.blk, o, none⟩) l.length cap] 41)).alloc (.cells #[.bool false] 4)) (.cells #[.int .i64 l.length] 3)
    rwa [World.size_alloc, World.size_alloc] at this
  rw [hW0]
  refine wpIn_rangeFunc_ownF (P := Try.prog) (F := Fence.wide) (n := 4) (g := Operand.tmp 6) (ps := #[7]) (w := W0) rfl (by omega) (gf := 172) (lb := #[.pointer (some ⟨w.heap.size + 2, 0, none⟩)])
    (a := { tmps := #[.slice (some ⟨lc.blk, o, none⟩) l.length cap, .pointer (some ⟨w.heap.size, 0, none⟩), .pointer (some ⟨w.heap.size + 1, 0, none⟩), undef, .slice (some ⟨lc.blk, o, none⟩) l.length cap, .int .i64 l.length,
      .func (.func 172) #[] #[.pointer (some ⟨w.heap.size + 2, 0, none⟩)], undef, undef, undef, undef, undef, undef, undef, undef, undef, undef, undef], defers := [] }) rfl trivial (enters_of' Try.func172 (by kernel_rfl) rfl)
    (Try.divisors_stops Fence.wide 3 trivial rfl (by omega) (w.heap.size + 2) l.length W0 (by omega) h1 (by omega) (cell_of_box' hM).1)
    (fun h k => k.trans h) (fun W q x x' hq hx hx1 _ => World.putObj_heap_other (by omega)) (Below.refl _ _) (fun _ => rfl)
    (fun pre W => (∀ d ∈ pre, repD l d.1 = false) ∧ HRel μ2 (h136 l) W ∧ Below w.heap.size w W ∧ w.heap.size + 3 ≤ W.heap.size)
    (fun c pre W => c = .ret ∧ plainB l = false ∧ W.cell? ⟨w.heap.size + 1, 0, none⟩ = some (.bool false) ∧ Below w.heap.size w W)
    (fun s A B row hs hg hrow => ⟨hs.1, hs.2.1.grown (cellsOnly136 l) hg (fun r e => (hrow r e).2), hs.2.2.1.grown hg hs.2.2.1.size (fun k e => by have := (hrow k e).1; omega), Nat.le_trans hs.2.2.2 hg.size⟩)
    (fun c s A B row hs hg hrow => ⟨hs.1, hs.2.1, cell_kept hs.2.2.1 hg (fun r e => (hrow r e).2), hs.2.2.2.grown hg hs.2.2.2.size (fun k e => by have := (hrow k e).1; omega)⟩)
    ⟨by simp, hr0, hbw, by omega⟩
    (fun d => { tmps := #[.slice (some ⟨lc.blk, o, none⟩) l.length cap, .pointer (some ⟨w.heap.size, 0, none⟩), .pointer (some ⟨w.heap.size + 1, 0, none⟩), .int .i64 (d.1 : Nat), .slice (some ⟨lc.blk, o, none⟩) l.length cap, .int .i64 l.length,
      .func (.func 172) #[] #[.pointer (some ⟨w.heap.size + 2, 0, none⟩)], .int .i64 (d.1 : Nat), undef, undef, undef, undef, undef, undef, undef, undef, undef, undef], defers := [] }) ?assign ?body ?done ?stop
  case assign =>
    intro l' x W K hK
    gi_wp2
    exact hK
  case body =>
    rintro l' pre ⟨d, hd0, hdl, hdm⟩ W ⟨hp, hW, hbW, hsW⟩ hlen
    have hbody := body136 tb0_tab (m := 1300) (F := 1300) (d := d) (l := l) (k := fun vars h n low => some (.agg vars, h, n)) (ke := fun _ _ _ _ _ => none) (kr := fun vars h n low => some (.tuple vars, h, n)) (by omega) hd0 hdl hdm h2 .undef
    have hin := fun (r : AVal × Heap × Nat) (hr : den (exec tb0 1300) 1300 b136 (fun vars h n low => some (.agg vars, h, n)) (fun _ _ _ _ _ => none) (fun vars h n low => some (.tuple vars, h, n)) [.ptr 1 0, .ptr 2 0, .int .i64 (.ofNat d), .undef] (h136 l) 3 3 = some r) => den_in (P := Try.prog) (nt := 18) (vm := vmb136) (l := l') (M := 4 - 1 - 1) mixed (exec_ok mixed tb0_ok 1300) (fuel := 1300) code136 b136 comp136 nd136 _ _ _ _ _ _ _ r hr (Nat.le_refl 3) rfl
    have hst : St 18 vmb136 μ2 [.ptr 1 0, .ptr 2 0, .int .i64 (.ofNat d), .undef] (h136 l) 3 { tmps := #[.slice (some ⟨lc.blk, o, none⟩) l.length cap, .pointer (some ⟨w.heap.size, 0, none⟩), .pointer (some ⟨w.heap.size + 1, 0, none⟩), .int .i64 (d : Nat), .slice (some ⟨lc.blk, o, none⟩) l.length cap, .int .i64 l.length,
      .func (.func 172) #[] #[.pointer (some ⟨w.heap.size + 2, 0, none⟩)], .int .i64 (d : Nat), undef, undef, undef, undef, undef, undef, undef, undef, undef, undef], defers := [] } W := by
      refine ⟨hW, hf0, rfl, fun i t ht => ?_, rfl, rfl⟩
      match i, ht with
      | 0, ht => cases ht; exact ⟨_, hμ1, rfl⟩
      | 1, ht => cases ht; exact ⟨_, hμ2', rfl⟩
      | 2, ht => cases ht; exact rfl
      | 3, ht => cases ht; exact ⟨#[], rfl, rfl⟩
    have hlt3 : ∀ b x, hget (h136 l) b = some x → b < 3 := fun b x hb => HRel.lt hW hf0 hb
    have hown : ∀ b x q, hget (h136 l) b = some x → isRo x = false → μ2 b = some q → w.heap.size ≤ q.blk := fun b x q f1 f2 f3 => by
      match b, hlt3 b x f1 with
      | 0, _ => cases f1; cases f2
      | 1, _ => rw [hμ1] at f3; cases f3; exact Nat.le_refl _
      | 2, _ => rw [hμ2'] at f3; cases f3; exact Nat.le_succ _
    have hcode : (fun (c : Code) => c.wpIn (Fence.wide.inRound l') (4 - 1 - 1) Try.prog) code136 = (fun (c : Code) => c.wpIn (inR l') (4 - 1 - 1) Try.prog) code136 := rfl
    by_cases hrep : repD l d = true
    · rw [if_pos hrep] at hbody
      obtain ⟨x, vars', h', n', low', e1, e2, e3, e4⟩ := hin _ hbody
      cases x with
      | normal => simp [Out.pick] at e1
      | exit i => simp [Out.pick] at e1
      | ret =>
        simp only [Out.pick, Option.some.injEq, Prod.mk.injEq, AVal.tuple.injEq] at e1
        obtain ⟨rfl, rfl, rfl⟩ := e1
        refine e4 μ2 _ W hst _ (fun μ' a' W' s1 s2 => ?_) (fun a w h => h)
        obtain ⟨l2, c2, el2, fz2, q1, q2, q3, q4, q5, q6⟩ := s1.rel.obj 2 (.cells false [.bool false]) rfl
        rw [s2.le _ _ hμ2'] at q1; cases q1
        obtain ⟨v, hv1, hv2⟩ := q5 0 (.bool false) rfl
        cases hv2
        refine ⟨KeepsOthers.of_ext hW (cellsOnly136 l) s2, rfl, ?_, ?_, hbW.trans (Below.of_ext hbW.size s2 hown)⟩
        · unfold plainB
          rw [← Bool.not_eq_true, List.all_eq_true]
          intro h
          have := h d (List.mem_filter.2 ⟨List.mem_range.2 hdl, by simp [hd0, hdm]⟩)
          rw [hrep] at this; cases this
        · rw [cell_of q2]; exact hv1
    · rw [if_neg hrep] at hbody
      obtain ⟨x, vars', h', n', low', e1, e2, e3, e4⟩ := hin _ hbody
      cases x with
      | ret => simp [Out.pick] at e1
      | exit i => simp [Out.pick] at e1
      | normal =>
        simp only [Out.pick, Option.some.injEq, Prod.mk.injEq, AVal.agg.injEq] at e1
        obtain ⟨rfl, rfl, rfl⟩ := e1
        refine e4 μ2 _ W hst _ (fun μ' a' W' s1 s2 => ?_) (fun a w h => h)
        refine ⟨KeepsOthers.of_ext hW (cellsOnly136 l) s2, s2.frame _ (by omega) (fun b x q f1 f2 f3 => ?_), fun y hy => ?_, ⟨fun b x hb => ?_, hW.apart⟩, hbW.trans (Below.of_ext hbW.size s2 hown), Nat.le_trans hsW s2.size⟩
        · have := hnb b q f3 (hlt3 b x f1); omega
        · rcases List.mem_append.1 hy with h | h
          · exact hp y h
          · have : y = ⟨d, hd0, hdl, hdm⟩ := by simpa using h
            subst this
            simpa using hrep
        · refine (hW.obj b x hb).back s2.le (s1.rel.obj b x ?_)
          rw [hget_ne (by have := hlt3 b x hb; omega)]; exact hb
  case done =>
    rintro D xs W hD hxs ⟨hp, hW, hbW, hsW⟩ hK
    have hpl : plainB l = true := by
      unfold plainB
      rw [List.all_eq_true]
      intro d hd
      rw [← hxs, List.mem_map] at hd
      obtain ⟨x, hx, rfl⟩ := hd
      rw [hp x hx]; rfl
    obtain ⟨l2, c2, el2, fz2, e1, e2, e3, e4, e5, e6⟩ := hW.obj 2 _ rfl
    rw [hμ2'] at e1; cases e1
    have hcr : W.cell? ⟨w.heap.size + 1, 0, none⟩ = some (.bool false) := by
      obtain ⟨v, hv1, hv2⟩ := e5 0 (.bool false) rfl
      rw [cell_of e2]
      cases hv2
      exact hv1
    have hfr : W.frozen? ⟨w.heap.size + 1, 0, none⟩ = false := by
      have := e6 rfl 0 (by simp at e4; omega)
      simp only [World.frozen?, e2]
      simpa using this
    gi_wp2
    have hK' := (KeepsOthers.setCell W ⟨w.heap.size + 1, 0, none⟩ (.bool true)).same D _ hK rfl
    refine ⟨by simp, .inl ⟨_, _, rfl, run_takeDeferred hK', ?_⟩⟩
    have hc5 := cell_kept (World.cell?_setCell_same' W ⟨w.heap.size + 1, 0, none⟩ (.bool true) (by rw [hcr]; rfl)) (grownBy_putObj' _ D (.deferred none)) (fun r e => by cases e; exact ⟨_, hK', rfl⟩)
    have hb5 : Below w.heap.size w (W.setCell ⟨w.heap.size + 1, 0, none⟩ (.bool true)) := hbW.trans ((Below.refl _ W).setCell (by simp) _)
    refine ⟨.bool true, ?_, ⟨rfl, hb5.grown (grownBy_putObj' _ D (.deferred none)) hb5.size (fun k e => by cases e; omega)⟩⟩
    simp [results, Try.f136, go_sem, hc5]
  case stop =>
    rintro D c pre W hD _ ⟨rfl, hpl, hcr, hbW⟩ hK
    gi_wp2
    refine ⟨by simp, .inl ⟨_, _, rfl, run_takeDeferred hK, ?_⟩⟩
    have hc5 := cell_kept hcr (grownBy_putObj' _ D (.deferred none)) (fun r e => by cases e; exact ⟨_, hK, rfl⟩)
    refine ⟨.bool false, ?_, by rw [hpl]; exact ⟨rfl, hbW.grown (grownBy_putObj' _ D (.deferred none)) hbW.size (fun k e => by cases e; omega)⟩⟩
    simp [results, Try.f136, go_sem, hc5]
end Go.Proofs

/- The hook of plain. -/
namespace Go.Absm.D
open Go Go.Absm Go.Proofs
def asInts : List AVal → Option (List Int)
  | [] => some []
  | v :: r => match v with
    | .int .i64 x => match asInts r with
      | some l => some (x :: l)
      | none => none
    | _ => none
theorem asInts_some : ∀ {cs : List AVal} {l : List Int}, asInts cs = some l → cs = ints l
  | [], l, h => by simp [asInts] at h; subst h; rfl
  | v :: r, l, h => by
    simp only [asInts] at h
    split at h
    · split at h
      · rename_i l' hl
        cases h
        rw [asInts_some hl]; rfl
      · cases h
    · cases h
theorem asInts_ints : ∀ {l : List Int}, asInts (ints l) = some l
  | [] => rfl
  | x :: l => by
    show (match asInts (ints l) with | some l => some (x :: l) | none => none) = _
    rw [asInts_ints]
def plainS : Hook := fun a h => match a with
  | [.slice 0 0 n 1] => match h with
    | [(0, .cells true cs)] => match asInts cs with
      | some l => match Nat.beq n l.length with
        | true => match Nat.ble 1 n with
          | true => match Nat.ble n 12 with
            | true => some (.bool (plainB l))
            | false => none
          | false => none
        | false => none
      | none => none
    | _ => none
  | _ => none
theorem hook136 : HookOk Try.prog 136 (hookOf plainS) := by
  intro args h v hv μ w args' hr hx
  refine ⟨run_enter Try.func136 rfl (by kernel_rfl) args' w, ?_⟩
  unfold hookOf at hv
  split at hv
  · cases hv
  · rename_i p hp
    obtain ⟨μ', g1, g2, g3, g4⟩ := canon_rel (a := p.1) (h' := p.2) hr hx hp
    have hl : p.1.length = args.length := by
      have e1 := VRels.length g4
      have e2 := VRels.length hx
      omega
    obtain ⟨a, h'⟩ := p
    simp only at hv g1 g2 g3 g4 hl
    unfold plainS at hv
    split at hv
    · split at hv
      · split at hv
        · rename_i l hcs
          split at hv
          · rename_i hn
            split at hv
            · rename_i h1
              split at hv
              · rename_i h2
                cases hv
                obtain rfl := asInts_some hcs
                obtain rfl := Nat.eq_of_beq_eq_true hn
                obtain ⟨v0, vs, e, e1, e2⟩ := g4
                have e2 : vs = [] := e2
                subst e2
                have : args' = #[v0] := by rw [← Array.toArray_toList (xs := args'), e]
                subst this
                refine (Try.plain_calls l (Nat.le_of_ble_eq_true h1) (Nat.le_of_ble_eq_true h2) μ' v0 w g1 (fun b hb => g2 b (.inr (by simp at hl; omega))) e1).mono fun e w' he => ?_
                obtain ⟨rfl, hb⟩ := he
                have hk : Kept w w' := ⟨hb.size, fun β hβ => hb.block β hβ, hb.os, hb.tape, hb.output⟩
                exact ⟨_, rfl, rfl, hr.kept hk, hk.ext μ h⟩
              · cases hv
            · cases hv
          · cases hv
        · cases hv
      · cases hv
    · cases hv
end Go.Absm.D
