/- The abstract machine: its operations stand for the model's: append, copy. -/
import Derived.Test.YtladlgohahiaeaaM1
import Derived.Laws.StructEq
import Derived.MapKept
import Derived.ChangeKeysEq
set_option linter.unusedSimpArgs false
set_option linter.unusedVariables false
namespace Go.Absm
open Go
section
variable {P : Program} {μ : Mu} {h : Heap} {w : World} {n : Nat}

/-- the cells of a source -/
theorem src_rel {esz k : Nat} {x : AVal} {x' : Value} {src : Option (Nat × Nat)} {lit : List AVal} (hr : HRel μ h w) (hx : VRel μ x x') (hs : srcOf x = some (src, lit, k)) :
    (∃ base len cap, x' = .slice base len cap ∧ len = k) ∧ (k = 0 → ∀ w2, (Builtin.firstCells esz 0 x').run P w2 = .ok #[] w2) ∧
    ∀ m new, m ≤ k → srcCells h src lit (m * esz) = some new → ∃ news : List Value, VRels μ new news ∧ news.length = m * esz ∧ ∀ w2 : World, w2.heap = w.heap → (Builtin.firstCells esz m x').run P w2 = .ok news.toArray w2 := by
  unfold srcOf at hs
  split at hs
  · cases hs; cases hx
    refine ⟨⟨_, _, _, rfl, rfl⟩, fun _ w2 => by simp [Builtin.firstCells], fun m new hm hn => ?_⟩
    obtain rfl : m = 0 := by omega
    simp [srcCells] at hn; subst hn
    exact ⟨[], rfl, by simp, fun w2 _ => by simp [Builtin.firstCells]⟩
  · rename_i b off len esz'
    cases hs
    obtain ⟨l, o, cap, hl, rfl, g1, g2, g3⟩ := hx
    refine ⟨⟨_, _, _, rfl, rfl⟩, fun _ w2 => by simp [Builtin.firstCells, loadCells, loadCellsFrom], fun m new hm hn => ?_⟩
    simp only [srcCells] at hn
    cases hg : hget h b with
    | none => simp [hg] at hn
    | some ob =>
      simp only [hg] at hn
      obtain ⟨l', c, el, fz, hl', hw, h1, vs, hvl, hvr, hvc⟩ := readCells_rel (hr.obj b ob hg) hn
      rw [hl] at hl'; cases hl'
      refine ⟨vs, hvr, hvl, fun w2 hw2 => ?_⟩
      have hw' : w2.heap[l.blk]? = some (.cells c el fz) := by rw [hw2]; exact hw
      rcases g3 with g3 | g3
      · have := run_loadCells_at (P := P) (w := w2) hw' (off := l.base + off) vs hvc
        rw [hvl] at this
        simp only [Builtin.firstCells, g3, this]
      · have hk : m = 0 := by omega
        subst hk
        have hvs : vs = [] := List.length_eq_zero_iff.1 (by omega)
        subst hvs
        simp [Builtin.firstCells, loadCells, loadCellsFrom]
  · cases hs

theorem roomy_cap {bytes m cap : Nat} (h : roomy bytes m = true) (hc : cap < m) : ¬ (Builtin.nextslicecap m cap * bytes > 2 ^ 48) ∧ ((m : Nat) : Int) ≤ IntKind.i64.max := by
  have h := Nat.le_of_ble_eq_true h
  have h : (2 * m + 1024) * (bytes + 1) ≤ 281474976710656 := h
  have h1 := nextslicecap_le hc
  have h2 : Builtin.nextslicecap m cap * bytes ≤ 2 * m * bytes := Nat.mul_le_mul_right _ h1
  have h3 : 2 * m * bytes ≤ (2 * m + 1024) * (bytes + 1) := Nat.mul_le_mul (by omega) (by omega)
  have h4 : 2 * m + 1024 ≤ (2 * m + 1024) * (bytes + 1) := Nat.le_mul_of_pos_right _ (by omega)
  have e : IntKind.i64.max = 9223372036854775807 := by decide
  exact ⟨by omega, by rw [e]; omega⟩

theorem info_all {el : TypeId} {s bts : Nat} {z : AVal} (hs : szOf P el = some s) (hbt : bytesOfT P el = some bts) (hz : zeroOf P el = some z) :
    ∃ i zv, P.info? el = some i ∧ i.size = s ∧ i.bytes = bts ∧ i.zero = some zv ∧ ∀ μ, VRel μ z zv := by
  unfold szOf at hs
  unfold bytesOfT at hbt
  unfold zeroOf at hz
  cases hi : P.types[el]? with
  | none => simp [hi] at hs
  | some i =>
    simp only [hi] at hs hbt hz
    cases hzz : i.zero with
    | none => simp [hzz] at hz
    | some zv =>
      simp only [hzz] at hz
      exact ⟨i, zv, info_of hi, by simpa using hs, by simpa using hbt, hzz, fun μ => absV_rel 5 zv z hz⟩

theorem run_append_grows {t t2 el el2 ty : TypeId} {i : TypeInfo} {zv : Value} (hu : P.underlying t = some (.slice el)) (hu2 : P.underlying t2 = some (.slice el2)) (hi : P.info? el = some i) (hz : i.zero = some zv)
    (base : Option Addr) (len cap : Nat) (yb : Option Addr) (k yc : Nat) (olds news : List Value) (hcap : cap < len + k) (h63 : ¬ (9223372036854775807 < ((len : Int) + (k : Int)))) (h48 : ¬ (281474976710656 < Builtin.nextslicecap (len + k) cap * i.bytes))
    (hfo : ∀ w2 : World, w2.heap = w.heap → (Builtin.firstCells i.size len (.slice base len cap)).run P w2 = .ok olds.toArray w2) (hfn : ∀ w2 : World, w2.heap = w.heap → (Builtin.firstCells i.size k (.slice yb k yc)).run P w2 = .ok news.toArray w2) :
    (Builtin.append_ #[t, t2] ty #[.slice base len cap, .slice yb k yc]).run P w = .ok (.slice (some ⟨w.heap.size, 0, none⟩) (len + k) (grownCap w (len + k) cap el))
      (w.drew.alloc (.cells (olds.toArray ++ news.toArray ++ Builtin.zeroCells zv.cells (grownCap w (len + k) cap el - (len + k))) el)) := by
  have hn : ¬ (len + k ≤ cap) := by omega
  have h1 := hfo w.drew rfl
  have h2 := hfn w.drew rfl
  simp [Builtin.append_, run_underlying hu, run_underlying hu2, sizeOf, typeInfo, zeroValue, hi, hz, Builtin.lenOf, hn, h63, h48, Question.forced, h1, h2, newRow, grownCap]
  congr 2
  apply Array.ext'
  simp [List.append_assoc]

theorem run_append_fits {t t2 el el2 ty : TypeId} {i : TypeInfo} (hu : P.underlying t = some (.slice el)) (hu2 : P.underlying t2 = some (.slice el2)) (hi : P.info? el = some i)
    (base : Option Addr) (len cap : Nat) (yb : Option Addr) (k yc : Nat) (news : List Value) (hcap : len + k ≤ cap) (hfn : (Builtin.firstCells i.size k (.slice yb k yc)).run P w = .ok news.toArray w) :
    (Builtin.append_ #[t, t2] ty #[.slice base len cap, .slice yb k yc]).run P w = match base with
      | none => .ok (.slice none (len + k) cap) w
      | some a => ((storeCells (a.add (len * i.size)) news).run P w).andThen fun _ w => .ok (.slice (some a) (len + k) cap) w := by
  cases base <;> simp [Builtin.append_, run_underlying hu, run_underlying hu2, sizeOf, typeInfo, hi, Builtin.lenOf, hcap, hfn]

theorem ok_append {t el ty t2 el2 : TypeId} {s bts : Nat} {z x y : AVal} {x' y' : Value} (hr : HRel μ h w) (hu : und P t = some (.slice el)) (hu2 : und P t2 = some (.slice el2)) (hs : szOf P el = some s) (hbt : bytesOfT P el = some bts)
    (hz : zeroOf P el = some z) (hzs : sizeL z.cells = s) (hx : VRel μ x x') (hy : VRel μ y y') :
    EffOk P μ h w n (vres ((Builtin.append_ #[t, t2] ty #[x', y']).run P w)) (fAppend s bts [x, y]) := by
  simp only [fAppend]
  split
  · trivial
  · rename_i src lit _ hsrc
    obtain ⟨⟨yb, k, yc, rfl, rfl⟩, h0, hsc⟩ := src_rel (P := P) (esz := s) hr hy hsrc
    obtain ⟨i, zv, hi, his, hib, hiz, hzr⟩ := info_all hs hbt hz
    have u1 := und_of hu
    have u2 := und_of hu2
    have hzc : zv.cells.size = s := by
      have := VRels.length (cells_rel (hzr μ))
      rw [sizeL_eq] at hzs
      have e : zv.cells.size = zv.cells.toList.length := by simp
      omega
    subst his
    subst hib
    have e63 : IntKind.i64.max = 9223372036854775807 := by decide
    split
    · -- a nil slice
      cases hx
      split
      · rename_i hroom
        refine ⟨fun hk0 => ⟨fun _ => ?_, fun b off len hd => by cases hd⟩, fun hk0 hn new hnew hall => ⟨fun _ => ?_, fun b off len cs old hd => by cases hd⟩⟩
        · subst hk0
          have := run_append_fits (P := P) (w := w) (ty := ty) u1 u2 hi none 0 0 yb 0 yc [] (by omega) (h0 rfl w)
          exact same_v (by rw [this]) rfl
        · obtain ⟨news, r1, r2, r3⟩ := hsc k new (Nat.le_refl _) hnew
          obtain ⟨c1, c2⟩ := roomy_cap (cap := 0) hroom (by omega)
          have hrun := run_append_grows (P := P) (w := w) (ty := ty) u1 u2 hi hiz none 0 0 yb k yc [] news (by omega) (by rw [e63] at c2; omega) (by simpa using c1)
            (fun w2 _ => by simp [Builtin.firstCells]) r3
          simp only [Nat.zero_add] at hrun
          have hge := grownCap_ge w k 0 el
          obtain ⟨G, hG⟩ : ∃ G, G = grownCap w k 0 el := ⟨_, rfl⟩
          rw [← hG] at hrun hge
          have hnl := VRels.length r1
          obtain ⟨A, hA⟩ : ∃ A : Array Value, A = ([] : List Value).toArray ++ news.toArray ++ Builtin.zeroCells zv.cells (G - k) := ⟨_, rfl⟩
          rw [← hA] at hrun
          have hAs : A.size = G * i.size := by
            rw [hA]
            simp only [Array.size_append, List.size_toArray, List.length_nil, size_zeroCells, hzc, r2]
            rw [Nat.zero_add, ← Nat.add_mul, Nat.add_sub_cancel' hge]
          have hAg : ∀ j v, news[j]? = some v → A[j]? = some v := fun j v hv => by
            have := (List.getElem?_eq_some_iff.1 hv).1
            rw [hA, Array.getElem?_append_left (by simpa using this)]
            simpa using hv
          have hkl : k * i.size ≤ G * i.size := Nat.mul_le_mul_right _ hge
          obtain ⟨h1, h2⟩ := HRel.new (w' := w.drew.alloc (.cells A el)) (o := .cells false new) hr hn (G * i.size) rfl ⟨rfl, rfl, rfl⟩
            ⟨⟨w.heap.size, 0, _⟩, A, el, (0, 0), Mu.put_same _ _ _, heap_alloc_new w.drew _, hAs, by simp; omega, fun j xx hxx => by
              obtain ⟨v, hv, hvr⟩ := VRels.nth (VRels.mono (Mu.le_put ⟨w.heap.size, 0, G * i.size⟩ hn) _ _ r1) hxx
              exact ⟨v, by rw [Nat.zero_add]; exact hAg j v hv, hvr⟩, fun _ j _ => by simp⟩
          exact ⟨_, _, _, .inl (by rw [hrun]; rfl), ⟨_, 0, _, Mu.put_same _ _ _, rfl, hge, by simp, .inl (by simp)⟩, h1, h2, fun b hb => Mu.put_ne _ _ hb⟩
      · trivial
    · rename_i b off len e
      split
      · rename_i he
        have he := Nat.eq_of_beq_eq_true he
        subst he
        split
        · rename_i hroom
          have hroom : roomy i.bytes (len + k) = true := hroom
          obtain ⟨l, o, cap, hl, rfl, g1, g2, g3⟩ := hx
          refine ⟨fun hk0 => ⟨fun hd => by (cases hd), fun b2 off2 len2 hd => ?_⟩, fun hk0 hn new hnew hall => ⟨fun hd => by (cases hd), fun b2 off2 len2 cs old hd hg hold => ?_⟩⟩
          · cases hd
            subst hk0
            have := run_append_fits (P := P) (w := w) (ty := ty) u1 u2 hi (some ⟨l.blk, o, none⟩) len cap yb 0 yc [] (by omega) (h0 rfl w)
            refine same_v (v' := .slice (some ⟨l.blk, o, none⟩) len cap) (by rw [this]; simp [storeCells, Result.andThen]) ⟨l, o, cap, hl, rfl, g1, g2, g3⟩
          · cases hd
            obtain ⟨news, r1, r2, r3⟩ := hsc k new (Nat.le_refl _) hnew
            have hnl := VRels.length r1
            obtain ⟨l', c, el', fz, hl', hw, o1, o2, o3, o4⟩ := hr.obj b _ hg
            rw [hl] at hl'; cases hl'
            obtain ⟨t1, t2'⟩ := takeN_some hold
            by_cases hfit : len + k ≤ cap
            · -- in its place
              have hcap0 : cap ≠ 0 := by omega
              have hoff : o = l.base + off := by rcases g3 with g3 | g3 <;> omega
              subst hoff
              have hle : (len + k) * i.size ≤ cap * i.size := Nat.mul_le_mul_right _ hfit
              rw [Nat.add_mul] at hle
              obtain ⟨c', a1, a2, a3⟩ := run_storeCells (P := P) (el := el') (fz := fz) news 0 (l.base + off + len * i.size) w c hw (by omega) (o4 rfl) (okCells_of hall r1)
              have hrun := run_append_fits (P := P) (w := w) (ty := ty) u1 u2 hi (some ⟨l.blk, l.base + off, none⟩) len cap yb k yc news hfit (r3 w rfl)
              simp only [addr_add, a3, Result.andThen] at hrun
              have hlt : l.blk < w.heap.size := (Array.getElem?_eq_some_iff.1 hw).1
              obtain ⟨h1, h2⟩ := HRel.renew (w' := { w with heap := w.heap.setIfInBounds l.blk (.cells c' el' fz) }) (o2 := .cells false (old ++ new)) (l2 := ⟨l.blk, l.base + off, l.size⟩) hr hg rfl hl hn rfl
                (fun β hβ => by simp [Array.getElem?_setIfInBounds_ne (Ne.symm hβ)]) (by simp) ⟨rfl, rfl, rfl⟩
                ⟨⟨l.blk, l.base + off, l.size⟩, c', el', fz, Mu.put_same _ _ _, by simp [hlt], by simpa [a1] using o1, by simp; omega, fun j xx hxx => by
                  rw [a2 (l.base + off + j)]
                  rw [nth_eq] at hxx
                  by_cases hj : j < len * i.size
                  · rw [List.getElem?_append_left (by omega), ← nth_eq, t2' j hj, nth_dropN] at hxx
                    rw [if_neg (by omega)]
                    obtain ⟨v, hv, hvr⟩ := o3 _ _ hxx
                    exact ⟨v, by rw [Nat.add_assoc]; exact hv, VRel.mono (Mu.le_put _ hn) _ _ hvr⟩
                  · rw [List.getElem?_append_right (by omega), ← nth_eq] at hxx
                    obtain ⟨v, hv, hvr⟩ := VRels.nth (VRels.mono (Mu.le_put ⟨l.blk, l.base + off, l.size⟩ hn) _ _ r1) hxx
                    have := (List.getElem?_eq_some_iff.1 hv).1
                    rw [if_pos (by omega)]
                    exact ⟨v, by rw [show l.base + off + j - (l.base + off + len * i.size + 0) = j - old.length by omega]; exact hv, hvr⟩, fun _ j hj => o4 rfl j (by omega)⟩
              exact ⟨_, _, _, .inl (by rw [hrun]; rfl), ⟨⟨l.blk, l.base + off, l.size⟩, l.base + off, cap, Mu.put_same _ _ _, rfl, hfit, g2, .inl rfl⟩, h1, h2, fun b hb => Mu.put_ne _ _ hb⟩
            · -- in a new array
              obtain ⟨c1, c2⟩ := roomy_cap (cap := cap) hroom (by omega)
              obtain ⟨lb, cb, elb, fzb, hlb, hwb, hsb, olds, hol1, hol2, hol3⟩ := readCells_rel (n := len * i.size) (off := off) (hr.obj b _ hg) (by simpa [readCells] using hold)
              rw [hl] at hlb; cases hlb
              rw [hw] at hwb; cases hwb
              have hfo : ∀ w2 : World, w2.heap = w.heap → (Builtin.firstCells i.size len (.slice (some ⟨l.blk, o, none⟩) len cap)).run P w2 = .ok olds.toArray w2 := fun w2 hw2 => by
                rcases g3 with g3 | g3
                · have := run_loadCells_at (P := P) (w := w2) (by rw [hw2]; exact hw) (off := l.base + off) olds hol3
                  rw [hol1] at this
                  simp only [Builtin.firstCells, g3, this]
                · have hk : len = 0 := by omega
                  subst hk
                  have hvs : olds = [] := List.length_eq_zero_iff.1 (by omega)
                  subst hvs
                  simp [Builtin.firstCells, loadCells, loadCellsFrom]
              have hrun := run_append_grows (P := P) (w := w) (ty := ty) u1 u2 hi hiz (some ⟨l.blk, o, none⟩) len cap yb k yc olds news (by omega) (by rw [e63] at c2; omega) (by simpa using c1) hfo r3
              have hge := grownCap_ge w (len + k) cap el
              obtain ⟨G, hG⟩ : ∃ G, G = grownCap w (len + k) cap el := ⟨_, rfl⟩
              rw [← hG] at hrun hge
              have hold2 := VRels.length hol2
              obtain ⟨s1, s2⟩ := HRel.sub (h' := hdel h b) hr fun b' o' hg' => (hget_hdel_some hg').2
              obtain ⟨A, hA⟩ : ∃ A : Array Value, A = olds.toArray ++ news.toArray ++ Builtin.zeroCells zv.cells (G - (len + k)) := ⟨_, rfl⟩
              rw [← hA] at hrun
              have hAs : A.size = G * i.size := by
                rw [hA]
                simp only [Array.size_append, List.size_toArray, size_zeroCells, hzc, r2, hol1]
                rw [← Nat.add_mul, ← Nat.add_mul, Nat.add_sub_cancel' hge]
              have hAg : ∀ j v, (olds ++ news)[j]? = some v → A[j]? = some v := fun j v hv => by
                have := (List.getElem?_eq_some_iff.1 hv).1
                rw [hA, Array.getElem?_append_left (by simpa using this)]
                simpa using hv
              have hkl : (len + k) * i.size ≤ G * i.size := Nat.mul_le_mul_right _ hge
              rw [Nat.add_mul] at hkl
              obtain ⟨h1, h2⟩ := HRel.new (w' := w.drew.alloc (.cells A el)) (o := .cells false (old ++ new)) s1 hn (G * i.size) rfl ⟨rfl, rfl, rfl⟩
                ⟨⟨w.heap.size, 0, _⟩, A, el, (0, 0), Mu.put_same _ _ _, heap_alloc_new w.drew _, hAs, by simp; omega, fun j xx hxx => by
                  obtain ⟨v, hv, hvr⟩ := VRels.nth (VRels.mono (Mu.le_put ⟨w.heap.size, 0, G * i.size⟩ hn) _ _ (VRels.append hol2 r1)) hxx
                  exact ⟨v, by rw [Nat.zero_add]; exact hAg j v hv, hvr⟩, fun _ j _ => by simp⟩
              exact ⟨_, _, _, .inl (by rw [hrun]; rfl), ⟨_, 0, _, Mu.put_same _ _ _, rfl, hge, by simp, .inl (by simp)⟩, h1, s2.trans h2, fun b hb => Mu.put_ne _ _ hb⟩
        · trivial
      · trivial
    · trivial
end
end Go.Absm

/- The abstract machine: its operations stand for the model's: equality, maps. -/
namespace Go.Absm
open Go
section
variable {P : Program} {μ : Mu} {h : Heap} {w : World} {n : Nat}

theorem partV_run {t : TypeId} {a : Option Nat} {o : Nat} {cs : List AVal} {c : Array Value} {x : AVal} (hk : isAggT P t = some a) (hc : VRels μ cs c.toList) (hx : partV a o cs = some x) :
    ∃ v, (∀ w : World, (part t c o).run P w = .ok v w) ∧ VRel μ x v := by
  have key : ∀ w : World, ∃ v, (part t c o).run P w = .ok v w ∧ VRel μ x v := fun w => by
    have := same_part (P := P) (h := []) (n := 0) (w := w) (o := o) hk hc
    unfold partV at hx
    unfold partOf at this
    split at hx
    · simp only [hx] at this
      obtain ⟨v, hv, hr⟩ := this
      refine ⟨v, ?_, hr⟩
      revert hv
      cases (part t c o).run P w <;> simp [vres]
    · split at hx
      · rename_i hl
        cases hx
        simp only [hl] at this
        obtain ⟨v, hv, hr⟩ := this
        refine ⟨v, ?_, hr⟩
        revert hv
        cases (part t c o).run P w <;> simp [vres]
      · cases hx
  obtain ⟨v, hv, hr⟩ := key (default : World)
  refine ⟨v, fun w2 => ?_, hr⟩
  -- part does not look at the world
  revert hv
  cases a with
  | none =>
    simp only [part, Sem.run_bind, run_isAgg_none hk, Result.andThen, Bool.false_eq_true, if_false]
    cases c[o]? with
    | none => simp [stuck]
    | some u => simp
  | some m =>
    simp only [part, Sem.run_bind, (run_isAgg_some hk _).1, (run_isAgg_some hk _).2, Result.andThen, if_true, Sem.run_pure, Result.ok.injEq]
    exact fun e => ⟨e.1, trivial⟩

theorem eqBool_run {t : TypeId} {x y : AVal} {x' y' : Value} {r : Bool} (ht : und P t = some .bool) (hx : VRel μ x x') (hy : VRel μ y y') (hr : eqBool x y = some r) (d : Nat) (w : World) :
    (Op.equalIn (d + 1) t x' y').run P w = .ok r w := by
  unfold eqBool at hr
  split at hr
  · rename_i a b
    cases hr; cases hx; cases hy
    rw [run_equalIn_bool' w d t a b (und_of ht)]
    cases a <;> cases b <;> rfl
  · cases hr
theorem eqInt_run {t : TypeId} {k : IntKind} {x y : AVal} {x' y' : Value} {r : Bool} (ht : und P t = some (.int k)) (hx : VRel μ x x') (hy : VRel μ y y') (hr : eqInt x y = some r) (d : Nat) (w : World) :
    (Op.equalIn (d + 1) t x' y').run P w = .ok r w := by
  unfold eqInt at hr
  split at hr
  · split at hr
    · rename_i hk
      have hk := eqKind hk
      subst hk
      cases hr; cases hx; cases hy
      rw [run_equalIn_int w d t _ k _ _ (und_of ht), eqI_eq]
    · cases hr
  · cases hr
theorem eqStr_run {t : TypeId} {x y : AVal} {x' y' : Value} {r : Bool} (ht : und P t = some .string) (hx : VRel μ x x') (hy : VRel μ y y') (hr : eqStr x y = some r) (d : Nat) (w : World) :
    (Op.equalIn (d + 1) t x' y').run P w = .ok r w := by
  unfold eqStr at hr
  split at hr
  · cases hr
    obtain ⟨a, rfl, ha⟩ := hx
    obtain ⟨b, rfl, hb⟩ := hy
    rw [run_equalIn_string w d t a b (und_of ht), ByteArray.toList_eq, ByteArray.toList_eq, ← ha, ← hb, eqL_eq]
    by_cases e : a.data.toList = b.data.toList
    · rw [e]; simp
    · have h1 : a.data.toList.map (·.toNat) ≠ b.data.toList.map (·.toNat) := fun h => e (map_toNat_inj.1 h)
      rw [beq_false_of_ne h1, beq_false_of_ne e]
  · cases hr

theorem und_info {t : TypeId} {s : Nat} (h : szOf P t = some s) : ∃ i, P.info? t = some i ∧ P.cellsOf t = s := by
  unfold szOf at h
  cases hi : P.types[t]? with
  | none => simp [hi] at h
  | some i =>
    simp [hi] at h
    have := info_of hi
    exact ⟨i, this, by simp [Program.cellsOf, this, h]⟩

/-- the parts, one by one -/
theorem eqFields_run {d m : Nat} (ih : ∀ (t : TypeId) (D : EqD), descOf P m t = some D → ∀ (x y : AVal) (x' y' : Value) (r : Bool), VRel μ x x' → VRel μ y y' → eqD D x y = some r → ∀ w : World, (Op.equalIn d t x' y').run P w = .ok r w)
    {xs ys : List AVal} {c c' : Array Value} (hx : VRels μ xs c.toList) (hy : VRels μ ys c'.toList) : ∀ (fs : List Field) (l : List (Nat × Option Nat × EqD)) (r : Bool),
    fs.mapM (fun f => match f.name != "_", isAggT P f.type, descOf P m f.type with
          | true, some a, some d => some (f.offset, a, d)
          | _, _, _ => none) = some l → eqDs l xs ys = some r → ∀ w : World, (Op.eqFields d c c' fs).run P w = .ok r w
  | [], l, r, hl, hr, w => by
    simp at hl; subst hl
    simp [eqDs] at hr; subst hr
    simp [Op.eqFields]
  | f :: fs, l, r, hl, hr, w => by
    rw [List.mapM_cons] at hl
    simp only [bind, Option.bind_eq_some_iff, pure, Option.some.injEq] at hl
    obtain ⟨e, he, l', hl', rfl⟩ := hl
    split at he
    · rename_i a D hn ha hD
      cases he
      simp only [eqDs] at hr
      split at hr
      · rename_i u v hu hv
        obtain ⟨u', hu1, hu2⟩ := partV_run ha hx hu
        obtain ⟨v', hv1, hv2⟩ := partV_run ha hy hv
        have hname : f.name ≠ "_" := by simpa using hn
        cases hq : eqD D u v with
        | none => simp [hq] at hr
        | some q =>
          have hrun := ih f.type D hD u v u' v' q hu2 hv2 hq w
          simp only [Op.eqFields, hname, ne_eq, not_false_eq_true, if_true, Sem.run_bind, hu1, hv1, Result.andThen_ok, hrun]
          cases q
          · simp [hq] at hr; subst hr; simp
          · simp only [hq] at hr
            simpa using eqFields_run ih hx hy fs l' r hl' hr w
      · cases hr
    · cases he
theorem eqItems_run {d m k s : Nat} {e : TypeId} {a : Option Nat} {D : EqD} (ih : ∀ (x y : AVal) (x' y' : Value) (r : Bool), VRel μ x x' → VRel μ y y' → eqD D x y = some r → ∀ w : World, (Op.equalIn d e x' y').run P w = .ok r w)
    (ha : isAggT P e = some a) {xs ys : List AVal} {c c' : Array Value} (hx : VRels μ xs c.toList) (hy : VRels μ ys c'.toList) : ∀ (is : List Nat) (r : Bool),
    eqDs (is.map fun i => (i * s, a, D)) xs ys = some r → ∀ w : World, (Op.eqItems d e s c c' is).run P w = .ok r w
  | [], r, hr, w => by simp [eqDs] at hr; subst hr; simp [Op.eqItems]
  | i :: is, r, hr, w => by
    simp only [List.map_cons, eqDs] at hr
    split at hr
    · rename_i u v hu hv
      obtain ⟨u', hu1, hu2⟩ := partV_run ha hx hu
      obtain ⟨v', hv1, hv2⟩ := partV_run ha hy hv
      cases hq : eqD D u v with
      | none => simp [hq] at hr
      | some q =>
        have hrun := ih u v u' v' q hu2 hv2 hq w
        simp only [Op.eqItems, Sem.run_bind, hu1, hv1, Result.andThen_ok, hrun]
        cases q
        · simp [hq] at hr; subst hr; simp
        · simp only [hq] at hr
          simpa using eqItems_run (m := m) (k := k) ih ha hx hy is r hr w
    · cases hr

theorem eqD_run : ∀ (m d : Nat) (t : TypeId) (D : EqD), descOf P m t = some D → ∀ (x y : AVal) (x' y' : Value) (r : Bool), VRel μ x x' → VRel μ y y' → eqD D x y = some r →
    ∀ w : World, (Op.equalIn (d + m) t x' y').run P w = .ok r w
  | 0, _, _, _, hD, _, _, _, _, _, _, _, _ => by simp [descOf] at hD
  | m + 1, d, t, D, hD, x, y, x', y', r, hx, hy, hr => fun w => by
    unfold descOf at hD
    split at hD
    · rename_i hu; cases hD; exact eqBool_run hu hx hy (by simpa [eqD] using hr) (d + m) w
    · rename_i hu; cases hD; exact eqInt_run hu hx hy (by simpa [eqD] using hr) (d + m) w
    · rename_i hu; cases hD; exact eqStr_run hu hx hy (by simpa [eqD] using hr) (d + m) w
    · rename_i fs hu
      split at hD
      · cases hD
      · rename_i hst
        split at hD
        · rename_i l hl
          cases hD
          simp only [eqD] at hr
          split at hr
          · obtain ⟨c, rfl, hc⟩ := hx
            obtain ⟨c', rfl, hc'⟩ := hy
            have hfo : P.fieldsOf t = fs := by simp [Program.fieldsOf, und_of hu]
            rw [show d + (m + 1) = (d + m) + 1 from rfl, run_equalIn_struct w (d + m) t c c' (by rw [hfo]; exact und_of hu) hst, hfo]
            exact eqFields_run (fun t D hD => eqD_run m d t D hD) hc hc' fs.toList l r hl hr w
          · cases hr
        · cases hD
    · rename_i k e hu
      split at hD
      · rename_i s a D' hs ha hD'
        cases hD
        simp only [eqD] at hr
        split at hr
        · obtain ⟨c, rfl, hc⟩ := hx
          obtain ⟨c', rfl, hc'⟩ := hy
          obtain ⟨i, hi, hcs⟩ := und_info hs
          rw [show d + (m + 1) = (d + m) + 1 from rfl, run_equalIn_array w (d + m) c c' (und_of hu) hi, hcs]
          exact eqItems_run (m := m) (k := k) (fun x y x' y' r => eqD_run m d e D' hD' x y x' y' r) ha hc hc' _ r hr w
        · cases hr
      · cases hD
    · cases hD

end
end Go.Absm

/- The abstract machine: its operations stand for the model's: maps, texts, the rest. -/
namespace Go.Absm
open Go
section
variable {P : Program} {μ : Mu} {h : Heap} {w : World} {n : Nat}

theorem eqD_kind : ∀ {m : Nat} {t : TypeId} {D : EqD}, descOf P m t = some D → ∃ d, und P t = some d
  | 0, _, _, h => by simp [descOf] at h
  | m + 1, t, D, h => by
    unfold descOf at h
    cases hu : und P t with
    | none => simp [hu] at h
    | some d => exact ⟨d, rfl⟩

theorem partV_some_left {e : Nat × Option Nat × EqD} {r : List (Nat × Option Nat × EqD)} {xs : List AVal} {q : Bool} (h : eqDs (e :: r) xs xs = some q) :
    ∃ u p, partV e.2.1 e.1 xs = some u ∧ eqD e.2.2 u u = some p ∧ (p = true → eqDs r xs xs = some q) := by
  simp only [eqDs] at h
  split at h
  · rename_i u v hu hv
    rw [hu] at hv; cases hv
    cases hq : eqD e.2.2 u u with
    | none => simp [hq] at h
    | some p => exact ⟨u, p, hu, hq, fun hp => by subst hp; simpa [hq] using h⟩
  · cases h

mutual
/-- a value is as it is -/
theorem eqD_refl : ∀ (D : EqD) (x : AVal) (q : Bool), eqD D x x = some q → q = true
  | .b, x, q, h => by
    simp only [eqD] at h
    unfold eqBool at h
    cases x <;> simp at h
    rename_i b; cases b <;> simp [notB] at h <;> exact h
  | .i, x, q, h => by
    simp only [eqD] at h
    unfold eqInt at h
    cases x <;> simp at h
    rw [← h, eqI_eq]; simp
  | .s, x, q, h => by
    simp only [eqD] at h
    unfold eqStr at h
    cases x <;> simp at h
    rw [← h, eqL_eq]; simp
  | .agg l, x, q, h => by
    cases x <;> simp only [eqD] at h
    case agg xs => exact eqDs_refl l xs q h
    all_goals cases h
theorem eqDs_refl : ∀ (l : List (Nat × Option Nat × EqD)) (xs : List AVal) (q : Bool), eqDs l xs xs = some q → q = true
  | [], xs, q, h => by simp [eqDs] at h; exact h
  | (o, a, D) :: r, xs, q, h => by
    obtain ⟨u, p, _, hp, hr⟩ := partV_some_left h
    exact eqDs_refl r xs q (hr (eqD_refl D u p hp))
end

theorem checkKey_run : ∀ (m d : Nat) (em : Bool) (t : TypeId) (D : EqD), descOf P m t = some D → ∀ (x : AVal) (x' : Value) (q : Bool), VRel μ x x' → eqD D x x = some q →
    ∀ w : World, (Instr.checkKey em (d + m) t x').run P w = .ok () w
  | 0, _, _, _, _, hD, _, _, _, _, _ => by simp [descOf] at hD
  | m + 1, d, em, t, D, hD, x, x', q, hx, hr => fun w => by
    unfold descOf at hD
    split at hD
    · rename_i hu
      rw [show d + (m + 1) = (d + m) + 1 from rfl]
      simp only [Instr.checkKey, Sem.run_bind, run_und hu, Result.andThen]
      simp
    · rename_i hu
      rw [show d + (m + 1) = (d + m) + 1 from rfl]
      simp only [Instr.checkKey, Sem.run_bind, run_und hu, Result.andThen]
      simp
    · rename_i hu
      rw [show d + (m + 1) = (d + m) + 1 from rfl]
      simp only [Instr.checkKey, Sem.run_bind, run_und hu, Result.andThen]
      simp
    · rename_i fs hu
      split at hD
      · cases hD
      · split at hD
        · rename_i l hl
          cases hD
          cases x <;> simp only [eqD] at hr
          case agg xs =>
            obtain ⟨c, rfl, hc⟩ := hx
            rw [show d + (m + 1) = (d + m) + 1 from rfl, Instr.checkKey]
            simp only [Sem.run_bind, run_und hu, Result.andThen_ok]
            rw [← Array.forIn_toList]
            generalize fs.toList = L at hl
            clear hu
            induction L generalizing l q with
            | nil => simp
            | cons f L ihL =>
              rw [List.mapM_cons] at hl
              simp only [bind, Option.bind_eq_some_iff, pure, Option.some.injEq] at hl
              obtain ⟨e, he, l', hl', rfl⟩ := hl
              split at he
              · rename_i a D hn ha hD
                cases he
                obtain ⟨u, p, hu, hp, hrest⟩ := partV_some_left hr
                have hpt := eqD_refl D u p hp
                obtain ⟨u', hu1, hu2⟩ := partV_run ha hc hu
                have hname : f.name ≠ "_" := by simpa using hn
                have h1 := checkKey_run m d em f.type D hD u u' p hu2 hp w
                simp only [List.forIn_cons, Sem.run_bind, hname, ne_eq, not_false_eq_true, if_true, hu1, Result.andThen_ok, h1, Sem.run_pure]
                exact ihL q l' (hrest hpt) hl'
              · cases he
          all_goals cases hr
        · cases hD
    · rename_i k e hu
      split at hD
      · rename_i s a D' hs ha hD'
        cases hD
        cases x <;> simp only [eqD] at hr
        case agg xs =>
          obtain ⟨c, rfl, hc⟩ := hx
          rw [show d + (m + 1) = (d + m) + 1 from rfl, Instr.checkKey]
          simp only [Sem.run_bind, run_und hu, Result.andThen_ok]
          simp only [Std.Legacy.Range.forIn_eq_forIn_range', Std.Legacy.Range.size, Nat.sub_zero, Nat.add_one_sub_one, Nat.div_one]
          rw [List.range_eq_range'] at hr
          generalize List.range' 0 k = L at hr
          clear hu
          induction L generalizing q with
          | nil => simp
          | cons j L ihL =>
            obtain ⟨u, p, hu, hp, hrest⟩ := partV_some_left hr
            have hpt := eqD_refl D' u p hp
            obtain ⟨u', hu1, hu2⟩ := partV_run ha hc hu
            have h1 := checkKey_run m d em e D' hD' u u' p hu2 hp w
            simp only [List.forIn_cons, Sem.run_bind, run_szOf hs, Result.andThen_ok, hu1, h1, Sem.run_pure]
            exact ihL q (hrest hpt)
        all_goals cases hr
      · cases hD
    · cases hD

theorem findAsking_run {kt : TypeId} {D : EqD} (hD : descOf P 9 kt = some D) {k : AVal} {k' : Value} (hk : VRel μ k k') : ∀ (es : List (AVal × AVal)) (l : List MapEntry) (i : Nat) (r : Option AVal),
    ERel μ es l → findK D k es = some r → ∀ w : World, match r with
      | none => (Instr.findAsking kt k' l i).run P w = .ok none w
      | some v => ∃ j v' m, (Instr.findAsking kt k' l i).run P w = .ok (some (j, v')) w ∧ VRel μ v v' ∧ i ≤ j ∧ l[j - i]? = some m ∧ m.val = v'
  | [], l, i, r, he, hf, w => by
    simp [findK] at hf; subst hf
    simp [ERel] at he; subst he
    simp [Instr.findAsking]
  | e :: es, l, i, r, ⟨m, ms, hl, h1, h2, h3⟩, hf, w => by
    subst hl
    simp only [findK] at hf
    have heq : ∀ q, eqD D k e.1 = some q → (Op.equal kt k' m.key).run P w = .ok q w := fun q hq => by
      have := eqD_run (P := P) 9 9991 kt D hD k e.1 k' m.key q hk h1 hq w
      exact this
    cases hq : eqD D k e.1 with
    | none => simp [hq] at hf
    | some q =>
      have hrun := heq q hq
      cases q
      · simp only [hq] at hf
        have ih := findAsking_run hD hk es ms (i + 1) r h3 hf w
        simp only [Instr.findAsking, Sem.run_bind, hrun, Result.andThen_ok, Bool.false_eq_true, if_false]
        cases r with
        | none => exact ih
        | some v =>
          obtain ⟨j, v', m', a1, a2, a3, a4, a5⟩ := ih
          exact ⟨j, v', m', a1, a2, by omega, by rw [show j - i = (j - (i + 1)) + 1 by omega]; simpa using a4, a5⟩
      · simp only [hq] at hf
        cases hf
        exact ⟨i, m.val, m, by simp only [Instr.findAsking, Sem.run_bind, hrun, Result.andThen_ok, if_true, Sem.run_pure], h2, Nat.le_refl _, by simp, rfl⟩

theorem findNow_asking {kt : TypeId} {d : TypeDesc} (hd : P.underlying kt = some d) {k' : Value} : ∀ (l : List MapEntry) (i : Nat) (r : Option (Nat × Value)), Instr.findNow d k' l i = some r →
    ∀ w : World, (Instr.findAsking kt k' l i).run P w = .ok r w
  | [], i, r, hf, w => by simp [Instr.findNow] at hf; subst hf; simp [Instr.findAsking]
  | m :: l, i, r, hf, w => by
    simp only [Instr.findNow] at hf
    have key : ∀ (mk : Value) (q : Bool), Instr.sameNow d k' mk = some q → (Op.equal kt k' mk).run P w = .ok q w := fun mk q hq => by
      unfold Instr.sameNow at hq
      split at hq
      · split at hq
        · rename_i hkk
          subst hkk
          cases hq
          exact run_equalIn_int w 9999 kt _ _ _ _ hd
        · cases hq
      · cases hq
        rename_i a b
        have := run_equalIn_string w 9999 kt a b hd
        rw [← beq_toListBytes] at this
        exact this
      · cases hq
        exact run_equalIn_bool' w 9999 kt _ _ hd
      · cases hq
    cases hq : Instr.sameNow d k' m.key with
    | none => simp [hq] at hf
    | some q =>
      have hrun := key m.key q hq
      cases q
      · simp only [hq] at hf
        simp only [Instr.findAsking, Sem.run_bind, hrun, Result.andThen_ok, Bool.false_eq_true, if_false]
        exact findNow_asking hd l (i + 1) r hf w
      · simp only [hq] at hf
        cases hf
        simp only [Instr.findAsking, Sem.run_bind, hrun, Result.andThen_ok, if_true, Sem.run_pure]
theorem findKey_run {kt : TypeId} {D : EqD} (hD : descOf P 9 kt = some D) {k : AVal} {k' : Value} (hk : VRel μ k k') {es : List (AVal × AVal)} {l : List MapEntry} {r : Option AVal}
    (he : ERel μ es l) (hf : findK D k es = some r) (w : World) : match r with
      | none => (Instr.findKey kt k' l).run P w = .ok none w
      | some v => ∃ j v' m, (Instr.findKey kt k' l).run P w = .ok (some (j, v')) w ∧ VRel μ v v' ∧ l[j]? = some m ∧ m.val = v' := by
  obtain ⟨d, hd⟩ := eqD_kind hD
  have hask := findAsking_run (P := P) hD hk es l 0 r he hf w
  have heq : ∀ q w2, (Instr.findAsking kt k' l 0).run P w = .ok q w2 → (Instr.findKey kt k' l).run P w = .ok q w2 := fun q w2 hq => by
    simp only [Instr.findKey, Sem.run_bind, run_und hd, Result.andThen_ok]
    cases hn : Instr.findNow d k' l 0 with
    | none => exact hq
    | some q' =>
      have := findNow_asking (P := P) (und_of hd) l 0 q' hn w
      rw [this] at hq
      cases hq
      simp
  cases r with
  | none => exact heq _ _ hask
  | some v =>
    obtain ⟨j, v', m, a1, a2, _, a4, a5⟩ := hask
    exact ⟨j, v', m, heq _ _ a1, a2, by simpa using a4, a5⟩

theorem isKey_run {kt : TypeId} {D : EqD} (hD : descOf P 9 kt = some D) {k : AVal} {k' : Value} (hk : VRel μ k k') (h : isKey D k = true) (em : Bool) (w : World) : (Instr.checkKey em 10000 kt k').run P w = .ok () w := by
  unfold isKey at h
  split at h
  · rename_i q hq
    exact checkKey_run (P := P) 9 9991 em kt D hD k k' q hk hq w
  · cases h

theorem ok_lookup {t kt el : TypeId} {D : EqD} {z m i : AVal} {m' i' : Value} {ok : Bool} (hr : HRel μ h w) (hu : und P t = some (.map kt el)) (hD : descOf P 9 kt = some D) (hz : zeroOf P el = some z) (hm : VRel μ m m') (hi : VRel μ i i') :
    EffOk P μ h w n (vres ((Instr.lookup t m' i' ok).run P w)) (fLookup D z ok [m, i]) := by
  obtain ⟨zv, hzv, hzr⟩ := zeroOf_run hz w
  simp only [fLookup]
  split
  · rename_i hkey
    have hfound : ∀ (v : AVal) (v' : Value) (b : Bool), VRel μ v v' → VRel μ (found ok v b) (if ok then .tuple #[v', .bool b] else v') := fun v v' b hv => by
      cases ok
      · exact hv
      · exact ⟨#[v', .bool b], rfl, v', _, rfl, hv, .bool b, _, rfl, rfl, rfl⟩
    split
    · cases hm
      refine same_v (v' := if ok then .tuple #[zv, .bool false] else zv) ?_ (hfound z zv false (hzr μ))
      have hfn : ∀ w : World, (Instr.findKey kt i' []).run P w = .ok none w := fun w => by
        obtain ⟨d, hd⟩ := eqD_kind hD
        simp [Instr.findKey, run_und hd, Instr.findNow]
      simp only [Instr.lookup, Sem.run_bind, run_und hu, Result.andThen_ok, Sem.run_pure, isKey_run hD hi hkey, hfn, hzv]
    · rename_i b
      intro o v hg hk
      unfold kLookup at hk
      split at hk
      · rename_i es
        obtain ⟨l, hl, hl0, rfl⟩ := hm
        obtain ⟨l', es', clock, hl', _, hw, he⟩ := hr.obj b _ hg
        rw [hl] at hl'; cases hl'
        have hgo : (getObj l.blk).run P w = .ok (.map es' clock) w := by simp [getObj, Sem.run, hw]
        split at hk
        · rename_i v0 hf
          cases hk
          obtain ⟨j, v', mm, a1, a2, _, _⟩ := findKey_run (P := P) hD hi he hf w
          refine same_v (v' := if ok then .tuple #[v', .bool true] else v') ?_ (hfound v0 v' true a2)
          simp only [Instr.lookup, Sem.run_bind, run_und hu, Result.andThen_ok, hgo, Sem.run_pure, isKey_run hD hi hkey, a1]
        · rename_i hf
          cases hk
          have a1 := findKey_run (P := P) hD hi he hf w
          refine same_v (v' := if ok then .tuple #[zv, .bool false] else zv) ?_ (hfound z zv false (hzr μ))
          simp only [Instr.lookup, Sem.run_bind, run_und hu, Result.andThen_ok, hgo, Sem.run_pure, isKey_run hD hi hkey, a1, hzv]
        · cases hk
      · cases hk
    · trivial
  · trivial
end
end Go.Absm

/- The abstract machine: its operations stand for the model's: map updates, texts by characters, the rest. -/
namespace Go.Absm
open Go
section
variable {P : Program} {μ : Mu} {h : Heap} {w : World} {n : Nat}

theorem samePrim_val {x y : AVal} {v u : Value} (hs : samePrim x y = true) (hx : VRel μ x v) (hy : VRel μ y u) : v = u ∧ (∀ d, Instr.sameBits d v v = true) := by
  unfold samePrim at hs
  split at hs
  · rename_i a b
    cases hx; cases hy
    cases a <;> cases b <;> simp [notB] at hs <;> exact ⟨rfl, fun d => by cases d <;> rfl⟩
  · split at hs
    · rename_i hk
      have hk := eqKind hk
      subst hk
      rw [eqI_eq] at hs
      have := eq_of_beq hs
      subst this
      cases hx; cases hy
      exact ⟨rfl, fun d => by cases d <;> simp [Instr.sameBits]⟩
    · cases hs
  · rw [eqL_eq] at hs
    have := eq_of_beq hs
    subst this
    obtain ⟨a, rfl, ha⟩ := hx
    obtain ⟨b, rfl, hb⟩ := hy
    rw [← hb] at ha
    have h1 := map_toNat_inj.1 ha
    have : a = b := by cases a; cases b; simp at h1; simp [h1]
    subst this
    exact ⟨rfl, fun d => by cases d <;> simp only [Instr.sameBits] <;> exact (MapKept.bytes_beq _ _).2 rfl⟩
  · cases hs
theorem samePrims_val : ∀ {x y : List AVal} {v u : List Value}, samePrims x y = true → VRels μ x v → VRels μ y u → v = u ∧ (∀ d, ∀ z ∈ v, Instr.sameBits d z z = true)
  | [], [], _, _, _, e1, e2 => by simp [VRels] at e1 e2; subst e1; subst e2; exact ⟨rfl, by simp⟩
  | [], _ :: _, _, _, h, _, _ => by simp [samePrims] at h
  | _ :: _, [], _, _, h, _, _ => by simp [samePrims] at h
  | a :: x, b :: y, _, _, h, ⟨v, vs, e1, hv, hvs⟩, ⟨u, us, e2, hu, hus⟩ => by
    subst e1; subst e2
    simp only [samePrims] at h
    cases hp : samePrim a b with
    | false => simp [hp] at h
    | true =>
      simp only [hp] at h
      obtain ⟨e, hb⟩ := samePrim_val hp hv hu
      obtain ⟨e', hb'⟩ := samePrims_val h hvs hus
      subst e; subst e'
      exact ⟨rfl, fun d z hz => by simp at hz; rcases hz with rfl | hz; exact hb d; exact hb' d z hz⟩
theorem zip_self : ∀ (l : List Value) (p : Value × Value), p ∈ l.zip l → ∃ z ∈ l, p = (z, z)
  | [], p, hp => by simp at hp
  | y :: l, p, hp => by
    simp at hp
    rcases hp with rfl | hp
    · exact ⟨y, by simp, rfl⟩
    · obtain ⟨z, hz, e⟩ := zip_self l p hp
      exact ⟨z, by simp [hz], e⟩
theorem sameA_val {x y : AVal} {v u : Value} (hs : sameA x y = true) (hx : VRel μ x v) (hy : VRel μ y u) : v = u ∧ (∀ d, Instr.sameBits (d + 1) v v = true) := by
  unfold sameA at hs
  split at hs
  · obtain ⟨a, rfl, ha⟩ := hx
    obtain ⟨b, rfl, hb⟩ := hy
    obtain ⟨e, hb'⟩ := samePrims_val hs ha hb
    have : a = b := Array.ext' e
    subst this
    refine ⟨rfl, fun d => ?_⟩
    simp only [Instr.sameBits, beq_self_eq_true, Bool.true_and, List.all_eq_true]
    intro p hp
    obtain ⟨z, hz, rfl⟩ := zip_self a.toList p hp
    exact hb' d z hz
  · obtain ⟨e, hb⟩ := samePrim_val hs hx hy
    exact ⟨e, fun d => hb (d + 1)⟩

theorem updK_rel {kt : TypeId} {D : EqD} (hD : descOf P 9 kt = some D) {k v : AVal} {k' v' : Value} (hk : VRel μ k k') (hv : VRel μ v v') (clock : Nat) : ∀ (es r : List (AVal × AVal)) (l : List MapEntry) (i : Nat), ERel μ es l → updK D k v es = some r →
    ∀ w : World, ((Instr.findAsking kt k' l i).run P w = .ok none w ∧ ERel μ r (l ++ [{ key := k', val := v', born := clock }])) ∨
      ∃ j u m, (Instr.findAsking kt k' l i).run P w = .ok (some (i + j, u)) w ∧ l[j]? = some m ∧ m.key = k' ∧ (∀ d, Instr.sameBits (d + 1) k' k' = true) ∧ ERel μ r (l.modify j fun e => { e with key := k', val := v' })
  | [], r, l, i, he, hu, w => by
    simp [updK] at hu; subst hu
    simp [ERel] at he; subst he
    exact .inl ⟨by simp [Instr.findAsking], _, [], rfl, hk, hv, rfl⟩
  | e :: es, r, l, i, ⟨m, ms, hl, h1, h2, h3⟩, hu, w => by
    subst hl
    simp only [updK] at hu
    cases hq : eqD D k e.1 with
    | none => simp [hq] at hu
    | some q =>
      have hrun : (Op.equal kt k' m.key).run P w = .ok q w := eqD_run (P := P) 9 9991 kt D hD k e.1 k' m.key q hk h1 hq w
      cases q
      · simp only [hq] at hu
        split at hu
        · rename_i r' hr'
          cases hu
          rcases updK_rel hD hk hv clock es r' ms (i + 1) h3 hr' w with ⟨a1, a2⟩ | ⟨j, u, m', a1, a2, a3, a4, a5⟩
          · refine .inl ⟨?_, m, _, rfl, h1, h2, a2⟩
            simp only [Instr.findAsking, Sem.run_bind, hrun, Result.andThen_ok, Bool.false_eq_true, if_false]
            exact a1
          · refine .inr ⟨j + 1, u, m', ?_, by simpa using a2, a3, a4, m, _, by simp, h1, h2, a5⟩
            simp only [Instr.findAsking, Sem.run_bind, hrun, Result.andThen_ok, Bool.false_eq_true, if_false]
            rw [show i + (j + 1) = i + 1 + j by omega]
            exact a1
        · cases hu
      · simp only [hq] at hu
        split at hu
        · rename_i hs
          cases hu
          obtain ⟨e1, e2⟩ := sameA_val hs hk h1
          refine .inr ⟨0, m.val, m, ?_, by simp, e1.symm, e2, _, ms, rfl, hk, hv, h3⟩
          simp only [Instr.findAsking, Sem.run_bind, hrun, Result.andThen_ok, if_true, Sem.run_pure, Nat.add_zero]
        · cases hu

theorem ok_mapUpdate {t kt el : TypeId} {D : EqD} {m k x : AVal} {m' k' x' : Value} (hr : HRel μ h w) (hu : und P t = some (.map kt el)) (hD : descOf P 9 kt = some D) (hm : VRel μ m m') (hk : VRel μ k k') (hx : VRel μ x x') :
    EffOk P μ h w n (ures ((Instr.mapUpdate t m' k' x').run P w)) (fMapUpdate D [m, k, x]) := by
  simp only [fMapUpdate]
  split
  · rename_i hkey
    split
    · rename_i b
      intro o r hg hko
      unfold kUpdate at hko
      split at hko
      · rename_i es
        split at hko
        · rename_i es2 hup
          cases hko
          obtain ⟨l, hl, hl0, rfl⟩ := hm
          obtain ⟨l', es', clock, hl', _, hw, he⟩ := hr.obj b _ hg
          rw [hl] at hl'; cases hl'
          have hgo : (getObj l.blk).run P w = .ok (.map es' clock) w := by simp [getObj, Sem.run, hw]
          have hso : ∀ o2 : Obj, (setObj l.blk o2).run P w = .ok () { w with heap := w.heap.setIfInBounds l.blk o2 } := fun o2 => by simp [setObj, Sem.run, hw]
          have hlt : l.blk < w.heap.size := (Array.getElem?_eq_some_iff.1 hw).1
          obtain ⟨d, hd⟩ := eqD_kind hD
          have hfk : ∀ q, (Instr.findAsking kt k' es'.toList 0).run P w = .ok q w → (Instr.findKey kt k' es'.toList).run P w = .ok q w := fun q hq => by
            simp only [Instr.findKey, Sem.run_bind, run_und hd, Result.andThen_ok]
            cases hn : Instr.findNow d k' es'.toList 0 with
            | none => exact hq
            | some q' =>
              have := findNow_asking (P := P) (und_of hd) es'.toList 0 q' hn w
              rw [this] at hq
              cases hq
              simp
          have fin : ∀ (es3 : Array MapEntry) (c2 : Nat), ERel μ es2 es3.toList → (Instr.mapUpdate t (.map (some l.blk)) k' x').run P w = .ok () { w with heap := w.heap.setIfInBounds l.blk (.map es3 c2) } →
              Done μ h w n (ures ((Instr.mapUpdate t (.map (some l.blk)) k' x').run P w)) .undef (hset h b (.map es2)) := fun es3 c2 he3 hrun => by
            obtain ⟨b1, b2⟩ := HRel.write (w' := { w with heap := w.heap.setIfInBounds l.blk (.map es3 c2) }) (o2 := .map es2) hr hg rfl hl
              (fun β hβ => by simp [Array.getElem?_setIfInBounds_ne (Ne.symm hβ)]) (by simp) ⟨rfl, rfl, rfl⟩ ⟨l, es3, c2, hl, hl0, by simp [hlt], he3⟩
            exact ⟨undef, _, μ, .inr ⟨by rw [hrun]; rfl, rfl⟩, ⟨#[], rfl, rfl⟩, b1, b2, fun _ _ => rfl⟩
          rcases updK_rel (P := P) hD hk hx clock es es2 es'.toList 0 he hup w with ⟨a1, a2⟩ | ⟨j, u, mm, a1, a2, a3, a4, a5⟩
          · refine fin (es'.push { key := k', val := x', born := clock }) (clock + 1) (by simpa using a2) ?_
            simp only [Instr.mapUpdate, Sem.run_bind, run_und hu, Result.andThen_ok, hgo, isKey_run hD hk hkey, hfk _ a1, hso]
          · refine fin (es'.modify j fun e => { e with key := k', val := x' }) clock (by simpa using a5) ?_
            have hj : es'[j]? = some mm := by simpa using a2
            have hks : (Instr.keyThatStays k' k').run P w = .ok k' w := by simp [Instr.keyThatStays, a4 9999]
            rw [Nat.zero_add] at a1
            simp only [Instr.mapUpdate, Sem.run_bind, run_und hu, Result.andThen_ok, hgo, isKey_run hD hk hkey, hfk _ a1, hj, Option.map_some, Option.getD_some, a3, hks, hso]
        · cases hko
      · cases hko
    · trivial
  · trivial

theorem ok_copy {t ty t2 el : TypeId} {s : Nat} {x y : AVal} {x' y' : Value} (hr : HRel μ h w) (hu : und P t = some (.slice el)) (hs : szOf P el = some s) (hx : VRel μ x x') (hy : VRel μ y y') :
    EffOk P μ h w n (vres ((Builtin.copy_ #[t, t2] ty #[x', y']).run P w)) (fCopy s [x, y]) := by
  have hnil : ∀ (y' : Value) (k : Nat), (Builtin.lenOf y').run P w = .ok k w → (Builtin.firstCells s 0 y').run P w = .ok #[] w → (Builtin.copy_ #[t, t2] ty #[.slice none 0 0, y']).run P w = .ok (goInt 0) w := fun y' k h1 h2 => by
    simp only [Builtin.copy_, List.getElem?_toArray, List.getElem?_cons_zero, List.getElem?_cons_succ, Sem.run_bind, run_und hu, Result.andThen_ok, h1]
    have : Nat.min k 0 = 0 := Nat.min_zero k
    simp [this, run_szOf hs, h2, Result.andThen]
  simp only [fCopy]
  split
  · cases hx; cases hy
    exact same_v (hnil (.slice none 0 0) 0 (by simp [Builtin.lenOf]) (by simp [Builtin.firstCells])) rfl
  · cases hx
    obtain ⟨l, o, cap, hl, rfl, _⟩ := hy
    exact same_v (hnil _ _ (show (Builtin.lenOf _).run P w = .ok _ w from by simp only [Builtin.lenOf, Sem.run_pure]; rfl) (by simp [Builtin.firstCells, loadCells, loadCellsFrom])) rfl
  · obtain ⟨l, o, cap, hl, rfl, _⟩ := hx
    cases hy
    refine same_v (v' := goInt 0) ?_ rfl
    simp [Builtin.copy_, run_und hu, Builtin.lenOf, run_szOf hs, Builtin.firstCells, Result.andThen, storeCells]
  · rename_i b off len e b' off' len' e'
    intro new cs cs' hnew hg hsc
    have hk : minN len' len = Nat.min len' len := by
      unfold minN
      rw [ble_dec]
      by_cases hle : len' ≤ len
      · simp only [hle, decide_true]; exact (Nat.min_eq_left hle).symm
      · simp only [hle, decide_false]; exact (Nat.min_eq_right (by omega)).symm
    have hmin : Nat.min len' len ≤ len' := Nat.min_le_left _ _
    have hmin2 : Nat.min len' len ≤ len := Nat.min_le_right _ _
    rw [hk] at hnew ⊢
    obtain ⟨⟨yb, len', yc, hy', rfl⟩, _, hsrc⟩ := src_rel (P := P) (esz := s) (x := .slice b' off' len' e') (src := some (b', off')) (lit := []) (k := len') hr hy rfl
    obtain ⟨news, r1, r2, r3⟩ := hsrc (Nat.min len' len) new hmin hnew
    have r3 := r3 w rfl
    obtain ⟨l, o, cap, hl, rfl, g1, g2, g3⟩ := hx
    subst hy'
    obtain ⟨l', c, el', fz, hl', hw, o1, o2, o3, o4⟩ := hr.obj b _ hg
    rw [hl] at hl'; cases hl'
    have hnl := VRels.length r1
    obtain ⟨q1, q2, q4, q3⟩ := setCells_some hsc
    have hlt : l.blk < w.heap.size := (Array.getElem?_eq_some_iff.1 hw).1
    have hst : ∃ c' : Array Value, c'.size = c.size ∧ (∀ j, c'[j]? = if l.base + off ≤ j ∧ j < l.base + off + news.length then news[j - (l.base + off)]? else c[j]?) ∧
        (storeCells ⟨l.blk, o, none⟩ news 0).run P w = .ok () { w with heap := w.heap.setIfInBounds l.blk (.cells c' el' fz) } := by
      rcases q2 with q | q
      · rw [q] at hnl
        have : news = [] := List.length_eq_zero_iff.1 hnl
        subst this
        refine ⟨c, rfl, fun j => by rw [if_neg (by simp)], ?_⟩
        have : w.heap.setIfInBounds l.blk (.cells c el' fz) = w.heap := by
          apply Array.ext_getElem?
          intro j
          by_cases hj : l.blk = j
          · subst hj
            simp [hlt]
            exact (Array.getElem?_eq_some_iff.1 hw).2.symm
          · simp [Array.getElem?_setIfInBounds_ne hj]
        simp [storeCells, this]
      · rcases g3 with g3 | g3
        · subst g3
          obtain ⟨c', a1, a2, a3⟩ := run_storeCells (P := P) (el := el') (fz := fz) news 0 (l.base + off) w c hw (by omega) (o4 rfl) (okCells_of q4 r1)
          exact ⟨c', a1, by simpa using a2, a3⟩
        · have h0 : len = 0 := by omega
          have : news = [] := List.length_eq_zero_iff.1 (by rw [r2]; have : Nat.min len' len = 0 := by omega
                                                            rw [this]; simp)
          subst this
          refine ⟨c, rfl, fun j => by rw [if_neg (by simp)], ?_⟩
          have : w.heap.setIfInBounds l.blk (.cells c el' fz) = w.heap := by
            apply Array.ext_getElem?
            intro j
            by_cases hj : l.blk = j
            · subst hj
              simp [hlt]
              exact (Array.getElem?_eq_some_iff.1 hw).2.symm
            · simp [Array.getElem?_setIfInBounds_ne hj]
          simp [storeCells, this]
    obtain ⟨c', a1, a2, a3⟩ := hst
    obtain ⟨b1, b2⟩ := HRel.write (w' := { w with heap := w.heap.setIfInBounds l.blk (.cells c' el' fz) }) (o2 := .cells false cs') hr hg rfl hl
      (fun β hβ => by simp [Array.getElem?_setIfInBounds_ne (Ne.symm hβ)]) (by simp) ⟨rfl, rfl, rfl⟩
      ⟨l, c', el', fz, hl, by simp [hlt], by omega, by omega, fun i z hz => by
        rw [q3 i] at hz
        rw [a2 (l.base + i)]
        by_cases hi : off ≤ i ∧ i < off + new.length
        · rw [if_pos hi] at hz
          rw [if_pos (by omega)]
          obtain ⟨u, hu, hur⟩ := VRels.nth r1 hz
          exact ⟨u, by rw [show l.base + i - (l.base + off) = i - off by omega]; exact hu, hur⟩
        · rw [if_neg hi] at hz
          rw [if_neg (by omega)]
          exact o3 i z hz, fun _ j hj => o4 rfl j (by omega)⟩
    refine ⟨goInt (Nat.min len' len), _, μ, .inl ?_, rfl, b1, b2, fun _ _ => rfl⟩
    have hrun : (Builtin.copy_ #[t, t2] ty #[.slice (some ⟨l.blk, o, none⟩) len cap, .slice yb len' yc]).run P w = .ok (goInt (Nat.min len' len)) { w with heap := w.heap.setIfInBounds l.blk (.cells c' el' fz) } := by
      simp only [Builtin.copy_, List.getElem?_toArray, List.getElem?_cons_zero, List.getElem?_cons_succ, Sem.run_bind, run_und hu, Result.andThen_ok, Builtin.lenOf, Sem.run_pure, run_szOf hs, r3, a3]
    rw [hrun]; rfl
  · trivial

theorem ok_lenSl {t ty e : TypeId} {x : AVal} {x' : Value} (hu : und P t = some (.slice e)) (hx : VRel μ x x') : EffOk P μ h w n (vres ((Builtin.len_ #[t] ty #[x']).run P w)) (fLenSl [x]) := by
  simp only [fLenSl]
  split
  · cases hx; exact same_v (v' := goInt 0) (by simp [Builtin.len_, run_und hu]) rfl
  · obtain ⟨l, o, cap, hl, rfl, _⟩ := hx; exact same_v (v' := goInt _) (by simp [Builtin.len_, run_und hu] <;> rfl) rfl
  · trivial
theorem ok_lenStr {t ty : TypeId} {x : AVal} {x' : Value} (hu : und P t = some .string) (hx : VRel μ x x') : EffOk P μ h w n (vres ((Builtin.len_ #[t] ty #[x']).run P w)) (fLenStr [x]) := by
  simp only [fLenStr]
  split
  · obtain ⟨y, rfl, hy⟩ := hx
    refine same_v (v' := goInt y.size) (by simp [Builtin.len_, run_und hu]) ?_
    rw [← hy]; simp [VRel, goInt]
  · trivial
theorem ERel.length : ∀ {es : List (AVal × AVal)} {l : List MapEntry}, ERel μ es l → l.length = es.length
  | [], _, e => by simp [ERel] at e; simp [e]
  | _ :: es, _, ⟨_, ms, e, _, _, h⟩ => by subst e; simp [ERel.length h]
theorem ok_lenMap {t ty k e : TypeId} {x : AVal} {x' : Value} (hr : HRel μ h w) (hu : und P t = some (.map k e)) (hx : VRel μ x x') : EffOk P μ h w n (vres ((Builtin.len_ #[t] ty #[x']).run P w)) (fLenMap [x]) := by
  simp only [fLenMap]
  split
  · cases hx; exact same_v (v' := goInt 0) (by simp [Builtin.len_, run_und hu]) rfl
  · obtain ⟨l, hl, hl0, rfl⟩ := hx
    intro o v hg hk
    unfold kLenMap at hk
    split at hk
    · cases hk
      obtain ⟨l', es', clock, hl', _, hw, he⟩ := hr.obj _ _ hg
      rw [hl] at hl'; cases hl'
      have hgo : (getObj l.blk).run P w = .ok (.map es' clock) w := by simp [getObj, Sem.run, hw]
      refine same_v (v' := goInt es'.size) ?_ (by have := ERel.length he; simp [VRel, goInt]; simp at this; omega)
      simp [Builtin.len_, run_und hu, hgo, Result.andThen]
    · cases hk
  · trivial
theorem ok_lenArr {t ty e : TypeId} {k : Nat} {x : AVal} {x' : Value} (hu : und P t = some (.array k e)) : EffOk P μ h w n (vres ((Builtin.len_ #[t] ty #[x']).run P w)) (fLenArr k [x]) :=
  same_v (v' := goInt k) (by simp [Builtin.len_, run_und hu]) rfl

theorem fold1_run {f : AVal → AVal → Option AVal} {g : Value → Value → Sem Value} (hfg : ∀ x y r x' y', VRel μ x x' → VRel μ y y' → f x y = some r → ∃ r', (g x' y').run P w = .ok r' w ∧ VRel μ r r') :
    ∀ (l : List AVal) (l' : List Value) (x r : AVal) (x' : Value), VRel μ x x' → VRels μ l l' → fold1 f x l = some r → ∃ r', (l'.foldlM g x').run P w = .ok r' w ∧ VRel μ r r'
  | [], l', x, r, x', hx, hl, hf => by
    simp [fold1] at hf; subst hf
    simp [VRels] at hl; subst hl
    exact ⟨x', by simp, hx⟩
  | y :: l, _, x, r, x', hx, ⟨y', ys, e, hy, hys⟩, hf => by
    subst e
    simp only [fold1] at hf
    split at hf
    · rename_i z hz
      obtain ⟨z', hz1, hz2⟩ := hfg x y z x' y' hx hy hz
      obtain ⟨r', hr1, hr2⟩ := fold1_run hfg l ys z r z' hz2 hys hf
      exact ⟨r', by simp only [List.foldlM_cons, Sem.run_bind, hz1, Result.andThen_ok, hr1], hr2⟩
    · cases hf
theorem ok_min {ts : Array TypeId} {ty : TypeId} {xs : List AVal} {a : Array Value} (hx : VRels μ xs a.toList) : EffOk P μ h w n (vres ((Builtin.min_ ts ty a).run P w)) (fMin xs) := by
  unfold fMin
  split
  · rename_i x r
    refine EffOk.ofO fun v hv => ?_
    obtain ⟨x', r', e, h1, h2⟩ := hx
    obtain ⟨v', hv1, hv2⟩ := fold1_run (P := P) (w := w) (g := Builtin.min2) (fun x y r x' y' hx hy hf => by
      unfold min2 at hf
      split at hf
      · cases hf; cases hx; cases hy
        refine ⟨_, rfl, ?_⟩
        show Value.int _ _ = Value.int _ _
        rw [ltI_eq]
        congr 1
        rename_i a _ b
        by_cases hlt : b < a <;> simp [hlt]
      · cases hf) r r' x v x' h1 h2 hv
    exact same_v (by simp only [Builtin.min_, e]; exact hv1) hv2
  · trivial
theorem ok_max {ts : Array TypeId} {ty : TypeId} {xs : List AVal} {a : Array Value} (hx : VRels μ xs a.toList) : EffOk P μ h w n (vres ((Builtin.max_ ts ty a).run P w)) (fMax xs) := by
  unfold fMax
  split
  · rename_i x r
    refine EffOk.ofO fun v hv => ?_
    obtain ⟨x', r', e, h1, h2⟩ := hx
    obtain ⟨v', hv1, hv2⟩ := fold1_run (P := P) (w := w) (g := Builtin.max2) (fun x y r x' y' hx hy hf => by
      unfold max2 at hf
      split at hf
      · cases hf; cases hx; cases hy
        refine ⟨_, rfl, ?_⟩
        show Value.int _ _ = Value.int _ _
        rw [ltI_eq]
        congr 1
        rename_i a _ b
        by_cases hlt : a < b <;> simp [hlt]
      · cases hf) r r' x v x' h1 h2 hv
    exact same_v (by simp only [Builtin.max_, e]; exact hv1) hv2
  · trivial

theorem ok_extract {x : AVal} {x' : Value} {i : Nat} (hx : VRel μ x x') : EffOk P μ h w n (vres ((Instr.extract x' i).run P w)) (fExtract i [x]) := by
  simp only [fExtract]
  split
  · obtain ⟨a, rfl, ha⟩ := hx
    refine EffOk.ofO fun v hv => ?_
    obtain ⟨v', hv1, hv2⟩ := VRels.nth ha hv
    have : a[i]? = some v' := by simpa using hv1
    exact same_v (by simp [Instr.extract, this]) hv2
  · trivial

theorem splitN_rel : ∀ (k : Nat) (acc vs : List AVal) (acc' l : List Value) (fn : Fn), VRels μ acc acc' → VRels μ vs l → k ≤ l.length →
    VRel μ (splitN k acc vs fun a c => .func fn a c) (.func fn (acc' ++ l.take k).toArray (l.drop k).toArray)
  | 0, acc, vs, acc', l, fn, h1, h2, _ => by
    simp only [splitN, List.take_zero, List.append_nil, List.drop_zero]
    exact ⟨_, _, rfl, by simpa using h1, by simpa using h2⟩
  | k + 1, acc, [], acc', l, fn, h1, h2, hk => by simp [VRels] at h2; subst h2; simp at hk
  | k + 1, acc, v :: vs, acc', _, fn, h1, ⟨y, ys, e, hy, hys⟩, hk => by
    subst e
    have := splitN_rel k (acc ++ [v]) vs (acc' ++ [y]) ys fn (VRels.append h1 ⟨y, [], rfl, hy, rfl⟩) hys (by simpa using hk)
    simpa [splitN] using this

end
end Go.Absm

/- The abstract machine: every operation stands for the model's. -/
namespace Go.Absm
open Go
section
variable {P : Program} {μ : Mu} {h : Heap} {w : World} {n : Nat}

theorem eqGuard_flat {op : BinOp} {t : TypeId} {x y : Operand} {a b : Value} (h1 : ∀ c d, ¬ (a = .agg c ∧ b = .agg d)) (h2 : ¬ (a = .nilIface ∧ b = .nilIface)) : (eqGuard op t x y a b).run P w = .ok () w := by
  have key : ∀ op, (eqGuard op t x y a b).run P w = .ok () w := by
    intro op
    cases a <;> cases b <;> first | (exfalso; exact h2 ⟨rfl, rfl⟩) | (exfalso; exact h1 _ _ ⟨rfl, rfl⟩) | (cases op <;> simp [eqGuard])
  exact key op
theorem eqGuard_agg {op : BinOp} {t : TypeId} {x y : Operand} {c d : Array Value} (h : P.eqGuardType P.depth t = false) : (eqGuard op t x y (.agg c) (.agg d)).run P w = .ok () w := by
  cases op <;> simp [eqGuard, h]
theorem eqGuard_other {op : BinOp} {t : TypeId} {x y : Operand} {a b : Value} (h1 : op ≠ .eql) (h2 : op ≠ .neq) : (eqGuard op t x y a b).run P w = .ok () w := by
  cases op <;> first | exact absurd rfl h1 | exact absurd rfl h2 | simp [eqGuard]

theorem desc_noGuard : ∀ (m : Nat) (t : TypeId) (D : EqD), descOf P m t = some D → ∀ d, m ≤ d → P.eqGuardType d t = false
  | 0, _, _, hD, _, _ => by simp [descOf] at hD
  | m + 1, t, D, hD, 0, hd => by omega
  | m + 1, t, D, hD, d + 1, hd => by
    unfold descOf at hD
    split at hD
    · rename_i hu; simp [Program.eqGuardType, und_of hu]
    · rename_i hu; simp [Program.eqGuardType, und_of hu]
    · rename_i hu; simp [Program.eqGuardType, und_of hu]
    · rename_i fs hu
      split at hD
      · cases hD
      · split at hD
        · rename_i l hl
          cases hD
          simp only [Program.eqGuardType, und_of hu]
          rw [Array.any_eq_false]
          intro i hi
          have each : ∀ (L : List Field) (l : List (Nat × Option Nat × EqD)), L.mapM (fun f => match f.name != "_", isAggT P f.type, descOf P m f.type with
              | true, some a, some d => some (f.offset, a, d)
              | _, _, _ => none) = some l → ∀ f ∈ L, P.eqGuardType d f.type = false := by
            intro L
            induction L with
            | nil => intro l _ f hf; simp at hf
            | cons g L ih =>
              intro l hl f hf
              rw [List.mapM_cons] at hl
              simp only [bind, Option.bind_eq_some_iff, pure, Option.some.injEq] at hl
              obtain ⟨e, he, l', hl', rfl⟩ := hl
              split at he
              · rename_i a D' _ _ hD'
                simp at hf
                rcases hf with rfl | hf
                · exact desc_noGuard m _ D' hD' d (by omega)
                · exact ih l' hl' f hf
              · cases he
          have := each fs.toList l hl fs[i] (by simp)
          simp [this]
        · cases hD
    · rename_i k e hu
      split at hD
      · rename_i s a D' hs ha hD'
        cases hD
        simp only [Program.eqGuardType, und_of hu]
        exact desc_noGuard m e D' hD' d (by omega)
      · cases hD
    · cases hD

theorem eqEff_ok {neg : Bool} {r : Option Bool} {res : Result Next} (hh : ∀ b, r = some b → res = .ok (.value (.bool (if neg then !b else b))) w) : EffOk P μ h w n res (eqEff neg r) := by
  unfold eqEff
  split
  · trivial
  · rename_i b
    have := hh b rfl
    cases neg
    · exact ⟨_, this, rfl⟩
    · exact ⟨_, this, by show Value.bool _ = Value.bool _; rw [notB_eq]; rfl⟩

theorem bin_eq {neg : Bool} {t : TypeId} {x' y' : Value} {b : Bool} (he : (Op.equal t x' y').run P w = .ok b w) (h1 : ∀ k a k' c, ¬ (x' = .int k a ∧ y' = .int k' c)) (h2 : ∀ a c, ¬ (x' = .string a ∧ y' = .string c)) (h3 : ∀ a, ¬ (∃ k, x' = .float k a)) (h4 : ∀ a c, ¬ (∃ k, x' = .complex k a c)) :
    (binOp (if neg then .neq else .eql) t x' y').run P w = .ok (.bool (if neg then !b else b)) w := by
  cases neg
  · simp only [Bool.false_eq_true, if_false]
    cases x' <;> cases y' <;> first | (exfalso; exact h1 _ _ _ _ ⟨rfl, rfl⟩) | (exfalso; exact h2 _ _ ⟨rfl, rfl⟩) | (exfalso; exact h3 _ ⟨_, rfl⟩) | (exfalso; exact h4 _ _ ⟨_, rfl⟩) | (simp only [binOp, Sem.run_bind, he, Result.andThen_ok, Sem.run_pure])
  · simp only [if_true]
    cases x' <;> cases y' <;> first | (exfalso; exact h1 _ _ _ _ ⟨rfl, rfl⟩) | (exfalso; exact h2 _ _ ⟨rfl, rfl⟩) | (exfalso; exact h3 _ ⟨_, rfl⟩) | (exfalso; exact h4 _ _ ⟨_, rfl⟩) | (simp only [binOp, Sem.run_bind, he, Result.andThen_ok, Sem.run_pure])

theorem utf8_ascii {s : ByteArray} {pos c : Nat} (hc : (s.data.toList.map (·.toNat))[pos]? = some c) (h : c < 128) : Utf8.decode s pos = (c, 1) := by
  obtain ⟨data⟩ := s
  simp only [List.getElem?_map, Option.map_eq_some_iff] at hc
  obtain ⟨u, hu, rfl⟩ := hc
  have hlt : pos < data.size := by have := (List.getElem?_eq_some_iff.1 hu).1; simpa using this
  have hg : ByteArray.get! ⟨data⟩ pos = u := by
    have e : data.toList[pos]? = data[pos]? := by simp
    simp only [e] at hu
    show data[pos]! = u
    rw [getElem!_pos data pos hlt]
    have := (Array.getElem?_eq_some_iff.1 hu).2
    exact this
  have : (ByteArray.get! ⟨data⟩ (pos + 0)).toNat < 128 := by rw [Nat.add_zero, hg]; exact h
  simp only [Utf8.decode, this, if_true]
  rw [Nat.add_zero, hg]

theorem ok_rangeStr {t : TypeId} {x : AVal} {x' : Value} (hr : HRel μ h w) (hu : und P t = some .string) (hx : VRel μ x x') : EffOk P μ h w n (vres ((Instr.range t x').run P w)) (fRangeStr [x]) := by
  simp only [fRangeStr]
  split
  · obtain ⟨y, rfl, hy⟩ := hx
    intro hn
    obtain ⟨h1, h2⟩ := HRel.new (w' := { w with heap := w.heap.push (.stringIter y 0) }) (o := .striter _ 0) hr hn 0 rfl ⟨rfl, rfl, rfl⟩ ⟨⟨w.heap.size, 0, 0⟩, y, Mu.put_same _ _ _, rfl, by simp, hy⟩
    refine ⟨.pointer (some ⟨w.heap.size, 0, none⟩), _, _, .inl ?_, ⟨_, Mu.put_same _ _ _, rfl⟩, h1, h2, fun b hb => Mu.put_ne _ _ hb⟩
    simp [Instr.range, run_und hu, newObj, Sem.run, vres]
  · trivial

theorem ok_nextStr {ty : TypeId} {x : AVal} {x' : Value} (hr : HRel μ h w) (hx : VRel μ x x') : EffOk P μ h w n (vres ((Instr.next x' true ty).run P w)) (fNextStr [x]) := by
  simp only [fNextStr]
  split
  · obtain ⟨l, hl, rfl⟩ := hx
    rename_i b
    intro o r hg hk
    unfold kNext at hk
    split at hk
    · rename_i s pos
      obtain ⟨l', y, hl', hl0, hw, hy⟩ := hr.obj _ _ hg
      rw [hl] at hl'; cases hl'
      have hgo : (getObj l.blk).run P w = .ok (.stringIter y pos) w := by simp [getObj, Sem.run, hw]
      have hlt : l.blk < w.heap.size := (Array.getElem?_eq_some_iff.1 hw).1
      have hadr : (⟨l.blk, l.base + 0, none⟩ : Addr) = ⟨l.blk, 0, none⟩ := by rw [hl0]
      rw [hadr]
      have hlen : y.size = s.length := by rw [← hy]; simp
      split at hk
      · rename_i c rest hd
        split at hk
        · rename_i hc
          cases hk
          have hc : c < 128 := by simpa [Nat.blt_eq] using hc
          have hpos : s[pos]? = some c := by
            have := congrArg (·[0]?) hd
            simpa using this
          have hplt : pos < y.size := by rw [hlen]; exact (List.getElem?_eq_some_iff.1 hpos).1
          have hdec := utf8_ascii (s := y) (pos := pos) (c := c) (by rw [hy]; exact hpos) hc
          obtain ⟨b1, b2⟩ := HRel.write (w' := { w with heap := w.heap.setIfInBounds l.blk (.stringIter y (pos + 1)) }) (o2 := .striter s (pos + 1)) hr hg rfl hl
            (fun β hβ => by simp [Array.getElem?_setIfInBounds_ne (Ne.symm hβ)]) (by simp) ⟨rfl, rfl, rfl⟩ ⟨l, y, hl, hl0, by simp [hlt], hy⟩
          refine ⟨.tuple #[.bool true, goInt pos, .int .i32 c], _, μ, .inl ?_, ⟨_, rfl, ⟨_, _, rfl, rfl, ⟨_, _, rfl, rfl, ⟨_, _, rfl, rfl, rfl⟩⟩⟩⟩, b1, b2, fun _ _ => rfl⟩
          simp [Instr.next, hgo, hplt, hdec, setObj, Sem.run, hw, vres, Result.andThen]
        · have hpos : s[pos]? = some c := by
            have := congrArg (·[0]?) hd
            simpa using this
          have hplt : pos < y.size := by rw [hlen]; exact (List.getElem?_eq_some_iff.1 hpos).1
          have hY : (⟨(s.map UInt8.ofNat).toArray⟩ : ByteArray) = y := by
            rw [← hy, List.map_map]
            have : (UInt8.ofNat ∘ fun x : UInt8 => x.toNat) = id := by funext z; simp
            rw [this, List.map_id]
          rw [hY] at hk
          unfold nextWide at hk
          cases hk
          obtain ⟨b1, b2⟩ := HRel.write (w' := { w with heap := w.heap.setIfInBounds l.blk (.stringIter y (pos + (Utf8.decode y pos).2)) }) (o2 := .striter s (pos + (Utf8.decode y pos).2)) hr hg rfl hl
            (fun β hβ => by simp [Array.getElem?_setIfInBounds_ne (Ne.symm hβ)]) (by simp) ⟨rfl, rfl, rfl⟩ ⟨l, y, hl, hl0, by simp [hlt], hy⟩
          refine ⟨.tuple #[.bool true, goInt pos, .int .i32 (Utf8.decode y pos).1], _, μ, .inl ?_, ⟨_, rfl, ⟨_, _, rfl, rfl, ⟨_, _, rfl, rfl, ⟨_, _, rfl, rfl, rfl⟩⟩⟩⟩, b1, b2, fun _ _ => rfl⟩
          simp [Instr.next, hgo, hplt, setObj, Sem.run, hw, vres, Result.andThen]
      · rename_i hd
        cases hk
        have hge : ¬ pos < y.size := by
          rw [hlen]
          have := congrArg List.length hd
          simp at this
          omega
        obtain ⟨b1, b2⟩ := HRel.write (w' := w) (o2 := .striter s pos) hr hg rfl hl (fun β hβ => rfl) rfl ⟨rfl, rfl, rfl⟩ ⟨l, y, hl, hl0, hw, hy⟩
        refine ⟨.tuple #[.bool false], w, μ, .inl ?_, ⟨_, rfl, ⟨_, _, rfl, rfl, rfl⟩⟩, b1, b2, fun _ _ => rfl⟩
        simp [Instr.next, hgo, hge, vres, Result.andThen]
    · cases hk
  · trivial

theorem ok_bytes {src dst el : TypeId} {x : AVal} {x' : Value} (hr : HRel μ h w) (hs : und P src = some (.slice el)) (he : und P el = some (.int .u8)) (hd : und P dst = some .string) (hx : VRel μ x x') :
    EffOk P μ h w n (vres ((convert src dst x').run P w)) (fBytesToStr [x]) := by
  simp only [fBytesToStr]
  split
  · cases hx
    refine same_v (v' := .string .empty) ?_ ⟨_, rfl, rfl⟩
    rw [run_convert_bytes_string w src dst el none 0 0 (und_of hs) (und_of he) (und_of hd)]
    simp [Conv.bytesToString]
  · rename_i b off len esz
    obtain ⟨l, o, cap, hl, rfl, g1, g2, g3⟩ := hx
    intro ob v hg hk
    unfold kBytes at hk
    split at hk
    · rename_i cs hc
      split at hk
      · rename_i bs hb
        cases hk
        obtain ⟨l', c, el', fz, hl', hw, h1, vs, hvl, hvr, hvc⟩ := readCells_rel (hr.obj b ob hg) hc
        rw [hl] at hl'; cases hl'
        obtain ⟨e1, e2⟩ := bytesOf_rel hb hvr
        have hload : (loadCells ⟨l.blk, o, none⟩ len).run P w = .ok ((bs.map (fun m : Nat => (m : Int))).map (Value.int .u8)).toArray w := by
          have e3 : (bs.map (fun m : Nat => (m : Int))).map (Value.int .u8) = vs := by rw [e1]; simp
          rw [e3]
          rcases g3 with g3 | g3
          · have := run_loadCells_at (P := P) hw (off := l.base + off) vs hvc
            rw [hvl] at this
            rw [g3]; exact this
          · have h0 : len = 0 := by omega
            subst h0
            have : vs = [] := List.length_eq_zero_iff.1 hvl
            subst this
            simp [loadCells, loadCellsFrom]
        have hrun := run_bytesToString (P := P) w ⟨l.blk, o, none⟩ len cap (bs.map (fun m : Nat => (m : Int))) hload
        refine same_v (v' := .string ((bs.map (fun m : Nat => (m : Int))).foldl (fun r n => r.push (UInt8.ofNat n.toNat)) ByteArray.empty)) ?_ ⟨_, rfl, ?_⟩
        · rw [run_convert_bytes_string w src dst el _ _ _ (und_of hs) (und_of he) (und_of hd)]; exact hrun
        · have fold : ∀ (bs : List Nat) (s : ByteArray), (∀ m ∈ bs, m < 256) → (((bs.map (fun m : Nat => (m : Int))).foldl (fun r n => r.push (UInt8.ofNat n.toNat)) s).data.toList.map (·.toNat)) = s.data.toList.map (·.toNat) ++ bs := by
            intro bs
            induction bs with
            | nil => intro s _; simp
            | cons m bs ih =>
              intro s hm
              simp only [List.map_cons, List.foldl_cons]
              rw [ih _ (fun k hk => hm k (by simp [hk]))]
              have : m < 256 := hm m (by simp)
              simp [ByteArray.data_push, Nat.mod_eq_of_lt this]
          have := fold bs ByteArray.empty e2
          simpa using this
      · cases hk
    · cases hk
  · trivial
end
end Go.Absm

/- The abstract machine: every operation stands for the model's: all of them. -/
namespace Go.Absm
open Go
section
variable {P : Program} {μ : Mu} {h : Heap} {w : World} {n : Nat}

theorem vrels0 {xs : List AVal} (hx : VRels μ xs []) : xs = [] := by
  cases xs with
  | nil => rfl
  | cons x xs => obtain ⟨_, _, e, _⟩ := hx; cases e
theorem vrels1 {xs : List AVal} {v : Value} (hx : VRels μ xs [v]) : ∃ x, xs = [x] ∧ VRel μ x v := by
  cases xs with
  | nil => simp [VRels] at hx
  | cons x xs =>
    obtain ⟨_, _, e, h1, h2⟩ := hx
    cases e
    exact ⟨x, by rw [vrels0 h2], h1⟩
theorem vrelsC {xs : List AVal} {v : Value} {l : List Value} (hx : VRels μ xs (v :: l)) : ∃ x r, xs = x :: r ∧ VRel μ x v ∧ VRels μ r l := by
  cases xs with
  | nil => simp [VRels] at hx
  | cons x xs =>
    obtain ⟨_, _, e, h1, h2⟩ := hx
    cases e
    exact ⟨x, xs, rfl, h1, h2⟩
theorem vrels2 {xs : List AVal} {v u : Value} (hx : VRels μ xs [v, u]) : ∃ x y, xs = [x, y] ∧ VRel μ x v ∧ VRel μ y u := by
  obtain ⟨x, r, rfl, h1, h2⟩ := vrelsC hx
  obtain ⟨y, rfl, h3⟩ := vrels1 h2
  exact ⟨x, y, rfl, h1, h3⟩
theorem vrels3 {xs : List AVal} {v u t : Value} (hx : VRels μ xs [v, u, t]) : ∃ x y z, xs = [x, y, z] ∧ VRel μ x v ∧ VRel μ y u ∧ VRel μ z t := by
  obtain ⟨x, r, rfl, h1, h2⟩ := vrelsC hx
  obtain ⟨y, z, rfl, h3, h4⟩ := vrels2 h2
  exact ⟨x, y, z, rfl, h1, h3, h4⟩

theorem bad_ok {res : Result Next} {xs : List AVal} : EffOk P μ h w n res (Kind.fn .bad xs) := trivial

theorem ok_bin {op : BinOp} {t yt : TypeId} {ox oy : Operand} {x y : AVal} {x' y' : Value} (hx : VRel μ x x') (hy : VRel μ y y') :
    EffOk P μ h w n (vres ((do eqGuard op t ox oy x' y'; binOp op t x' y' : Sem Value).run P w)) (fBin op [x, y]) := by
  simp only [fBin]
  split
  · rename_i k a k' b
    cases hx; cases hy
    refine EffOk.ofO fun v hv => ?_
    obtain ⟨v', h1, h2⟩ := same_bin_int (P := P) (μ := μ) (w := w) (t := t) hv
    refine same_v (v' := v') ?_ h2
    have h0 := eqGuard_flat (P := P) (op := op) (t := t) (x := ox) (y := oy) (w := w) (a := .int k a) (b := .int k' b) (by intro c d e; cases e.1) (by intro e; cases e.1)
    simp only [Sem.run_bind, h0, Result.andThen_ok, h1, vres]
  · obtain ⟨a, rfl, ha⟩ := hx
    obtain ⟨b, rfl, hb⟩ := hy
    refine EffOk.ofO fun v hv => ?_
    rw [← ha, ← hb] at hv
    obtain ⟨v', h1, h2⟩ := same_bin_str (P := P) (μ := μ) (w := w) (t := t) hv
    refine same_v (v' := v') ?_ h2
    have h0 := eqGuard_flat (P := P) (op := op) (t := t) (x := ox) (y := oy) (w := w) (a := .string a) (b := .string b) (by intro c d e; cases e.1) (by intro e; cases e.1)
    simp only [Sem.run_bind, h0, Result.andThen_ok, h1, vres]
  · trivial

theorem eqD_shape {D : EqD} {x y : AVal} {b : Bool} (h : eqD D x y = some b) : (∃ a c, x = .bool a ∧ y = .bool c) ∨ (∃ k a k' c, x = .int k a ∧ y = .int k' c ∧ k = k' ∧ b = eqI a c) ∨ (∃ a c, x = .str a ∧ y = .str c ∧ b = eqL a c) ∨ (∃ a c, x = .agg a ∧ y = .agg c) := by
  cases D with
  | b =>
    simp only [eqD] at h
    unfold eqBool at h
    split at h
    · exact .inl ⟨_, _, rfl, rfl⟩
    · cases h
  | i =>
    simp only [eqD] at h
    unfold eqInt at h
    split at h
    · split at h
      · rename_i hk
        cases h
        exact .inr (.inl ⟨_, _, _, _, rfl, rfl, eqKind hk, rfl⟩)
      · cases h
    · cases h
  | s =>
    simp only [eqD] at h
    unfold eqStr at h
    split at h
    · cases h; exact .inr (.inr (.inl ⟨_, _, rfl, rfl, rfl⟩))
    · cases h
  | agg l =>
    simp only [eqD] at h
    split at h
    · exact .inr (.inr (.inr ⟨_, _, rfl, rfl⟩))
    · cases h

theorem ok_eqD {neg : Bool} {D : EqD} {t yt : TypeId} {ox oy : Operand} {x y : AVal} {x' y' : Value} (hD : descOf P 9 t = some D) (hx : VRel μ x x') (hy : VRel μ y y') :
    EffOk P μ h w n (vres ((do eqGuard (if neg then .neq else .eql) t ox oy x' y'; binOp (if neg then .neq else .eql) t x' y' : Sem Value).run P w)) (fEqD neg D [x, y]) := by
  simp only [fEqD]
  refine eqEff_ok fun b hb => ?_
  have he : (Op.equal t x' y').run P w = .ok b w := eqD_run (P := P) 9 9991 t D hD x y x' y' b hx hy hb w
  have hng := desc_noGuard (P := P) 9 t D hD P.depth (by unfold Program.depth; have : Made.depth = 100 := rfl; omega)
  rcases eqD_shape hb with ⟨a, c, rfl, rfl⟩ | ⟨k, a, k', c, rfl, rfl, rfl, rfl⟩ | ⟨a, c, rfl, rfl, rfl⟩ | ⟨a, c, rfl, rfl⟩
  · cases hx; cases hy
    have h1 := eqGuard_flat (P := P) (op := (if neg then BinOp.neq else .eql)) (t := t) (x := ox) (y := oy) (w := w) (a := .bool a) (b := .bool c) (by intro c d e; cases e.1) (by intro e; cases e.1)
    have h2 := bin_eq (neg := neg) he (by intro _ _ _ _ e; cases e.1) (by intro _ _ e; cases e.1) (by intro _ ⟨_, e⟩; cases e) (by intro _ _ ⟨_, e⟩; cases e)
    simp only [Sem.run_bind, h1, Result.andThen_ok, h2, vres]
  · cases hx; cases hy
    have h1 := eqGuard_flat (P := P) (op := (if neg then BinOp.neq else .eql)) (t := t) (x := ox) (y := oy) (w := w) (a := .int k a) (b := .int k c) (by intro c d e; cases e.1) (by intro e; cases e.1)
    simp only [Sem.run_bind, h1, Result.andThen_ok]
    cases neg
    · simp [binOp, Op.intCmp, vres, eqI_eq]
    · simp [binOp, Op.intCmp, vres, eqI_eq, bne]
  · obtain ⟨a', rfl, ha⟩ := hx
    obtain ⟨c', rfl, hc⟩ := hy
    have h1 := eqGuard_flat (P := P) (op := (if neg then BinOp.neq else .eql)) (t := t) (x := ox) (y := oy) (w := w) (a := .string a') (b := .string c') (by intro c d e; cases e.1) (by intro e; cases e.1)
    have h2 : eqL a c = (a'.toList == c'.toList) := by
      rw [← ha, ← hc, eqL_eq, ByteArray.toList_eq, ByteArray.toList_eq]
      by_cases e : a'.data.toList = c'.data.toList
      · rw [e]; simp
      · have h1 : a'.data.toList.map (·.toNat) ≠ c'.data.toList.map (·.toNat) := fun h => e (map_toNat_inj.1 h)
        rw [beq_false_of_ne h1, beq_false_of_ne e]
    simp only [Sem.run_bind, h1, Result.andThen_ok, h2]
    cases neg
    · rfl
    · rfl
  · obtain ⟨a', rfl, ha⟩ := hx
    obtain ⟨c', rfl, hc⟩ := hy
    have h1 := eqGuard_agg (P := P) (op := (if neg then BinOp.neq else .eql)) (t := t) (x := ox) (y := oy) (w := w) (c := a') (d := c') hng
    have h2 := bin_eq (neg := neg) he (by intro _ _ _ _ e; cases e.1) (by intro _ _ e; cases e.1) (by intro _ ⟨_, e⟩; cases e) (by intro _ _ ⟨_, e⟩; cases e)
    simp only [Sem.run_bind, h1, Result.andThen_ok, h2, vres]

theorem isNilS_val {x : AVal} {x' : Value} {b : Bool} (h : isNilS x = some b) (hx : VRel μ x x') : ∃ a l c, x' = .slice a l c ∧ a.isNone = b := by
  unfold isNilS at h
  split at h
  · cases h; cases hx; exact ⟨_, _, _, rfl, rfl⟩
  · cases h; obtain ⟨l, o, cap, hl, rfl, _⟩ := hx; exact ⟨_, _, _, rfl, rfl⟩
  · cases h
theorem ok_eqNil {neg : Bool} {t e : TypeId} {ox oy : Operand} {x y : AVal} {x' y' : Value} (hu : und P t = some (.slice e)) (hx : VRel μ x x') (hy : VRel μ y y') :
    EffOk P μ h w n (vres ((do eqGuard (if neg then .neq else .eql) t ox oy x' y'; binOp (if neg then .neq else .eql) t x' y' : Sem Value).run P w)) (fEqNil neg [x, y]) := by
  simp only [fEqNil]
  cases ha : isNilS x with
  | none => trivial
  | some a =>
    cases hb : isNilS y with
    | none => trivial
    | some b =>
      obtain ⟨aa, al, ac, rfl, ea⟩ := isNilS_val ha hx
      obtain ⟨ba, bl, bc, rfl, eb⟩ := isNilS_val hb hy
      have h1 := eqGuard_flat (P := P) (op := (if neg then BinOp.neq else .eql)) (t := t) (x := ox) (y := oy) (w := w) (a := .slice aa al ac) (b := .slice ba bl bc) (by intro c d e; cases e.1) (by intro e; cases e.1)
      have fin : ∀ r, (Op.equal t (.slice aa al ac) (.slice ba bl bc)).run P w = .ok r w → (vres ((do eqGuard (if neg then .neq else .eql) t ox oy (.slice aa al ac) (.slice ba bl bc); binOp (if neg then .neq else .eql) t (.slice aa al ac) (.slice ba bl bc) : Sem Value).run P w)) = .ok (.value (.bool (if neg then !r else r))) w := fun r he => by
        have h2 := bin_eq (neg := neg) he (by intro _ _ _ _ e; cases e.1) (by intro _ _ e; cases e.1) (by intro _ ⟨_, e⟩; cases e) (by intro _ _ ⟨_, e⟩; cases e)
        simp only [Sem.run_bind, h1, Result.andThen_ok, h2, vres]
      cases a with
      | true =>
        refine eqEff_ok fun r hr => fin r ?_
        cases hr
        have : aa = none := by simpa using ea
        subst this
        have gen : ∀ m, (Op.equalIn (m + 1) t (.slice none al ac) (.slice ba bl bc)).run P w = .ok ba.isNone w := fun m => by simp [Op.equalIn, run_und hu]
        rw [← eb]
        exact gen 9999
      | false =>
        cases b with
        | false => trivial
        | true =>
          refine eqEff_ok fun r hr => fin r ?_
          cases hr
          have : ba = none := by simpa using eb
          subst this
          have gen : ∀ m, (Op.equalIn (m + 1) t (.slice aa al ac) (.slice none bl bc)).run P w = .ok false w := fun m => by
            cases aa with
            | none => simp at ea
            | some q => simp [Op.equalIn, run_und hu]
          exact gen 9999
end
end Go.Absm

/- The abstract machine: an operation stands for the model's. -/
namespace Go.Absm
open Go
section
variable {P : Program} {μ : Mu} {h : Heap} {w : World} {n : Nat}

theorem isAggT_und {t : TypeId} {a : Option Nat} (h : isAggT P t = some a) : ∃ d, und P t = some d := by
  unfold isAggT at h
  cases hu : und P t with
  | none => simp [hu] at h
  | some d => exact ⟨d, rfl⟩

theorem run_skip (s : Sem Unit) : (do s; pure Next.skip : Sem Next).run P w = ures (s.run P w) := run_u s

theorem ok_call {c : Call} {ty : TypeId} {ρ : Operand → Value} {f : Operand} {xs : List AVal} (hc : c.callee = .value f) (hx : VRels μ xs (ρ f :: c.args.toList.map ρ)) :
    EffOk P μ h w n ((do let d ← resolve ρ c ty; invoke d.target d.args : Sem Next).run P w) (fCall xs) := by
  obtain ⟨x, r, rfl, h1, h2⟩ := vrelsC hx
  simp only [fCall]
  split
  · obtain ⟨a', c', e, ha, hcc⟩ := h1
    refine ⟨a' ++ c.args.map ρ ++ c', ?_, ?_⟩
    · simp only [resolve, hc, e, Deferred.ofValue, Sem.run_bind, Sem.run_pure, Result.andThen_ok, invoke]
    · simp only [Array.toList_append, Array.toList_map, List.append_assoc]
      exact VRels.append ha (VRels.append h2 hcc)
  · trivial

theorem ok_builtin {b : Builtin} {ts : Array TypeId} {ty : TypeId} {cs : Array Bool} {args : Array Value} {xs : List AVal} (hr : HRel μ h w) (hx : VRels μ xs args.toList) :
    EffOk P μ h w n ((builtin b ts ty cs args).run P w) ((kindB P b ts.toList).fn xs) := by
  obtain ⟨ts⟩ := ts
  obtain ⟨args⟩ := args
  cases b <;> try exact bad_ok
  · -- append
    simp only [kindB]
    split
    · rename_i t t2
      split
      · rename_i el el2 hu hu2
        split
        · rename_i s bt z hs hb hz
          split
          · rename_i hzs
            show EffOk P μ h w n _ (fAppend s bt xs)
            match args, hx with
            | [], hx => rw [vrels0 hx]; trivial
            | [a], hx => obtain ⟨x, rfl, _⟩ := vrels1 hx; trivial
            | [a, b], hx =>
              obtain ⟨x, y, rfl, h1, h2⟩ := vrels2 hx
              simp only [builtin, run_v]
              exact ok_append hr hu hu2 hs hb hz (Nat.eq_of_beq_eq_true hzs) h1 h2
            | a :: b :: c :: l, hx =>
              obtain ⟨x, r, rfl, h1, h2⟩ := vrelsC hx
              obtain ⟨y, r, rfl, h1, h2⟩ := vrelsC h2
              obtain ⟨z, r, rfl, h1, h2⟩ := vrelsC h2
              trivial
          · exact bad_ok
        · exact bad_ok
      · exact bad_ok
    · exact bad_ok
  · -- copy
    simp only [kindB]
    split
    · rename_i t t2
      split
      · rename_i el hu
        split
        · rename_i s hs
          show EffOk P μ h w n _ (fCopy s xs)
          match args, hx with
          | [], hx => rw [vrels0 hx]; trivial
          | [a], hx => obtain ⟨x, rfl, _⟩ := vrels1 hx; trivial
          | [a, b], hx =>
            obtain ⟨x, y, rfl, h1, h2⟩ := vrels2 hx
            simp only [builtin, run_v]
            exact ok_copy hr hu hs h1 h2
          | a :: b :: c :: l, hx =>
            obtain ⟨x, r, rfl, h1, h2⟩ := vrelsC hx
            obtain ⟨y, r, rfl, h1, h2⟩ := vrelsC h2
            obtain ⟨z, r, rfl, h1, h2⟩ := vrelsC h2
            trivial
        · exact bad_ok
      · exact bad_ok
    · exact bad_ok
  · -- len
    simp only [kindB]
    split
    · rename_i t
      have one : ∀ (f : List AVal → Eff), f [] = .bad → (∀ x y r, f (x :: y :: r) = .bad) → (∀ x x', VRel μ x x' → EffOk P μ h w n (vres ((Builtin.len_ #[t] ty #[x']).run P w)) (f [x])) →
          EffOk P μ h w n ((builtin .len #[t] ty cs ⟨args⟩).run P w) (f xs) := by
        intro f h0 h2 h1
        match args, hx with
        | [], hx => rw [vrels0 hx, h0]; trivial
        | [a], hx =>
          obtain ⟨x, rfl, hx1⟩ := vrels1 hx
          simp only [builtin, run_v]
          exact h1 _ _ hx1
        | a :: b :: l, hx =>
          obtain ⟨x, r, rfl, _, h3⟩ := vrelsC hx
          obtain ⟨y, r, rfl, _, _⟩ := vrelsC h3
          rw [h2]; trivial
      split
      · rename_i k el hu
        exact one (fLenArr k) rfl (fun _ _ _ => rfl) fun x x' hx => ok_lenArr hu
      · rename_i el hu
        exact one fLenSl rfl (fun _ _ _ => rfl) fun x x' hx => ok_lenSl hu hx
      · rename_i hu
        exact one fLenStr rfl (fun _ _ _ => rfl) fun x x' hx => ok_lenStr hu hx
      · rename_i k el hu
        exact one fLenMap rfl (fun _ _ _ => rfl) fun x x' hx => ok_lenMap hr hu hx
      · exact bad_ok
    · exact bad_ok
  · -- max
    simp only [builtin, run_v]
    exact ok_max hx
  · -- min
    simp only [builtin, run_v]
    exact ok_min hx

theorem szOf_all {fs : Array Field} (h : fs.toList.all (fun f => (szOf P f.type).isSome) = true) : ∀ f ∈ fs.toList, ∃ s, szOf P f.type = some s := fun f hf => by
  have := List.all_eq_true.1 h f hf
  exact Option.isSome_iff_exists.1 this

theorem parts_vals {ρ : Operand → Value} (ps : Array (Nat × Operand)) : ((ps.map fun p => (p.1, ρ p.2)).toList.map (·.2)) = ((ps.toList.map (·.2)).toArray.toList.map ρ) := by
  simp [Array.toList_map, List.map_map, Function.comp_def]
theorem parts_keys {ρ : Operand → Value} (ps : Array (Nat × Operand)) : ps.toList.map (·.1) = ((ps.map fun p => (p.1, ρ p.2)).toList.map (·.1)) := by
  simp [Array.toList_map, List.map_map, Function.comp_def]

theorem kind_ok {o : Oper} {ρ : Operand → Value} {xs : List AVal} (hr : HRel μ h w) (hx : VRels μ xs (o.op.operands.toList.map ρ)) :
    EffOk P μ h w n ((execOp ρ o).run P w) ((kindOf P o).fn xs) := by
  unfold kindOf
  split <;> rename_i heq <;> simp only [heq, Op.operands] at hx <;> simp only [execOp, heq]
  · -- move
    obtain ⟨x, rfl, h1⟩ := vrels1 hx
    exact ⟨_, rfl, h1⟩
  · obtain ⟨x, rfl, h1⟩ := vrels1 hx
    exact ⟨_, rfl, h1⟩
  · -- pick
    obtain ⟨x, y, z, rfl, h1, h2, h3⟩ := vrels3 hx
    exact ok_pick h1 h2 h3
  · -- alloc
    split
    · rename_i z hz
      rw [vrels0 hx, run_v]
      exact ok_alloc hz hr
    · exact bad_ok
  · -- box
    obtain ⟨x, rfl, h1⟩ := vrels1 hx
    rw [run_v]
    exact ok_box hr h1
  · -- build
    rw [run_v]
    split
    · rename_i z fs hz hu
      split
      · rename_i l hall hl
        exact ok_build_struct hz hu (szOf_all hall) (parts_keys _) hl (by rw [parts_vals]; exact hx)
      · exact bad_ok
    · rename_i z k el hz hu
      split
      · rename_i s hs
        exact ok_build_array hz hu hs (by simp [Array.toList_map, List.map_map, Function.comp_def]) (by rw [parts_vals]; exact hx)
      · exact bad_ok
    · exact bad_ok
  · -- buildSlice
    rw [run_v]
    split
    · rename_i el hu
      split
      · rename_i s z hs hz
        split
        · rename_i hb
          rw [Bool.and_eq_true] at hb
          exact ok_buildSlice hr hu hs hz (Nat.eq_of_beq_eq_true hb.1) (Nat.le_of_ble_eq_true hb.2) (by simp [Array.toList_map, List.map_map, Function.comp_def]) (by rw [parts_vals]; exact hx)
        · exact bad_ok
      · exact bad_ok
    · exact bad_ok
  · -- load
    obtain ⟨x, rfl, h1⟩ := vrels1 hx
    rw [run_v]
    split
    · rename_i hk; exact ok_load1 hk hr h1
    · rename_i m hk; exact ok_loadN hk hr h1
    · exact bad_ok
  · -- store
    obtain ⟨x, y, rfl, h1, h2⟩ := vrels2 hx
    rw [run_u]
    split
    · rename_i s hs; exact ok_store hs hr h1 h2
    · exact bad_ok
  · -- nilCheck
    obtain ⟨x, rfl, h1⟩ := vrels1 hx
    have := ok_nilCheck (P := P) (h := h) (w := w) (n := n) heq h1
    simp only [execOp, heq] at this
    exact this
  · -- binOp
    obtain ⟨x, y, rfl, h1, h2⟩ := vrels2 hx
    rw [run_v]
    have eqk : ∀ (neg : Bool) (op : BinOp), op = (if neg then .neq else .eql) → ∀ (t : TypeId) (a b : Operand) (_ : VRel μ x (ρ a)) (_ : VRel μ y (ρ b)), EffOk P μ h w n (vres ((do eqGuard op t a b (ρ a) (ρ b); binOp op t (ρ a) (ρ b) : Sem Value).run P w)) ((kindEq P neg t op).fn [x, y]) := by
      intro neg op hop t a b h1 h2
      unfold kindEq
      split
      · exact ok_bin (yt := t) h1 h2
      · exact ok_bin (yt := t) h1 h2
      · rename_i e hu; rw [hop]; exact ok_eqNil hu h1 h2
      · split
        · rename_i D hD; rw [hop]; exact ok_eqD (yt := t) hD h1 h2
        · exact bad_ok
      · exact bad_ok
    split
    · exact eqk false .eql rfl _ _ _ h1 h2
    · exact eqk true .neq rfl _ _ _ h1 h2
    · exact ok_bin (yt := 0) h1 h2
  · -- unOp
    obtain ⟨x, rfl, h1⟩ := vrels1 hx
    rw [run_v]
    exact EffOk.ofO fun v hv => by
      obtain ⟨v', h2, h3⟩ := same_un (P := P) (w := w) h1 hv
      exact same_v h2 h3
  · -- convert
    obtain ⟨x, rfl, h1⟩ := vrels1 hx
    rw [run_v]
    split
    · rename_i hs hd; exact ok_convInt hs hd h1
    · rename_i hs hd; exact ok_convStr hs hd h1
    · rename_i e hs hd
      split
      · rename_i he; exact ok_bytes hr hs he hd h1
      · exact bad_ok
    · exact bad_ok
  · -- makeInterface
    obtain ⟨x, rfl, h1⟩ := vrels1 hx
    rw [run_v]
    split
    · exact bad_ok
    · rename_i d hu hd
      refine same_v (v' := .iface _ (ρ _)) ?_ ⟨_, rfl, h1⟩
      simp only [Instr.makeInterface, Sem.run_bind, run_und hd, Result.andThen_ok]
      exact Sem.run_pure _ _ _
    · exact bad_ok
  · -- makeFunc
    rw [run_v]
    rename_i fn a c
    refine same_v (v' := .func fn (a.map ρ) (c.map ρ)) rfl ?_
    have := splitN_rel (μ := μ) a.size [] xs [] ((a ++ c).toList.map ρ) fn rfl hx (by simp)
    obtain ⟨a⟩ := a
    obtain ⟨c⟩ := c
    simpa [List.take_append, List.drop_append] using this
  · -- makeMap
    rw [run_v]
    intro hn
    obtain ⟨h1, h2⟩ := HRel.new (w' := { w with heap := w.heap.push (.map #[] 0) }) (o := .map []) (x := .map #[] 0) hr hn 0 rfl ⟨rfl, rfl, rfl⟩
      ⟨⟨w.heap.size, 0, 0⟩, #[], 0, Mu.put_same _ _ _, rfl, by simp, rfl⟩
    refine ⟨.map (some w.heap.size), _, _, .inl ?_, ⟨⟨w.heap.size, 0, 0⟩, Mu.put_same _ _ _, rfl, rfl⟩, h1, h2, fun b hb => Mu.put_ne _ _ hb⟩
    simp [Instr.makeMap, newObj, vres, Sem.run]
  · -- makeSlice
    obtain ⟨x, y, rfl, h1, h2⟩ := vrels2 hx
    rw [run_v]
    split
    · rename_i el hu
      split
      · rename_i s b z hs hb hz
        split
        · rename_i hzs; exact ok_makeSlice hr hu hs hb hz (Nat.eq_of_beq_eq_true hzs) h1 h2
        · exact bad_ok
      · exact bad_ok
    · exact bad_ok
  · -- slice
    rename_i t x lo hi
    rw [run_v]
    have hx' : VRels μ xs (ρ x :: ((lo.map ρ).toList ++ (hi.map ρ).toList)) := by
      cases lo <;> cases hi <;> simpa using hx
    obtain ⟨y, r, rfl, h1, h2⟩ := vrelsC hx'
    have e1 : lo.isSome = (lo.map ρ).isSome := by simp
    have e2 : hi.isSome = (hi.map ρ).isSome := by simp
    rw [e1, e2]
    simp only [Option.map_none]
    split
    · rename_i k el hu
      split
      · rename_i s hs; exact ok_sliceArr hr hu hs h1 h2
      · exact bad_ok
    · rename_i el hu
      split
      · rename_i s hs; exact ok_slice hu hs h1 h2
      · exact bad_ok
    · rename_i hu; exact ok_sliceStr hu h1 h2
    · exact bad_ok
  · -- fieldAddr
    obtain ⟨x, rfl, h1⟩ := vrels1 hx
    rw [run_v]
    split
    · rename_i fs hu
      split
      · rename_i f hf
        split
        · rename_i s hs; exact ok_fieldAddr hu hf hs h1
        · exact bad_ok
      · exact bad_ok
    · exact bad_ok
  · -- field
    obtain ⟨x, rfl, h1⟩ := vrels1 hx
    rw [run_v]
    split
    · rename_i fs hu
      split
      · rename_i f hf
        split
        · rename_i a ha; exact ok_part hu hf ha h1
        · exact bad_ok
      · exact bad_ok
    · exact bad_ok
  · -- indexAddr
    obtain ⟨x, y, rfl, h1, h2⟩ := vrels2 hx
    rw [run_v]
    split
    · rename_i k el hu
      split
      · rename_i s hs; exact ok_indexAddrArr hu hs h1 h2
      · exact bad_ok
    · rename_i el hu
      split
      · rename_i s hs; exact ok_indexAddr hu hs h1 h2
      · exact bad_ok
    · exact bad_ok
  · -- index
    obtain ⟨x, y, rfl, h1, h2⟩ := vrels2 hx
    rw [run_v]
    split
    · rename_i k el hu
      split
      · rename_i s a hs ha; exact ok_indexArr hu hs ha h1 h2
      · exact bad_ok
    · rename_i hu; exact ok_indexStr hu h1 h2
    · exact bad_ok
  · -- lookup
    obtain ⟨x, y, rfl, h1, h2⟩ := vrels2 hx
    rw [run_v]
    split
    · rename_i k el hu
      split
      · rename_i z D hz hD; exact ok_lookup hr hu hD hz h1 h2
      · exact bad_ok
    · exact bad_ok
  · -- mapUpdate
    obtain ⟨x, y, z, rfl, h1, h2, h3⟩ := vrels3 hx
    rw [run_u]
    split
    · rename_i k el hu
      split
      · rename_i D hD; exact ok_mapUpdate hr hu hD h1 h2 h3
      · exact bad_ok
    · exact bad_ok
  · -- insert
    obtain ⟨x, y, z, rfl, h1, h2, h3⟩ := vrels3 hx
    rw [run_u]
    split
    · rename_i k el hu
      split
      · rename_i D hD; exact ok_mapUpdate hr hu hD h1 h2 h3
      · exact bad_ok
    · exact bad_ok
  · -- range
    obtain ⟨x, rfl, h1⟩ := vrels1 hx
    rw [run_v]
    split
    · rename_i hu; exact ok_rangeStr hr hu h1
    · exact bad_ok
  · -- next
    obtain ⟨x, rfl, h1⟩ := vrels1 hx
    rw [run_v]
    exact ok_nextStr hr h1
  · -- extract
    obtain ⟨x, rfl, h1⟩ := vrels1 hx
    rw [run_v]
    exact ok_extract h1
  · -- call
    rename_i c
    unfold kindCall
    split
    · rename_i f hc
      refine ok_call hc ?_
      simpa [Call.operands, hc] using hx
    · rename_i b hc
      have : VRels μ xs (c.args.map ρ).toList := by simpa [Call.operands, hc] using hx
      simp only [resolve, hc, Sem.run_bind, Sem.run_pure, Result.andThen_ok, invoke]
      exact ok_builtin hr this
    · exact bad_ok
  · exact bad_ok
end
end Go.Absm

/- The abstract machine: one operation, calls among them. -/
namespace Go.Absm
open Go

/-- what a step leaves of memory's names -/
structure Stay (h : Heap) (n low : Nat) (h' : Heap) (n' low' : Nat) : Prop where
  low : low' ≤ low
  up : n ≤ n'
  keep : ∀ b, b < low' → hget h' b = hget h b
theorem Stay.refl (h : Heap) (n low : Nat) : Stay h n low h n low := ⟨Nat.le_refl _, Nat.le_refl _, fun _ _ => rfl⟩
theorem Stay.trans {h h1 h2 : Heap} {n n1 n2 low low1 low2 : Nat} (a : Stay h n low h1 n1 low1) (b : Stay h1 n1 low1 h2 n2 low2) : Stay h n low h2 n2 low2 :=
  ⟨Nat.le_trans b.low a.low, Nat.le_trans a.up b.up, fun x hx => (b.keep x hx).trans (a.keep x (Nat.lt_of_lt_of_le hx b.low))⟩

theorem minN_le (a b : Nat) : minN a b ≤ a ∧ minN a b ≤ b := by
  unfold minN
  split
  · rename_i h; exact ⟨Nat.le_refl _, Nat.le_of_ble_eq_true h⟩
  · rename_i h
    have : ¬ a ≤ b := fun h' => by rw [Nat.ble_eq_true_of_le h'] at h; cases h
    exact ⟨by omega, Nat.le_refl _⟩

/-- how a call ends: memory as it was, or else -/
def Quiet (P : Program) (f : Nat) (args : List AVal) (h : Heap) (n : Nat) (v : AVal) : Prop :=
  ∀ μ w (args' : Array Value), HRel μ h w → Fr μ n → VRels μ args args'.toList →
    (callFunc f args').run P w = .ok (.enter f args') w ∧ Calls P f args' w fun e w' => ∃ v', e = .returned v' ∧ VRel μ v v' ∧ HRel μ h w' ∧ Ext μ h w μ h w'
def Loud (P : Program) (f : Nat) (args : List AVal) (h : Heap) (n : Nat) (v : AVal) (h' : Heap) (n' : Nat) : Prop :=
  ∀ μ w (args' : Array Value), HRel μ h w → Fr μ n → VRels μ args args'.toList →
    (callFunc f args').run P w = .ok (.enter f args') w ∧ Calls P f args' w fun e w' => ∃ v' μ', e = .returned v' ∧ VRel μ' v v' ∧ HRel μ' h' w' ∧ Fr μ' n' ∧ Ext μ h w μ' h' w'
def CallOk (P : Program) (cf : CallF) : Prop := ∀ f args h n kq ke r, cf f args h n kq ke = some r →
  (∃ v, kq v = some r ∧ Quiet P f args h n v) ∨ (∃ v h' n' low', ke v h' n' low' = some r ∧ Stay h n n h' n' low' ∧ Loud P f args h n v h' n')

/-- the step has come to v, h', n' -/
def Came (P : Program) (μ : Mu) (h : Heap) (w : World) (v : AVal) (h' : Heap) (n' : Nat) (res : Result Next) : Prop :=
  ∀ (o : Oper) (a : Act) (Q : Exit → Act → World → Prop) (next : Act → World → Prop),
    (∀ v' w' μ', VRel μ' v v' → HRel μ' h' w' → Fr μ' n' → Ext μ h w μ' h' w' → next (a.put o.dst v') w') → o.upon P a next Q res

section
variable {P : Program} {μ : Mu} {h : Heap} {w : World} {n : Nat}

theorem Came.of_done {v : AVal} {h' : Heap} {m n' : Nat} {res : Result Next} (hf : Fr μ n) (hm : m < n') (hn : n ≤ n') (hd : Done μ h w m res v h') : Came P μ h w v h' n' res := by
  intro o a Q next hk
  obtain ⟨v', w', μ', hres, hv, hr, he, hne⟩ := hd
  have hfr : Fr μ' n' := fun b hb => by rw [hne b (by omega)]; exact hf b (by omega)
  rcases hres with rfl | ⟨rfl, rfl⟩
  · exact hk _ _ _ hv hr hfr he
  · exact hk _ _ _ hv hr hfr he
theorem Came.of_same {v : AVal} {res : Result Next} (hr : HRel μ h w) (hf : Fr μ n) (hs : Same μ w res v) : Came P μ h w v h n res := by
  intro o a Q next hk
  obtain ⟨v', rfl, hv⟩ := hs
  exact hk _ _ _ hv hr hf (Ext.refl _ _ _)

/-- who may come -/
def Comes1 (P : Program) (e : Eff) (h : Heap) (n : Nat) (v : AVal) (h' : Heap) (n' : Nat) : Prop :=
  ∀ μ w res, HRel μ h w → Fr μ n → (∀ m, EffOk P μ h w m res e) → Came P μ h w v h' n' res

theorem doEff_ok {cf : CallF} (hc : CallOk P cf) {h : Heap} {n low : Nat} {kp : AVal → Ans} {ke : AVal → Heap → Nat → Nat → Ans} {e : Eff} {r : AVal × Heap × Nat} (hl : low ≤ n)
    (hr : doEff cf h n low kp ke e = some r) :
    (∃ v, kp v = some r ∧ Comes1 P e h n v h n) ∨ ∃ v h' n' low', ke v h' n' low' = some r ∧ Stay h n low h' n' low' ∧ Comes1 P e h n v h' n' := by
  cases e with
  | pure v => exact .inl ⟨v, hr, fun μ w res h1 h2 h3 => Came.of_same h1 h2 (h3 0)⟩
  | new o mk =>
    refine .inr ⟨mk n, _, _, _, hr, ⟨Nat.le_refl _, Nat.le_add_right _ _, fun b hb => ?_⟩, fun μ w res h1 h2 h3 => Came.of_done h2 (Nat.lt_succ_self _) (Nat.le_succ _) (h3 n (h2 n (Nat.le_refl _)))⟩
    rw [hget_cons, if_neg (by omega)]
  | read b k =>
    simp only [doEff, effRead] at hr
    split at hr
    · cases hr
    · rename_i o ho
      split at hr
      · cases hr
      · rename_i v hv
        exact .inl ⟨v, hr, fun μ w res h1 h2 h3 => Came.of_same h1 h2 (h3 0 o v ho hv)⟩
  | write b k =>
    simp only [doEff, effWrite] at hr
    split at hr
    · cases hr
    · rename_i o ho
      split at hr
      · cases hr
      · rename_i v hv
        have := minN_le b low
        refine .inr ⟨_, _, _, _, hr, ⟨this.2, Nat.le_refl _, fun b' hb => ?_⟩, fun μ w res h1 h2 h3 => Came.of_done (m := b) h2 (h1.lt h2 ho) (Nat.le_refl _) (h3 b o v ho hv)⟩
        rw [hget_hset, if_neg (by omega)]
  | append d s lit k esz =>
    simp only [doEff, effAppend] at hr
    cases k with
    | zero =>
      cases d with
      | none => exact .inl ⟨_, hr, fun μ w res h1 h2 h3 => Came.of_same h1 h2 (((h3 0).1 rfl).1 rfl)⟩
      | some d => obtain ⟨b, off, len⟩ := d; exact .inl ⟨_, hr, fun μ w res h1 h2 h3 => Came.of_same h1 h2 (((h3 0).1 rfl).2 _ _ _ rfl)⟩
    | succ k =>
      simp only [] at hr
      split at hr
      · cases hr
      · rename_i new hnew
        split at hr
        · cases hr
        · rename_i hall
          cases d with
          | none =>
            refine .inr ⟨_, _, _, _, hr, ⟨Nat.le_refl _, Nat.le_add_right _ _, fun b hb => ?_⟩, fun μ w res h1 h2 h3 => Came.of_done h2 (Nat.lt_succ_self _) (Nat.le_succ _) (((h3 n).2 (by simp) (h2 n (Nat.le_refl _)) new hnew hall).1 rfl)⟩
            rw [hget_cons, if_neg (by omega)]
          | some d =>
            obtain ⟨b, off, len⟩ := d
            simp only [] at hr
            split at hr
            · rename_i cs hcs
              split at hr
              · cases hr
              · rename_i old hold
                have := minN_le b low
                refine .inr ⟨_, _, _, _, hr, ⟨this.2, Nat.le_add_right _ _, fun b' hb => ?_⟩, fun μ w res h1 h2 h3 => Came.of_done h2 (Nat.lt_succ_self _) (Nat.le_succ _) (((h3 n).2 (by simp) (h2 n (Nat.le_refl _)) new hnew hall).2 _ _ _ _ _ rfl hcs hold)⟩
                rw [hget_cons, if_neg (by omega), hget_hdel, if_neg (by omega)]
            · cases hr
  | copy d s k esz =>
    simp only [doEff, effCopy] at hr
    split at hr
    · cases hr
    · rename_i new hnew
      split at hr
      · rename_i cs hcs
        split at hr
        · cases hr
        · rename_i cs' hcs'
          have := minN_le d.1 low
          refine .inr ⟨_, _, _, _, hr, ⟨this.2, Nat.le_refl _, fun b' hb => ?_⟩, fun μ w res h1 h2 h3 => Came.of_done (m := d.1) h2 (h1.lt h2 hcs) (Nat.le_refl _) (h3 d.1 new cs cs' hnew hcs hcs')⟩
          rw [hget_hset, if_neg (by omega)]
      · cases hr
  | call f args =>
    simp only [doEff, effCall] at hr
    rcases hc _ _ _ _ _ _ _ hr with ⟨v, hk, hq⟩ | ⟨v, h', n', low', hk, hs, hq⟩
    · refine .inl ⟨v, hk, fun μ w res h1 h2 h3 => ?_⟩
      obtain ⟨args', rfl, ha⟩ := h3 0
      obtain ⟨e1, e2⟩ := hq μ w args' h1 h2 ha
      intro o a Q next hn
      rw [e1, Oper.upon_enter]
      refine Calls.mono e2 fun e w' he => ?_
      obtain ⟨v', rfl, g1, g2, g3⟩ := he
      exact hn _ _ _ g1 g2 h2 g3
    · have := minN_le low' low
      refine .inr ⟨v, h', n', _, hk, ⟨this.2, hs.up, fun b hb => hs.keep b (by omega)⟩, fun μ w res h1 h2 h3 => ?_⟩
      obtain ⟨args', rfl, ha⟩ := h3 0
      obtain ⟨e1, e2⟩ := hq μ w args' h1 h2 ha
      intro o a Q next hn
      rw [e1, Oper.upon_enter]
      refine Calls.mono e2 fun e w' he => ?_
      obtain ⟨v', μ', rfl, g1, g2, g3, g4⟩ := he
      exact hn _ _ _ g1 g2 g3 g4
  | bad => simp [doEff] at hr
end
end Go.Absm
