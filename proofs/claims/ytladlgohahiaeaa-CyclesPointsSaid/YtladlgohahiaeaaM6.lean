/- The abstract machine: code within a round of a range over a function. -/
import Derived.Test.YtladlgohahiaeaaM3
import Derived.OrdersIn
import Derived.TacticsIn
import Derived.LoopNIn
import Derived.RangeFuncCalls
import Derived.RangeFuncFrom
set_option linter.unusedSimpArgs false
set_option linter.unusedVariables false
namespace Go.Absm
open Go

def inR (l : Nat) : Fence := Fence.wide.inRound l
def isDefer : Op → Bool
  | .defer _ => true
  | _ => false
def noDefer : List Oper → Bool
  | [] => true
  | o :: r => match isDefer o.op with
    | true => false
    | false => noDefer r
def codeNoDefer : Code → Bool
  | .region _ ops _ => noDefer ops.toList
  | .seq a b => codeNoDefer a && codeNoDefer b
  | .cond _ a b => codeNoDefer a && codeNoDefer b
  | .block _ c => codeNoDefer c
  | .loop c => codeNoDefer c
  | .scope _ => false
  | _ => true
theorem noDefer_mem : ∀ {l : List Oper}, noDefer l = true → ∀ o ∈ l, ∀ c, o.op ≠ .defer c
  | [], _, o, ho, _ => by cases ho
  | x :: r, h, o, ho, c => by
    simp only [noDefer] at h
    split at h
    · cases h
    · rename_i hx
      rcases List.mem_cons.1 ho with e | e
      · subst e; intro hc; rw [hc] at hx; simp [isDefer] at hx
      · exact noDefer_mem h o e c
theorem noDefer_arr {ops : Array Oper} (h : noDefer ops.toList = true) : ∀ (i : Nat) (o : Oper), ops[i]? = some o → ∀ c, o.op ≠ .defer c := fun i o ho c =>
  noDefer_mem h o (List.mem_of_getElem? (l := ops.toList) (i := i) (by simpa using ho)) c

section
variable {P : Program} {ops : Array Oper} {Q : Exit → Act → World → Prop} {l N : Nat}
theorem op_in {o : Oper} {a : Act} {w : World} {K K' : Act → World → Prop} (hQ : ∀ a w, ¬ Q .outgrown a w) (hd : ∀ c, o.op ≠ .defer c) (hK : ∀ a w, K a w → K' a w) (h : o.wp P a w K Q ∨ (o.asks P a w ∧ LetsOut Q)) :
    o.wpIn (inR l) N P a w K' Q := by
  have h : o.wp P a w K Q := h.resolve_right fun h' => by obtain ⟨_, x, y, hx⟩ := h'; exact hQ x y hx
  refine ⟨fun _ _ => trivial, ?_⟩
  rw [Oper.semAt_eq _ _ _ hd]
  unfold Oper.wp at h
  generalize (execOp a.eval o).run P w = r at h
  cases r with
  | ok x w' =>
    cases x with
    | value v => exact hK _ _ h
    | skip => exact hK _ _ h
    | defer d => exact hK _ _ h
    | enter f args =>
      refine ⟨fun h => by simp [inR, Fence.wide] at h, CallsIn.inRound l (callsIn_wide.2 (Calls.mono h fun e w'' he => ?_))⟩
      cases e with
      | returned v => exact hK _ _ he
      | panicked c => exact he
      | outgrown => exact he
    | row r args =>
      refine ⟨fun h => by simp [inR, Fence.wide] at h, fun c cs _ => ?_⟩
      obtain ⟨v, w'', hr, hs⟩ := h c cs
      exact ⟨v, w'', hK _ _ hr, stepsIn_wide.2 hs⟩
    | _ => exact h.elim
  | halt x w' => cases x <;> first | exact h | exact h.elim
theorem wpListIn_of (hQ : ∀ a w, ¬ Q .outgrown a w) : ∀ (r : List Oper), noDefer r = true → ∀ a w, wpList P ops Q r a w → wpListIn (inR l) N P ops Q r a w
  | [], _, a, w, h => h
  | o :: r, hd, a, w, h => by
    have hd0 := noDefer_mem hd o (by simp)
    have hd1 : noDefer r = true := by
      simp only [noDefer] at hd
      split at hd
      · cases hd
      · exact hd
    unfold wpList at h
    unfold wpListIn
    split
    · rename_i hw
      rw [if_pos hw] at h
      exact op_in hQ hd0 (fun a w h => wpListIn_of hQ r hd1 a w h) h
    · rename_i hw
      rw [if_neg hw] at h
      exact ⟨fun _ _ => trivial, wpListIn_of hQ r hd1 _ _ h⟩
theorem wpAnyIn_of {md : Region.Mode} (hQ : ∀ a w, ¬ Q .outgrown a w) (hd : ∀ (i : Nat) (o : Oper), ops[i]? = some o → ∀ c, o.op ≠ .defer c) : ∀ (fuel : Nat) (L : Array Bool) (a : Act) (w : World), wpAny P md ops Q fuel L a w → wpAnyIn (inR l) N P md ops Q fuel L a w
  | 0, L, a, w, h => h
  | fuel + 1, L, a, w, h => by
    refine ⟨h.1, fun i hi => ?_⟩
    have h := h.2 i hi
    unfold wpOp at h
    unfold wpOpIn
    split
    · rename_i ho
      rw [ho] at h
      exact wpAnyIn_of hQ hd fuel _ _ _ h
    · rename_i o ho
      rw [ho] at h
      simp only [] at h
      split
      · rename_i hw
        rw [if_pos hw] at h
        exact op_in hQ (hd i o ho) (fun a w h => wpAnyIn_of hQ hd fuel _ a w h) h
      · rename_i hw
        rw [if_neg hw] at h
        exact ⟨fun _ _ => trivial, wpAnyIn_of hQ hd fuel _ _ _ h⟩
end
section
variable {P : Program} {nt : Nat} {vm : List Nat} {vars : List AVal} {bs : List Nat}
theorem region_in {l N : Nat} {cf : CallF} (hc : CallOk P cf) {ops : Array Oper} (hnd : noDefer ops.toList = true) {bs : List Nat} {aops : List AOper} (hco : compOps P nt vm bs ops.toList 0 [] = some aops) {h : Heap} {n low id : Nat} {r : AVal × Heap × Nat} {k : KV}
    (hr : region cf aops (compUps (ops.toList.reverse.map (·.dst)) vm 0) k false vars h n low = some r) (hlow : low ≤ n) (hlen : vars.length = vm.length) :
    ∃ vars' h' n' low', k vars' h' n' low' = some r ∧ Stay h n low h' n' low' ∧ vars'.length = vm.length ∧ ∀ (μ : Mu) (a : Act) (w : World), St nt vm μ vars h n a w → ∀ (Q : Exit → Act → World → Prop), (∀ a w, ¬ Q .outgrown a w) →
      (∀ μ' a' w', St nt vm μ' vars' h' n' a' w' → Ext μ h w μ' h' w' → Q .normal a' w') → (Code.region id ops false).wpIn (inR l) N P Q a w := by
  simp only [region] at hr
  obtain ⟨locs', h', n', low', e1, e2, e3⟩ := runOps_ok hc (ops := ops) (fun g o' ho => compOps_dst hco o' (by
    have := List.mem_of_getElem? (l := ops.toList) (i := g) (by simpa using ho); exact this)) ops.toList 0 [] aops hco (fun i => by simp) (fun g hg => by omega) _ _ _ _ r _ hr hlow
  simp only [regionK, setVars_eq] at e1
  refine ⟨_, h', n', low', e1, e2, by rw [updVars_len, hlen], fun μ a w hs Q hQ hq => wpIn_region_list (wpListIn_of hQ _ hnd _ _ (e3 μ a w Q hs.rel hs.fr hs.slots fun μ' a' w' s1 s2 s3 s4 => hq μ' a' w' ?_ s4))⟩
  have s3' : Sl nt vm μ' vars (ops.toList.reverse.map (·.dst)) locs' a' := by simpa [List.map_reverse] using s3
  exact s3'.done hlen s1 s2
theorem regionDraw_in {l N : Nat} (hm : P.follows .mixedOrders = true) {cf : CallF} (hc : CallOk P cf) {ops : Array Oper} {aops : List AOper} (hnd : noDefer ops.toList = true) (hd : drawOk ops bs = true) (hco : compOps P nt vm bs ops.toList 0 [] = some aops) {h : Heap} {n low id : Nat}
    {r : AVal × Heap × Nat} {k : KV} (hr : region cf aops (compUps (ops.toList.reverse.map (·.dst)) vm 0) k true vars h n low = some r) (hlow : low ≤ n) (hlen : vars.length = vm.length) :
    ∃ vars' h' n' low', k vars' h' n' low' = some r ∧ Stay h n low h' n' low' ∧ vars'.length = vm.length ∧ ∀ (μ : Mu) (a : Act) (w : World), St nt vm μ vars h n a w → ∀ (Q : Exit → Act → World → Prop),
      (∀ a w, ¬ Q .outgrown a w) → (∀ μ' a' w', St nt vm μ' vars' h' n' a' w' → Ext μ h w μ' h' w' → Q .normal a' w') → (Code.region id ops true).wpIn (inR l) N P Q a w := by
  simp only [region] at hr
  obtain ⟨locs', h', n', low', R, e1, e2, _, ⟨r0, r1, r2, r3, r4, r5⟩, ⟨f1, f2⟩, e4⟩ := runDraw_ok (P := P) (nt := nt) (vm := vm) (bs := bs) hc (ops := ops.toList) ops.toList 0 aops hco (fun i => by simp) (by simp) 0 0 0 0 _ _ _ _ r _ hr hlow
  simp only [regionK, setVars_eq] at e1
  have hR : Rows' P nt vm vars bs ops.toList locs' R := ⟨⟨r1, r2, r3⟩, fun i o ho => e4 i o (Nat.zero_le _) ho⟩
  have hD := drawOk_spec hd
  have hops : ops.toList.length = ops.size := by simp
  have hnt : ∀ (g : Nat) (o' : Oper), ops[g]? = some o' → dstIn nt o'.dst = true := fun g o' ho => compOps_dst hco o' (by
    have := List.mem_of_getElem? (l := ops.toList) (i := g) (by simpa using ho); exact this)
  refine ⟨_, h', n', low', e1, e2, by rw [updVars_len, hlen], fun μ a w hs Q hQ hq => wpIn_region_any hm (wpAnyIn_of hQ (noDefer_arr hnd) _ _ _ _ ?_)⟩
  have hx0 : Ex nt vm vars bs ops locs' R μ h w (Array.replicate ops.size false) μ a { w with drawn := w.drawn + 1 } 0 := by
    have off : ∀ q, ¬ On (Array.replicate ops.size false) q := fun q hq => by
      unfold On at hq
      rw [Array.getElem?_replicate] at hq
      split at hq <;> cases hq
    exact ⟨by simp, fun i hi => absurd hi (off i), fun t q hq => absurd hq (off q), fun i t ht _ => hs.vs i t ht, hs.sz, hs.df, Nat.zero_le _, fun b hb => absurd hb (off b), .inl r3,
      by rw [r4]; exact hs.rel.draw _, by rw [r5]; exact hs.fr, by rw [r4]; exact Ext.draw _ _ _ _⟩
  refine any_ok hD hR hnt (μ0 := μ) (h0 := h) (w0 := w) (fun L μ' a' w' i0 hx hall => ?_) ops.size _ μ a _ 0 hx0 (by simp)
  have hlev : (R i0).lev = (R ops.toList.length).lev := by
    have g1 := row_lev hR ops.toList.length i0 (Nat.le_refl _) (by rw [hops]; exact hx.at_)
    rcases Nat.eq_zero_or_pos (R ops.toList.length).lev with z | z
    · omega
    · obtain ⟨b, b1, b2, b3, _⟩ := row_has hR ops.toList.length (Nat.le_refl _) (by omega)
      have := hx.i1 b (hall b (by rw [← hops]; exact b1)) b2
      omega
  obtain ⟨s1, s2⟩ := row_same hR (i := ops.toList.length) (q := i0) (Nat.le_refl _) (by rw [hops]; exact hx.at_) hlev
  have hrel := hx.rel
  have hfr := hx.fr
  have hext := hx.ext
  rw [s1, f1] at hrel hext
  rw [s2, f2] at hfr
  refine hq μ' a' w' ?_ hext
  have hpe : prevAt ops.toList ops.size = ops.toList.reverse.map (·.dst) := by simp [prevAt, ← Array.length_toList]
  have hsl : Sl nt vm μ' vars (prevAt ops.toList ops.size) locs' a' := by
    refine ⟨fun i t h1 h2 => hx.s2 i t h1 fun q hqon hqd => ?_, fun t i h1 => ?_, hx.sz, hx.df⟩
    · have hqs : q < ops.size := by rw [← hx.size]; exact hqon.lt
      have := lastAt_none h2 (ops.size - 1 - q)
      rw [Ne, prevAt_get (Nat.le_refl _) (by omega), show ops.size - 1 - (ops.size - 1 - q) = q by omega] at this
      exact this hqd
    · have hlt : i < ops.size := by
        have := (List.getElem?_eq_some_iff.1 (lastAt_lt h1)).1
        rw [prevAt_len _ (Nat.le_refl _)] at this
        exact this
      have hkd := lastAt_lt h1
      rw [prevAt_get (Nat.le_refl _) hlt] at hkd
      have := hx.s1 t (ops.size - 1 - i) (hall _ (by omega)) hkd fun q' g1 g2 g3 => by
        have hqs : q' < ops.size := by rw [← hx.size]; exact g2.lt
        have := lastAt_first h1 (ops.size - 1 - q') (by omega)
        rw [Ne, prevAt_get (Nat.le_refl _) (by omega), show ops.size - 1 - (ops.size - 1 - q') = q' by omega] at this
        exact this g3
      rw [show ops.size - 1 - (ops.size - 1 - i) = i by omega] at this
      exact this
  rw [hpe] at hsl
  exact hsl.done hlen hrel hfr

theorem den_in (hm : P.follows .mixedOrders = true) {l M : Nat} {cf : CallF} (hc : CallOk P cf) {fuel : Nat} : ∀ (c : Code) (ac : ACode), compCode P nt vm c = some ac → codeNoDefer c = true → ∀ (k : KV) (ke : Nat → KV) (kr : KV) (vars : List AVal) (h : Heap) (n low : Nat) (r : AVal × Heap × Nat),
    den cf fuel ac k ke kr vars h n low = some r → low ≤ n → vars.length = vm.length →
    ∃ (x : Out) (vars' : List AVal) (h' : Heap) (n' low' : Nat), x.pick k ke kr vars' h' n' low' = some r ∧ Went P nt vm vars h n low x vars' h' n' low' (fun Q a w => (∀ a w, ¬ Q .outgrown a w) → c.wpIn (inR l) M P Q a w) := by
  intro c
  induction c with
  | skip =>
    intro ac hco hnd k ke kr vars h n low r hr hlow hlen
    simp [compCode] at hco; subst hco
    exact ⟨.normal, vars, h, n, low, hr, Went.stop hlen fun Q a w hq _ => wpIn_skip hq⟩
  | label l =>
    intro ac hco hnd k ke kr vars h n low r hr hlow hlen
    simp [compCode] at hco; subst hco
    exact ⟨.normal, vars, h, n, low, hr, Went.stop hlen fun Q a w hq _ => wpIn_label hq⟩
  | exit i =>
    intro ac hco hnd k ke kr vars h n low r hr hlow hlen
    simp [compCode] at hco; subst hco
    exact ⟨.exit i, vars, h, n, low, hr, Went.stop hlen fun Q a w hq _ => wpIn_exit hq⟩
  | ret =>
    intro ac hco hnd k ke kr vars h n low r hr hlow hlen
    simp [compCode] at hco; subst hco
    exact ⟨.ret, vars, h, n, low, hr, Went.stop hlen fun Q a w hq _ => wpIn_ret hq⟩
  | region id ops draw =>
    intro ac hco hnd k ke kr vars h n low r hr hlow hlen
    simp only [compCode, compRegion] at hco
    split at hco
    · cases hco
    · rename_i l hl
      split at hco
      · rename_i hdr
        cases hco
        simp only [den] at hr
        cases draw with
        | false =>
          obtain ⟨vars', h', n', low', e1, e2, e3, e4⟩ := region_in (id := id) hc (by simpa [codeNoDefer] using hnd) hl hr hlow hlen
          exact ⟨.normal, vars', h', n', low', e1, e2, e3, fun μ a w hs Q hq hQ => e4 μ a w hs Q hQ hq⟩
        | true =>
          obtain ⟨vars', h', n', low', e1, e2, e3, e4⟩ := regionDraw_in (id := id) hm hc (by simpa [codeNoDefer] using hnd) (by simpa using hdr) hl hr hlow hlen
          exact ⟨.normal, vars', h', n', low', e1, e2, e3, fun μ a w hs Q hq hQ => e4 μ a w hs Q hQ hq⟩
      · cases hco
  | seq a b iha ihb =>
    intro ac hco hnd k ke kr vars h n low r hr hlow hlen
    simp only [compCode] at hco
    split at hco
    · rename_i aa ab ha hb
      cases hco
      simp only [den] at hr
      obtain ⟨x, vars1, h1, n1, low1, e1, e2⟩ := iha aa ha (Bool.and_eq_true_iff.1 hnd).1 _ _ _ _ _ _ _ _ hr hlow hlen
      cases x with
      | normal =>
        obtain ⟨x, vars2, h2, n2, low2, e3, e4⟩ := ihb ab hb (Bool.and_eq_true_iff.1 hnd).2 _ _ _ _ _ _ _ _ e1 (Nat.le_trans e2.1.low (Nat.le_trans hlow e2.1.up)) e2.2.1
        refine ⟨x, vars2, h2, n2, low2, e3, e2.next e4 fun Q a w hK hQ => wpIn_seq ?_⟩
        refine wpIn_mono (hK _ (fun a' w' h => h hQ) (fun _ _ h => by cases h.1)) fun e a' w' hh => ?_
        obtain ⟨rfl, hh⟩ := hh
        exact hh
      | exit i =>
        refine ⟨.exit i, vars1, h1, n1, low1, e1, e2.turn fun Q a w hK hQ => wpIn_seq (wpIn_mono (hK (fun _ _ h => by cases h.1)) fun e a' w' hh => ?_)⟩
        obtain ⟨rfl, hh⟩ := hh
        exact hh
      | ret =>
        refine ⟨.ret, vars1, h1, n1, low1, e1, e2.turn fun Q a w hK hQ => wpIn_seq (wpIn_mono (hK (fun _ _ h => by cases h.1)) fun e a' w' hh => ?_)⟩
        obtain ⟨rfl, hh⟩ := hh
        exact hh
    · cases hco
  | cond c a b iha ihb =>
    intro ac hco hnd k ke kr vars h n low r hr hlow hlen
    simp only [compCode] at hco
    split at hco
    · rename_i ac' aa ab h0 ha hb
      cases hco
      simp only [den] at hr
      have key : ∀ t : Bool, ac'.eval vars [] = .bool t → ∀ {x vars' h' n' low'}, Went P nt vm vars h n low x vars' h' n' low' (fun Q s w => (∀ a w, ¬ Q .outgrown a w) → (if t then a else b).wpIn (inR l) M P Q s w) → Went P nt vm vars h n low x vars' h' n' low' (fun Q s w => (∀ a w, ¬ Q .outgrown a w) → (Code.cond c a b).wpIn (inR l) M P Q s w) :=
        fun t ht x vars' h' n' low' g => ⟨g.1, g.2.1, fun μ s w hs Q hq hQ => by
          have hv := opd_rel hs.slots h0
          rw [ht] at hv
          exact wpIn_cond (t := t) hv (g.2.2 μ s w hs Q hq hQ)⟩
      cases hv : ac'.eval vars [] with
      | bool t =>
        rw [hv] at hr
        cases t with
        | true =>
          obtain ⟨x, vars1, h1, n1, low1, e1, e2⟩ := iha aa ha (Bool.and_eq_true_iff.1 hnd).1 _ _ _ _ _ _ _ _ hr hlow hlen
          exact ⟨x, vars1, h1, n1, low1, e1, key true hv e2⟩
        | false =>
          obtain ⟨x, vars1, h1, n1, low1, e1, e2⟩ := ihb ab hb (Bool.and_eq_true_iff.1 hnd).2 _ _ _ _ _ _ _ _ hr hlow hlen
          exact ⟨x, vars1, h1, n1, low1, e1, key false hv e2⟩
      | _ => rw [hv] at hr; simp [condB] at hr
    · cases hco
  | block id c ih =>
    intro ac hco hnd k ke kr vars h n low r hr hlow hlen
    simp only [compCode] at hco
    split at hco
    · rename_i aa ha
      cases hco
      simp only [den] at hr
      obtain ⟨x, vars1, h1, n1, low1, e1, e2⟩ := ih aa ha hnd _ _ _ _ _ _ _ _ hr hlow hlen
      cases x with
      | normal =>
        refine ⟨.normal, vars1, h1, n1, low1, e1, e2.turn fun Q a w hK hQ => wpIn_block (wpIn_mono (hK (fun _ _ h => by cases h.1)) fun e a' w' hh => ?_)⟩
        obtain ⟨rfl, hh⟩ := hh
        exact hh
      | ret =>
        refine ⟨.ret, vars1, h1, n1, low1, e1, e2.turn fun Q a w hK hQ => wpIn_block (wpIn_mono (hK (fun _ _ h => by cases h.1)) fun e a' w' hh => ?_)⟩
        obtain ⟨rfl, hh⟩ := hh
        exact hh
      | exit i =>
        have e5 : exitK id k ke i vars1 h1 n1 low1 = some r := e1
        unfold exitK at e5
        cases hb : Nat.beq i id with
        | true =>
          rw [hb] at e5
          have := Nat.eq_of_beq_eq_true hb
          subst this
          refine ⟨.normal, vars1, h1, n1, low1, e5, e2.turn fun Q a w hK hQ => wpIn_block (wpIn_mono (hK (fun _ _ h => by cases h.1)) fun e a' w' hh => ?_)⟩
          obtain ⟨rfl, hh⟩ := hh
          simp only [Out.ex, Exit.inBlock, if_true]
          exact hh
        | false =>
          rw [hb] at e5
          refine ⟨.exit i, vars1, h1, n1, low1, e5, e2.turn fun Q a w hK hQ => wpIn_block (wpIn_mono (hK (fun _ _ h => by cases h.1)) fun e a' w' hh => ?_)⟩
          obtain ⟨rfl, hh⟩ := hh
          have : i ≠ id := fun e => by subst e; rw [Nat.beq_refl] at hb; cases hb
          simp only [Out.ex, Exit.inBlock, this, if_false]
          exact hh
    · cases hco
  | loop c ih =>
    intro ac hco hnd k ke kr vars h n low r hr hlow hlen
    simp only [compCode] at hco
    split at hco
    · rename_i aa ha
      cases hco
      simp only [den] at hr
      have rounds : ∀ (N : Nat) (vars : List AVal) (h : Heap) (n low : Nat), loopN (fun k => den cf fuel aa k ke kr) N vars h n low = some r → low ≤ n → vars.length = vm.length →
          ∃ (x : Out) (vars' : List AVal) (h' : Heap) (n' low' : Nat), x.pick k ke kr vars' h' n' low' = some r ∧ Went P nt vm vars h n low x vars' h' n' low' (fun Q a w => (∀ a w, ¬ Q .outgrown a w) → Code.roundsIn (inR l) M P c Q N a w) := by
        intro N
        induction N with
        | zero => intro vars h n low hr; simp [loopN] at hr
        | succ N ihN =>
          intro vars h n low hr hlow hlen
          simp only [loopN] at hr
          obtain ⟨x, vars1, h1, n1, low1, e1, e2⟩ := ih aa ha hnd _ _ _ _ _ _ _ _ hr hlow hlen
          cases x with
          | normal =>
            obtain ⟨x, vars2, h2, n2, low2, e3, e4⟩ := ihN _ _ _ _ e1 (Nat.le_trans e2.1.low (Nat.le_trans hlow e2.1.up)) e2.2.1
            refine ⟨x, vars2, h2, n2, low2, e3, e2.next e4 fun Q a w hK hQ => ?_⟩
            rw [roundsIn_succ]
            refine wpIn_mono (hK _ (fun a' w' h => h hQ) (fun _ _ h => by cases h.1)) fun e a' w' hh => ?_
            obtain ⟨rfl, hh⟩ := hh
            exact hh
          | exit i =>
            refine ⟨.exit i, vars1, h1, n1, low1, e1, e2.turn fun Q a w hK hQ => ?_⟩
            rw [roundsIn_succ]
            refine wpIn_mono (hK (fun _ _ h => by cases h.1)) fun e a' w' hh => ?_
            obtain ⟨rfl, hh⟩ := hh
            exact hh
          | ret =>
            refine ⟨.ret, vars1, h1, n1, low1, e1, e2.turn fun Q a w hK hQ => ?_⟩
            rw [roundsIn_succ]
            refine wpIn_mono (hK (fun _ _ h => by cases h.1)) fun e a' w' hh => ?_
            obtain ⟨rfl, hh⟩ := hh
            exact hh
      obtain ⟨x, vars1, h1, n1, low1, e1, e2⟩ := rounds fuel vars h n low hr hlow hlen
      exact ⟨x, vars1, h1, n1, low1, e1, e2.1, e2.2.1, fun μ a w hs Q hq hQ => wpIn_loop_rounds fuel (e2.2.2 μ a w hs Q hq hQ)⟩
    · cases hco
  | scope c ih =>
    intro ac hco hnd
    simp [codeNoDefer] at hnd
  | _ =>
    intro ac hco hnd k ke kr vars h n low r hr hlow hlen
    simp [compCode] at hco; subst hco
    simp [den] at hr
end
end Go.Absm

/- The abstract machine: memory of cells alone, in a range over a function. -/
namespace Go.Absm
open Go Go.RowKit
/-- memory of cells alone -/
def CellsOnly (h : Heap) : Prop := ∀ b o, hget h b = some o → ∃ ro cs, o = .cells ro cs
theorem HRel.cells {μ : Mu} {h : Heap} {W : World} (hr : HRel μ h W) (hc : CellsOnly h) {b : Nat} {o : AObj} {l : Absm.Loc} (hb : hget h b = some o) (hl : μ b = some l) : ∃ x : Obj, W.heap[l.blk]? = some x ∧ x.isCells = true := by
  obtain ⟨ro, cs, rfl⟩ := hc b o hb
  obtain ⟨l', c, el, fz, e1, e2, _⟩ := hr.obj b _ hb
  rw [hl] at e1; cases e1
  exact ⟨_, e2, rfl⟩
theorem HRel.grown {μ : Mu} {h : Heap} {W W' : World} {row : Option Nat} (hr : HRel μ h W) (hc : CellsOnly h) (hg : W.grownBy W' row) (hrow : ∀ r, row = some r → ∃ o : Obj, W.heap[r]? = some o ∧ o.isCells = false) : HRel μ h W' :=
  ⟨fun b o hb => (hr.obj b o hb).same (Le.refl _) fun l hl => by
    obtain ⟨x, e1, e2⟩ := hr.cells hc hb hl
    exact grownBy_keeps_cells hg hrow e1 e2, hr.apart⟩
theorem KeepsOthers.of_ext {μ μ' : Mu} {h h' : Heap} {W W' : World} (hr : HRel μ h W) (hc : CellsOnly h) (he : Ext μ h W μ' h' W') : KeepsOthers W W' :=
  ⟨he.size, fun k o hk ho => by
    rw [he.frame k (Array.getElem?_eq_some_iff.1 hk).1 fun b x l hb _ hl e => ?_]
    · exact hk
    · obtain ⟨y, e1, e2⟩ := hr.cells hc hb hl
      rw [e, hk] at e1; cases e1
      rw [ho] at e2; cases e2⟩
theorem Below.of_ext {μ μ' : Mu} {h h' : Heap} {W W' : World} {B : Nat} (hB : B ≤ W.heap.size) (he : Ext μ h W μ' h' W') (hn : ∀ b o l, hget h b = some o → isRo o = false → μ b = some l → B ≤ l.blk) : Below B W W' :=
  ⟨he.os, he.tape, he.output, he.size, fun k hk => he.frame k (by omega) fun b o l h1 h2 h3 e => by have := hn b o l h1 h2 h3; omega⟩
theorem enters_of' {P : Program} {f : FuncId} {F : Func} {c : Code} (hf : P.funcs[f]? = some F) (hn : (F.name == "runtime.NumGoroutine") = false) (hb : F.body = some c) (args : Array Value) (w : World) : (callFunc f args).run P w = .ok (.enter f args) w :=
  run_enter hf hb hn args w
theorem cell_of_box' {W : World} {b : Nat} {v : Value} {el : TypeId} (h : W.heap[b]? = some (.cells #[v] el (0, 0))) : W.cell? ⟨b, 0, none⟩ = some v ∧ W.frozen? ⟨b, 0, none⟩ = false := by
  constructor
  · rw [cell_of h]; rfl
  · simp [World.frozen?, h]
end Go.Absm
