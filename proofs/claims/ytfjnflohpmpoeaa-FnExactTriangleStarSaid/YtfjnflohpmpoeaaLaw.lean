/- The laws in plain words. Conditions: none. -/
import Derived.Test.YtfjnflohpmpoeaaRes
/- Rules for loops. Conditions: none. -/
namespace Go.Sx

/-- The rule of loops, with a measure. -/
theorem iter_while {S R : Type} {body : S → (S → Option R) → (S → Option R) → Option R} {ke : S → Option R} (Q : Option R → Prop) (p : S → Prop) (mu : S → Nat)
    (h : ∀ s kc, p s → (∀ s', p s' → mu s' < mu s → Q (kc s')) → Q (body s kc ke)) : ∀ (N : Nat) (s : S), p s → mu s < N → Q (iterK body N s ke)
  | 0, _, _, hN => absurd hN (Nat.not_lt_zero _)
  | N + 1, s, hp, hN => by
    simp only [iterK]
    exact h s _ hp fun s' hp' hlt => iter_while Q p mu h N s' hp' (by omega)

/-- A loop over a list that ends with a fold's state. -/
theorem iter_fold {β σ S R : Type} {body : S → (S → Option R) → (S → Option R) → Option R} (l : List β) (mk : σ → Int → S) (p : Nat → σ → Prop) (g : σ → Nat → β → σ)
    (h : ∀ st (i : Nat) x kc ke, p i st → l[i]? = some x → i < l.length → body (mk st i) kc ke = kc (mk (g st i x) ((i + 1 : Nat) : Int)) ∧ p (i + 1) (g st i x))
    (h2 : ∀ st kc ke, p l.length st → body (mk st l.length) kc ke = ke (mk st l.length)) {N : Nat} (hN : l.length < N) (st : σ) (hp : p 0 st) (ke : S → Option R) :
    iterK body N (mk st 0) ke = ke (mk (foldI g l 0 st) l.length) ∧ p l.length (foldI g l 0 st) := by
  have gen : ∀ (r : List β) (i N : Nat) (st : σ), i + r.length = l.length → l.drop i = r → r.length < N → p i st → iterK body N (mk st i) ke = ke (mk (foldI g r i st) l.length) ∧ p l.length (foldI g r i st) := by
    intro r
    induction r with
    | nil =>
      intro i N st hi hd hN hp
      obtain ⟨m, rfl⟩ : ∃ m, N = m + 1 := ⟨N - 1, by omega⟩
      simp only [iterK, foldI]
      have e : i = l.length := by simpa using hi
      subst e
      exact ⟨h2 _ _ _ hp, hp⟩
    | cons x r ih =>
      intro i N st hi hd hN hp
      obtain ⟨m, rfl⟩ : ∃ m, N = m + 1 := ⟨N - 1, by omega⟩
      simp only [List.length_cons] at hi hN
      have hx : l[i]? = some x := by
        have := congrArg (fun l => l[0]?) hd
        simpa using this
      have q := h st i x (fun s' => iterK body m s' ke) ke hp hx (by omega)
      simp only [iterK, foldI]
      rw [q.1]
      exact ih (i + 1) m _ (by omega) (by rw [← List.drop_drop, hd]; simp) (by omega) q.2
  exact gen l 0 N st (by simp) (by simp) hN hp

/-- A loop over a list: the rule. -/
theorem iter_rule {β σ S R : Type} {body : S → (S → Option R) → (S → Option R) → Option R} {ke : S → Option R} (Q : Option R → Prop) (l : List β) (mk : σ → Int → S) (p : Nat → σ → Prop)
    (h : ∀ st (i : Nat) x kc, p i st → l[i]? = some x → i < l.length → (∀ st', p (i + 1) st' → Q (kc (mk st' ((i + 1 : Nat) : Int)))) → Q (body (mk st i) kc ke))
    (h2 : ∀ st kc, p l.length st → Q (body (mk st l.length) kc ke)) {N : Nat} (hN : l.length < N) (st : σ) (hp : p 0 st) : Q (iterK body N (mk st 0) ke) := by
  have gen : ∀ (d i N : Nat) (st : σ), i + d = l.length → d < N → p i st → Q (iterK body N (mk st i) ke) := by
    intro d
    induction d with
    | zero =>
      intro i N st hi hN hp
      obtain ⟨m, rfl⟩ : ∃ m, N = m + 1 := ⟨N - 1, by omega⟩
      have e : i = l.length := by omega
      subst e
      exact h2 _ _ hp
    | succ d ih =>
      intro i N st hi hN hp
      obtain ⟨m, rfl⟩ : ∃ m, N = m + 1 := ⟨N - 1, by omega⟩
      have hlt : i < l.length := by omega
      exact h st i l[i] _ hp (List.getElem?_eq_getElem hlt) hlt fun st' hp' => ih (i + 1) m st' (by omega) (by omega) hp'
  exact gen l.length 0 N st (by omega) hN hp

end Go.Sx

/- The laws' helpers: sizes, copies, comparisons. Conditions: none. -/
namespace Go.Sx.R
open Go Go.Sx

theorem wr_sub_len {n : Int} {len : Nat} (h0 : 0 ≤ n) (h1 : n ≤ 1048576) (hl : len ≤ 9223372036854775807) : wr (n - (len : Int)) = n - len := wr_id (by omega) (by omega)

theorem beqB_self (b : Bool) : beqB b b = true := by cases b <;> rfl

theorem sm_up {α : Type} [Sm α] (up : ∀ {B B' : Nat} {x : α}, B ≤ B' → Sm.sm B x → Sm.sm B' x) {B B' : Nat} {x : List α} (h : B ≤ B') (hx : Sm.sm B x) : Sm.sm B' x := ⟨Nat.le_trans hx.1 h, fun y hy => up h (hx.2 y hy)⟩
theorem up_int {B B' : Nat} {x : Int} (h : B ≤ B') (hx : Sm.sm B x) : Sm.sm B' x := hx
theorem up_intS {B B' : Nat} {x : List Int} (h : B ≤ B') (hx : Sm.sm B x) : Sm.sm B' x := sm_up up_int h hx
theorem up_intSS {B B' : Nat} {x : List (List Int)} (h : B ≤ B') (hx : Sm.sm B x) : Sm.sm B' x := sm_up up_intS h hx
theorem up_pair {B B' : Nat} {x : Int × Int} (h : B ≤ B') (hx : Sm.sm B x) : Sm.sm B' x := hx
theorem up_wire {B B' : Nat} {x : Int × Int × Int} (h : B ≤ B') (hx : Sm.sm B x) : Sm.sm B' x := hx
theorem up_wireS {B B' : Nat} {x : List (Int × Int × Int)} (h : B ≤ B') (hx : Sm.sm B x) : Sm.sm B' x := sm_up up_wire h hx
theorem up_pairS {B B' : Nat} {x : List (Int × Int)} (h : B ≤ B') (hx : Sm.sm B x) : Sm.sm B' x := sm_up up_pair h hx
theorem up_pairSS {B B' : Nat} {x : List (List (Int × Int))} (h : B ≤ B') (hx : Sm.sm B x) : Sm.sm B' x := sm_up up_pairS h hx
abbrev TNet := Int × Int × Int × List (Int × Int × Int)
theorem up_net {B B' : Nat} {x : TNet} (h : B ≤ B') (hx : Sm.sm B x) : Sm.sm B' x := ⟨hx.1, hx.2.1, hx.2.2.1, up_wireS h hx.2.2.2⟩
abbrev B0 : Nat := 1048576
theorem B01 : B0 ≤ B1 := by decide

theorem to_Wire (a : Int × Int × Int) (ha : Sm.sm B1 a) : e_laws_toWire (a, ()) = some a := rfl
theorem eq_Wire (a : Int × Int × Int) (ha : Sm.sm B1 a) : e_laws_eqWire (a, a, ()) = some true := by
  simp only [e_laws_eqWire, r_laws_eqWire, decide_true, Bool.not_true, cond_false]

theorem to_WireS (a : List (Int × Int × Int)) (ha : Sm.sm B1 a) : e_laws_toWireS (a, ()) = some a := by
  simp only [e_laws_toWireS, r_laws_toWireS, Int.toNat_natCast]
  rw [ble_true (by have := ha.1; simp only [B1] at this; omega), cond_true]
  rw [iter_range (R := List (Int × Int × Int)) a (fun (st : List (Int × Int × Int)) i => (a, st, i, ())) (fun st i x k => Option.bind (st[i]?) fun _ => k (st.set i x)) ?_ ?_ (len_lt ha N0_gt)]
  · rw [rangeK_copy (fun x => x) ((0 : Int), ((0 : Int), (0 : Int)))]
    · simp
    · intro st j x k hs hx
      have : st[j]? = some (st[j]'(by rw [hs]; exact get_lt hx)) := List.getElem?_eq_getElem _
      rw [this]; rfl
  · intro st i x kc ke hx hi
    simp only [r_laws_toWireS_L0, lt_len, hi, decide_true, cond_true, getI_nat, hx, Option.bind_some, to_Wire _ (sm_get ha hx)]
    rw [wr_len hi ha, Int.toNat_natCast]
  · intro st kc ke
    simp only [r_laws_toWireS_L0, not_lt_self, cond_false]

theorem eq_WireS (a : List (Int × Int × Int)) (ha : Sm.sm B1 a) : e_laws_eqWireS (a, a, ()) = some true := by
  simp only [e_laws_eqWireS, r_laws_eqWireS, decide_true, Bool.not_true, cond_false]
  rw [iter_range (R := Bool) a (fun (_ : Unit) i => (a, a, i, ())) (fun st i x k => k ()) ?_ ?_ (len_lt ha N0_gt) ()]
  · rw [rangeK_fold (fun _ _ _ => ()) _ _ _ _ (fun _ _ _ _ _ => rfl)]
  · intro st i x kc ke hx hi
    simp only [r_laws_eqWireS_L0, lt_len, hi, decide_true, cond_true, getI_nat, hx, Option.bind_some, eq_Wire _ (sm_get ha hx), Option.bind_some, Bool.not_true, cond_false]
    rw [wr_len hi ha]
  · intro st kc ke
    simp only [r_laws_eqWireS_L0, not_lt_self, cond_false]

theorem sz_WireS (a : List (Int × Int × Int)) (n : Int) (ha : Sm.sm BB a) (h0 : 0 ≤ n) (h1 : n ≤ 1048576) : ∃ r, e_laws_szWireS (a, n, ()) = some r ∧ r ≤ n ∧ (0 ≤ r → Sm.sm B0 a) := by
  simp only [e_laws_szWireS, r_laws_szWireS]
  rw [wr_sub_len h0 h1 ha.1]
  by_cases h : n - (a.length : Int) < 0
  · refine ⟨-1, ?_, by omega, by omega⟩
    simp [h]
  · refine ⟨n - a.length, ?_, by omega, fun _ => ⟨by simp only [B0]; omega, ha.2⟩⟩
    simp [h]

theorem to_Net (a : TNet) (ha : Sm.sm B1 a) : e_laws_toNet (a, ()) = some a := by
  obtain ⟨x, y, z, l⟩ := a
  simp only [e_laws_toNet, r_laws_toNet]
  rw [to_WireS l ha.2.2.2]; rfl
theorem eq_Net (a : TNet) (ha : Sm.sm B1 a) : e_laws_eqNet (a, a, ()) = some true := by
  simp only [e_laws_eqNet, r_laws_eqNet, decide_true, Bool.not_true, cond_false, eq_WireS _ ha.2.2.2, Option.bind_some]
theorem sz_Net (a : TNet) (n : Int) (ha : Sm.sm BB a) (h0 : 0 ≤ n) (h1 : n ≤ 1048576) : ∃ r, e_laws_szNet (a, n, ()) = some r ∧ r ≤ n ∧ (0 ≤ r → Sm.sm B0 a) := by
  simp only [e_laws_szNet, r_laws_szNet]
  obtain ⟨r, e1, e2, e3⟩ := sz_WireS a.2.2.2 n ha.2.2.2 h0 h1
  simp only [e1, Option.bind_some]
  by_cases hr : r < 0
  · exact ⟨-1, by simp [hr], by omega, by omega⟩
  · exact ⟨r, by simp [hr], e2, fun h => ⟨ha.1, ha.2.1, ha.2.2.1, e3 h⟩⟩

end Go.Sx.R

/- Matrices of weights: the program's test and the reference's are one. Conditions: none. -/
namespace Go.Sx.R
open Go Go.Sx

def n_l01In (a : Int × Int × Int × Unit) : Bool := decide (a.2.1 ≤ a.1) && decide (a.1 ≤ a.2.2.1)

theorem p_l01In (a : Int × Int × Int × Unit) : e_spec_l01In a = some (n_l01In a) := by
  obtain ⟨a0, a1, a2, _⟩ := a
  simp only [e_spec_l01In, r_spec_l01In, n_l01In]
  by_cases h : a1 ≤ a0 <;> simp [h]

theorem e_l01In : e_spec_l01In = fun a => some (n_l01In a) := funext p_l01In

/-- Square, of numbers up to a bound, not too large. -/
def n_sq (a : List (List Int)) : Bool := !decide (a.length > 5) && !(a.any fun x => !decide (x.length = a.length) || x.any fun v => decide (v < -1000) || decide (v > 1000))

theorem len_range (a : List (List Int)) (h : a.length ≤ 5) : n_l01In ((a.length : Int), 1, 5, ()) = !decide ((a.length : Int) < 1) := by
  rw [Bool.eq_iff_iff]
  simp [n_l01In]; omega

theorem sq_row {a : List (List Int)} (h : n_sq a = true) {x : List Int} (hx : x ∈ a) : x.length = a.length ∧ ∀ v ∈ x, -1000 ≤ v ∧ v ≤ 1000 := by
  simp only [n_sq, Bool.and_eq_true, Bool.not_eq_true', List.any_eq_false, Bool.or_eq_true, not_or, decide_eq_false_iff_not, Bool.not_eq_true, decide_eq_true_eq] at h
  have := h.2 x hx
  refine ⟨by simpa using this.1, fun v hv => ?_⟩
  have := this.2 v hv
  omega

end Go.Sx.R

/- Networks: the program's test and the reference's are one. Conditions: none. -/
namespace Go.Sx.R
open Go Go.Sx

-- lists without doubles
theorem nodup_len {α : Type} [DecidableEq α] : ∀ {l m : List α}, l.Nodup → (∀ x ∈ l, x ∈ m) → l.length ≤ m.length
  | [], m, _, _ => Nat.zero_le _
  | x :: l, m, h, hs => by
    have hx : x ∈ m := hs x (by simp)
    have hd := List.nodup_cons.1 h
    have := nodup_len (l := l) (m := m.erase x) hd.2 fun y hy => (List.mem_erase_of_ne (by rintro rfl; exact hd.1 hy)).2 (hs y (by simp [hy]))
    rw [List.length_erase_of_mem hx] at this
    have hp : 0 < m.length := List.length_pos_of_mem hx
    simp only [List.length_cons]; omega

theorem nodup_all {α : Type} [DecidableEq α] {l m : List α} (h : l.Nodup) (hs : ∀ x ∈ l, x ∈ m) (hl : m.length ≤ l.length) : ∀ x ∈ m, x ∈ l := by
  intro x hx
  by_cases hxl : x ∈ l
  · exact hxl
  · have := nodup_len (l := x :: l) (m := m) (List.nodup_cons.2 ⟨hxl, h⟩) (by
      intro y hy
      rcases List.mem_cons.1 hy with rfl | hy
      · exact hx
      · exact hs y hy)
    simp at this; omega

/-- The numbers below n. -/
def ints (n : Nat) : List Int := (List.range n).map Int.ofNat
theorem mem_ints {n : Nat} {x : Int} : x ∈ ints n ↔ 0 ≤ x ∧ x < n := by
  simp only [ints, List.mem_map, List.mem_range]
  constructor
  · rintro ⟨i, hi, rfl⟩
    simp only [Int.ofNat_eq_natCast]; omega
  · intro h; exact ⟨x.toNat, by omega, by simp only [Int.ofNat_eq_natCast]; omega⟩
theorem len_ints {n : Nat} : (ints n).length = n := by simp [ints]
theorem nodup_ints {n : Nat} : (ints n).Nodup := by
  refine List.Pairwise.map Int.ofNat (fun (a b : Nat) (h : a ≠ b) => ?_) (List.nodup_range (n := n))
  intro e
  simp only [Int.ofNat_eq_natCast] at e
  exact h (by omega)

abbrev W3 := Int × Int × Int

-- looking in lists
theorem p_Has (xs : List Int) (v : Int) (hl : xs.length ≤ BB) : e_spec_l03Has (xs, v, ()) = some (decide (v ∈ xs)) := by
  simp only [e_spec_l03Has, r_spec_l03Has]
  rw [iter_range (R := Bool) xs (fun (_ : Unit) i => (v, xs, (xs.length : Int), i, ())) (fun _ i x k => cond (decide (x = v)) (some true) (k ())) ?_ ?_ (by have := N0_gt; omega) ()]
  · rw [rangeK_stop' (fun x => decide (x = v)) (some true) _ _ _ (fun _ _ _ _ => rfl)]
    have : xs.any (fun x => decide (x = v)) = decide (v ∈ xs) := by
      rw [Bool.eq_iff_iff]; simp
    rw [this]; cases decide (v ∈ xs) <;> rfl
  · intro st i x kc ke hx hi
    simp only [r_spec_l03Has_L0, lt_len, hi, decide_true, cond_true, getI_nat, hx, Option.bind_some]
    rw [wr_succ hi hl]
  · intro st kc ke
    simp only [r_spec_l03Has_L0, not_lt_self, cond_false]

theorem p_ContainsB (xs : List Bool) (v : Bool) (hl : xs.length ≤ BB) : e_slices_Contains_bool (xs, v, ()) = some (decide (v ∈ xs)) := by
  simp only [e_slices_Contains_bool, r_slices_Contains_bool, e_slices_Index_bool, r_slices_Index_bool]
  rw [iter_range (R := Int) xs (fun (_ : Unit) i => (xs, v, (xs.length : Int), i, ())) (fun _ i x k => cond (beqB v x) (some (i : Int)) (k ())) ?_ ?_ (by have := N0_gt; omega) ()]
  · have key : ∀ (l : List Bool) (i : Nat), (rangeK l i () (fun _ i x k => cond (beqB v x) (some (i : Int)) (k ())) fun _ => some (-1 : Int)).bind (fun r => some (decide (r ≥ 0))) = some (decide (v ∈ l)) := by
      intro l
      induction l with
      | nil => intro i; simp [rangeK]
      | cons x l ih =>
        intro i
        simp only [rangeK]
        by_cases e : v = x
        · subst e; rw [beqB_self]; simp
        · have : beqB v x = false := by revert e; cases v <;> cases x <;> simp [beqB]
          rw [this, cond_false, ih (i + 1)]
          simp [e]
    exact key xs 0
  · intro st i x kc ke hx hi
    simp only [r_slices_Index_bool_L0, lt_len, hi, decide_true, cond_true, getI_nat, hx, Option.bind_some]
    rw [wr_succ hi hl]
  · intro st kc ke
    simp only [r_slices_Index_bool_L0, not_lt_self, cond_false]

-- the order of wires
def n_cmp (x y : Int) : Int := if x < y then -1 else if x > y then 1 else 0
theorem p_Compare (x y : Int) : e_cmp_Compare_int (x, y, ()) = some (n_cmp x y) := by
  simp only [e_cmp_Compare_int, r_cmp_Compare_int, e_cmp_isNaN_int, r_cmp_isNaN_int, Option.bind_some, decide_true, Bool.not_true, cond_false, n_cmp]
  by_cases h1 : x < y
  · simp [h1]
  · by_cases h2 : x > y <;> simp [h1, h2]

theorem N0_big : 9223372036854775807 < N0 := N0_gt
theorem N0_succ : ∃ m, N0 = m + 5 := ⟨N0 - 5, by have := N0_big; omega⟩

def n_byEnds (x y : W3) : Int := if n_cmp x.1 y.1 = 0 then n_cmp x.2.1 y.2.1 else n_cmp x.1 y.1
theorem p_byEnds (x y : W3) : e_impl_byEnds (x, y, ()) = some (n_byEnds x y) := by
  simp only [e_impl_byEnds, r_impl_byEnds, p_Compare, Option.bind_some, e_cmp_Or_int, r_cmp_Or_int, n_byEnds]
  obtain ⟨m, hm⟩ := N0_succ
  rw [hm]
  by_cases h1 : n_cmp x.1 y.1 = 0
  · by_cases h2 : n_cmp x.2.1 y.2.1 = 0
    · simp [iterK, r_cmp_Or_int_L0, h1, h2, getI_zero, wr_id, getI]
    · simp [iterK, r_cmp_Or_int_L0, h1, h2, getI_zero, wr_id, getI]
  · simp [iterK, r_cmp_Or_int_L0, h1, getI_zero]

/-- Strictly before. -/
def lex (x y : W3) : Bool := decide (x.1 < y.1) || (decide (x.1 = y.1) && decide (x.2.1 < y.2.1))
theorem byEnds_lex (x y : W3) : decide (n_byEnds x y ≥ 0) = !lex x y := by
  rw [Bool.eq_iff_iff]
  by_cases a : x.1 < y.1
  · have a2 : ¬ x.1 > y.1 := by omega
    simp [n_byEnds, n_cmp, lex, a]
  · by_cases b : x.1 > y.1
    · have e : ¬ x.1 = y.1 := by omega
      simp [n_byEnds, n_cmp, lex, a, b, e]
    · have e : x.1 = y.1 := by omega
      by_cases c : x.2.1 < y.2.1
      · simp [n_byEnds, n_cmp, lex, e, c]
      · by_cases d : x.2.1 > y.2.1 <;> simp [n_byEnds, n_cmp, lex, e, c, d]

/-- A wire at place i that does not fit. -/
def badW (nodes : Int) (ws : List W3) (i : Nat) (x : W3) : Bool :=
  !(decide (0 ≤ x.1) && decide (x.1 < x.2.1) && decide (x.2.1 < nodes) && decide (1 ≤ x.2.2) && decide (x.2.2 ≤ 200)) || (match i with | 0 => false | j + 1 => match ws[j]? with | some y => !lex y x | none => false)

def wiresBad (n : TNet) : Bool := (n.2.2.2.zipIdx 0).any fun p => badW n.1 n.2.2.2 p.2 p.1
def hdrOk (n : TNet) : Bool := decide (1 ≤ n.1) && decide (n.1 ≤ 5) && decide (1 ≤ n.2.1) && decide (n.2.1 ≤ n.1) && decide (1 ≤ n.2.2.1) && decide (n.2.2.1 ≤ 1000)

theorem netL0_impl (n : TNet) (hn : Sm.sm B1 n) (k : _ → Option Bool) :
    iterK (r_impl_NetOk_L0 e_slices_Contains_bool e_impl_byEnds N0) N0 (n, n.2.2.2, (n.2.2.2.length : Int), 0, ()) k = cond (wiresBad n) (some false) (k (n, n.2.2.2, (n.2.2.2.length : Int), (n.2.2.2.length : Int), ())) := by
  have hw : Sm.sm B1 n.2.2.2 := hn.2.2.2
  rw [iter_range (R := Bool) n.2.2.2 (fun (_ : Unit) i => (n, n.2.2.2, (n.2.2.2.length : Int), i, ())) (fun _ i x k => cond (badW n.1 n.2.2.2 i x) (some false) (k ())) ?_ ?_ (len_lt hw N0_gt) ()]
  · rw [rangeK_stop (fun i x => badW n.1 n.2.2.2 i x) (some false) _ _ _ (fun j x k _ => rfl)]
    rfl
  · intro st i x kc ke hx hi
    simp only [r_impl_NetOk_L0, lt_len, hi, decide_true, cond_true, getI_nat, hx, Option.bind_some, wr_len hi hw]
    have hb : ∀ b : Bool, (decide (x.1 < 0) = true → b = true) → True := fun _ _ => trivial
    by_cases h1 : x.1 < 0
    · have : badW n.1 n.2.2.2 i x = true := by simp only [badW, Bool.or_eq_true, Bool.not_eq_true', Bool.and_eq_false_iff, decide_eq_false_iff_not]; left; omega
      simp [h1, this]
    by_cases h2 : x.1 ≥ x.2.1
    · have : badW n.1 n.2.2.2 i x = true := by simp only [badW, Bool.or_eq_true, Bool.not_eq_true', Bool.and_eq_false_iff, decide_eq_false_iff_not]; left; omega
      simp [h1, h2, this]
    by_cases h3 : x.2.1 ≥ n.1
    · have : badW n.1 n.2.2.2 i x = true := by simp only [badW, Bool.or_eq_true, Bool.not_eq_true', Bool.and_eq_false_iff, decide_eq_false_iff_not]; left; omega
      simp [h1, h2, h3, this]
    by_cases h4 : x.2.2 < 1
    · have : badW n.1 n.2.2.2 i x = true := by simp only [badW, Bool.or_eq_true, Bool.not_eq_true', Bool.and_eq_false_iff, decide_eq_false_iff_not]; left; omega
      simp [h1, h2, h3, h4, this]
    by_cases h5 : x.2.2 > 200
    · have : badW n.1 n.2.2.2 i x = true := by simp only [badW, Bool.or_eq_true, Bool.not_eq_true', Bool.and_eq_false_iff, decide_eq_false_iff_not]; left; omega
      simp [h1, h2, h3, h4, h5, this]
    have hg : (!(decide (0 ≤ x.1) && decide (x.1 < x.2.1) && decide (x.2.1 < n.1) && decide (1 ≤ x.2.2) && decide (x.2.2 ≤ 200))) = false := by
      simp only [Bool.not_eq_false', Bool.and_eq_true, decide_eq_true_eq]; omega
    cases i with
    | zero =>
      have hbad : badW n.1 n.2.2.2 0 x = false := by simp only [badW, hg, Bool.or_false]
      simp [h1, h2, h3, h4, h5, hbad]
    | succ j =>
      have hj : n.2.2.2[j]? = some n.2.2.2[j] := List.getElem?_eq_getElem (by omega)
      have hbad : badW n.1 n.2.2.2 (j + 1) x = !lex n.2.2.2[j] x := by simp only [badW, hg, Bool.false_or, hj]
      have hwr : wr (((j + 1 : Nat) : Int) - 1) = (j : Int) := by
        rw [wr_id (by omega) (by have := hw.1; simp only [B1] at this; omega)]; omega
      have hpos : decide (((j + 1 : Nat) : Int) > 0) = true := by rw [decide_eq_true_eq]; omega
      rw [hbad, hpos, hwr, getI_nat, hj]
      simp only [cond_true, Option.bind_some, p_byEnds, byEnds_lex]
      simp [h1, h2, h3, h4, h5]
  · intro st kc ke
    simp only [r_impl_NetOk_L0, not_lt_self, cond_false]

theorem netL0_spec (n : TNet) (hn : Sm.sm B1 n) (k : _ → Option Bool) (hn1 : 1 ≤ n.1) (hn5 : n.1 ≤ 5) :
    iterK (r_spec_NetOk_L0 e_spec_l01In e_spec_l03Reach N0) N0 (n, n.2.2.2, (n.2.2.2.length : Int), 0, ()) k = cond (wiresBad n) (some false) (k (n, n.2.2.2, (n.2.2.2.length : Int), (n.2.2.2.length : Int), ())) := by
  have hw : Sm.sm B1 n.2.2.2 := hn.2.2.2
  rw [iter_range (R := Bool) n.2.2.2 (fun (_ : Unit) i => (n, n.2.2.2, (n.2.2.2.length : Int), i, ())) (fun _ i x k => cond (badW n.1 n.2.2.2 i x) (some false) (k ())) ?_ ?_ (len_lt hw N0_gt) ()]
  · rw [rangeK_stop (fun i x => badW n.1 n.2.2.2 i x) (some false) _ _ _ (fun j x k _ => rfl)]
    rfl
  · intro st i x kc ke hx hi
    simp only [r_spec_NetOk_L0, lt_len, hi, decide_true, cond_true, getI_nat, hx, Option.bind_some, wr_len hi hw, p_l01In, n_l01In]
    have hw1 : wr (n.1 - 1) = n.1 - 1 := wr_id (by omega) (by omega)
    rw [hw1]
    by_cases h1 : 0 ≤ x.1 ∧ x.1 ≤ n.1 - 1
    · have hw2 : wr (x.1 + 1) = x.1 + 1 := wr_id (by omega) (by omega)
      rw [hw2]
      by_cases h2 : x.1 + 1 ≤ x.2.1 ∧ x.2.1 ≤ n.1 - 1
      · by_cases h3 : 1 ≤ x.2.2 ∧ x.2.2 ≤ 200
        · have hg : (!(decide (0 ≤ x.1) && decide (x.1 < x.2.1) && decide (x.2.1 < n.1) && decide (1 ≤ x.2.2) && decide (x.2.2 ≤ 200))) = false := by
            simp only [Bool.not_eq_false', Bool.and_eq_true, decide_eq_true_eq]; omega
          cases i with
          | zero =>
            have hbad : badW n.1 n.2.2.2 0 x = false := by simp only [badW, hg, Bool.or_false]
            simp [h1, h2, h3, hbad]
          | succ j =>
            have hj : n.2.2.2[j]? = some n.2.2.2[j] := List.getElem?_eq_getElem (by omega)
            have hbad : badW n.1 n.2.2.2 (j + 1) x = !lex n.2.2.2[j] x := by simp only [badW, hg, Bool.false_or, hj]
            have hwr : wr (((j + 1 : Nat) : Int) - 1) = (j : Int) := by
              rw [wr_id (by omega) (by have := hw.1; simp only [B1] at this; omega)]; omega
            have hpos : decide (((j + 1 : Nat) : Int) > 0) = true := by rw [decide_eq_true_eq]; omega
            rw [hbad, hpos, hwr, getI_nat, hj]
            simp only [cond_true, Option.bind_some, h1, h2, h3, decide_true, Bool.and_self, Bool.not_true, cond_false, lex]
            by_cases e1 : x.1 < n.2.2.2[j].1
            · have a1 : ¬ n.2.2.2[j].1 < x.1 := by omega
              have a2 : ¬ n.2.2.2[j].1 = x.1 := by omega
              simp [e1, a1, a2]
            · by_cases e2 : x.1 = n.2.2.2[j].1
              · by_cases e3 : x.2.1 ≤ n.2.2.2[j].2.1
                · have a3 : ¬ n.2.2.2[j].2.1 < x.2.1 := by omega
                  simp [e2, e3, a3]
                · have a3 : n.2.2.2[j].2.1 < x.2.1 := by omega
                  simp [e2, e3, a3]
              · have a1 : n.2.2.2[j].1 < x.1 := by omega
                simp [e1, e2, a1]
        · have : badW n.1 n.2.2.2 i x = true := by simp only [badW, Bool.or_eq_true, Bool.not_eq_true', Bool.and_eq_false_iff, decide_eq_false_iff_not]; left; omega
          have h3' : (decide (1 ≤ x.2.2) && decide (x.2.2 ≤ 200)) = false := by simp only [Bool.and_eq_false_iff, decide_eq_false_iff_not]; omega
          simp [h1, h2, h3', this]
      · have : badW n.1 n.2.2.2 i x = true := by simp only [badW, Bool.or_eq_true, Bool.not_eq_true', Bool.and_eq_false_iff, decide_eq_false_iff_not]; left; omega
        have h2' : (decide (x.1 + 1 ≤ x.2.1) && decide (x.2.1 ≤ n.1 - 1)) = false := by simp only [Bool.and_eq_false_iff, decide_eq_false_iff_not]; omega
        simp [h1, h2', this]
    · have : badW n.1 n.2.2.2 i x = true := by simp only [badW, Bool.or_eq_true, Bool.not_eq_true', Bool.and_eq_false_iff, decide_eq_false_iff_not]; left; omega
      have h1' : (decide (0 ≤ x.1) && decide (x.1 ≤ n.1 - 1)) = false := by simp only [Bool.and_eq_false_iff, decide_eq_false_iff_not]; omega
      simp [h1', this]
  · intro st kc ke
    simp only [r_spec_NetOk_L0, not_lt_self, cond_false]
-- what can be reached
inductive Rc (ws : List W3) : Int → Prop
  | zero : Rc ws 0
  | ab {e : W3} : e ∈ ws → Rc ws e.1 → Rc ws e.2.1
  | ba {e : W3} : e ∈ ws → Rc ws e.2.1 → Rc ws e.1

/-- The wires lie among the nodes. -/
def InW (nodes : Nat) (ws : List W3) : Prop := ∀ e ∈ ws, 0 ≤ e.1 ∧ e.1 < e.2.1 ∧ e.2.1 < nodes

theorem Rc.inn {nodes : Nat} {ws : List W3} (h0 : 0 < nodes) (hw : InW nodes ws) {v : Int} (h : Rc ws v) : 0 ≤ v ∧ v < nodes := by
  cases h with
  | zero => omega
  | ab he _ => have := hw _ he; omega
  | ba he _ => have := hw _ he; omega

-- the program's marks
def gt (st : List Bool) (v : Int) : Bool := (st[v.toNat]?).getD false
def upd (st : List Bool) (e : W3) : List Bool := if gt st e.1 = true ∨ gt st e.2.1 = true then (st.set e.1.toNat true).set e.2.1.toNat true else st
def cnt (st : List Bool) : Nat := (st.filter id).length

theorem cnt_le (st : List Bool) : cnt st ≤ st.length := List.length_filter_le _ _

theorem cnt_set : ∀ (st : List Bool) (i : Nat), cnt st ≤ cnt (st.set i true) ∧ (st[i]? = some false → cnt st + 1 ≤ cnt (st.set i true))
  | [], i => by simp [cnt]
  | b :: st, 0 => by cases b <;> simp [cnt]
  | b :: st, i + 1 => by
    have := cnt_set st i
    cases b <;> simp_all [cnt]

theorem gt_set (st : List Bool) (i : Nat) (v : Int) : gt (st.set i true) v = (gt st v || (decide (i = v.toNat) && decide (i < st.length))) := by
  simp only [gt, List.getElem?_set]
  by_cases e : i = v.toNat
  · subst e
    by_cases h : v.toNat < st.length
    · simp [h]
    · simp [h]
  · simp [e]

theorem upd_len (st : List Bool) (e : W3) : (upd st e).length = st.length := by
  unfold upd; split <;> simp

theorem upd_mono {st : List Bool} {e : W3} {v : Int} (h : gt st v = true) : gt (upd st e) v = true := by
  unfold upd; split
  · simp [gt_set, h]
  · exact h

theorem upd_sound {ws : List W3} {st : List Bool} {e : W3} {nodes : Nat} (hl : st.length = nodes) (hw : InW nodes ws) (he : e ∈ ws) (h : ∀ v, 0 ≤ v → gt st v = true → Rc ws v) : ∀ v, 0 ≤ v → gt (upd st e) v = true → Rc ws v := by
  intro v hv hg
  obtain ⟨h1, h2, h3⟩ := hw e he
  unfold upd at hg
  split at hg
  · rename_i hor
    have ha : Rc ws e.1 ∧ Rc ws e.2.1 := by
      rcases hor with hor | hor
      · have := h _ h1 hor; exact ⟨this, .ab he this⟩
      · have := h _ (by omega) hor; exact ⟨.ba he this, this⟩
    simp only [gt_set, Bool.or_eq_true, Bool.and_eq_true, decide_eq_true_eq] at hg
    rcases hg with (hg | hg) | hg
    · exact h v hv hg
    · have : e.1 = v := by omega
      rw [← this]; exact ha.1
    · have : e.2.1 = v := by omega
      rw [← this]; exact ha.2
  · exact h v hv hg

theorem gt_false {st : List Bool} {v : Int} (h : gt st v = false) (hl : v.toNat < st.length) : st[v.toNat]? = some false := by
  have : st[v.toNat]? = some st[v.toNat] := List.getElem?_eq_getElem hl
  unfold gt at h
  rw [this] at h ⊢
  simpa using h

theorem upd_cnt (st : List Bool) (e : W3) : cnt st ≤ cnt (upd st e) := by
  unfold upd; split
  · exact Nat.le_trans (cnt_set st _).1 (cnt_set _ _).1
  · exact Nat.le_refl _

theorem upd_grow {st : List Bool} {e : W3} {nodes : Nat} (hl : st.length = nodes) (hi : 0 ≤ e.1 ∧ e.1 < e.2.1 ∧ e.2.1 < nodes) (h : gt st e.1 ≠ gt st e.2.1) : cnt st + 1 ≤ cnt (upd st e) := by
  have hor : gt st e.1 = true ∨ gt st e.2.1 = true := by
    revert h; cases gt st e.1 <;> cases gt st e.2.1 <;> simp
  unfold upd
  rw [if_pos hor]
  by_cases h1 : gt st e.1 = true
  · have h2 : gt st e.2.1 = false := by
      revert h; rw [h1]; cases gt st e.2.1 <;> simp
    have : gt (st.set e.1.toNat true) e.2.1 = false := by
      rw [gt_set, h2]; simp; omega
    have hs := gt_false this (by simp; omega)
    exact Nat.le_trans (Nat.add_le_add_right (cnt_set st _).1 1) ((cnt_set _ _).2 hs)
  · have h1' : gt st e.1 = false := by simpa using h1
    have hs := gt_false h1' (by omega)
    exact Nat.le_trans ((cnt_set st _).2 hs) (cnt_set _ _).1

theorem upd_fix {st : List Bool} {e : W3} {nodes : Nat} (hl : st.length = nodes) (hi : 0 ≤ e.1 ∧ e.1 < e.2.1 ∧ e.2.1 < nodes) (h : gt st e.1 = gt st e.2.1) : upd st e = st := by
  unfold upd
  split
  · rename_i hor
    have hb : gt st e.1 = true ∧ gt st e.2.1 = true := by
      rw [h] at hor ⊢; rcases hor with hor | hor <;> exact ⟨hor, hor⟩
    have one : ∀ (v : Int), gt st v = true → st.set v.toNat true = st := by
      intro v hv
      apply List.ext_getElem?; intro j
      rw [List.getElem?_set]
      split
      · rename_i ej; subst ej
        unfold gt at hv
        split
        · rename_i hlt
          rw [List.getElem?_eq_getElem hlt] at hv ⊢
          simp at hv; rw [hv]
        · rename_i hlt
          rw [List.getElem?_eq_none (by omega)]
      · rfl
    rw [one _ hb.1, one _ hb.2]
  · rfl

def Closed (ws : List W3) (st : List Bool) : Prop := ∀ e ∈ ws, gt st e.1 = gt st e.2.1

theorem round_fix {nodes : Nat} : ∀ {ws : List W3} {st : List Bool}, st.length = nodes → InW nodes ws → Closed ws st → ws.foldl upd st = st
  | [], _, _, _, _ => rfl
  | e :: ws, st, hl, hw, hc => by
    simp only [List.foldl_cons]
    rw [upd_fix hl (hw e (by simp)) (hc e (by simp))]
    exact round_fix hl (fun x hx => hw x (by simp [hx])) fun x hx => hc x (by simp [hx])

theorem round_mono {nodes : Nat} : ∀ {ws : List W3} {st : List Bool}, cnt st ≤ cnt (ws.foldl upd st)
  | [], _ => Nat.le_refl _
  | e :: ws, st => Nat.le_trans (upd_cnt st e) (round_mono (nodes := nodes) (ws := ws))

theorem round_grow {nodes : Nat} : ∀ {ws : List W3} {st : List Bool}, st.length = nodes → InW nodes ws → Closed ws st ∨ cnt st + 1 ≤ cnt (ws.foldl upd st)
  | [], _, _, _ => .inl fun _ h => by simp at h
  | e :: ws, st, hl, hw => by
    by_cases h : gt st e.1 = gt st e.2.1
    · simp only [List.foldl_cons, upd_fix hl (hw e (by simp)) h]
      rcases round_grow (ws := ws) hl (fun x hx => hw x (by simp [hx])) with hc | hg
      · refine .inl fun x hx => ?_
        rcases List.mem_cons.1 hx with rfl | hx
        · exact h
        · exact hc x hx
      · exact .inr hg
    · refine .inr ?_
      simp only [List.foldl_cons]
      exact Nat.le_trans (upd_grow hl (hw e (by simp)) h) (round_mono (nodes := nodes))

theorem round_len : ∀ {ws : List W3} {st : List Bool}, (ws.foldl upd st).length = st.length
  | [], _ => rfl
  | e :: ws, st => by simp only [List.foldl_cons]; rw [round_len, upd_len]

theorem round_keep {v : Int} : ∀ {ws : List W3} {st : List Bool}, gt st v = true → gt (ws.foldl upd st) v = true
  | [], _, h => h
  | e :: ws, st, h => by simp only [List.foldl_cons]; exact round_keep (upd_mono h)

theorem round_sound {ws0 : List W3} {nodes : Nat} (hw : InW nodes ws0) : ∀ {ws : List W3} {st : List Bool}, (∀ e ∈ ws, e ∈ ws0) → st.length = nodes → (∀ v, 0 ≤ v → gt st v = true → Rc ws0 v) → ∀ v, 0 ≤ v → gt (ws.foldl upd st) v = true → Rc ws0 v
  | [], _, _, _, h => h
  | e :: ws, st, hs, hl, h => by
    simp only [List.foldl_cons]
    exact round_sound hw (fun x hx => hs x (by simp [hx])) ((upd_len st e).trans hl) (upd_sound hl hw (hs e (by simp)) h)

/-- All nodes can be reached. -/
noncomputable def conn (n : TNet) : Bool := open Classical in decide (∀ v : Int, 0 ≤ v → v < n.1 → Rc n.2.2.2 v)

theorem closed_all {ws : List W3} {st : List Bool} (hc : Closed ws st) (h0 : gt st 0 = true) : ∀ v, Rc ws v → gt st v = true := by
  intro v h
  induction h with
  | zero => exact h0
  | ab he _ ih => rw [← hc _ he]; exact ih
  | ba he _ ih => rw [hc _ he]; exact ih

theorem all_true {st : List Bool} {nodes : Nat} (hl : st.length = nodes) : decide (false ∈ st) = false ↔ ∀ v : Int, 0 ≤ v → v < nodes → gt st v = true := by
  constructor
  · intro h v h0 h1
    simp only [decide_eq_false_iff_not] at h
    cases hg : gt st v with
    | true => rfl
    | false => exact absurd (List.mem_of_getElem? (gt_false hg (by omega))) h
  · intro h
    simp only [decide_eq_false_iff_not]
    intro hm
    obtain ⟨i, hi⟩ := List.getElem?_of_mem hm
    have := h (i : Int) (by omega) (by have := get_lt hi; omega)
    simp [gt, hi] at this

end Go.Sx.R

/- Networks: connected or not, by the program's marks and by the reference's queue. Conditions: none. -/
namespace Go.Sx.R
open Go Go.Sx

theorem getI_gt {st : List Bool} {v : Int} (h0 : 0 ≤ v) (h1 : v < st.length) : getI st v = some (gt st v) := by
  have e : v = ((v.toNat : Nat) : Int) := by omega
  have hl : v.toNat < st.length := by omega
  rw [e, getI_nat, gt, Int.toNat_natCast, List.getElem?_eq_getElem hl]; rfl

def met4 (st : List Bool) (_ : Nat) (x : W3) (k : List Bool → Option Bool) : Option Bool :=
  Option.bind (getI st x.1) fun b => cond b (Option.bind (getI st x.1) fun _ => Option.bind (getI (st.set x.1.toNat true) x.2.1) fun _ => k ((st.set x.1.toNat true).set x.2.1.toNat true))
    (Option.bind (getI st x.2.1) fun b2 => cond b2 (Option.bind (getI st x.1) fun _ => Option.bind (getI (st.set x.1.toNat true) x.2.1) fun _ => k ((st.set x.1.toNat true).set x.2.1.toNat true)) (k st))

theorem met4_upd {st : List Bool} {j : Nat} {x : W3} {k : List Bool → Option Bool} (hi : 0 ≤ x.1 ∧ x.1 < x.2.1 ∧ x.2.1 < st.length) : met4 st j x k = k (upd st x) := by
  have g1 := getI_gt (st := st) (v := x.1) (by omega) (by omega)
  have g2 := getI_gt (st := st) (v := x.2.1) (by omega) (by omega)
  have g3 := getI_gt (st := st.set x.1.toNat true) (v := x.2.1) (by omega) (by simp; omega)
  simp only [met4, g1, g2, g3, Option.bind_some, upd]
  cases h1 : gt st x.1 <;> cases h2 : gt st x.2.1 <;> simp

theorem met_inner (n : TNet) (hn : Sm.sm B1 n) (i : Int) (st : List Bool) (hl : InW st.length n.2.2.2) (k : _ → Option Bool) :
    iterK (r_impl_NetOk_L4 e_slices_Contains_bool e_impl_byEnds N0) N0 (n, st, n.1, i, n.2.2.2, (n.2.2.2.length : Int), 0, ()) k =
      k (n, n.2.2.2.foldl upd st, n.1, i, n.2.2.2, (n.2.2.2.length : Int), (n.2.2.2.length : Int), ()) := by
  have hw : Sm.sm B1 n.2.2.2 := hn.2.2.2
  rw [iter_range (R := Bool) n.2.2.2 (fun (st : List Bool) j => (n, st, n.1, i, n.2.2.2, (n.2.2.2.length : Int), j, ())) met4 ?_ ?_ (len_lt hw N0_gt)]
  · have := (rangeK_foldP (step := met4) (fun _ s => s.length = st.length) (fun s _ x => upd s x) (fun st' => k (n, st', n.1, i, n.2.2.2, (n.2.2.2.length : Int), (n.2.2.2.length : Int), ())) n.2.2.2 0 st rfl
      (fun s j x k hs hx => ⟨met4_upd (by rw [hs]; exact hl x (List.mem_of_getElem? hx)), by rw [upd_len, hs]⟩)).1
    rw [this]
    have key : ∀ (l : List W3) (i : Nat) (s : List Bool), foldI (fun s _ x => upd s x) l i s = l.foldl upd s := by
      intro l
      induction l with
      | nil => intros; rfl
      | cons x l ih => intro i s; simp only [foldI, List.foldl_cons, ih]
    rw [key]
  · intro st j x kc ke hx hj
    simp only [r_impl_NetOk_L4, lt_len, hj, decide_true, cond_true, getI_nat, hx, Option.bind_some, wr_len hj hw, met4]
  · intro st kc ke
    simp only [r_impl_NetOk_L4, not_lt_self, cond_false]

/-- The marks at the end. -/
theorem met_outer (n : TNet) (hn : Sm.sm B1 n) (m : Nat) (hm : n.1 = m) (h1 : 1 ≤ m) (hw : InW m n.2.2.2) (st : List Bool) (hl : st.length = m) (hs : ∀ v, 0 ≤ v → gt st v = true → Rc n.2.2.2 v) (h0 : gt st 0 = true) (hc : 1 ≤ cnt st) (k : _ → Option Bool) :
    ∃ st', st'.length = m ∧ Closed n.2.2.2 st' ∧ (∀ v, 0 ≤ v → gt st' v = true → Rc n.2.2.2 v) ∧ gt st' 0 = true ∧
      iterK (r_impl_NetOk_L2 e_slices_Contains_bool e_impl_byEnds N0) N0 (n, st, n.1, 0, ()) k = k (n, st', n.1, n.1, ()) := by
  have hb : m ≤ 9223372036854775807 := by have := hn.1.2; omega
  have hlen : (List.range m).length = m := by simp
  have hnm : n.1 = ((List.range m).length : Int) := by simp [hm]
  have fp := iter_fold (R := Bool) (body := r_impl_NetOk_L2 e_slices_Contains_bool e_impl_byEnds N0) (List.range m) (fun (st : List Bool) i => (n, st, n.1, i, ()))
    (fun i st => st.length = m ∧ (∀ v, 0 ≤ v → gt st v = true → Rc n.2.2.2 v) ∧ gt st 0 = true ∧ (Closed n.2.2.2 st ∨ i + 1 ≤ cnt st)) (fun st _ _ => n.2.2.2.foldl upd st)
    (fun st j x kc ke ⟨p1, p2, p3, p4⟩ hx hj => by
      refine ⟨?_, round_len.trans p1, round_sound hw (fun e he => he) p1 p2, round_keep p3, ?_⟩
      · have hlt : decide ((j : Int) < n.1) = true := by rw [decide_eq_true_eq, hnm]; exact Int.ofNat_lt.2 hj
        simp only [r_impl_NetOk_L2, hlt, cond_true]
        rw [met_inner n hn _ st (by rw [p1]; exact hw)]
        rw [wr_succ hj (by omega)]
      · rcases p4 with p4 | p4
        · left; rw [round_fix p1 hw p4]; exact p4
        · rcases round_grow p1 hw with q | q
          · left; rw [round_fix p1 hw q]; exact q
          · right; omega)
    (fun st kc ke _ => by
      have hlt : decide ((((List.range m).length : Nat) : Int) < n.1) = false := by rw [decide_eq_false_iff_not, hnm]; omega
      simp only [r_impl_NetOk_L2, hlt, cond_false]) (N := N0) (by have := N0_big; omega) st ⟨hl, hs, h0, .inr hc⟩ k
  refine ⟨foldI (fun st _ _ => n.2.2.2.foldl upd st) (List.range m) 0 st, fp.2.1, ?_, fp.2.2.1, fp.2.2.2.1, ?_⟩
  · rcases fp.2.2.2.2 with q | q
    · exact q
    · have := cnt_le (foldI (fun st _ _ => n.2.2.2.foldl upd st) (List.range m) 0 st)
      rw [fp.2.1] at this
      simp only [hlen] at q; omega
  · rw [fp.1, hlen, hm]

theorem wiresOk {n : TNet} {m : Nat} (hm : n.1 = m) (h : wiresBad n = false) : InW m n.2.2.2 := by
  intro e he
  obtain ⟨i, hi⟩ := List.getElem?_of_mem he
  simp only [wiresBad, List.any_eq_false] at h
  have := h (e, i) (by rw [List.mem_zipIdx_iff_getElem?]; exact hi)
  simp only [badW, Bool.not_eq_true, Bool.or_eq_false_iff, Bool.not_eq_false', Bool.and_eq_true, decide_eq_true_eq] at this
  omega

noncomputable def netok (n : TNet) : Bool := hdrOk n && !wiresBad n && conn n

theorem p_NetOk (n : TNet) (hn : Sm.sm B1 n) : e_impl_NetOk (n, ()) = some (netok n) := by
  simp only [e_impl_NetOk, r_impl_NetOk, netL0_impl n hn]
  by_cases hh : hdrOk n = true
  · have hh' := hh
    simp only [hdrOk, Bool.and_eq_true, decide_eq_true_eq] at hh'
    obtain ⟨⟨⟨⟨⟨q1, q2⟩, q3⟩, q4⟩, q5⟩, q6⟩ := hh'
    have d1 : decide (n.1 < 1) = false := by rw [decide_eq_false_iff_not]; omega
    have d2 : decide (n.1 > 5) = false := by rw [decide_eq_false_iff_not]; omega
    have d3 : decide (n.2.1 < 1) = false := by rw [decide_eq_false_iff_not]; omega
    have d4 : decide (n.2.1 > n.1) = false := by rw [decide_eq_false_iff_not]; omega
    have d5 : decide (n.2.2.1 < 1) = false := by rw [decide_eq_false_iff_not]; omega
    have d6 : decide (n.2.2.1 > 1000) = false := by rw [decide_eq_false_iff_not]; omega
    simp only [d1, d2, d3, d4, d5, d6, cond_false]
    cases hb : wiresBad n with
    | true => simp [netok, hh, hb]
    | false =>
      simp only [cond_false]
      obtain ⟨m, hm⟩ : ∃ m : Nat, n.1 = m := ⟨n.1.toNat, by omega⟩
      have hw := wiresOk hm hb
      have d7 : decide (0 ≤ n.1) = true := by rw [decide_eq_true_eq]; omega
      have hm' : n.1.toNat = m := by omega
      simp only [d7, cond_true, hm', ble_true (show m ≤ 17179869184 by omega)]
      have g0 : getI (List.replicate m false) 0 = some false := by
        rw [getI_zero, List.getElem?_replicate, if_pos (by omega)]
      simp only [g0, Option.bind_some, Int.toNat_zero]
      obtain ⟨st', p1, p2, p3, p4, p5⟩ := met_outer n hn m hm (by omega) hw ((List.replicate m false).set 0 true) (by simp)
        (fun v hv hg => by
          rw [gt_set] at hg
          have hz : gt (List.replicate m false) v = false := by
            simp only [gt, List.getElem?_replicate]; split <;> rfl
          rw [hz] at hg
          simp at hg
          have : v = 0 := by omega
          subst this; exact .zero)
        (by rw [gt_set]; simp; omega)
        (by have := (cnt_set (List.replicate m false) 0).2 (by rw [List.getElem?_replicate, if_pos (by omega)]); omega)
        (fun s3 => Option.bind (e_slices_Contains_bool (s3.2.1, false, ())) fun x4 => some (!x4))
      rw [p5]
      simp only [p_ContainsB st' false (show st'.length ≤ BB by rw [p1]; exact Nat.le_trans (show m ≤ 5 by omega) (by decide)), Option.bind_some, netok, hh, hb, Bool.not_false, Bool.true_and, Option.some.injEq]
      have hall := all_true p1
      by_cases hc : ∀ v : Int, 0 ≤ v → v < n.1 → Rc n.2.2.2 v
      · have e1 : conn n = true := by simp only [conn, decide_eq_true_eq]; exact hc
        rw [e1, hall.2 fun v h0 h1 => closed_all p2 p4 v (hc v h0 (by omega))]; rfl
      · have e1 : conn n = false := by simp only [conn, decide_eq_false_iff_not]; exact hc
        have : decide (false ∈ st') = true := by
          cases hd : decide (false ∈ st') with
          | true => rfl
          | false => exact absurd (fun v h0 h1 => p3 v h0 (hall.1 hd v h0 (by omega))) hc
        rw [e1, this]; rfl
  · simp only [Bool.not_eq_true] at hh
    have e : netok n = false := by simp [netok, hh]
    rw [e]
    have hh' := hh
    simp only [hdrOk, Bool.and_eq_false_iff, decide_eq_false_iff_not] at hh'
    by_cases d1 : n.1 < 1
    · simp [d1]
    by_cases d2 : n.1 > 5
    · simp [d1, d2]
    by_cases d3 : n.2.1 < 1
    · simp [d1, d2, d3]
    by_cases d4 : n.2.1 > n.1
    · simp [d1, d2, d3, d4]
    by_cases d5 : n.2.2.1 < 1
    · simp [d1, d2, d3, d4, d5]
    by_cases d6 : n.2.2.1 > 1000
    · simp [d1, d2, d3, d4, d5, d6]
    omega

end Go.Sx.R

/- Networks: the reference's queue. Conditions: none. -/
namespace Go.Sx.R
open Go Go.Sx

def addIf (c : Bool) (v : Int) (q : List Int) : List Int := if c = true ∧ v ∉ q then q ++ [v] else q

theorem addIf_mem {c : Bool} {v u : Int} {q : List Int} (h : u ∈ q) : u ∈ addIf c v q := by
  unfold addIf; split
  · simp [h]
  · exact h
theorem addIf_in {v : Int} {q : List Int} : v ∈ addIf true v q := by
  unfold addIf; split
  · simp
  · rename_i h; simpa using h
theorem addIf_get {c : Bool} {v u : Int} {q : List Int} {i : Nat} (h : q[i]? = some u) : (addIf c v q)[i]? = some u := by
  unfold addIf; split
  · rw [List.getElem?_append_left (get_lt h)]; exact h
  · exact h
theorem addIf_len {c : Bool} {v : Int} {q : List Int} : q.length ≤ (addIf c v q).length := by
  unfold addIf; split <;> simp

/-- What holds of the queue. -/
structure QOk (ws : List W3) (q : List Int) : Prop where
  nodup : q.Nodup
  rc : ∀ v ∈ q, Rc ws v
  zero : (0 : Int) ∈ q

theorem QOk.add {ws : List W3} {q : List Int} (h : QOk ws q) {c : Bool} {v : Int} (hv : c = true → Rc ws v) : QOk ws (addIf c v q) := by
  unfold addIf; split
  · rename_i hc
    refine ⟨?_, fun u hu => ?_, by simp [h.zero]⟩
    · rw [List.nodup_append]
      refine ⟨h.nodup, by simp, fun a ha b hb e => ?_⟩
      simp at hb; subst hb; subst e; exact hc.2 ha
    · rcases List.mem_append.1 hu with hu | hu
      · exact h.rc u hu
      · simp at hu; subst hu; exact hv hc.1
  · exact h

theorem QOk.len {ws : List W3} {q : List Int} {m : Nat} (h : QOk ws q) (h0 : 0 < m) (hw : InW m ws) : q.length ≤ m := by
  have := nodup_len (m := ints m) h.nodup fun v hv => mem_ints.2 ((h.rc v hv).inn h0 hw)
  rwa [len_ints] at this

def Done (ws : List W3) (v : Int) (q : List Int) : Prop := ∀ e ∈ ws, (e.1 = v → e.2.1 ∈ q) ∧ (e.2.1 = v → e.1 ∈ q)

def reachG (x : Int) (q : List Int) (_ : Nat) (e : W3) : List Int := addIf (decide (e.2.1 = x)) e.1 (addIf (decide (e.1 = x)) e.2.1 q)

theorem addT {v : Int} {q : List Int} (h : v ∉ q) : addIf true v q = q ++ [v] := by simp [addIf, h]
theorem addN {c : Bool} {v : Int} {q : List Int} (h : v ∈ q) : addIf c v q = q := by simp [addIf, h]
theorem addF {v : Int} {q : List Int} : addIf false v q = q := by simp [addIf]

theorem reach_step (ws : List W3) (hws : Sm.sm B1 ws) (m : Nat) (h0 : 0 < m) (h5 : m ≤ 5) (hw : InW m ws) (i : Nat) (x : Int) (q : List Int) (hq : QOk ws q) (hx : q[i]? = some x) (j : Nat) (e : W3) (he : ws[j]? = some e) (hj : j < ws.length) (kc ke : _ → Option (List Int)) :
    r_spec_l03Reach_L2 e_spec_l03Has N0 (ws, q, (i : Int), ws, (ws.length : Int), (j : Int), ()) kc ke = kc (ws, reachG x q j e, (i : Int), ws, (ws.length : Int), ((j + 1 : Nat) : Int), ()) := by
  have hxq : x ∈ q := List.mem_of_getElem? hx
  have hl := hq.len h0 hw
  have hbb : ∀ k : Nat, k ≤ 7 → k ≤ BB := fun k hk => Nat.le_trans hk (by decide)
  simp only [r_spec_l03Reach_L2, lt_len, hj, decide_true, cond_true, getI_nat, he, hx, Option.bind_some, wr_len hj hws]
  rw [p_Has q e.2.1 (hbb _ (by omega)), p_Has q e.1 (hbb _ (by omega))]
  have hx2 : ∀ v : Int, (q ++ [v])[i]? = some x := fun v => by rw [List.getElem?_append_left (get_lt hx)]; exact hx
  have room : Nat.ble (q.length + 1) 17179869184 = true := ble_true (by omega)
  have room2 : Nat.ble (q.length + 1 + 1) 17179869184 = true := ble_true (by omega)
  rw [p_Has (q ++ [e.2.1]) e.1 (hbb _ (by simp; omega))]
  simp only [List.length_cons, List.length_nil, List.length_append, Nat.zero_add, room, room2, hx2, Option.bind_some, cond_true, reachG]
  by_cases a1 : e.1 = x
  · rw [a1]
    simp only [decide_true, cond_true]
    by_cases a2 : e.2.1 ∈ q
    · simp only [a2, decide_true, Bool.not_true, cond_false, addN a2]
      by_cases a3 : e.2.1 = x
      · simp only [a3, decide_true, cond_true, hxq, Bool.not_true, cond_false, addN hxq]
      · simp only [a3, decide_false, cond_false, addF]
    · simp only [a2, decide_false, Bool.not_false, cond_true, addT a2]
      by_cases a3 : e.2.1 = x
      · exact absurd (a3 ▸ hxq) a2
      · simp only [a3, decide_false, cond_false, addF]
  · simp only [a1, decide_false, cond_false, addF]
    by_cases a3 : e.2.1 = x
    · simp only [a3, decide_true, cond_true]
      by_cases a4 : e.1 ∈ q
      · simp only [a4, decide_true, Bool.not_true, cond_false, addN a4]
      · simp only [a4, decide_false, Bool.not_false, cond_true, addT a4]
    · simp only [a3, decide_false, cond_false, addF]

theorem reach_inner (ws : List W3) (hws : Sm.sm B1 ws) (m : Nat) (h0 : 0 < m) (h5 : m ≤ 5) (hw : InW m ws) (i : Nat) (x : Int) (q : List Int) (hq : QOk ws q) (hx : q[i]? = some x) (ke : _ → Option (List Int)) :
    ∃ q', iterK (r_spec_l03Reach_L2 e_spec_l03Has N0) N0 (ws, q, (i : Int), ws, (ws.length : Int), 0, ()) ke = ke (ws, q', (i : Int), ws, (ws.length : Int), (ws.length : Int), ()) ∧
      QOk ws q' ∧ q'[i]? = some x ∧ (∀ u ∈ q, u ∈ q') ∧ q.length ≤ q'.length ∧ Done ws x q' ∧ ∀ (j : Nat) (u : Int), q[j]? = some u → q'[j]? = some u := by
  have hxr : Rc ws x := hq.rc x (List.mem_of_getElem? hx)
  have := iter_fold (R := List Int) (body := r_spec_l03Reach_L2 e_spec_l03Has N0) ws (fun (q : List Int) j => (ws, q, (i : Int), ws, (ws.length : Int), j, ()))
    (fun j q' => QOk ws q' ∧ q'[i]? = some x ∧ (∀ u ∈ q, u ∈ q') ∧ q.length ≤ q'.length ∧ (∀ (k : Nat) (e : W3), k < j → ws[k]? = some e → (e.1 = x → e.2.1 ∈ q') ∧ (e.2.1 = x → e.1 ∈ q')) ∧ ∀ (k : Nat) (u : Int), q[k]? = some u → q'[k]? = some u) (reachG x)
    (fun q' j e kc ke ⟨p1, p2, p3, p4, p5, p6⟩ he hj => by
      refine ⟨reach_step ws hws m h0 h5 hw i x q' p1 p2 j e he hj kc ke, ?_, ?_, ?_, ?_, ?_, ?_⟩
      · have hem := List.mem_of_getElem? he
        refine (p1.add fun hc => ?_).add fun hc => ?_
        · have : e.1 = x := by simpa using hc
          exact .ab hem (this ▸ hxr)
        · have : e.2.1 = x := by simpa using hc
          exact .ba hem (this ▸ hxr)
      · exact addIf_get (addIf_get p2)
      · exact fun u hu => addIf_mem (addIf_mem (p3 u hu))
      · exact Nat.le_trans p4 (Nat.le_trans addIf_len addIf_len)
      · intro k e' hk hek
        by_cases ek : k = j
        · subst ek
          rw [he] at hek; simp only [Option.some.injEq] at hek; subst hek
          refine ⟨fun h1 => ?_, fun h2 => ?_⟩
          · refine addIf_mem ?_
            rw [decide_eq_true h1]; exact addIf_in
          · simp only [reachG]
            rw [decide_eq_true h2]; exact addIf_in
        · have := p5 k e' (by omega) hek
          exact ⟨fun h => addIf_mem (addIf_mem (this.1 h)), fun h => addIf_mem (addIf_mem (this.2 h))⟩
      · exact fun k u hk => addIf_get (addIf_get (p6 k u hk)))
    (fun q' kc ke _ => by simp only [r_spec_l03Reach_L2, not_lt_self, cond_false]) (N := N0) (len_lt hws N0_gt) q ⟨hq, hx, fun _ h => h, Nat.le_refl _, by simp, fun _ _ h => h⟩ ke
  obtain ⟨e1, p1, p2, p3, p4, p5, p6⟩ := this
  refine ⟨_, e1, p1, p2, p3, p4, fun e he => ?_, p6⟩
  obtain ⟨k, hk⟩ := List.getElem?_of_mem he
  exact p5 k e (get_lt hk) hk

theorem p_Reach (ws : List W3) (hws : Sm.sm B1 ws) (m : Nat) (h0 : 0 < m) (h5 : m ≤ 5) (hw : InW m ws) :
    ∃ q, e_spec_l03Reach (ws, 0, ()) = some q ∧ QOk ws q ∧ ∀ v ∈ q, Done ws v q := by
  simp only [e_spec_l03Reach, r_spec_l03Reach]
  refine iter_while (fun o => ∃ q, o = some q ∧ QOk ws q ∧ ∀ v ∈ q, Done ws v q)
    (fun s : List W3 × List Int × Int × Unit => s.1 = ws ∧ QOk ws s.2.1 ∧ ∃ i : Nat, s.2.2.1 = i ∧ i ≤ s.2.1.length ∧ ∀ (j : Nat) (u : Int), j < i → s.2.1[j]? = some u → Done ws u s.2.1) (fun s => m - s.2.2.1.toNat) ?_ N0 _ ⟨rfl, ⟨by simp, fun v hv => ?_, by simp⟩, 0, rfl, by simp, by simp⟩ (by have := N0_big; simp only [Int.toNat_zero]; omega)
  · rintro ⟨ws', q, at', u⟩ kc ⟨rfl, hq, i, rfl, hi, hd⟩ hk
    simp only [r_spec_l03Reach_L0]
    simp only at hq hi hd
    by_cases hlt : i < q.length
    · simp only [lt_len, hlt, decide_true, cond_true]
      have hx : q[i]? = some q[i] := List.getElem?_eq_getElem hlt
      obtain ⟨q', e1, p1, p2, p3, p4, p5, p6⟩ := reach_inner ws' hws m h0 h5 hw i q[i] q hq hx (fun s1 => kc (s1.1, s1.2.1, wr (s1.2.2.1 + 1), ()))
      rw [e1]
      have hl := hq.len h0 hw
      simp only [wr_succ hlt (by omega)]
      refine hk _ ⟨rfl, p1, i + 1, rfl, by simp only; omega, fun j u hj hu => ?_⟩ (by simp only [Int.toNat_natCast]; omega)
      simp only at hu ⊢
      by_cases ej : j = i
      · subst ej; rw [p2] at hu; simp only [Option.some.injEq] at hu; rw [← hu]; exact p5
      · have hj' : j < q.length := by omega
        have h1 : q[j]? = some q[j] := List.getElem?_eq_getElem hj'
        have h2 := p6 j _ h1
        rw [hu] at h2; simp only [Option.some.injEq] at h2; subst h2
        intro e he
        exact ⟨fun h => p3 _ ((hd j _ (by omega) h1 e he).1 h), fun h => p3 _ ((hd j _ (by omega) h1 e he).2 h)⟩
    · have hd' : decide ((i : Int) < (q.length : Int)) = false := by simp; omega
      simp only [hd', cond_false]
      refine ⟨q, rfl, hq, fun v hv => ?_⟩
      obtain ⟨j, hj⟩ := List.getElem?_of_mem hv
      exact hd j v (by have := get_lt hj; omega) hj
  · simp at hv; subst hv; exact .zero

theorem reach_all {ws : List W3} {q : List Int} (hq : QOk ws q) (hd : ∀ v ∈ q, Done ws v q) : ∀ v, Rc ws v → v ∈ q := by
  intro v h
  induction h with
  | zero => exact hq.zero
  | ab he _ ih => exact (hd _ ih _ he).1 rfl
  | ba he _ ih => exact (hd _ ih _ he).2 rfl

theorem s_NetOk (n : TNet) (hn : Sm.sm B1 n) : e_spec_NetOk (n, ()) = some (netok n) := by
  simp only [e_spec_NetOk, r_spec_NetOk, p_l01In, n_l01In, Option.bind_some]
  by_cases hh : hdrOk n = true
  · have hh' := hh
    simp only [hdrOk, Bool.and_eq_true, decide_eq_true_eq] at hh'
    obtain ⟨⟨⟨⟨⟨q1, q2⟩, q3⟩, q4⟩, q5⟩, q6⟩ := hh'
    simp only [q1, q2, q3, q4, q5, q6, decide_true, Bool.and_self, Bool.not_true, cond_false]
    rw [netL0_spec n hn _ q1 q2]
    cases hb : wiresBad n with
    | true => simp [netok, hh, hb]
    | false =>
      simp only [cond_false]
      obtain ⟨m, hm⟩ : ∃ m : Nat, n.1 = m := ⟨n.1.toNat, by omega⟩
      have hw := wiresOk hm hb
      obtain ⟨q, e1, hq, hd⟩ := p_Reach n.2.2.2 hn.2.2.2 m (by omega) (by omega) hw
      rw [e1]
      simp only [Option.bind_some, netok, hh, hb, Bool.not_false, Bool.true_and, Option.some.injEq]
      have hl := hq.len (by omega) hw
      by_cases hc : ∀ v : Int, 0 ≤ v → v < n.1 → Rc n.2.2.2 v
      · have e2 : conn n = true := by simp only [conn, decide_eq_true_eq]; exact hc
        rw [e2, decide_eq_true_eq]
        have := nodup_len (l := ints m) (m := q) nodup_ints fun v hv => reach_all hq hd v (hc v (mem_ints.1 hv).1 (by have := (mem_ints.1 hv).2; omega))
        rw [len_ints] at this; omega
      · have e2 : conn n = false := by simp only [conn, decide_eq_false_iff_not]; exact hc
        rw [e2, decide_eq_false_iff_not]
        intro hlen
        have hall := nodup_all (m := ints m) hq.nodup (fun v hv => mem_ints.2 ((hq.rc v hv).inn (by omega) hw)) (by rw [len_ints]; omega)
        exact hc fun v h0 h1 => hq.rc v (hall v (mem_ints.2 ⟨h0, by omega⟩))
  · simp only [Bool.not_eq_true] at hh
    have e : netok n = false := by simp [netok, hh]
    rw [e]
    have hh' := hh
    simp only [hdrOk, Bool.and_eq_false_iff, decide_eq_false_iff_not] at hh'
    by_cases d1 : 1 ≤ n.1 ∧ n.1 ≤ 5
    · by_cases d3 : 1 ≤ n.2.1 ∧ n.2.1 ≤ n.1
      · have d5 : (decide (1 ≤ n.2.2.1) && decide (n.2.2.1 ≤ 1000)) = false := by simp only [Bool.and_eq_false_iff, decide_eq_false_iff_not]; omega
        simp [d1, d3, d5]
      · have d3' : (decide (1 ≤ n.2.1) && decide (n.2.1 ≤ n.1)) = false := by simp only [Bool.and_eq_false_iff, decide_eq_false_iff_not]; omega
        simp [d1, d3']
    · have d1' : (decide (1 ≤ n.1) && decide (n.1 ≤ 5)) = false := by simp only [Bool.and_eq_false_iff, decide_eq_false_iff_not]; omega
      simp [d1']
end Go.Sx.R

/- Bounds; weights between nodes, neighbours, leaves and series. Conditions: none. -/
namespace Go.Sx.R
open Go Go.Sx

-- bounds
def badB (low high : List Int) (i : Nat) (x : W3) : Bool := match low[i]?, high[i]? with
  | some l, some h => !(decide (1 ≤ l) && decide (l ≤ x.2.2) && (decide (x.2.2 ≤ h) && decide (h ≤ 200)))
  | _, _ => false

noncomputable def n_BoundsOk (n : TNet) (low high : List Int) : Bool := netok n && decide (low.length = n.2.2.2.length) && decide (high.length = n.2.2.2.length) && !(n.2.2.2.zipIdx 0).any fun p => badB low high p.2 p.1

theorem sm_intS {B : Nat} {l : List Int} (h : Sm.sm BB l) (hl : l.length ≤ B) : Sm.sm B l := ⟨hl, fun y hy => h.2 y hy⟩

end Go.Sx.R

/- Weights between nodes, neighbours, leaves and series. Conditions: none. -/
namespace Go.Sx.R
open Go Go.Sx

theorem find_first {β : Type} (p : β → Bool) : ∀ (l : List β) (i : Nat) (x : β), (∀ (j : Nat) (y : β), j < i → l[j]? = some y → p y = false) → l[i]? = some x → p x = true → l.find? p = some x
  | [], i, x, _, hx, _ => by simp at hx
  | y :: l, 0, x, _, hx, hp => by
    simp at hx; subst hx; simp [hp]
  | y :: l, i + 1, x, h, hx, hp => by
    have h0 := h 0 y (by omega) (by simp)
    simp only [List.find?_cons, h0]
    exact find_first p l i x (fun j z hj hz => h (j + 1) z (by omega) (by simpa using hz)) (by simpa using hx) hp

theorem find_none {β : Type} (p : β → Bool) (l : List β) (h : ∀ (j : Nat) (y : β), l[j]? = some y → p y = false) : l.find? p = none := by
  rw [List.find?_eq_none]
  intro x hx
  obtain ⟨j, hj⟩ := List.getElem?_of_mem hx
  simp [h j x hj]

/-- A wire between two nodes. -/
def isW (a b : Int) (x : W3) : Bool := decide (x.1 = if b < a then b else a) && decide (x.2.1 = if b > a then b else a)
def wbt (ws : List W3) (a b : Int) : Int := if a = b then 0 else match ws.find? (isW a b) with
  | some x => x.2.2
  | none => 0

theorem p_WB (n : TNet) (m : Nat) (hn : Sm.sm B1 n) (hw : InW m n.2.2.2) (a b : Int) : e_impl_WeightBetween (n, a, b, ()) = some (wbt n.2.2.2 a b) := by
  have hws : Sm.sm B1 n.2.2.2 := hn.2.2.2
  simp only [e_impl_WeightBetween, r_impl_WeightBetween]
  refine iter_rule (fun o => o = some (wbt n.2.2.2 a b)) n.2.2.2 (fun (_ : Unit) i => (a, b, n.2.2.2, (n.2.2.2.length : Int), i, ())) (fun i _ => a = b ∨ ∀ (j : Nat) (y : W3), j < i → n.2.2.2[j]? = some y → isW a b y = false)
    (fun st i x kc hp hx hi hk => ?_) (fun st kc hp => ?_) (len_lt hws N0_gt) () (.inr (by simp))
  · simp only [r_impl_WeightBetween_L0, lt_len, hi, decide_true, cond_true, getI_nat, hx, Option.bind_some, wr_len hi hws]
    have hk' := hk ()
    by_cases hab : a = b
    · simp only [hab, decide_true, Bool.not_true, cond_false] at hk' ⊢
      exact hk' (.inl trivial)
    · have hp := hp.resolve_left hab
      simp only [hab, decide_false, Bool.not_false, cond_true]
      have hx3 := hw x (List.mem_of_getElem? hx)
      have next : isW a b x = false → some (wbt n.2.2.2 a b) = some (wbt n.2.2.2 a b) → kc (a, b, n.2.2.2, (n.2.2.2.length : Int), ((i + 1 : Nat) : Int), ()) = some (wbt n.2.2.2 a b) := fun hf _ => hk' (.inr fun j y hj hy => by
        by_cases e : j = i
        · subst e; rw [hx] at hy; simp only [Option.some.injEq] at hy; subst hy; exact hf
        · exact hp j y (by omega) hy)
      have hit : isW a b x = true → some x.2.2 = some (wbt n.2.2.2 a b) := fun ht => by
        rw [wbt, if_neg hab, find_first (isW a b) _ i x hp hx ht]
      by_cases a1 : x.1 = a
      · by_cases a2 : x.2.1 = b
        · simp only [a1, a2, decide_true, cond_true]
          refine hit ?_
          simp only [isW, Bool.and_eq_true, decide_eq_true_eq]
          rw [if_neg (by omega), if_pos (by omega)]; exact ⟨a1, a2⟩
        · have hf : isW a b x = false := by
            simp only [isW, Bool.and_eq_false_iff, decide_eq_false_iff_not]
            by_cases c : b < a
            · left; rw [if_pos c]; omega
            · right; rw [if_pos (by omega)]; exact a2
          have a3 : ¬ (x.1 = b) := by omega
          have a3' : ¬ (a = b) := by omega
          simp only [a1, a2, decide_true, cond_true, decide_false, cond_false, a3']
          exact next hf rfl
      · by_cases a3 : x.1 = b
        · by_cases a4 : x.2.1 = a
          · simp only [a1, a3, a4, decide_true, cond_true, decide_false, cond_false]
            have : ¬ b = a := by omega
            simp only [this, decide_false, cond_false]
            refine hit ?_
            simp only [isW, Bool.and_eq_true, decide_eq_true_eq]
            rw [if_pos (by omega), if_neg (by omega)]; exact ⟨a3, a4⟩
          · have hf : isW a b x = false := by
              simp only [isW, Bool.and_eq_false_iff, decide_eq_false_iff_not]
              by_cases c : b < a
              · right; rw [if_neg (by omega)]; exact a4
              · left; rw [if_neg c]; exact a1
            have : ¬ b = a := by omega
            simp only [a3, a4, decide_true, cond_true, decide_false, cond_false, this]
            exact next hf rfl
        · have hf : isW a b x = false := by
            simp only [isW, Bool.and_eq_false_iff, decide_eq_false_iff_not]
            left; split <;> assumption
          simp only [a1, a3, decide_false, cond_false]
          exact next hf rfl
  · simp only [r_impl_WeightBetween_L0, not_lt_self, cond_false]
    by_cases hab : a = b
    · simp [wbt, hab]
    · rw [wbt, if_neg hab, find_none (isW a b) _ fun j y hy => (hp.resolve_left hab) j y (get_lt hy) hy]

theorem s_Find (ws : List W3) (hws : Sm.sm B1 ws) (a b : Int) : ∃ r, e_spec_l03Find (ws, a, b, ()) = some r ∧ ((r = -1 ∧ ws.find? (isW a b) = none) ∨ ∃ (j : Nat) (x : W3), r = j ∧ ws[j]? = some x ∧ ws.find? (isW a b) = some x) := by
  simp only [e_spec_l03Find, r_spec_l03Find]
  refine iter_rule (fun o => ∃ r : Int, o = some r ∧ ((r = -1 ∧ ws.find? (isW a b) = none) ∨ ∃ (j : Nat) (x : W3), r = j ∧ ws[j]? = some x ∧ ws.find? (isW a b) = some x)) ws (fun (_ : Unit) i => (a, b, ws, (ws.length : Int), i, ())) (fun i _ => ∀ (j : Nat) (y : W3), j < i → ws[j]? = some y → isW a b y = false)
    (fun st i x kc hp hx hi hk => ?_) (fun st kc hp => ?_) (len_lt hws N0_gt) () (by simp)
  · simp only [r_spec_l03Find_L0, lt_len, hi, decide_true, cond_true, getI_nat, hx, Option.bind_some, wr_len hi hws]
    have next : isW a b x = false → _ := fun hf => hk () fun j y hj hy => by
        by_cases e : j = i
        · subst e; rw [hx] at hy; simp only [Option.some.injEq] at hy; subst hy; exact hf
        · exact hp j y (by omega) hy
    by_cases c1 : x.1 = if b < a then b else a
    · by_cases c2 : x.2.1 = if b > a then b else a
      · have d1 := decide_eq_true c1
        have d2 := decide_eq_true c2
        refine ⟨i, ?_, .inr ⟨i, x, rfl, hx, find_first (isW a b) _ i x hp hx (by simp only [isW, d1, d2, Bool.and_self])⟩⟩
        rw [d1, cond_true, d2, cond_true]
      · have d1 := decide_eq_true c1
        have d2 := decide_eq_false c2
        rw [d1, cond_true, d2, cond_false]
        exact next (by simp only [isW, d2, Bool.and_false])
    · have d1 := decide_eq_false c1
      rw [d1, cond_false]
      exact next (by simp only [isW, d1, Bool.false_and])
  · simp only [r_spec_l03Find_L0, not_lt_self, cond_false]
    exact ⟨-1, rfl, .inl ⟨rfl, find_none (isW a b) _ fun j y hy => hp j y (get_lt hy) hy⟩⟩

theorem s_WB (n : TNet) (hn : Sm.sm B1 n) (a b : Int) : e_spec_WeightBetween (n, a, b, ()) = some (wbt n.2.2.2 a b) := by
  simp only [e_spec_WeightBetween, r_spec_WeightBetween]
  obtain ⟨r, e1, h⟩ := s_Find n.2.2.2 hn.2.2.2 a b
  rw [e1, Option.bind_some]
  rcases h with ⟨rfl, h⟩ | ⟨j, x, rfl, hx, h⟩
  · simp [wbt, h]
  · have : decide ((j : Int) < 0) = false := by simp
    rw [this, cond_false, getI_nat, hx]
    by_cases hab : a = b
    · simp [hab, wbt]
    · simp [hab, wbt, h]

-- neighbours
def nearG (ws : List W3) (v : Int) (q : List Int) (j : Nat) (_ : Nat) : List Int := if wbt ws v j > 0 then q ++ [(j : Int)] else q
def near (ws : List W3) (v : Int) (m : Nat) : List Int := foldI (nearG ws v) (List.range m) 0 []

theorem range_get {m i x : Nat} (h : (List.range m)[i]? = some x) : x = i ∧ i < m := by
  have := get_lt h
  simp at this
  rw [List.getElem?_range this] at h
  simp at h; exact ⟨h.symm, this⟩

theorem near_len (ws : List W3) (v : Int) (m : Nat) : (near ws v m).length ≤ m := by
  have key : ∀ (l : List Nat) (i : Nat) (q : List Int), (foldI (nearG ws v) l i q).length ≤ q.length + l.length := by
    intro l
    induction l with
    | nil => intros; simp [foldI]
    | cons x l ih =>
      intro i q
      simp only [foldI]
      have := ih (i + 1) (nearG ws v q i x)
      have h2 : (nearG ws v q i x).length ≤ q.length + 1 := by unfold nearG; split <;> simp
      simp only [List.length_cons]; omega
  have := key (List.range m) 0 []
  simpa [near] using this

theorem near_mem {ws : List W3} {v : Int} {m : Nat} : ∀ u ∈ near ws v m, 0 ≤ u ∧ u < m := by
  have key : ∀ (l : List Nat) (i : Nat) (q : List Int), (∀ u ∈ q, 0 ≤ u ∧ u < ((i + l.length : Nat) : Int)) → ∀ u ∈ foldI (nearG ws v) l i q, 0 ≤ u ∧ u < ((i + l.length : Nat) : Int) := by
    intro l
    induction l with
    | nil => intro i q h; simpa [foldI] using h
    | cons x l ih =>
      intro i q h
      simp only [foldI]
      have e : i + (x :: l).length = i + 1 + l.length := by simp; omega
      rw [e] at h ⊢
      refine ih (i + 1) _ fun u hu => ?_
      unfold nearG at hu
      split at hu
      · rcases List.mem_append.1 hu with hu | hu
        · exact h u hu
        · simp at hu; subst hu; omega
      · exact h u hu
  have := key (List.range m) 0 [] (by simp)
  simpa [near] using this

/-- What a good network is. -/
theorem netok_facts {n : TNet} (h : netok n = true) : ∃ m : Nat, n.1 = m ∧ 1 ≤ m ∧ m ≤ 5 ∧ InW m n.2.2.2 ∧ 1 ≤ n.2.1 ∧ n.2.1 ≤ m := by
  have hh : hdrOk n = true := by revert h; simp only [netok]; cases hdrOk n <;> simp
  have hb : wiresBad n = false := by revert h; simp only [netok]; cases wiresBad n <;> simp
  simp only [hdrOk, Bool.and_eq_true, decide_eq_true_eq] at hh
  obtain ⟨m, hm⟩ : ∃ m : Nat, n.1 = m := ⟨n.1.toNat, by omega⟩
  exact ⟨m, hm, by omega, by omega, wiresOk hm hb, by omega, by omega⟩

end Go.Sx.R

/- Leaves and series. Conditions: none. -/
namespace Go.Sx.R
open Go Go.Sx

/-- The nodes that are no terminals. -/
def rng (lo : Int) (d : Nat) : List Int := (List.range d).map fun i => lo + Int.ofNat i

theorem rng_get {lo : Int} {d i : Nat} {v : Int} (h : (rng lo d)[i]? = some v) : v = lo + i ∧ i < d := by
  have hlt := get_lt h
  simp [rng] at hlt
  simp only [rng, List.getElem?_map, List.getElem?_range hlt, Option.map_some, Option.some.injEq] at h
  exact ⟨h.symm, hlt⟩

theorem rng_len {lo : Int} {d : Nat} : (rng lo d).length = d := by simp [rng]

theorem rng_succ (lo : Int) (d : Nat) : rng lo (d + 1) = rng lo d ++ [lo + d] := by
  simp [rng, List.range_succ]

def firstWith (n : TNet) (m : Nat) (count : Int) : Int := match (rng n.2.1 (m - n.2.1.toNat)).find? fun v => decide (((near n.2.2.2 v m).length : Int) = count) with
  | some v => v
  | none => -1

end Go.Sx.R

/- Marks, and marks found again. Conditions: none. -/
namespace Go.Sx.R
open Go Go.Sx

theorem getI_ok {β : Type} {l : List β} {n i : Nat} (h : l.length = n) (hi : i < n) : ∃ y, getI l (i : Int) = some y := getI_has h hi

theorem mh_WireS (x : List W3) (k : Int) (hx : Sm.sm B1 x) (h0 : 0 ≤ k) (h1 : k ≤ 1099511627776) : ∃ x' k', e_laws_markWireS x (k, ()) = some (x', k') ∧ e_laws_heldWireS (x', k, ()) = some k' ∧ k ≤ k' ∧ k' ≤ k + 3 * x.length ∧ x'.length = x.length := by
  have hlen : x.length ≤ 1073741824 := hx.1
  have m := iter_fold (R := List W3 × Int) (body := r_laws_markWireS_L0 N0) x (fun (st : List W3 × Int) i => (st.1, st.2, i, ()))
    (fun i st => st.2 = k + 3 * i ∧ st.1.length = x.length ∧ ∀ (j : Nat), j < i → st.1[j]? = some (k + 3 * j, k + 3 * j + 1, k + 3 * j + 2)) (fun st i _ => (st.1.set i (st.2, st.2 + 1, st.2 + 2), st.2 + 3))
    (fun st i y kc ke ⟨p1, p2, p3⟩ hy hi => by
      refine ⟨?_, ?_, by simpa using p2, fun j hj => ?_⟩
      · have hlt : decide ((i : Int) < (st.1.length : Int)) = true := by rw [decide_eq_true_eq, p2]; exact Int.ofNat_lt.2 hi
        have g1 : st.1[i]? = some (st.1[i]'(by omega)) := List.getElem?_eq_getElem _
        have w1 : wr (st.2 + 1) = st.2 + 1 := wr_id (by omega) (by omega)
        have w2 : wr (st.2 + 1 + 1) = st.2 + 1 + 1 := wr_id (by omega) (by omega)
        have w3 : wr (st.2 + 1 + 1 + 1) = st.2 + 1 + 1 + 1 := wr_id (by omega) (by omega)
        have e1 : st.2 + 1 + 1 = st.2 + 2 := by omega
        have e2 : st.2 + 2 + 1 = st.2 + 3 := by omega
        have hl : i < st.1.length := by omega
        have w2' : wr (st.2 + 2) = st.2 + 2 := wr_id (by omega) (by omega)
        have w3' : wr (st.2 + 3) = st.2 + 3 := wr_id (by omega) (by omega)
        simp only [r_laws_markWireS_L0, hlt, cond_true, getI_nat, g1, Option.bind_some, Int.toNat_natCast, w1, w2, w3, w2', w3', List.getElem?_set_self, List.length_set, hl, List.set_set, wr_len hi hx, e1, e2]
      · simp only; omega
      · simp only
        rw [List.getElem?_set]
        by_cases e : i = j
        · subst e; rw [if_pos rfl, if_pos (by omega), p1]
        · rw [if_neg e]; exact p3 j (by omega))
    (fun st kc ke ⟨p1, p2, p3⟩ => by
      have hlt : decide ((x.length : Int) < (st.1.length : Int)) = false := by rw [decide_eq_false_iff_not, p2]; omega
      simp only [r_laws_markWireS_L0, hlt, cond_false]) (N := N0) (len_lt hx N0_gt) (x, k) ⟨by simp, rfl, by simp⟩ (fun s1 => some (s1.1, s1.2.1))
  obtain ⟨e1, p1, p2, p3⟩ := m
  generalize (foldI (fun (st : List W3 × Int) (i : Nat) (_ : W3) => (st.1.set i (st.2, st.2 + 1, st.2 + 2), st.2 + 3)) x 0 (x, k)) = st at e1 p1 p2 p3
  refine ⟨st.1, st.2, e1, ?_, by omega, by omega, p2⟩
  have hh := iter_fold (R := Int) (body := r_laws_heldWireS_L0 N0) st.1 (fun (c : Int) i => (st.1, c, i, ())) (fun i c => c = k + 3 * i) (fun c _ _ => c + 3)
    (fun c i y kc ke pc hy hi => by
      have h2 := p3 i (by omega)
      rw [hy] at h2; simp only [Option.some.injEq] at h2
      refine ⟨?_, by omega⟩
      have w1 : wr (c + 1) = c + 1 := wr_id (by omega) (by omega)
      have w2 : wr (c + 1 + 1) = c + 1 + 1 := wr_id (by omega) (by omega)
      have w3 : wr (c + 1 + 1 + 1) = c + 1 + 1 + 1 := wr_id (by omega) (by omega)
      have d1 : decide (y.1 = c) = true := by rw [decide_eq_true_eq, h2]; simp only; omega
      have d2 : decide (y.2.1 = c + 1) = true := by rw [decide_eq_true_eq, h2]; simp only; omega
      have d3 : decide (y.2.2 = c + 1 + 1) = true := by rw [decide_eq_true_eq, h2]; simp only; omega
      have e2 : c + 1 + 1 + 1 = c + 3 := by omega
      have w4 : wr (c + 3) = c + 3 := wr_id (by omega) (by omega)
      simp only [r_laws_heldWireS_L0, lt_len, hi, decide_true, cond_true, getI_nat, hy, Option.bind_some, d1, Bool.not_true, cond_false, w1, w2, w3, w4, d2, d3, wr_succ hi (show st.1.length ≤ 9223372036854775807 by omega), e2])
    (fun c kc ke _ => by simp only [r_laws_heldWireS_L0, not_lt_self, cond_false]) (N := N0) (by have := N0_big; omega) k (by simp) (fun s1 => some s1.2.1)
  simp only [e_laws_heldWireS, r_laws_heldWireS]
  rw [hh.1, hh.2, p1, p2]

end Go.Sx.R

/- The wires at a node: the law. Conditions: none. -/
namespace Go.Sx.R
open Go Go.Sx

theorem mh_Net (n : TNet) (k : Int) (hn : Sm.sm B1 n) (h0 : 0 ≤ k) (h1 : k ≤ 1099511627776) : ∃ n' k', e_laws_markNet n (k, ()) = some (n', k') ∧ k ≤ k' ∧ k' ≤ k + 3 * n.2.2.2.length ∧ ∃ w', e_laws_heldWireS (w', k, ()) = some k' ∧ n' = (n.1, n.2.1, n.2.2.1, w') := by
  obtain ⟨w', k', e1, e2, e3, e4, _⟩ := mh_WireS n.2.2.2 k hn.2.2.2 h0 h1
  exact ⟨_, k', by simp only [e_laws_markNet, e1, Option.map_some], e3, e4, w', e2, rfl⟩

end Go.Sx.R

/- Shares: the greatest common divisor, ratios, weights at nodes. Conditions: none. -/
namespace Go.Sx.R
open Go Go.Sx

theorem u64_id {x : Int} (h0 : 0 ≤ x) (h1 : x ≤ 18446744073709551615) : Go.IntKind.wrap Go.IntKind.u64 x = x := by
  simp only [IntKind.wrap, IntKind.bits, IntKind.signed]
  simp
  omega

theorem common_L0 : r_spec_GcdOf_L0 e_spec_l02Turn N0 = r_impl_common_L0 N0 := by
  funext s kc ke
  simp only [r_spec_GcdOf_L0, r_impl_common_L0, e_spec_l02Turn, r_spec_l02Turn]
  cases decide (s.2.1 = 0) <;> rfl

theorem common_loop (a b : Nat) (hb : b ≤ 9223372036854775807) : (iterK (r_impl_common_L0 N0) N0 ((a : Int), (b : Int), ()) fun s1 => some s1.1) = some ((Nat.gcd a b : Nat) : Int) := by
  refine iter_while (fun o => o = some ((Nat.gcd a b : Nat) : Int)) (fun s : Int × Int × Unit => ∃ x y : Nat, s = ((x : Int), (y : Int), ()) ∧ Nat.gcd x y = Nat.gcd a b) (fun s => s.2.1.toNat) ?_ N0 _ ⟨a, b, rfl, rfl⟩ (by have := N0_big; simp only [Int.toNat_natCast]; omega)
  rintro _ kc ⟨x, y, rfl, hg⟩ hk
  simp only [r_impl_common_L0]
  by_cases hy : y = 0
  · subst hy
    simp at hg
    simp [hg]
  · have d : decide ((y : Int) = 0) = false := by rw [decide_eq_false_iff_not]; omega
    simp only [d, Bool.not_false, cond_true, cond_false]
    have e : Int.tmod (x : Int) (y : Int) = ((x % y : Nat) : Int) := by rw [Int.tmod_eq_emod_of_nonneg (by omega)]; simp
    rw [e]
    refine hk _ ⟨y, x % y, rfl, ?_⟩ ?_
    · rw [← hg, Nat.gcd_comm y, ← Nat.gcd_rec, Nat.gcd_comm]
    · simp only [Int.toNat_natCast]
      exact Nat.mod_lt _ (by omega)

theorem p_common (a b : Nat) (hb : b ≤ 9223372036854775807) : e_impl_common ((a : Int), (b : Int), ()) = some ((Nat.gcd a b : Nat) : Int) := by
  simp only [e_impl_common, r_impl_common]
  exact common_loop a b hb

theorem s_Gcd (a b : Nat) (ha : a ≤ 9223372036854775807) (hb : b ≤ 9223372036854775807) : e_spec_GcdOf ((a : Int), (b : Int), ()) = some ((Nat.gcd a b : Nat) : Int) := by
  simp only [e_spec_GcdOf, r_spec_GcdOf, common_L0]
  have d1 : decide ((a : Int) < -9223372036854775807) = false := by rw [decide_eq_false_iff_not]; omega
  have d2 : decide ((b : Int) < -9223372036854775807) = false := by rw [decide_eq_false_iff_not]; omega
  have w1 : wr (0 - (a : Int)) = 0 - (a : Int) := wr_id (by omega) (by omega)
  have w2 : wr (0 - (b : Int)) = 0 - (b : Int) := wr_id (by omega) (by omega)
  rw [d1, d2, w1, w2]
  simp only [cond_false]
  rw [if_neg (by omega), if_neg (by omega)]
  exact common_loop a b hb

theorem p_size (a : Nat) (ha : a ≤ 9223372036854775807) : e_impl_size ((a : Int), ()) = some (a : Int) := by
  simp only [e_impl_size, r_impl_size]
  have d1 : decide ((a : Int) < 0) = false := by rw [decide_eq_false_iff_not]; omega
  rw [d1, cond_false, u64_id (by omega) (by omega)]

def touch (v : Int) (e : W3) : Int := if e.1 = v ∨ e.2.1 = v then e.2.2 else 0
def wAt (ws : List W3) (v : Int) : Int := (ws.map (touch v)).sum
def dbl (e : W3) : Int := 2 * e.2.2
def wAll (ws : List W3) : Int := (ws.map dbl).sum

theorem foldI_sum {β : Type} (h : β → Int) : ∀ (l : List β) (i : Nat) (s : Int), foldI (fun s _ x => s + h x) l i s = s + (l.map h).sum
  | [], _, s => by simp [foldI]
  | x :: l, i, s => by simp only [foldI, foldI_sum h l (i + 1), List.map_cons, List.sum_cons]; omega

/-- Sums of numbers that are small and not negative. -/
theorem sum_bounds {β : Type} (h : β → Int) (M : Int) : ∀ (l : List β), (∀ x ∈ l, 0 ≤ h x ∧ h x ≤ M) → 0 ≤ (l.map h).sum ∧ (l.map h).sum ≤ M * l.length
  | [], _ => by simp
  | x :: l, hx => by
    have h1 := sum_bounds h M l fun y hy => hx y (by simp [hy])
    have h2 := hx x (by simp)
    simp only [List.map_cons, List.sum_cons, List.length_cons]
    have : M * ((l.length + 1 : Nat) : Int) = M * l.length + M := by rw [Int.natCast_add, Int.mul_add]; simp
    rw [this]; omega

theorem take_sum {β : Type} (h : β → Int) (M : Int) (l : List β) (hx : ∀ x ∈ l, 0 ≤ h x ∧ h x ≤ M) (i : Nat) : 0 ≤ ((l.take i).map h).sum ∧ ((l.take i).map h).sum ≤ M * l.length := by
  have h1 := sum_bounds h M (l.take i) fun y hy => hx y (List.mem_of_mem_take hy)
  refine ⟨h1.1, Int.le_trans h1.2 ?_⟩
  cases l with
  | nil => simp
  | cons x l =>
    have hM : 0 ≤ M := by have := hx x (by simp); omega
    refine Int.mul_le_mul_of_nonneg_left ?_ hM
    have : ((x :: l).take i).length ≤ (x :: l).length := by simp; omega
    omega

theorem take_succ_sum {β : Type} (h : β → Int) (l : List β) (i : Nat) (x : β) (hx : l[i]? = some x) : ((l.take (i + 1)).map h).sum = ((l.take i).map h).sum + h x := by
  rw [List.take_add_one, hx]
  simp

end Go.Sx.R

/- Shares of weights: the law. Conditions: none. -/
namespace Go.Sx.R
open Go Go.Sx

theorem wiresW {n : TNet} (h : netok n = true) : ∀ e ∈ n.2.2.2, 1 ≤ e.2.2 ∧ e.2.2 ≤ 200 := by
  intro e he
  have hb : wiresBad n = false := by revert h; simp only [netok]; cases wiresBad n <;> simp
  obtain ⟨i, hi⟩ := List.getElem?_of_mem he
  simp only [wiresBad, List.any_eq_false] at hb
  have := hb (e, i) (by rw [List.mem_zipIdx_iff_getElem?]; exact hi)
  simp only [badW, Bool.not_eq_true, Bool.or_eq_false_iff, Bool.not_eq_false', Bool.and_eq_true, decide_eq_true_eq] at this
  omega

theorem touch_le {ws : List W3} (hW : ∀ e ∈ ws, 1 ≤ e.2.2 ∧ e.2.2 ≤ 200) (v : Int) : ∀ e ∈ ws, 0 ≤ touch v e ∧ touch v e ≤ 200 := by
  intro e he
  have := hW e he
  unfold touch; split <;> omega

theorem sum_add {β : Type} (f g : β → Int) : ∀ l : List β, (l.map fun x => f x + g x).sum = (l.map f).sum + (l.map g).sum
  | [] => by simp
  | x :: l => by simp only [List.map_cons, List.sum_cons, sum_add f g l]; omega

theorem sum_zero {β : Type} : ∀ l : List β, (l.map fun _ => (0 : Int)).sum = 0
  | [] => rfl
  | x :: l => by simp only [List.map_cons, List.sum_cons, sum_zero l]; rfl

theorem touches (e : W3) (h0 : 0 ≤ e.1) (h1 : e.1 < e.2.1) : ∀ m : Nat, ((List.range m).map fun u => touch (Int.ofNat u) e).sum = (if e.1 < m then e.2.2 else 0) + (if e.2.1 < m then e.2.2 else 0)
  | 0 => by
    rw [if_neg (by omega), if_neg (by omega)]; rfl
  | m + 1 => by
    rw [List.range_succ, List.map_append, List.sum_append, touches e h0 h1 m]
    simp only [List.map_cons, List.map_nil, List.sum_cons, List.sum_nil, touch, Int.ofNat_eq_natCast]
    repeat' split
    all_goals omega

theorem double_count (m : Nat) : ∀ ws : List W3, InW m ws → ((List.range m).map fun u => wAt ws (Int.ofNat u)).sum = wAll ws
  | [], _ => by simp only [wAt, wAll, List.map_nil, List.sum_nil]; exact sum_zero _
  | e :: ws, h => by
    have he := h e (by simp)
    have ih := double_count m ws fun x hx => h x (by simp [hx])
    have e1 : (fun u => wAt (e :: ws) (Int.ofNat u)) = fun u => touch (Int.ofNat u) e + wAt ws (Int.ofNat u) := by
      funext u; simp [wAt]
    rw [e1, sum_add, ih, touches e he.1 he.2.1 m, if_pos (by omega), if_pos (by omega)]
    simp only [wAll, List.map_cons, List.sum_cons, dbl]; omega

theorem wAt_bounds {ws : List W3} (hW : ∀ e ∈ ws, 1 ≤ e.2.2 ∧ e.2.2 ≤ 200) (hlen : ws.length ≤ 1073741824) (v : Int) : 0 ≤ wAt ws v ∧ wAt ws v ≤ 214748364800 := by
  have := sum_bounds (touch v) 200 ws (touch_le hW v)
  unfold wAt
  omega

theorem wAll_bounds {ws : List W3} (hW : ∀ e ∈ ws, 1 ≤ e.2.2 ∧ e.2.2 ≤ 200) (hlen : ws.length ≤ 1073741824) : 0 ≤ wAll ws ∧ wAll ws ≤ 429496729600 := by
  have := sum_bounds dbl 400 ws fun e he => by have := hW e he; unfold dbl; omega
  unfold wAll
  omega

end Go.Sx.R

/- Networks out of tables of weights; a wire cut. Conditions: none. -/
namespace Go.Sx.R
open Go Go.Sx

-- lists in strict order
theorem lex_trans {x y z : W3} (h1 : lex x y = true) (h2 : lex y z = true) : lex x z = true := by
  simp only [lex, Bool.or_eq_true, Bool.and_eq_true, decide_eq_true_eq] at *; omega
theorem lex_irr {x : W3} : lex x x = false := by simp [lex]
theorem lex_asym {x y : W3} (h1 : lex x y = true) (h2 : lex y x = true) : False := by
  have := lex_trans h1 h2; rw [lex_irr] at this; cases this

abbrev Srt (l : List W3) : Prop := l.Pairwise fun x y => lex x y = true

theorem srt_ext : ∀ {l m : List W3}, Srt l → Srt m → (∀ x, x ∈ l ↔ x ∈ m) → l = m
  | [], [], _, _, _ => rfl
  | [], y :: m, _, _, h => by have := (h y).2 (by simp); simp at this
  | x :: l, [], _, _, h => by have := (h x).1 (by simp); simp at this
  | x :: l, y :: m, hl, hm, h => by
    obtain ⟨hx, hl'⟩ := List.pairwise_cons.1 hl
    obtain ⟨hy, hm'⟩ := List.pairwise_cons.1 hm
    have e : x = y := by
      have h1 := (h x).1 (by simp)
      have h2 := (h y).2 (by simp)
      rcases List.mem_cons.1 h1 with e | h1
      · exact e
      · rcases List.mem_cons.1 h2 with e | h2
        · exact e.symm
        · exact (lex_asym (hx y h2) (hy x h1)).elim
    subst e
    have : l = m := srt_ext hl' hm' fun z => by
      constructor
      · intro hz
        rcases List.mem_cons.1 ((h z).1 (by simp [hz])) with e | hz'
        · subst e; have := hx z hz; rw [lex_irr] at this; cases this
        · exact hz'
      · intro hz
        rcases List.mem_cons.1 ((h z).2 (by simp [hz])) with e | hz'
        · subst e; have := hy z hz; rw [lex_irr] at this; cases this
        · exact hz'
    rw [this]

theorem srt_of_adj : ∀ {l : List W3}, (∀ (i : Nat) (x y : W3), l[i]? = some x → l[i + 1]? = some y → lex x y = true) → Srt l
  | [], _ => List.Pairwise.nil
  | [x], _ => by simp [Srt]
  | x :: y :: l, h => by
    have ih : Srt (y :: l) := srt_of_adj fun i a b ha hb => h (i + 1) a b (by simpa using ha) (by simpa using hb)
    have hxy := h 0 x y (by simp) (by simp)
    refine List.pairwise_cons.2 ⟨fun z hz => ?_, ih⟩
    rcases List.mem_cons.1 hz with rfl | hz
    · exact hxy
    · exact lex_trans hxy ((List.pairwise_cons.1 ih).1 z hz)

theorem netok_srt {n : TNet} (h : netok n = true) : Srt n.2.2.2 := by
  have hb : wiresBad n = false := by revert h; simp only [netok]; cases wiresBad n <;> simp
  refine srt_of_adj fun i x y hx hy => ?_
  simp only [wiresBad, List.any_eq_false] at hb
  have := hb (y, i + 1) (by rw [List.mem_zipIdx_iff_getElem?]; exact hy)
  simp only [badW, Bool.not_eq_true, Bool.or_eq_false_iff, hx] at this
  simpa using this.2

/-- In a sorted list a pair of ends stands once. -/
theorem srt_uniq {l : List W3} (h : Srt l) {x y : W3} (hx : x ∈ l) (hy : y ∈ l) (h1 : x.1 = y.1) (h2 : x.2.1 = y.2.1) : x = y := by
  induction l with
  | nil => simp at hx
  | cons z l ih =>
    obtain ⟨hz, hl⟩ := List.pairwise_cons.1 h
    rcases List.mem_cons.1 hx with rfl | hx' <;> rcases List.mem_cons.1 hy with e | hy'
    · exact e.symm
    · have := hz y hy'
      simp only [lex, Bool.or_eq_true, Bool.and_eq_true, decide_eq_true_eq] at this; omega
    · subst e
      have := hz x hx'
      simp only [lex, Bool.or_eq_true, Bool.and_eq_true, decide_eq_true_eq] at this; omega
    · exact ih hl hx' hy'

/-- The weights between, and the wires. -/
theorem wbt_mem {ws : List W3} (hs : Srt ws) {a b : Int} (hab : a < b) {w : Int} (hw : w ≠ 0) : wbt ws a b = w ↔ (a, b, w) ∈ ws := by
  have hp : ∀ x : W3, isW a b x = true ↔ x.1 = a ∧ x.2.1 = b := by
    intro x
    simp only [isW, Bool.and_eq_true, decide_eq_true_eq]
    rw [if_neg (by omega), if_pos (by omega)]
  rw [wbt, if_neg (by omega)]
  constructor
  · intro h
    split at h
    · rename_i x hx
      have h1 := (hp x).1 (List.find?_some hx)
      have h2 := List.mem_of_find?_eq_some hx
      obtain ⟨x1, x2, x3⟩ := x
      simp only at h1 h
      rw [h1.1, h1.2, h] at h2
      exact h2
    · exact absurd h.symm hw
  · intro h
    cases hf : ws.find? (isW a b) with
    | none =>
      rw [List.find?_eq_none] at hf
      exact absurd ((hp (a, b, w)).2 ⟨rfl, rfl⟩) (by simpa using hf _ h)
    | some x =>
      have h1 := (hp x).1 (List.find?_some hf)
      have h2 := List.mem_of_find?_eq_some hf
      have := srt_uniq hs h2 h h1.1 h1.2
      simp only
      rw [this]

-- tables
def IsTab (T : List (List Int)) (m : Nat) (f : Nat → Nat → Int) : Prop := T.length = m ∧ ∀ i, i < m → ∃ row : List Int, T[i]? = some row ∧ row.length = m ∧ ∀ j, j < m → row[j]? = some (f i j)

theorem p_table (n : TNet) (m : Nat) (hn : Sm.sm B1 n) (hm : n.1 = m) (hm5 : m ≤ 5) (hw : InW m n.2.2.2) : ∃ T, e_impl_table (n, ()) = some T ∧ IsTab T m (fun i j => wbt n.2.2.2 (i : Int) (j : Int)) := by
  have hmB : m ≤ 9223372036854775807 := by omega
  have d0 : decide ((0 : Int) ≤ n.1) = true := by rw [decide_eq_true_eq]; omega
  have hmt : n.1.toNat = m := by omega
  have rm : Nat.ble m 17179869184 = true := ble_true (by omega)
  simp only [e_impl_table, r_impl_table, d0, cond_true, hmt, rm, List.length_replicate]
  have hd : (List.range m).length = m := by simp
  have hlm : ((m : Nat) : Int) = ((List.range m).length : Int) := by rw [hd]
  refine iter_rule (R := List (List Int)) (fun o => ∃ T, o = some T ∧ IsTab T m (fun i j => wbt n.2.2.2 (i : Int) (j : Int))) (List.range m) (fun (T : List (List Int)) i => (n, T, (m : Int), i, ()))
    (fun i T => T.length = m ∧ ∀ i', i' < i → ∃ row : List Int, T[i']? = some row ∧ row.length = m ∧ ∀ j, j < m → row[j]? = some (wbt n.2.2.2 (i' : Int) (j : Int)))
    (fun T i x kc ⟨p1, p2⟩ hx hi hk => ?_) (fun T kc ⟨p1, p2⟩ => ?_) (by have := N0_big; omega) _ ⟨by simp, by simp⟩
  · have him : i < m := by rw [hd] at hi; exact hi
    have d1 : decide ((i : Int) < (m : Int)) = true := by rw [decide_eq_true_eq]; omega
    obtain ⟨r0, hr0⟩ := getI_has p1 him
    have hset : (T.set i (List.replicate m (0 : Int)))[i]? = some (List.replicate m (0 : Int)) := by rw [List.getElem?_set_self (by omega)]
    simp only [r_impl_table_L0, d1, cond_true, d0, hmt, rm, hr0, Option.bind_some, Int.toNat_natCast, getI_nat, hset, List.length_replicate]
    refine iter_rule (R := List (List Int)) (fun o => ∃ T, o = some T ∧ IsTab T m (fun i j => wbt n.2.2.2 (i : Int) (j : Int))) (List.range m) (fun (T : List (List Int)) j => (n, T, (i : Int), (m : Int), (i : Int), (m : Int), j, ()))
      (fun j T => T.length = m ∧ (∀ i', i' < i → ∃ row : List Int, T[i']? = some row ∧ row.length = m ∧ ∀ j, j < m → row[j]? = some (wbt n.2.2.2 (i' : Int) (j : Int))) ∧ ∃ row : List Int, T[i]? = some row ∧ row.length = m ∧ ∀ j', j' < j → row[j']? = some (wbt n.2.2.2 (i : Int) (j' : Int)))
      (fun T j y kc2 ⟨q1, q2, row, q3, q4, q5⟩ hy hj hk2 => ?_) (fun T kc2 ⟨q1, q2, row, q3, q4, q5⟩ => ?_) (by have := N0_big; omega) _ ⟨by simpa using p1, fun i' hi' => ?_, List.replicate m 0, hset, by simp, by simp⟩
    · have hjm : j < m := by rw [hd] at hj; exact hj
      have d2 : decide ((j : Int) < (m : Int)) = true := by rw [decide_eq_true_eq]; omega
      obtain ⟨v0, hv0⟩ := getI_has q4 hjm
      simp only [r_impl_table_L2, d2, cond_true, getI_nat, q3, Option.bind_some, p_WB n m hn hw, Int.toNat_natCast]
      rw [← getI_nat row j, hv0, Option.bind_some, wr_succ hjm hmB]
      refine hk2 _ ⟨by simpa using q1, fun i' hi' => ?_, row.set j (wbt n.2.2.2 (i : Int) (j : Int)), by rw [List.getElem?_set_self (by omega)], by simpa using q4, fun j' hj' => ?_⟩
      · rw [List.getElem?_set_ne (by omega)]; exact q2 i' hi'
      · rw [List.getElem?_set]
        by_cases e : j = j'
        · subst e; rw [if_pos rfl, if_pos (by omega)]
        · rw [if_neg e]; exact q5 j' (by omega)
    · have d2 : decide ((((List.range m).length : Nat) : Int) < (m : Int)) = false := by rw [decide_eq_false_iff_not, hd]; omega
      simp only [r_impl_table_L2, d2, cond_false, wr_succ him hmB]
      refine hk _ ⟨q1, fun i' hi' => ?_⟩
      by_cases e : i' = i
      · subst e; exact ⟨row, q3, q4, fun j hj => q5 j (by rw [hd]; exact hj)⟩
      · exact q2 i' (by omega)
    · rw [List.getElem?_set_ne (by omega)]; exact p2 i' hi'
  · have d2 : decide ((((List.range m).length : Nat) : Int) < (m : Int)) = false := by rw [decide_eq_false_iff_not, hd]; omega
    simp only [r_impl_table_L0, d2, cond_false]
    exact ⟨T, rfl, p1, fun i hi => p2 i (by rw [hd]; exact hi)⟩

theorem IsTab.put {T : List (List Int)} {m : Nat} {f : Nat → Nat → Int} (h : IsTab T m f) {a b : Nat} {v : Int} (ha : a < m) {row : List Int} (hr : T[a]? = some row) : IsTab (T.set a (row.set b v)) m (fun i j => if i = a ∧ j = b then v else f i j) := by
  obtain ⟨h1, h2⟩ := h
  refine ⟨by simpa using h1, fun i hi => ?_⟩
  rw [List.getElem?_set]
  by_cases e : a = i
  · subst e
    obtain ⟨row', r1, r2, r3⟩ := h2 a hi
    rw [hr] at r1; simp only [Option.some.injEq] at r1; subst r1
    rw [if_pos rfl, if_pos (by omega)]
    refine ⟨_, rfl, by simpa using r2, fun j hj => ?_⟩
    rw [List.getElem?_set]
    by_cases e2 : b = j
    · subst e2; rw [if_pos rfl, if_pos (by omega)]; simp
    · rw [if_neg e2, r3 j hj]
      have : ¬ (True ∧ j = b) := by simp; omega
      simp; omega
  · rw [if_neg e]
    obtain ⟨row', r1, r2, r3⟩ := h2 i hi
    refine ⟨row', r1, r2, fun j hj => ?_⟩
    rw [r3 j hj]
    have : ¬ (i = a ∧ j = b) := by omega
    simp [this]

end Go.Sx.R

/- A network out of a table. Conditions: none. -/
namespace Go.Sx.R
open Go Go.Sx

theorem p_size' (a : Int) (h1 : -9223372036854775808 < a) (h2 : a ≤ 9223372036854775807) : e_impl_size (a, ()) = some ((a.natAbs : Nat) : Int) := by
  simp only [e_impl_size, r_impl_size]
  by_cases h : a < 0
  · have w1 : Go.IntKind.wrap Go.IntKind.u64 a = a + 18446744073709551616 := by
      simp only [IntKind.wrap, IntKind.bits, IntKind.signed]
      simp
      omega
    have w2 : Go.IntKind.wrap Go.IntKind.u64 (0 - (a + 18446744073709551616)) = -a := by
      simp only [IntKind.wrap, IntKind.bits, IntKind.signed]
      simp
      omega
    simp only [h, decide_true, cond_true, w1, w2, Option.some.injEq]
    omega
  · simp only [h, decide_false, cond_false, u64_id (x := a) (by omega) (by omega), Option.some.injEq]
    omega

theorem p_GcdAny (a b : Int) (ha : Sm.sm B1 a) (hb : Sm.sm B1 b) : ∃ r, e_impl_GcdOf (a, b, ()) = some r ∧ Sm.sm B1 r := by
  obtain ⟨a1, a2⟩ := ha
  obtain ⟨b1, b2⟩ := hb
  simp only [e_impl_GcdOf, r_impl_GcdOf]
  by_cases h1 : a = -9223372036854775808
  · exact ⟨0, by simp [h1], ⟨by omega, by omega⟩⟩
  · by_cases h2 : b = -9223372036854775808
    · exact ⟨0, by simp [h1, h2], ⟨by omega, by omega⟩⟩
    · have hle : Nat.gcd a.natAbs b.natAbs ≤ 9223372036854775807 := by
        by_cases hz : b.natAbs = 0
        · rw [hz, Nat.gcd_zero_right]; omega
        · exact Nat.le_trans (Nat.gcd_le_right _ (by omega)) (by omega)
      have hw : wr ((Nat.gcd a.natAbs b.natAbs : Nat) : Int) = ((Nat.gcd a.natAbs b.natAbs : Nat) : Int) := wr_id (by omega) (by omega)
      refine ⟨((Nat.gcd a.natAbs b.natAbs : Nat) : Int), ?_, ⟨by omega, by omega⟩⟩
      simp only [h1, h2, decide_false, cond_false, p_size' a (by omega) a2, p_size' b (by omega) b2, p_common a.natAbs b.natAbs (by omega), Option.bind_some, hw]

/-- The wires of a table, above its diagonal. -/
structure WiresOf (f : Nat → Nat → Int) (m : Nat) (p : Nat → Nat → Prop) (l : List W3) : Prop where
  srt : Srt l
  mem : ∀ x, x ∈ l ↔ ∃ a b : Nat, p a b ∧ a < b ∧ b < m ∧ f a b ≠ 0 ∧ x = ((a : Int), (b : Int), f a b)

theorem WiresOf.len {f : Nat → Nat → Int} {m : Nat} {p : Nat → Nat → Prop} {l : List W3} (h : WiresOf f m p l) : l.length ≤ m * m := by
  have key : ∀ l : List W3, l.Nodup → (∀ x ∈ l, ∃ a b : Nat, a < m ∧ b < m ∧ x = ((a : Int), (b : Int), f a b)) → l.length ≤ m * m := by
    intro l hn hm
    have := nodup_len (m := (List.range m).flatMap fun a => (List.range m).map fun b => (((a : Nat) : Int), ((b : Nat) : Int), f a b)) hn fun x hx => by
      obtain ⟨a, b, ha, hb, rfl⟩ := hm x hx
      rw [List.mem_flatMap]
      exact ⟨a, List.mem_range.2 ha, List.mem_map.2 ⟨b, List.mem_range.2 hb, rfl⟩⟩
    refine Nat.le_trans this ?_
    have : ∀ k : Nat, ((List.range k).flatMap fun a => (List.range m).map fun b => (((a : Nat) : Int), ((b : Nat) : Int), f a b)).length = k * m := by
      intro k
      induction k with
      | zero => simp
      | succ k ih => rw [List.range_succ, List.flatMap_append, List.length_append, ih]; simp [Nat.add_mul]
    rw [this]; exact Nat.le_refl _
  refine key l ?_ fun x hx => ?_
  · refine List.Pairwise.imp (fun {a b} hab e => ?_) h.srt
    subst e; rw [lex_irr] at hab; cases hab
  · obtain ⟨a, b, _, h1, h2, _, e⟩ := (h.mem x).1 hx
    exact ⟨a, b, by omega, h2, e⟩

theorem p_netOf (ends scale : Int) (T : List (List Int)) (m : Nat) (hm1 : 1 ≤ m) (hm5 : m ≤ 5) (f : Nat → Nat → Int) (hT : IsTab T m f) (hs : Sm.sm B1 scale) (he : Sm.sm B1 ends) (hf : ∀ i j, i < m → j < m → Sm.sm B1 (f i j)) :
    ∃ l, WiresOf f m (fun _ _ => True) l ∧ Sm.sm B1 ((m : Int), ends, scale, l) ∧ e_impl_netOf (ends, scale, T, false, ()) = some (cond (netok ((m : Int), ends, scale, l)) (((m : Int), ends, scale, l), true) ((0, 0, 0, []), false)) := by
  obtain ⟨hTl, hrow⟩ := hT
  have hd : (List.range m).length = m := by simp
  simp only [e_impl_netOf, r_impl_netOf, hTl]
  refine iter_rule (R := TNet × Bool) (body := r_impl_netOf_L0 e_impl_NetOk e_impl_GcdOf N0) (ke := fun s1 => cond s1.2.1 _ _) (fun o => ∃ l, WiresOf f m (fun _ _ => True) l ∧ Sm.sm B1 ((m : Int), ends, scale, l) ∧ o = some (cond (netok ((m : Int), ends, scale, l)) (((m : Int), ends, scale, l), true) ((0, 0, 0, []), false))) (List.range m)
    (fun (st : List W3 × Int) i => (T, false, (0, 0, 0, []), ((m : Int), ends, scale, st.1), st.2, (m : Int), i, ())) (fun i st => WiresOf f m (fun a _ => a < i) st.1 ∧ Sm.sm B1 st.2) (fun st i x kc ⟨p1, p2⟩ hx hi hk => ?_) (fun st kc ⟨p1, p2⟩ => ?_) (N := N0) (by have := N0_big; omega) ([], scale)
    ⟨⟨List.Pairwise.nil, fun x => ⟨fun h => by simp at h, fun ⟨a, b, h, _⟩ => absurd h (Nat.not_lt_zero _)⟩⟩, hs⟩
  · have him : i < m := by rw [hd] at hi; exact hi
    have d1 : decide ((i : Int) < (m : Int)) = true := by rw [decide_eq_true_eq]; omega
    have w1 : wr ((i : Int) + 1) = ((i + 1 : Nat) : Int) := wr_succ him (by omega)
    obtain ⟨row, r1, r2, r3⟩ := hrow i him
    simp only [r_impl_netOf_L0, d1, cond_true, w1]
    have hd2 : (List.range (m - (i + 1))).length = m - (i + 1) := by simp
    have inner := iter_rule (R := TNet × Bool) (body := r_impl_netOf_L2 e_impl_NetOk e_impl_GcdOf N0) (ke := fun s1 => kc (s1.1, s1.2.1, s1.2.2.1, s1.2.2.2.1, s1.2.2.2.2.1, s1.2.2.2.2.2.2.2.1, wr (s1.2.2.2.2.2.2.2.2.1 + 1), ())) (fun o => ∃ l, WiresOf f m (fun _ _ => True) l ∧ Sm.sm B1 ((m : Int), ends, scale, l) ∧ o = some (cond (netok ((m : Int), ends, scale, l)) (((m : Int), ends, scale, l), true) ((0, 0, 0, []), false)))
      (List.range (m - (i + 1))) (fun (st : List W3 × Int) j => (T, false, (0, 0, 0, []), ((m : Int), ends, scale, st.1), st.2, (i : Int), ((i + 1 : Nat) : Int) + j, (m : Int), (i : Int), ())) (fun j st => WiresOf f m (fun a b => a < i ∨ (a = i ∧ b < i + 1 + j)) st.1 ∧ Sm.sm B1 st.2)
      (fun st j y kc2 ⟨q1, q2⟩ hy hj hk2 => ?_) (fun st kc2 ⟨q1, q2⟩ => ?_) (N := N0) (by have := N0_big; omega) st ⟨⟨p1.srt, fun x => ?_⟩, p2⟩
    · have e0 : ((i + 1 : Nat) : Int) + (0 : Int) = ((i + 1 : Nat) : Int) := by omega
      simp only [e0] at inner
      exact inner
    · rw [hd2] at hj
      have hjm : i + 1 + j < m := by omega
      have e1 : ((i + 1 : Nat) : Int) + (j : Int) = ((i + 1 + j : Nat) : Int) := by omega
      have d2 : decide (((i + 1 + j : Nat) : Int) < (m : Int)) = true := by rw [decide_eq_true_eq]; omega
      have w2 : wr (((i + 1 + j : Nat) : Int) + 1) = ((i + 1 : Nat) : Int) + ((j + 1 : Nat) : Int) := by rw [wr_id (by omega) (by omega)]; omega
      simp only [r_impl_netOf_L2, hTl, e1, d2, cond_true, getI_nat, r1, Option.bind_some, r3 (i + 1 + j) hjm, w2]
      by_cases hz : f i (i + 1 + j) = 0
      · simp only [hz, decide_true, Bool.not_true, cond_false]
        refine hk2 st ⟨⟨q1.srt, fun x => ?_⟩, q2⟩
        rw [q1.mem]
        constructor
        · rintro ⟨a, b, h1, h2, h3, h4, h5⟩; exact ⟨a, b, by omega, h2, h3, h4, h5⟩
        · rintro ⟨a, b, h1, h2, h3, h4, h5⟩
          refine ⟨a, b, ?_, h2, h3, h4, h5⟩
          by_cases e : a = i ∧ b = i + 1 + j
          · obtain ⟨rfl, rfl⟩ := e; exact absurd hz h4
          · omega
      · have hln : st.1.length + 1 ≤ 17179869184 := by
          have := q1.len
          have : m * m ≤ 25 := Nat.mul_le_mul hm5 hm5
          omega
        obtain ⟨gg, hg1, hg2⟩ := p_GcdAny st.2 (f i (i + 1 + j)) q2 (hf i _ him hjm)
        simp only [hz, decide_false, Bool.not_false, cond_true, List.length_cons, List.length_nil, Nat.zero_add, ble_true hln, hg1, Option.bind_some]
        refine hk2 (st.1 ++ [((i : Int), ((i + 1 + j : Nat) : Int), f i (i + 1 + j))], gg) ⟨⟨?_, fun x => ?_⟩, hg2⟩
        · refine List.pairwise_append.2 ⟨q1.srt, by simp, fun x hx y hy => ?_⟩
          simp at hy; subst hy
          obtain ⟨a, b, h1, h2, h3, h4, rfl⟩ := (q1.mem x).1 hx
          simp only [lex, Bool.or_eq_true, Bool.and_eq_true, decide_eq_true_eq]; omega
        · rw [List.mem_append, q1.mem]
          constructor
          · rintro (⟨a, b, h1, h2, h3, h4, h5⟩ | h)
            · exact ⟨a, b, by omega, h2, h3, h4, h5⟩
            · simp at h; exact ⟨i, i + 1 + j, by omega, by omega, hjm, hz, h⟩
          · rintro ⟨a, b, h1, h2, h3, h4, h5⟩
            by_cases e : a = i ∧ b = i + 1 + j
            · obtain ⟨rfl, rfl⟩ := e; right; simp [h5]
            · left; exact ⟨a, b, by omega, h2, h3, h4, h5⟩
    · have e1 : ((i + 1 : Nat) : Int) + (((List.range (m - (i + 1))).length : Nat) : Int) = (m : Int) := by rw [hd2]; omega
      have d2 : decide ((m : Int) < (m : Int)) = false := by simp
      simp only [r_impl_netOf_L2, hTl, e1, d2, cond_false, w1]
      refine hk st ⟨⟨q1.srt, fun x => ?_⟩, q2⟩
      rw [q1.mem, hd2]
      constructor
      · rintro ⟨a, b, h1, h2, h3, h4, h5⟩; exact ⟨a, b, by omega, h2, h3, h4, h5⟩
      · rintro ⟨a, b, h1, h2, h3, h4, h5⟩; exact ⟨a, b, by omega, h2, h3, h4, h5⟩
    · rw [p1.mem]
      constructor
      · rintro ⟨a, b, h1, h2, h3, h4, h5⟩; exact ⟨a, b, by omega, h2, h3, h4, h5⟩
      · rintro ⟨a, b, h1, h2, h3, h4, h5⟩; exact ⟨a, b, by omega, h2, h3, h4, h5⟩
  · have d2 : decide ((((List.range m).length : Nat) : Int) < (m : Int)) = false := by rw [decide_eq_false_iff_not, hd]; omega
    have hl : WiresOf f m (fun _ _ => True) st.1 := ⟨p1.srt, fun x => by
      rw [p1.mem, hd]
      constructor
      · rintro ⟨a, b, h1, h2, h3, h4, h5⟩; exact ⟨a, b, trivial, h2, h3, h4, h5⟩
      · rintro ⟨a, b, h1, h2, h3, h4, h5⟩; exact ⟨a, b, by omega, h2, h3, h4, h5⟩⟩
    have hsm : Sm.sm B1 ((m : Int), ends, scale, st.1) := by
      refine ⟨⟨by omega, by omega⟩, he, hs, ⟨?_, fun x hx => ?_⟩⟩
      · have := hl.len
        have : m * m ≤ 25 := Nat.mul_le_mul hm5 hm5
        simp only [B1]; omega
      · obtain ⟨a, b, _, h2, h3, _, rfl⟩ := (hl.mem x).1 hx
        have sa : Sm.sm B1 (a : Int) := ⟨by omega, by omega⟩
        have sb : Sm.sm B1 (b : Int) := ⟨by omega, by omega⟩
        exact ⟨sa, sb, hf a b (by omega) h3⟩
    refine ⟨st.1, hl, hsm, ?_⟩
    simp only [r_impl_netOf_L0, d2, cond_false, p_NetOk _ hsm, Option.bind_some]
    cases netok ((m : Int), ends, scale, st.1) <;> rfl
end Go.Sx.R

/- A wire cut: the law. Conditions: none. -/
namespace Go.Sx.R
open Go Go.Sx

theorem s_Drop (ws : List W3) (hws : Sm.sm B1 ws) : e_spec_l03Drop (ws, ()) = some (ws.filter fun x => !decide (x.2.2 = 0)) := by
  have hlen : ws.length ≤ 1073741824 := hws.1
  simp only [e_spec_l03Drop, r_spec_l03Drop]
  have m := iter_fold (R := List W3) (body := r_spec_l03Drop_L0 N0) ws (fun (q : List W3) i => (q, ws, (ws.length : Int), i, ())) (fun i q => q = (ws.take i).filter fun x => !decide (x.2.2 = 0)) (fun q _ x => if x.2.2 = 0 then q else q ++ [x])
    (fun q i x kc ke hq hx hi => by
      have hql : q.length ≤ i := by
        rw [hq]; refine Nat.le_trans (List.length_filter_le _ _) ?_; simp; omega
      have htake : ws.take (i + 1) = ws.take i ++ [x] := by rw [List.take_add_one, hx]; rfl
      refine ⟨?_, ?_⟩
      · simp only [r_spec_l03Drop_L0, lt_len, hi, decide_true, cond_true, getI_nat, hx, Option.bind_some, wr_len hi hws, List.length_cons, List.length_nil, Nat.zero_add, ble_true (show q.length + 1 ≤ 17179869184 by omega)]
        by_cases c : x.2.2 = 0
        · simp [c]
        · simp [c]
      · rw [htake, List.filter_append, ← hq]
        by_cases c : x.2.2 = 0
        · simp [c]
        · simp [c])
    (fun q kc ke _ => by simp only [r_spec_l03Drop_L0, not_lt_self, cond_false]) (N := N0) (len_lt hws N0_gt) [] (by simp) (fun s1 => some s1.1)
  have e := m.1
  rw [m.2, List.take_length] at e
  exact e

/-- The wires but for one. -/
theorem cut_list {ws : List W3} (hs : Srt ws) (hW : ∀ e ∈ ws, 1 ≤ e.2.2 ∧ e.2.2 ≤ 200) {i : Nat} {x : W3} (hx : ws[i]? = some x) {m : Nat} (hin : InW m ws) {l : List W3}
    (hl : WiresOf (fun a b => if (a : Int) = x.1 ∧ (b : Int) = x.2.1 then 0 else if (a : Int) = x.2.1 ∧ (b : Int) = x.1 then 0 else wbt ws (a : Int) (b : Int)) m (fun _ _ => True) l) :
    ((ws.set i (x.1, x.2.1, 0)).filter fun x => !decide (x.2.2 = 0)) = l := by
  have hi := get_lt hx
  have hxm := List.mem_of_getElem? hx
  have hmem : ∀ y, y ∈ ((ws.set i (x.1, x.2.1, 0)).filter fun x => !decide (x.2.2 = 0)) ↔ y ∈ ws ∧ y ≠ x := by
    intro y
    rw [List.mem_filter]
    constructor
    · rintro ⟨h1, h2⟩
      obtain ⟨j, hj⟩ := List.getElem?_of_mem h1
      rw [List.getElem?_set] at hj
      split at hj
      · simp only [Option.some.injEq] at hj; subst hj; simp at h2
      · rename_i hne
        refine ⟨List.mem_of_getElem? hj, ?_⟩
        rintro rfl
        have hji := get_lt hj
        rw [List.getElem?_eq_getElem hji] at hj
        rw [List.getElem?_eq_getElem hi] at hx
        simp only [Option.some.injEq] at hj hx
        rcases Nat.lt_or_gt_of_ne hne with h | h
        · have := List.pairwise_iff_getElem.1 hs i j hi hji h
          rw [hx, hj, lex_irr] at this; cases this
        · have := List.pairwise_iff_getElem.1 hs j i hji hi h
          rw [hx, hj, lex_irr] at this; cases this
    · rintro ⟨h1, h2⟩
      obtain ⟨j, hj⟩ := List.getElem?_of_mem h1
      have hne : i ≠ j := by
        rintro rfl; rw [hx] at hj; simp only [Option.some.injEq] at hj; exact h2 hj.symm
      refine ⟨List.mem_of_getElem? (i := j) (by rw [List.getElem?_set_ne hne]; exact hj), ?_⟩
      have := hW y h1
      simp; omega
  refine srt_ext ?_ hl.srt fun y => ?_
  · refine List.Pairwise.filter _ ?_
    rw [List.pairwise_iff_getElem]
    intro a b ha hb hab
    simp only [List.length_set] at ha hb
    have h := List.pairwise_iff_getElem.1 hs a b ha hb hab
    have hxe : ws[i] = x := by rw [List.getElem?_eq_getElem hi] at hx; simpa using hx
    rw [List.getElem_set, List.getElem_set]
    have lx : ∀ u v : W3, lex u v = true → u.1 = u.1 := fun _ _ _ => rfl
    split
    · rename_i e
      split
      · omega
      · subst e; rw [hxe] at h
        simp only [lex] at h ⊢; exact h
    · split
      · rename_i e; subst e; rw [hxe] at h
        simp only [lex] at h ⊢; exact h
      · exact h
  · rw [hmem, hl.mem]
    constructor
    · rintro ⟨h1, h2⟩
      obtain ⟨i1, i2, i3⟩ := hin y h1
      have hw := hW y h1
      have hne : ¬ (y.1 = x.1 ∧ y.2.1 = x.2.1) := fun ⟨e1, e2⟩ => h2 (srt_uniq hs h1 hxm e1 e2)
      have hx3 := hin x hxm
      refine ⟨y.1.toNat, y.2.1.toNat, trivial, by omega, by omega, ?_⟩
      have t1 : ((y.1.toNat : Nat) : Int) = y.1 := by omega
      have t2 : ((y.2.1.toNat : Nat) : Int) = y.2.1 := by omega
      rw [t1, t2, if_neg hne, if_neg (by omega)]
      have := (wbt_mem hs i2 (w := y.2.2) (by omega)).2 h1
      rw [this]
      exact ⟨by omega, rfl⟩
    · rintro ⟨a, b, _, h1, h2, h3, rfl⟩
      have hx3 := hin x hxm
      by_cases c1 : (a : Int) = x.1 ∧ (b : Int) = x.2.1
      · rw [if_pos c1] at h3; exact absurd rfl h3
      · rw [if_neg c1] at h3 ⊢
        by_cases c2 : (a : Int) = x.2.1 ∧ (b : Int) = x.1
        · omega
        · rw [if_neg c2] at h3 ⊢
          refine ⟨(wbt_mem hs (by omega) h3).1 rfl, ?_⟩
          rintro rfl
          exact c1 ⟨rfl, rfl⟩

theorem wbt_bounds {ws : List W3} (hW : ∀ e ∈ ws, 1 ≤ e.2.2 ∧ e.2.2 ≤ 200) (a b : Int) : 0 ≤ wbt ws a b ∧ wbt ws a b ≤ 200 := by
  unfold wbt
  split
  · omega
  · split
    · rename_i x hx
      have := hW x (List.mem_of_find?_eq_some hx); omega
    · omega

theorem sm_z0 : Sm.sm B1 (0 : Int) := ⟨by omega, by omega⟩

theorem mhh_Net (n : TNet) (k : Int) (hn : Sm.sm B1 n) (h0 : 0 ≤ k) (h1 : k ≤ 1099511627776) : ∃ n' k', e_laws_markNet n (k, ()) = some (n', k') ∧ k ≤ k' ∧ e_laws_heldNet (n', k, ()) = some k' := by
  obtain ⟨n', k', e1, e2, e3, w', e4, rfl⟩ := mh_Net n k hn h0 h1
  refine ⟨_, k', e1, e2, ?_⟩
  have d : decide (k' < 0) = false := by rw [decide_eq_false_iff_not]; omega
  simp only [e_laws_heldNet, r_laws_heldNet, e4, Option.bind_some, d, cond_false]

end Go.Sx.R

/- Circular pairs of lists: the law. Conditions: none. -/
namespace Go.Sx.R
open Go Go.Sx

def badR (k : Int) (rim : List Int) (i : Nat) (x : Int) : Bool := decide (x < 0) || decide (x ≥ k) || decide (x ∈ rim.take i)

def dn (rim : List Int) (i : Nat) (x : Int) : Int := if (rim[(i + 1) % rim.length]?).getD 0 < x then 1 else 0
def falls (rim : List Int) : Int := foldI (fun s i x => s + dn rim i x) rim 0 0

theorem next_get {rim : List Int} {i : Nat} (hi : i < rim.length) (hl : rim.length ≤ 9223372036854775807) : getI rim (Int.tmod (wr ((i : Int) + 1)) (rim.length : Int)) = some ((rim[(i + 1) % rim.length]?).getD 0) := by
  rw [wr_succ hi hl, Int.tmod_eq_emod_of_nonneg (by omega)]
  have e : ((i + 1 : Nat) : Int) % (rim.length : Int) = (((i + 1) % rim.length : Nat) : Int) := by simp
  have hlt : (i + 1) % rim.length < rim.length := Nat.mod_lt _ (by omega)
  rw [e, getI_nat, List.getElem?_eq_getElem hlt]; rfl

theorem foldI_snoc {β σ : Type} (g : σ → Nat → β → σ) : ∀ (l : List β) (x : β) (i : Nat) (s : σ), foldI g (l ++ [x]) i s = g (foldI g l i s) (i + l.length) x
  | [], x, i, s => rfl
  | y :: l, x, i, s => by
    simp only [List.cons_append, foldI, foldI_snoc g l x (i + 1), List.length_cons]
    congr 1; omega

theorem dn_bounds (rim : List Int) : ∀ (l : List Int) (i : Nat) (s : Int), s ≤ foldI (fun s i x => s + dn rim i x) l i s ∧ foldI (fun s i x => s + dn rim i x) l i s ≤ s + l.length
  | [], i, s => by simp [foldI]
  | x :: l, i, s => by
    have h := dn_bounds rim l (i + 1) (s + dn rim i x)
    have : 0 ≤ dn rim i x ∧ dn rim i x ≤ 1 := by simp only [dn]; split <;> omega
    simp only [foldI, List.length_cons]; omega

end Go.Sx.R

/- Determinants: what the program and the reference compute, up to the wrap. Conditions: none. -/
namespace Go.Sx.R
open Go Go.Sx

theorem wr_def (x : Int) : wr x = if 9223372036854775808 ≤ x % 18446744073709551616 then x % 18446744073709551616 - 18446744073709551616 else x % 18446744073709551616 := by
  show IntKind.i64.wrap x = _
  unfold IntKind.wrap
  have h1 : ((2 : Int) ^ IntKind.i64.bits) = 18446744073709551616 := by decide
  have h2 : ((2 : Int) ^ (IntKind.i64.bits - 1)) = 9223372036854775808 := by decide
  have h3 : IntKind.i64.signed = true := rfl
  simp only [h1, h2, h3, Bool.true_and, ge_iff_le, decide_eq_true_eq]

theorem wr_congr {x y : Int} (h : (x - y) % 18446744073709551616 = 0) : wr x = wr y := by
  have : x % 18446744073709551616 = y % 18446744073709551616 := by omega
  rw [wr_def, wr_def, this]

theorem wr_off (x : Int) : ∃ k, wr x = x + 18446744073709551616 * k := by
  have h : (wr x - x) % 18446744073709551616 = 0 := by rw [wr_def]; split <;> omega
  exact ⟨(wr x - x) / 18446744073709551616, by omega⟩

theorem wr_addM (x k : Int) : wr (x + 18446744073709551616 * k) = wr x := wr_congr (by omega)
theorem wr_wr (x : Int) : wr (wr x) = wr x := by obtain ⟨k, e⟩ := wr_off x; rw [e, wr_addM]; exact e
theorem wr_addl (x y : Int) : wr (wr x + y) = wr (x + y) := by
  obtain ⟨k, e⟩ := wr_off x
  exact wr_congr (by rw [e]; omega)
theorem wr_addr (x y : Int) : wr (x + wr y) = wr (x + y) := by rw [Int.add_comm, wr_addl, Int.add_comm]
theorem wr_mull (x y : Int) : wr (wr x * y) = wr (x * y) := by
  obtain ⟨k, e⟩ := wr_off x
  rw [e, Int.add_mul, Int.mul_assoc, wr_addM]
theorem wr_mulr (x y : Int) : wr (x * wr y) = wr (x * y) := by rw [Int.mul_comm, wr_mull, Int.mul_comm]

def at2 (m : List (List Int)) (r c : Int) : Int := (getI ((getI m r).getD []) c).getD 0

def dsum (m : List (List Int)) (r : Int) (D : Nat → Int) : List Int → Nat → Int → Int
  | [], _, _ => 0
  | c :: cs, j, sg => sg * at2 m r c * D j + dsum m r D cs (j + 1) (-sg)

/-- The determinant of some rows and columns, along the first row. -/
def detZ (m : List (List Int)) : List Int → List Int → Int
  | [], _ => 1
  | r :: rows, cols => dsum m r (fun j => detZ m rows (cols.eraseIdx j)) cols 0 1

def stepD (m : List (List Int)) (r : Int) (D : Nat → Int) (st : Int × Int) (j : Nat) (c : Int) : Int × Int :=
  (if at2 m r c = 0 then st.1 else wr (st.1 + wr (wr (st.2 * at2 m r c) * wr (D j))), wr (0 - st.2))

theorem fold_det (m : List (List Int)) (r : Int) (D : Nat → Int) : ∀ (cs : List Int) (j : Nat) (s sg : Int), (sg = 1 ∨ sg = -1) → wr s = s → (foldI (stepD m r D) cs j (s, sg)).1 = wr (s + dsum m r D cs j sg)
  | [], _, s, _, _, hs => by simp only [foldI, dsum, Int.add_zero, hs]
  | c :: cs, j, s, sg, hg, hs => by
    have hsg : wr (0 - sg) = -sg := by rcases hg with rfl | rfl <;> rfl
    have h1 : (stepD m r D (s, sg) j c) = (wr (s + sg * at2 m r c * D j), -sg) := by
      simp only [stepD, hsg, Prod.mk.injEq, and_true]
      split
      · rename_i h; rw [h, Int.mul_zero, Int.zero_mul, Int.add_zero, hs]
      · rw [wr_addr, ← wr_addr s, wr_mull, wr_mulr, wr_addr]
    simp only [foldI, dsum, h1]
    rw [fold_det m r D cs (j + 1) _ _ (by rcases hg with rfl | rfl <;> simp) (wr_wr _), wr_addl, Int.add_assoc]

/-- All entries are there. -/
def Ent (m : List (List Int)) (rows cols : List Int) : Prop := ∀ r ∈ rows, ∃ row, getI m r = some row ∧ ∀ c ∈ cols, ∃ x, getI row c = some x

theorem Ent.at {m : List (List Int)} {rows cols : List Int} (h : Ent m rows cols) {r c : Int} (hr : r ∈ rows) (hc : c ∈ cols) : ∃ row, getI m r = some row ∧ getI row c = some (at2 m r c) := by
  obtain ⟨row, e1, h1⟩ := h r hr
  obtain ⟨x, e2⟩ := h1 c hc
  exact ⟨row, e1, by simp only [at2, e1, Option.getD_some, e2]⟩

theorem sgn_next {sg : Int} (hg : sg = 1 ∨ sg = -1) : wr (0 - sg) = 1 ∨ wr (0 - sg) = -1 := by rcases hg with rfl | rfl <;> decide

end Go.Sx.R

/- The Laplacian: the program's and the reference's are one. Conditions: none. -/
namespace Go.Sx.R
open Go Go.Sx

theorem IsTab.congr {T : List (List Int)} {m : Nat} {f g : Nat → Nat → Int} (h : IsTab T m f) (e : ∀ i j, i < m → j < m → f i j = g i j) : IsTab T m g :=
  ⟨h.1, fun i hi => by obtain ⟨row, r1, r2, r3⟩ := h.2 i hi; exact ⟨row, r1, r2, fun j hj => by rw [r3 j hj, e i j hi hj]⟩⟩

theorem IsTab.uniq {T U : List (List Int)} {m : Nat} {f : Nat → Nat → Int} (h : IsTab T m f) (h' : IsTab U m f) : T = U := by
  apply List.ext_getElem?; intro i
  by_cases hi : i < m
  · obtain ⟨r, r1, r2, r3⟩ := h.2 i hi
    obtain ⟨s, s1, s2, s3⟩ := h'.2 i hi
    rw [r1, s1]
    congr 1
    apply List.ext_getElem?; intro j
    by_cases hj : j < m
    · rw [r3 j hj, s3 j hj]
    · rw [List.getElem?_eq_none (by omega), List.getElem?_eq_none (by omega)]
  · rw [List.getElem?_eq_none (by have := h.1; omega), List.getElem?_eq_none (by have := h'.1; omega)]

theorem foldI_ixmap {β γ : Type} (f : Nat → γ) : ∀ (l : List β) (i : Nat) (st : List γ), foldI (fun st i _ => st ++ [f i]) l i st = st ++ (List.range' i l.length).map f
  | [], _, st => by simp [foldI]
  | x :: l, i, st => by simp only [foldI, foldI_ixmap f l (i + 1), List.length_cons, List.range'_succ, List.map_cons, List.append_assoc, List.singleton_append]

def lapF (ws : List W3) (i j : Nat) : Int := if i = j then wAt ws (i : Int) else - wbt ws (i : Int) (j : Int)

theorem wbt_bd {ws : List W3} (hW : ∀ e ∈ ws, 1 ≤ e.2.2 ∧ e.2.2 ≤ 200) (a b : Int) : 0 ≤ wbt ws a b ∧ wbt ws a b ≤ 200 := by
  unfold wbt
  split
  · omega
  · split
    · rename_i x hx
      have := hW x (List.mem_of_find?_eq_some hx); omega
    · omega

end Go.Sx.R

/- The ratio of two numbers of any sign. Conditions: none. -/
namespace Go.Sx.R
open Go Go.Sx

theorem p_sizeI (n : Int) (h1 : -9223372036854775807 ≤ n) (h2 : n ≤ 9223372036854775807) : e_impl_size (n, ()) = some (n.natAbs : Int) := by
  simp only [e_impl_size, r_impl_size]
  by_cases h : n < 0
  · have e : Go.IntKind.wrap Go.IntKind.u64 (0 - Go.IntKind.wrap Go.IntKind.u64 n) = (n.natAbs : Int) := by
      simp only [IntKind.wrap, IntKind.bits, IntKind.signed]
      simp
      omega
    simp only [h, decide_true, cond_true, e]
  · simp only [h, decide_false, cond_false]
    rw [u64_id (by omega) (by omega)]
    congr 1; omega

theorem s_GcdI (a b : Int) (ha : -9223372036854775807 ≤ a) (ha2 : a ≤ 9223372036854775807) (hb : -9223372036854775807 ≤ b) (hb2 : b ≤ 9223372036854775807) : e_spec_GcdOf (a, b, ()) = some ((Nat.gcd a.natAbs b.natAbs : Nat) : Int) := by
  simp only [e_spec_GcdOf, r_spec_GcdOf, common_L0]
  have d1 : decide (a < -9223372036854775807) = false := by rw [decide_eq_false_iff_not]; omega
  have d2 : decide (b < -9223372036854775807) = false := by rw [decide_eq_false_iff_not]; omega
  have w1 : wr (0 - a) = 0 - a := wr_id (by omega) (by omega)
  have w2 : wr (0 - b) = 0 - b := wr_id (by omega) (by omega)
  have e1 : (if 0 - a > a then 0 - a else a) = (a.natAbs : Int) := by split <;> omega
  have e2 : (if 0 - b > b then 0 - b else b) = (b.natAbs : Int) := by split <;> omega
  rw [d1, d2, w1, w2]
  simp only [cond_false]
  rw [e1, e2]
  exact common_loop a.natAbs b.natAbs (by omega)

theorem tdiv_abs (n : Int) (g : Nat) : (0 ≤ n → Int.tdiv n (g : Int) = ((n.natAbs / g : Nat) : Int)) ∧ (n < 0 → Int.tdiv n (g : Int) = -((n.natAbs / g : Nat) : Int)) := by
  refine ⟨fun h => ?_, fun h => ?_⟩
  · have e : n = ((n.natAbs : Nat) : Int) := by omega
    rw [e, Int.tdiv_eq_ediv_of_nonneg (by omega)]; simp
  · have e : n = -((n.natAbs : Nat) : Int) := by omega
    have : Int.tdiv (-((n.natAbs : Nat) : Int)) (g : Int) = -((n.natAbs / g : Nat) : Int) := by
      rw [Int.neg_tdiv, Int.tdiv_eq_ediv_of_nonneg (by omega)]; simp
    rw [← e] at this; exact this

end Go.Sx.R

/- The response of a network: determinants of its Laplacian, and their bounds. Conditions: none. -/
namespace Go.Sx.R
open Go Go.Sx

-- bounds of determinants
def l1 (m : List (List Int)) (r : Int) (cols : List Int) : Nat := (cols.map fun c => (at2 m r c).natAbs).sum

theorem dsum_le {m : List (List Int)} {r : Int} {D : Nat → Int} {X : Nat} : ∀ (cs : List Int) (j : Nat) (s : Int), (s = 1 ∨ s = -1) → (∀ i, (D i).natAbs ≤ X) → (dsum m r D cs j s).natAbs ≤ l1 m r cs * X
  | [], _, _, _, _ => by simp [dsum, l1]
  | c :: cs, j, s, hs, hD => by
    have ih := dsum_le (m := m) (r := r) (D := D) (X := X) cs (j + 1) (-s) (by rcases hs with rfl | rfl <;> simp) hD
    have hs1 : s.natAbs = 1 := by rcases hs with rfl | rfl <;> rfl
    have t : (s * at2 m r c * D j).natAbs ≤ (at2 m r c).natAbs * X := by
      rw [Int.natAbs_mul, Int.natAbs_mul, hs1, Nat.one_mul]
      exact Nat.mul_le_mul_left _ (hD j)
    have e : l1 m r (c :: cs) = (at2 m r c).natAbs + l1 m r cs := by simp [l1]
    simp only [dsum]
    rw [e, Nat.add_mul]
    exact Nat.le_trans (Int.natAbs_add_le _ _) (Nat.add_le_add t ih)

theorem l1_erase {m : List (List Int)} {r : Int} : ∀ (cols : List Int) (i : Nat), l1 m r (cols.eraseIdx i) ≤ l1 m r cols
  | [], _ => by simp [l1]
  | c :: cs, 0 => by simp [l1]
  | c :: cs, i + 1 => by
    have := l1_erase (m := m) (r := r) cs i
    simp only [l1, List.eraseIdx_cons_succ, List.map_cons, List.sum_cons] at *; omega

theorem detZ_le {m : List (List Int)} {X : Nat} : ∀ (rows cols : List Int), (∀ r ∈ rows, l1 m r cols ≤ X) → (detZ m rows cols).natAbs ≤ X ^ rows.length
  | [], _, _ => by simp [detZ]
  | r :: rows, cols, h => by
    have hD : ∀ i, (detZ m rows (cols.eraseIdx i)).natAbs ≤ X ^ rows.length := fun i => detZ_le rows (cols.eraseIdx i) fun r' hr' => Nat.le_trans (l1_erase cols i) (h r' (List.mem_cons_of_mem _ hr'))
    have := dsum_le (m := m) (r := r) cols 0 1 (.inl rfl) hD
    simp only [detZ, List.length_cons]
    refine Nat.le_trans this ?_
    rw [Nat.pow_succ, Nat.mul_comm]
    exact Nat.mul_le_mul_left _ (h r List.mem_cons_self)

-- weights at a node
def oth (v : Int) (e : W3) : Int := e.1 + e.2.1 - v
def tch (v : Int) (e : W3) : Bool := decide (e.1 = v ∨ e.2.1 = v)

theorem touch_sum (v : Int) : ∀ (ws : List W3), wAt ws v = ((ws.filter (tch v)).map (touch v)).sum
  | [] => rfl
  | e :: ws => by
    have ih := touch_sum v ws
    simp only [wAt] at *
    by_cases c : e.1 = v ∨ e.2.1 = v
    · rw [List.filter_cons_of_pos (by simp [tch, c])]; simp [ih]
    · rw [List.filter_cons_of_neg (by simp [tch, c])]; simp [ih, touch, c]

theorem wAt_le {ws : List W3} {m : Nat} (hs : Srt ws) (hin : InW m ws) (hm5 : m ≤ 5) (hW : ∀ e ∈ ws, 1 ≤ e.2.2 ∧ e.2.2 ≤ 200) (v : Int) : 0 ≤ wAt ws v ∧ wAt ws v ≤ 1000 := by
  rw [touch_sum]
  have hb := sum_bounds (touch v) 200 (ws.filter (tch v)) fun e he => touch_le hW v e (List.mem_filter.1 he).1
  have hn : ((ws.filter (tch v)).map (oth v)).Nodup := by
    rw [List.Nodup, List.pairwise_map]
    refine (List.Pairwise.filter _ hs).imp_of_mem fun {a b} ha hb hl => ?_
    have ta := (List.mem_filter.1 ha).2
    have tb := (List.mem_filter.1 hb).2
    have ia := hin a (List.mem_filter.1 ha).1
    have ib := hin b (List.mem_filter.1 hb).1
    simp only [tch, decide_eq_true_eq] at ta tb
    simp only [lex, Bool.or_eq_true, Bool.and_eq_true, decide_eq_true_eq] at hl
    simp only [oth]
    omega
  have hl := nodup_len (m := ints 5) hn fun x hx => by
    obtain ⟨e, he, rfl⟩ := List.mem_map.1 hx
    have te := (List.mem_filter.1 he).2
    have ie := hin e (List.mem_filter.1 he).1
    simp only [tch, decide_eq_true_eq] at te
    rw [mem_ints]; simp only [oth]; omega
  rw [len_ints, List.length_map] at hl
  omega

theorem lapF_le {ws : List W3} {m : Nat} (hs : Srt ws) (hin : InW m ws) (hm5 : m ≤ 5) (hW : ∀ e ∈ ws, 1 ≤ e.2.2 ∧ e.2.2 ≤ 200) (i j : Nat) : (lapF ws i j).natAbs ≤ if i = j then 1000 else 200 := by
  simp only [lapF]
  split
  · have := wAt_le hs hin hm5 hW (i : Int); omega
  · have := wbt_bd hW (i : Int) (j : Int); omega

theorem tab_at2 {L : List (List Int)} {m : Nat} {f : Nat → Nat → Int} (h : IsTab L m f) {i j : Nat} (hi : i < m) (hj : j < m) : at2 L (i : Int) (j : Int) = f i j := by
  obtain ⟨row, r1, r2, r3⟩ := h.2 i hi
  simp only [at2, getI_nat, r1, Option.getD_some, r3 j hj]

theorem tab_ent {L : List (List Int)} {m : Nat} {f : Nat → Nat → Int} (h : IsTab L m f) {rows cols : List Int} (hr : ∀ r ∈ rows, 0 ≤ r ∧ r < m) (hc : ∀ c ∈ cols, 0 ≤ c ∧ c < m) : Ent L rows cols := by
  intro r hrm
  obtain ⟨i, rfl⟩ : ∃ i : Nat, r = i := ⟨r.toNat, by have := hr r hrm; omega⟩
  obtain ⟨row, r1, r2, r3⟩ := h.2 i (by have := hr _ hrm; omega)
  refine ⟨row, by rw [getI_nat]; exact r1, fun c hcm => ?_⟩
  obtain ⟨j, rfl⟩ : ∃ j : Nat, c = j := ⟨c.toNat, by have := hc c hcm; omega⟩
  exact ⟨_, by rw [getI_nat]; exact r3 j (by have := hc _ hcm; omega)⟩

theorem l1_lap {ws : List W3} {m : Nat} {L : List (List Int)} (hs : Srt ws) (hin : InW m ws) (hm5 : m ≤ 5) (hW : ∀ e ∈ ws, 1 ≤ e.2.2 ∧ e.2.2 ≤ 200) (h : IsTab L m (lapF ws)) {r : Int} (hr : 0 ≤ r ∧ r < m) :
    ∀ (cols : List Int), cols.Nodup → (∀ c ∈ cols, 0 ≤ c ∧ c < m) → (r ∉ cols → l1 L r cols ≤ 200 * cols.length) ∧ l1 L r cols ≤ 800 + 200 * cols.length
  | [], _, _ => by simp [l1]
  | c :: cs, hn, hc => by
    obtain ⟨n1, n2⟩ := List.nodup_cons.1 hn
    obtain ⟨q1, q2⟩ := l1_lap hs hin hm5 hW h hr cs n2 fun c hcm => hc c (List.mem_cons_of_mem _ hcm)
    obtain ⟨i, rfl⟩ : ∃ i : Nat, r = i := ⟨r.toNat, by omega⟩
    have hcc := hc c List.mem_cons_self
    obtain ⟨j, rfl⟩ : ∃ j : Nat, c = j := ⟨c.toNat, by omega⟩
    have b := lapF_le hs hin hm5 hW i j
    have e : l1 L (i : Int) ((j : Int) :: cs) = (lapF ws i j).natAbs + l1 L (i : Int) cs := by
      simp only [l1, List.map_cons, List.sum_cons, tab_at2 h (show i < m by omega) (show j < m by omega)]
    rw [e]
    simp only [List.length_cons, List.mem_cons, not_or]
    by_cases ij : i = j
    · subst ij
      have := q1 n1
      simp only [if_true] at b
      exact ⟨fun hh => absurd rfl hh.1, by omega⟩
    · rw [if_neg ij] at b
      exact ⟨fun hh => by have := q1 hh.2; omega, by omega⟩

theorem det_lap {ws : List W3} {m : Nat} {L : List (List Int)} (hs : Srt ws) (hin : InW m ws) (hm5 : m ≤ 5) (hW : ∀ e ∈ ws, 1 ≤ e.2.2 ∧ e.2.2 ≤ 200) (h : IsTab L m (lapF ws)) {rows cols : List Int} (hr : ∀ r ∈ rows, 0 ≤ r ∧ r < m) (hc : ∀ c ∈ cols, 0 ≤ c ∧ c < m) (hn : cols.Nodup) : (detZ L rows cols).natAbs ≤ 1800 ^ rows.length := by
  refine detZ_le rows cols fun r hrm => ?_
  have hl : cols.length ≤ 5 := by
    have := nodup_len (m := ints m) hn fun c hcm => by rw [mem_ints]; exact hc c hcm
    rw [len_ints] at this; omega
  have := (l1_lap hs hin hm5 hW h (hr r hrm) cols hn hc).2
  omega

end Go.Sx.R

/- Sums over trees and forests, resistances: both sides compute the same. Conditions: none. -/
namespace Go.Sx.R
open Go Go.Sx

/-- The nodes that are not in a list. -/
def woG (l : List Int) (q : List Int) (i : Nat) (_ : Nat) : List Int := if (i : Int) ∈ l then q else q ++ [(i : Int)]
def wo (m : Nat) (l : List Int) : List Int := foldI (woG l) (List.range m) 0 []

theorem foldI_ind {β σ : Type} (p : Nat → σ → Prop) (g : σ → Nat → β → σ) (hg : ∀ s i x, p i s → p (i + 1) (g s i x)) : ∀ (l : List β) (i : Nat) (s : σ), p i s → p (i + l.length) (foldI g l i s)
  | [], i, s, h => by simpa [foldI] using h
  | x :: l, i, s, h => by
    have := foldI_ind p g hg l (i + 1) (g s i x) (hg s i x h)
    have e : i + (x :: l).length = i + 1 + l.length := by simp; omega
    rw [e]; exact this

theorem wo_facts' (m : Nat) (l : List Int) : (wo m l).length ≤ m ∧ (∀ c ∈ wo m l, 0 ≤ c ∧ c < m ∧ c ∉ l) ∧ (wo m l).Nodup := by
  have := foldI_ind (β := Nat) (fun i (q : List Int) => q.length ≤ i ∧ (∀ c ∈ q, 0 ≤ c ∧ c < i ∧ c ∉ l) ∧ q.Nodup) (woG l) (fun s i x ⟨h1, h2, h3⟩ => by
    simp only [woG]
    split
    · exact ⟨by omega, fun c hc => by have := h2 c hc; exact ⟨this.1, by omega, this.2.2⟩, h3⟩
    · rename_i hni
      refine ⟨by simp; omega, fun c hc => ?_, ?_⟩
      · rcases List.mem_append.1 hc with hc | hc
        · have := h2 c hc; exact ⟨this.1, by omega, this.2.2⟩
        · simp at hc; subst hc; exact ⟨by omega, by omega, hni⟩
      · refine List.nodup_append.2 ⟨h3, by simp, fun a ha b hb => ?_⟩
        simp at hb
        have := h2 a ha
        omega) (List.range m) 0 [] ⟨by simp, by simp, by simp⟩
  simpa [wo] using this

theorem wo_facts (m : Nat) (l : List Int) : (wo m l).length ≤ m ∧ (∀ c ∈ wo m l, 0 ≤ c ∧ c < m) ∧ (wo m l).Nodup :=
  ⟨(wo_facts' m l).1, fun c hc => ⟨((wo_facts' m l).2.1 c hc).1, ((wo_facts' m l).2.1 c hc).2.1⟩, (wo_facts' m l).2.2⟩

theorem wo_len {m : Nat} {l : List Int} {x : Int} (hx : x ∈ l) (h0 : 0 ≤ x) (h1 : x < m) : (wo m l).length + 1 ≤ m := by
  have f := wo_facts' m l
  have hn : (x :: wo m l).Nodup := List.nodup_cons.2 ⟨fun h => (f.2.1 x h).2.2 hx, f.2.2⟩
  have := nodup_len (m := (List.range m).map fun (i : Nat) => (i : Int)) hn fun y hy => by
    have hy' : 0 ≤ y ∧ y < m := by
      rcases List.mem_cons.1 hy with rfl | hy
      · exact ⟨h0, h1⟩
      · exact ⟨(f.2.1 y hy).1, (f.2.1 y hy).2.1⟩
    exact List.mem_map.2 ⟨y.toNat, List.mem_range.2 (by omega), by omega⟩
  simpa using this

theorem wo_step {l q : List Int} {i x : Nat} (h : q.length ≤ i) : (woG l q i x).length ≤ i + 1 := by
  simp only [woG]; split
  · omega
  · simp; omega

section
variable {n : TNet} {m : Nat} {L : List (List Int)}

theorem BB_ge : 2 ≤ BB := by simp only [BB]; omega
end

theorem mul_bd {s x : Int} {k : Nat} (hs : 1 ≤ s ∧ s ≤ 1000) (hx : x.natAbs ≤ k) : (s * x).natAbs ≤ 1000 * k := by
  rw [Int.natAbs_mul]
  exact Nat.mul_le_mul (by omega) hx

end Go.Sx.R

/- Networks over their greatest common divisor. Conditions: none. -/
namespace Go.Sx.R
open Go Go.Sx

/-- The greatest common divisor of a number and of all weights. -/
def gcdW (g : Nat) (l : List W3) : Nat := l.foldl (fun g x => Nat.gcd g x.2.2.natAbs) g

theorem gcdW_snoc (g : Nat) (l : List W3) (x : W3) : gcdW g (l ++ [x]) = Nat.gcd (gcdW g l) x.2.2.natAbs := by simp [gcdW]
theorem gcdW_cons (g : Nat) (l : List W3) (x : W3) : gcdW g (x :: l) = gcdW (Nat.gcd g x.2.2.natAbs) l := rfl
theorem gcdW_dvd : ∀ (l : List W3) (g : Nat), gcdW g l ∣ g ∧ ∀ x ∈ l, gcdW g l ∣ x.2.2.natAbs
  | [], g => ⟨Nat.dvd_refl _, by simp⟩
  | x :: l, g => by
    have h := gcdW_dvd l (Nat.gcd g x.2.2.natAbs)
    rw [gcdW_cons]
    refine ⟨Nat.dvd_trans h.1 (Nat.gcd_dvd_left _ _), fun y hy => ?_⟩
    rcases List.mem_cons.1 hy with rfl | hy
    · exact Nat.dvd_trans h.1 (Nat.gcd_dvd_right _ _)
    · exact h.2 y hy
theorem dvd_gcdW : ∀ (l : List W3) (g k : Nat), k ∣ g → (∀ x ∈ l, k ∣ x.2.2.natAbs) → k ∣ gcdW g l
  | [], g, k, h, _ => h
  | x :: l, g, k, h, hx => by
    rw [gcdW_cons]
    exact dvd_gcdW l _ k (Nat.dvd_gcd h (hx x (by simp))) fun y hy => hx y (by simp [hy])
theorem gcdW_pos {g : Nat} (h : 0 < g) (l : List W3) : 0 < gcdW g l := Nat.pos_of_dvd_of_pos (gcdW_dvd l g).1 h
theorem gcdW_le {g : Nat} (h : 0 < g) (l : List W3) : gcdW g l ≤ g := Nat.le_of_dvd h (gcdW_dvd l g).1

def divW (g : Nat) (x : W3) : W3 := (x.1, x.2.1, x.2.2 / (g : Int))
def gN (n : TNet) : Nat := gcdW n.2.2.1.natAbs n.2.2.2

/-- A network over its greatest common divisor. -/
def canon (n : TNet) : TNet := (n.1, n.2.1, n.2.2.1 / (gN n : Int), n.2.2.2.map (divW (gN n)))

/-- Whose scale and weights are positive and not too large. -/
structure Fine (n : TNet) : Prop where
  s1 : 1 ≤ n.2.2.1
  s2 : n.2.2.1 ≤ 1000000000000000
  w : ∀ x ∈ n.2.2.2, 1 ≤ x.2.2 ∧ x.2.2 ≤ 1000000000000000
  sm : Sm.sm B1 n

-- lists of which the front has been changed
def half {β : Type} (f : β → β) (l : List β) (i : Nat) : List β := (l.take i).map f ++ l.drop i
theorem half_len {β : Type} (f : β → β) (l : List β) (i : Nat) : (half f l i).length = l.length := by simp [half]; omega
theorem half_get {β : Type} {f : β → β} {l : List β} {i : Nat} {x : β} (h : l[i]? = some x) : (half f l i)[i]? = some x := by
  have hi : i < l.length := get_lt h
  rw [half, List.getElem?_append_right (by simp; omega)]
  have : i - ((l.take i).map f).length = 0 := by simp; omega
  rw [this, List.getElem?_drop]; simpa using h
theorem half_set {β : Type} {f : β → β} {l : List β} {i : Nat} {x : β} (h : l[i]? = some x) : (half f l i).set i (f x) = half f l (i + 1) := by
  have hi : i < l.length := get_lt h
  have hl : ((l.take i).map f).length = i := by simp; omega
  have e : l.drop i = x :: l.drop (i + 1) := by
    rw [List.drop_eq_getElem_cons hi]
    rw [List.getElem?_eq_getElem hi] at h
    simp only [Option.some.injEq] at h
    rw [h]
  rw [half, half, e, List.set_append_right _ _ (by omega), hl, Nat.sub_self, List.set_cons_zero, List.take_add_one, h]
  simp
theorem half_zero {β : Type} (f : β → β) (l : List β) : half f l 0 = l := by simp [half]
theorem half_all {β : Type} (f : β → β) (l : List β) : half f l l.length = l.map f := by simp [half]

theorem p_GcdN (a b : Nat) (ha : a ≤ 1000000000000000) (hb : b ≤ 1000000000000000) : e_impl_GcdOf ((a : Int), (b : Int), ()) = some ((Nat.gcd a b : Nat) : Int) := by
  have d1 : decide ((a : Int) = -9223372036854775808) = false := by rw [decide_eq_false_iff_not]; omega
  have d2 : decide ((b : Int) = -9223372036854775808) = false := by rw [decide_eq_false_iff_not]; omega
  have hg : Nat.gcd a b ≤ 1000000000000000 := by
    by_cases h : b = 0
    · subst h; simpa using ha
    · exact Nat.le_trans (Nat.gcd_le_right _ (by omega)) hb
  have w : wr ((Nat.gcd a b : Nat) : Int) = ((Nat.gcd a b : Nat) : Int) := wr_id (by omega) (by omega)
  simp only [e_impl_GcdOf, r_impl_GcdOf, d1, d2, cond_false, p_size a (by omega), p_size b (by omega), p_common a b (by omega), Option.bind_some, w]

theorem tdiv_pos {a : Int} (g : Nat) (h : 0 ≤ a) : Int.tdiv a (g : Int) = a / (g : Int) := Int.tdiv_eq_ediv_of_nonneg h

theorem div_bd {a : Int} {g : Nat} (h : 0 ≤ a) : 0 ≤ a / (g : Int) ∧ a / (g : Int) ≤ a := by
  refine ⟨Int.ediv_nonneg h (by omega), ?_⟩
  exact Int.ediv_le_self _ h

theorem Fine.canon_sm {n : TNet} (h : Fine n) : Sm.sm B1 (canon n) := by
  have hs := h.sm
  have s1 := h.s1
  have s2 := h.s2
  have b := div_bd (g := gN n) (show 0 ≤ n.2.2.1 by omega)
  refine ⟨hs.1, hs.2.1, (⟨by simp only [canon]; omega, by simp only [canon]; omega⟩ : Sm.sm B1 (canon n).2.2.1), by simpa [canon] using hs.2.2.2.1, fun x hx => ?_⟩
  simp only [canon, List.mem_map] at hx
  obtain ⟨y, hy, rfl⟩ := hx
  have hy1 := h.w y hy
  have hy2 := hs.2.2.2.2 y hy
  have b2 := div_bd (g := gN n) (show 0 ≤ y.2.2 by omega)
  exact ⟨hy2.1, hy2.2.1, (⟨by simp only [divW]; omega, by simp only [divW]; omega⟩ : Sm.sm B1 (divW (gN n) y).2.2)⟩

theorem Fine.g_pos {n : TNet} (h : Fine n) : 0 < gN n := gcdW_pos (by have := h.s1; omega) _

theorem WiresOf.fine {f : Nat → Nat → Int} {m : Nat} (hm5 : m ≤ 5) {l : List W3} (h : WiresOf f m (fun _ _ => True) l) {ends scale : Int} (hs : 1 ≤ scale ∧ scale ≤ 1000000000000000) (he : Sm.sm B1 ends)
    (hf : ∀ i j, i < j → j < m → 0 ≤ f i j ∧ f i j ≤ 1000000000000000) : Fine ((m : Int), ends, scale, l) := by
  have hw : ∀ x ∈ l, 1 ≤ x.2.2 ∧ x.2.2 ≤ 1000000000000000 := fun x hx => by
    obtain ⟨a, b, _, h2, h3, h4, rfl⟩ := (h.mem x).1 hx
    have := hf a b h2 h3
    simp only
    omega
  refine ⟨hs.1, hs.2, hw, ⟨by omega, by omega⟩, he, (⟨by omega, by omega⟩ : Sm.sm B1 scale), ⟨?_, fun x hx => ?_⟩⟩
  · have := h.len
    have : m * m ≤ 25 := Nat.mul_le_mul hm5 hm5
    simp only [B1]; omega
  · have hx2 := hw x hx
    obtain ⟨a, b, _, h2, h3, h4, rfl⟩ := (h.mem x).1 hx
    have hx3 : 1 ≤ f a b ∧ f a b ≤ 1000000000000000 := hx2
    exact ⟨(⟨by omega, by omega⟩ : Sm.sm B1 (a : Int)), (⟨by omega, by omega⟩ : Sm.sm B1 (b : Int)), (⟨by omega, by omega⟩ : Sm.sm B1 (f a b))⟩

theorem p_netOfC (ends scale : Int) (T : List (List Int)) (m : Nat) (hm1 : 1 ≤ m) (hm5 : m ≤ 5) (f : Nat → Nat → Int) (hT : IsTab T m f) (hs : 1 ≤ scale ∧ scale ≤ 1000000000000000) (he : Sm.sm B1 ends) (hf : ∀ i j, i < j → j < m → 0 ≤ f i j ∧ f i j ≤ 1000000000000000) :
    ∃ l, WiresOf f m (fun _ _ => True) l ∧ Fine ((m : Int), ends, scale, l) ∧ e_impl_netOf (ends, scale, T, true, ()) = some (cond (netok (canon ((m : Int), ends, scale, l))) (canon ((m : Int), ends, scale, l), true) ((0, 0, 0, []), false)) := by
  obtain ⟨hTl, hrow⟩ := hT
  obtain ⟨sN, hsN⟩ : ∃ s : Nat, scale = s := ⟨scale.toNat, by omega⟩
  have hd : (List.range m).length = m := by simp
  simp only [e_impl_netOf, r_impl_netOf, hTl]
  refine iter_rule (R := TNet × Bool) (body := r_impl_netOf_L0 e_impl_NetOk e_impl_GcdOf N0) (ke := fun s1 => cond s1.2.1 _ _) (fun o => ∃ l, WiresOf f m (fun _ _ => True) l ∧ Fine ((m : Int), ends, scale, l) ∧ o = some (cond (netok (canon ((m : Int), ends, scale, l))) (canon ((m : Int), ends, scale, l), true) ((0, 0, 0, []), false))) (List.range m)
    (fun (st : List W3 × Int) i => (T, true, (0, 0, 0, []), ((m : Int), ends, scale, st.1), st.2, (m : Int), i, ())) (fun i st => WiresOf f m (fun a _ => a < i) st.1 ∧ st.2 = (gcdW sN st.1 : Int)) (fun st i x kc ⟨p1, p2⟩ hx hi hk => ?_) (fun st kc ⟨p1, p2⟩ => ?_) (N := N0) (by have := N0_big; omega) ([], scale)
    ⟨⟨List.Pairwise.nil, fun x => ⟨fun h => by simp at h, fun ⟨a, b, h, _⟩ => absurd h (Nat.not_lt_zero _)⟩⟩, hsN⟩
  · have him : i < m := by rw [hd] at hi; exact hi
    have d1 : decide ((i : Int) < (m : Int)) = true := by rw [decide_eq_true_eq]; omega
    have w1 : wr ((i : Int) + 1) = ((i + 1 : Nat) : Int) := wr_succ him (by omega)
    obtain ⟨row, r1, r2, r3⟩ := hrow i him
    simp only [r_impl_netOf_L0, d1, cond_true, w1]
    have hd2 : (List.range (m - (i + 1))).length = m - (i + 1) := by simp
    have inner := iter_rule (R := TNet × Bool) (body := r_impl_netOf_L2 e_impl_NetOk e_impl_GcdOf N0) (ke := fun s1 => kc (s1.1, s1.2.1, s1.2.2.1, s1.2.2.2.1, s1.2.2.2.2.1, s1.2.2.2.2.2.2.2.1, wr (s1.2.2.2.2.2.2.2.2.1 + 1), ())) (fun o => ∃ l, WiresOf f m (fun _ _ => True) l ∧ Fine ((m : Int), ends, scale, l) ∧ o = some (cond (netok (canon ((m : Int), ends, scale, l))) (canon ((m : Int), ends, scale, l), true) ((0, 0, 0, []), false)))
      (List.range (m - (i + 1))) (fun (st : List W3 × Int) j => (T, true, (0, 0, 0, []), ((m : Int), ends, scale, st.1), st.2, (i : Int), ((i + 1 : Nat) : Int) + j, (m : Int), (i : Int), ())) (fun j st => WiresOf f m (fun a b => a < i ∨ (a = i ∧ b < i + 1 + j)) st.1 ∧ st.2 = (gcdW sN st.1 : Int))
      (fun st j y kc2 ⟨q1, q2⟩ hy hj hk2 => ?_) (fun st kc2 ⟨q1, q2⟩ => ?_) (N := N0) (by have := N0_big; omega) st ⟨⟨p1.srt, fun x => ?_⟩, p2⟩
    · have e0 : ((i + 1 : Nat) : Int) + (0 : Int) = ((i + 1 : Nat) : Int) := by omega
      simp only [e0] at inner
      exact inner
    · rw [hd2] at hj
      have hjm : i + 1 + j < m := by omega
      have e1 : ((i + 1 : Nat) : Int) + (j : Int) = ((i + 1 + j : Nat) : Int) := by omega
      have d2 : decide (((i + 1 + j : Nat) : Int) < (m : Int)) = true := by rw [decide_eq_true_eq]; omega
      have w2 : wr (((i + 1 + j : Nat) : Int) + 1) = ((i + 1 : Nat) : Int) + ((j + 1 : Nat) : Int) := by rw [wr_id (by omega) (by omega)]; omega
      simp only [r_impl_netOf_L2, hTl, e1, d2, cond_true, getI_nat, r1, Option.bind_some, r3 (i + 1 + j) hjm, w2]
      by_cases hz : f i (i + 1 + j) = 0
      · simp only [hz, decide_true, Bool.not_true, cond_false]
        refine hk2 st ⟨⟨q1.srt, fun x => ?_⟩, q2⟩
        rw [q1.mem]
        constructor
        · rintro ⟨a, b, h1, h2, h3, h4, h5⟩; exact ⟨a, b, by omega, h2, h3, h4, h5⟩
        · rintro ⟨a, b, h1, h2, h3, h4, h5⟩
          refine ⟨a, b, ?_, h2, h3, h4, h5⟩
          by_cases e : a = i ∧ b = i + 1 + j
          · obtain ⟨rfl, rfl⟩ := e; exact absurd hz h4
          · omega
      · have hln : st.1.length + 1 ≤ 17179869184 := by
          have := q1.len
          have : m * m ≤ 25 := Nat.mul_le_mul hm5 hm5
          omega
        have hfb := hf i (i + 1 + j) (by omega) hjm
        obtain ⟨fN, hfN⟩ : ∃ k : Nat, f i (i + 1 + j) = k := ⟨(f i (i + 1 + j)).toNat, by omega⟩
        have hgl := gcdW_le (show 0 < sN by omega) st.1
        have hg1 : e_impl_GcdOf (st.2, f i (i + 1 + j), ()) = some ((Nat.gcd (gcdW sN st.1) fN : Nat) : Int) := by rw [q2, hfN]; exact p_GcdN _ _ (by omega) (by omega)
        simp only [hz, decide_false, Bool.not_false, cond_true, List.length_cons, List.length_nil, Nat.zero_add, ble_true hln, hg1, Option.bind_some]
        refine hk2 (st.1 ++ [((i : Int), ((i + 1 + j : Nat) : Int), f i (i + 1 + j))], ((Nat.gcd (gcdW sN st.1) fN : Nat) : Int)) ⟨⟨?_, fun x => ?_⟩, ?_⟩
        · refine List.pairwise_append.2 ⟨q1.srt, by simp, fun x hx y hy => ?_⟩
          simp at hy; subst hy
          obtain ⟨a, b, h1, h2, h3, h4, rfl⟩ := (q1.mem x).1 hx
          simp only [lex, Bool.or_eq_true, Bool.and_eq_true, decide_eq_true_eq]; omega
        · rw [List.mem_append, q1.mem]
          constructor
          · rintro (⟨a, b, h1, h2, h3, h4, h5⟩ | h)
            · exact ⟨a, b, by omega, h2, h3, h4, h5⟩
            · simp at h; exact ⟨i, i + 1 + j, by omega, by omega, hjm, hz, h⟩
          · rintro ⟨a, b, h1, h2, h3, h4, h5⟩
            by_cases e : a = i ∧ b = i + 1 + j
            · obtain ⟨rfl, rfl⟩ := e; right; simp [h5]
            · left; exact ⟨a, b, by omega, h2, h3, h4, h5⟩
        · rw [gcdW_snoc]
          show _ = ((Nat.gcd (gcdW sN st.1) (f i (i + 1 + j)).natAbs : Nat) : Int)
          rw [hfN]; rfl
    · have e1 : ((i + 1 : Nat) : Int) + (((List.range (m - (i + 1))).length : Nat) : Int) = (m : Int) := by rw [hd2]; omega
      have d2 : decide ((m : Int) < (m : Int)) = false := by simp
      simp only [r_impl_netOf_L2, hTl, e1, d2, cond_false, w1]
      refine hk st ⟨⟨q1.srt, fun x => ?_⟩, q2⟩
      rw [q1.mem, hd2]
      constructor
      · rintro ⟨a, b, h1, h2, h3, h4, h5⟩; exact ⟨a, b, by omega, h2, h3, h4, h5⟩
      · rintro ⟨a, b, h1, h2, h3, h4, h5⟩; exact ⟨a, b, by omega, h2, h3, h4, h5⟩
    · rw [p1.mem]
      constructor
      · rintro ⟨a, b, h1, h2, h3, h4, h5⟩; exact ⟨a, b, by omega, h2, h3, h4, h5⟩
      · rintro ⟨a, b, h1, h2, h3, h4, h5⟩; exact ⟨a, b, by omega, h2, h3, h4, h5⟩
  · have d2 : decide ((((List.range m).length : Nat) : Int) < (m : Int)) = false := by rw [decide_eq_false_iff_not, hd]; omega
    have hl : WiresOf f m (fun _ _ => True) st.1 := ⟨p1.srt, fun x => by
      rw [p1.mem, hd]
      constructor
      · rintro ⟨a, b, h1, h2, h3, h4, h5⟩; exact ⟨a, b, trivial, h2, h3, h4, h5⟩
      · rintro ⟨a, b, h1, h2, h3, h4, h5⟩; exact ⟨a, b, by omega, h2, h3, h4, h5⟩⟩
    have hF := hl.fine hm5 hs he hf
    refine ⟨st.1, hl, hF, ?_⟩
    have hgp := gcdW_pos (show 0 < sN by omega) st.1
    have hgl := gcdW_le (show 0 < sN by omega) st.1
    have hgN : gN ((m : Int), ends, scale, st.1) = gcdW sN st.1 := by simp only [gN, hsN, Int.natAbs_natCast]
    have dz : decide ((gcdW sN st.1 : Int) = 0) = false := by rw [decide_eq_false_iff_not]; omega
    have hsd := div_bd (a := scale) (g := gcdW sN st.1) (by omega)
    have ws : wr (Int.tdiv scale (gcdW sN st.1 : Int)) = scale / (gcdW sN st.1 : Int) := by rw [tdiv_pos _ (by omega)]; exact wr_id (by omega) (by omega)
    simp only [r_impl_netOf_L0, d2, cond_false, cond_true, p2, dz, ws]
    have hlen : st.1.length ≤ 25 := by
      have := hl.len
      have : m * m ≤ 25 := Nat.mul_le_mul hm5 hm5
      omega
    refine iter_rule (R := TNet × Bool) (body := r_impl_netOf_L4 e_impl_NetOk e_impl_GcdOf N0) (fun o => o = some (cond (netok (canon ((m : Int), ends, scale, st.1))) (canon ((m : Int), ends, scale, st.1), true) ((0, 0, 0, []), false))) st.1
      (fun (q : List W3) i => ((0, 0, 0, []), ((m : Int), ends, scale / (gcdW sN st.1 : Int), q), (gcdW sN st.1 : Int), (st.1.length : Int), i, ())) (fun i q => q = half (divW (gcdW sN st.1)) st.1 i) (fun q i x kc hq hx hi hk => ?_) (fun q kc hq => ?_) (N := N0) (by have := N0_big; omega) st.1 (half_zero _ _).symm
    · have d3 : decide ((i : Int) < (st.1.length : Int)) = true := by rw [decide_eq_true_eq]; omega
      have hg := half_get (f := divW (gcdW sN st.1)) hx
      have hxw := hF.w x (List.mem_of_getElem? hx)
      have hxd := div_bd (a := x.2.2) (g := gcdW sN st.1) (by omega)
      have wx : wr (Int.tdiv x.2.2 (gcdW sN st.1 : Int)) = x.2.2 / (gcdW sN st.1 : Int) := by rw [tdiv_pos _ (by omega)]; exact wr_id (by omega) (by omega)
      simp only [r_impl_netOf_L4, d3, cond_true, getI_nat, hq, hg, Option.bind_some, dz, cond_false, wx, Int.toNat_natCast, wr_succ hi (by omega)]
      exact hk _ (half_set (f := divW (gcdW sN st.1)) hx)
    · have d3 : decide ((st.1.length : Int) < (st.1.length : Int)) = false := by simp
      have hcan : ((m : Int), ends, scale / (gcdW sN st.1 : Int), st.1.map (divW (gcdW sN st.1))) = canon ((m : Int), ends, scale, st.1) := by simp only [canon, hgN]
      rw [half_all] at hq
      subst hq
      simp only [r_impl_netOf_L4, d3, cond_false, hcan, p_NetOk _ hF.canon_sm, Option.bind_some]
      cases netok (canon ((m : Int), ends, scale, st.1)) <;> rfl

end Go.Sx.R

/- Wires put in order. Conditions: none. -/
namespace Go.Sx.R
open Go Go.Sx

def keyB (A B : Int) (e : W3) : Bool := decide (e.1 = A) && decide (e.2.1 = B)
theorem keyB_iff {A B : Int} {e : W3} : keyB A B e = true ↔ e.1 = A ∧ e.2.1 = B := by simp [keyB]

theorem lex_iff {x y : W3} : lex x y = true ↔ x.1 < y.1 ∨ (x.1 = y.1 ∧ x.2.1 < y.2.1) := by
  simp only [lex, Bool.or_eq_true, Bool.and_eq_true, decide_eq_true_eq]

def ins (x : W3) : List W3 → List W3
  | [] => [x]
  | e :: l => if lex x e = true then x :: e :: l else e :: ins x l

theorem mem_ins (x y : W3) : ∀ l, y ∈ ins x l ↔ y = x ∨ y ∈ l
  | [] => by simp [ins]
  | e :: l => by
    rw [ins]
    split
    · simp
    · simp only [List.mem_cons, mem_ins x y l]
      constructor
      · rintro (h | h | h) <;> simp [h]
      · rintro (h | h | h) <;> simp [h]

theorem srt_ins (x : W3) : ∀ l, Srt l → (∀ e ∈ l, ¬ (e.1 = x.1 ∧ e.2.1 = x.2.1)) → Srt (ins x l)
  | [], _, _ => by simp [ins]
  | e :: l, h, hx => by
    have h1 := List.pairwise_cons.1 h
    rw [ins]
    split
    · rename_i hl
      refine List.pairwise_cons.2 ⟨fun y hy => ?_, h⟩
      rcases List.mem_cons.1 hy with rfl | hy
      · exact hl
      · exact lex_trans hl (h1.1 y hy)
    · rename_i hl
      have hex := hx e (by simp)
      refine List.pairwise_cons.2 ⟨fun y hy => ?_, srt_ins x l h1.2 fun y hy => hx y (by simp [hy])⟩
      rcases (mem_ins x y l).1 hy with rfl | hy
      · rw [lex_iff] at hl ⊢; omega
      · exact h1.1 y hy

/-- The sum of the weights between two nodes. -/
def keyS (A B : Int) (l : List W3) : Int := ((l.filter (keyB A B)).map fun e => e.2.2).sum
def putL (l : List W3) (A B w : Int) : List W3 := ins (A, B, w + keyS A B l) (l.filter fun e => !keyB A B e)

theorem keyS_cons (A B : Int) (x : W3) (l : List W3) : keyS A B (x :: l) = (if keyB A B x = true then x.2.2 else 0) + keyS A B l := by
  simp only [keyS, List.filter_cons]
  split <;> simp

theorem keyS_none {A B : Int} : ∀ {l : List W3}, (∀ e ∈ l, ¬ (e.1 = A ∧ e.2.1 = B)) → keyS A B l = 0
  | [], _ => rfl
  | x :: l, h => by
    have h1 : keyB A B x = false := by
      have := h x (by simp)
      rw [← keyB_iff] at this; simpa using this
    rw [keyS_cons, h1, keyS_none fun e he => h e (by simp [he])]; rfl

theorem keyS_one {A B w : Int} : ∀ {l : List W3}, Srt l → (A, B, w) ∈ l → keyS A B l = w
  | [], _, h => by simp at h
  | x :: l, hs, h => by
    have h1 := List.pairwise_cons.1 hs
    rw [keyS_cons]
    rcases List.mem_cons.1 h with rfl | h
    · have : keyB A B (A, B, w) = true := by simp [keyB]
      rw [this, keyS_none fun e he => ?_]
      · simp
      · have := h1.1 e he
        rw [lex_iff] at this; simp only at this; omega
    · have hl := h1.1 _ h
      have : keyB A B x = false := by
        rw [lex_iff] at hl; simp only at hl
        have : ¬ (x.1 = A ∧ x.2.1 = B) := by omega
        rw [← keyB_iff] at this; simpa using this
      rw [this, keyS_one h1.2 h]; simp

/-- A list of wires in order that holds a function. -/
structure Acc (m : Nat) (F : Nat → Nat → Int) (l : List W3) : Prop where
  srt : Srt l
  val : ∀ x ∈ l, ∃ a b : Nat, a < b ∧ b < m ∧ x = ((a : Int), (b : Int), F a b)
  all : ∀ a b : Nat, a < b → b < m → F a b ≠ 0 → ((a : Int), (b : Int), F a b) ∈ l

theorem Acc.congr {m : Nat} {F G : Nat → Nat → Int} {l : List W3} (h : Acc m F l) (e : ∀ a b, a < b → b < m → F a b = G a b) : Acc m G l :=
  ⟨h.srt, fun x hx => by
    obtain ⟨a, b, h1, h2, h3⟩ := h.val x hx
    exact ⟨a, b, h1, h2, by rw [← e a b h1 h2]; exact h3⟩, fun a b h1 h2 h3 => by rw [← e a b h1 h2] at h3 ⊢; exact h.all a b h1 h2 h3⟩

theorem Acc.nil (m : Nat) : Acc m (fun _ _ => 0) [] := ⟨List.Pairwise.nil, by simp, by simp⟩

theorem Acc.key {m : Nat} {F : Nat → Nat → Int} {l : List W3} (h : Acc m F l) {a b : Nat} (hab : a < b) (hb : b < m) : keyS (a : Int) (b : Int) l = F a b := by
  by_cases hx : ∃ x ∈ l, x.1 = (a : Int) ∧ x.2.1 = (b : Int)
  · obtain ⟨x, hx, e1, e2⟩ := hx
    obtain ⟨a', b', h1, h2, rfl⟩ := h.val x hx
    have ea : a' = a := by simp only at e1; omega
    have eb : b' = b := by simp only at e2; omega
    subst ea; subst eb
    exact keyS_one h.srt hx
  · rw [keyS_none fun e he hk => hx ⟨e, he, hk⟩]
    by_cases hz : F a b = 0
    · exact hz.symm
    · exact absurd ⟨_, h.all a b hab hb hz, rfl, rfl⟩ hx

theorem Acc.put {m : Nat} {F : Nat → Nat → Int} {l : List W3} (h : Acc m F l) {a b : Nat} (hab : a < b) (hb : b < m) (w : Int) : Acc m (fun i j => if i = a ∧ j = b then F i j + w else F i j) (putL l (a : Int) (b : Int) w) := by
  have hk := h.key hab hb
  have hmem : ∀ y, y ∈ putL l (a : Int) (b : Int) w ↔ y = ((a : Int), (b : Int), w + F a b) ∨ (y ∈ l ∧ ¬ (y.1 = (a : Int) ∧ y.2.1 = (b : Int))) := fun y => by
    have : (!keyB (a : Int) (b : Int) y) = true ↔ ¬ (y.1 = (a : Int) ∧ y.2.1 = (b : Int)) := by rw [← keyB_iff]; simp
    rw [putL, mem_ins, hk, List.mem_filter, this]
  refine ⟨?_, fun y hy => ?_, fun a' b' h1 h2 h3 => ?_⟩
  · rw [putL]
    refine srt_ins _ _ (List.Pairwise.filter _ h.srt) fun e he => ?_
    have := (List.mem_filter.1 he).2
    rw [← keyB_iff]; simpa using this
  · rcases (hmem y).1 hy with rfl | ⟨h1, h2⟩
    · exact ⟨a, b, hab, hb, by simp [Int.add_comm]⟩
    · obtain ⟨a', b', q1, q2, rfl⟩ := h.val y h1
      refine ⟨a', b', q1, q2, ?_⟩
      have : ¬ (a' = a ∧ b' = b) := fun ⟨e1, e2⟩ => h2 ⟨by simp [e1], by simp [e2]⟩
      simp only [if_neg this]
  · rw [hmem]
    by_cases e : a' = a ∧ b' = b
    · obtain ⟨rfl, rfl⟩ := e
      left; simp [Int.add_comm]
    · simp only [if_neg e] at h3 ⊢
      exact .inr ⟨h.all a' b' h1 h2 h3, fun ⟨e1, e2⟩ => e ⟨by have q : (a' : Int) = a := e1; omega, by have q : (b' : Int) = b := e2; omega⟩⟩

theorem Acc.wires {m : Nat} {F : Nat → Nat → Int} {l : List W3} (h : Acc m F l) : WiresOf F m (fun _ _ => True) (l.filter fun x => !decide (x.2.2 = 0)) := by
  refine ⟨List.Pairwise.filter _ h.srt, fun x => ?_⟩
  rw [List.mem_filter]
  constructor
  · rintro ⟨h1, h2⟩
    obtain ⟨a, b, q1, q2, rfl⟩ := h.val x h1
    exact ⟨a, b, trivial, q1, q2, by simpa using h2, rfl⟩
  · rintro ⟨a, b, _, q1, q2, q3, rfl⟩
    exact ⟨h.all a b q1 q2 q3, by simpa using q3⟩

theorem WiresOf.uniq {f g : Nat → Nat → Int} {m : Nat} {l k : List W3} (h : WiresOf f m (fun _ _ => True) l) (h' : WiresOf g m (fun _ _ => True) k) (e : ∀ a b, a < b → b < m → f a b = g a b) : l = k := by
  refine srt_ext h.srt h'.srt fun x => ?_
  rw [h.mem, h'.mem]
  constructor
  · rintro ⟨a, b, _, h1, h2, h3, h4⟩; rw [e a b h1 h2] at h3 h4; exact ⟨a, b, trivial, h1, h2, h3, h4⟩
  · rintro ⟨a, b, _, h1, h2, h3, h4⟩; rw [← e a b h1 h2] at h3 h4; exact ⟨a, b, trivial, h1, h2, h3, h4⟩

theorem Acc.len {m : Nat} {F : Nat → Nat → Int} {l : List W3} (h : Acc m F l) : l.length ≤ m * m := by
  have hn : l.Nodup := List.Pairwise.imp (fun {a b} hab e => by subst e; rw [lex_irr] at hab; cases hab) h.srt
  have := nodup_len (m := (List.range m).flatMap fun a => (List.range m).map fun b => (((a : Nat) : Int), ((b : Nat) : Int), F a b)) hn fun x hx => by
    obtain ⟨a, b, ha, hb, rfl⟩ := h.val x hx
    rw [List.mem_flatMap]
    exact ⟨a, List.mem_range.2 (by omega), List.mem_map.2 ⟨b, List.mem_range.2 hb, rfl⟩⟩
  refine Nat.le_trans this ?_
  have : ∀ k : Nat, ((List.range k).flatMap fun a => (List.range m).map fun b => (((a : Nat) : Int), ((b : Nat) : Int), F a b)).length = k * m := by
    intro k
    induction k with
    | zero => simp
    | succ k ih => rw [List.range_succ, List.flatMap_append, List.length_append, ih]; simp [Nat.add_mul]
  rw [this]; exact Nat.le_refl _

end Go.Sx.R

/- Networks and their multiples. Conditions: none. -/
namespace Go.Sx.R
open Go Go.Sx

def mulW (k : Nat) (x : W3) : W3 := (x.1, x.2.1, x.2.2 * (k : Int))
def mulN (k : Nat) (n : TNet) : TNet := (n.1, n.2.1, n.2.2.1 * (k : Int), n.2.2.2.map (mulW k))

theorem gcdW_mul (k : Nat) : ∀ (l : List W3) (g : Nat), gcdW (g * k) (l.map (mulW k)) = gcdW g l * k
  | [], g => rfl
  | x :: l, g => by
    rw [List.map_cons, gcdW_cons, gcdW_cons]
    have : Nat.gcd (g * k) (mulW k x).2.2.natAbs = Nat.gcd g x.2.2.natAbs * k := by
      rw [mulW, Int.natAbs_mul, Int.natAbs_natCast, Nat.gcd_mul_right]
    rw [this, gcdW_mul k l]

theorem gN_mul (k : Nat) (n : TNet) : gN (mulN k n) = gN n * k := by
  simp only [gN, mulN, Int.natAbs_mul, Int.natAbs_natCast, gcdW_mul]

theorem canon_mul {k : Nat} (hk : 0 < k) (n : TNet) : canon (mulN k n) = canon n := by
  have e : ∀ x : Int, x * (k : Int) / ((gN n * k : Nat) : Int) = x / (gN n : Int) := fun x => by
    rw [Int.natCast_mul]; exact Int.mul_ediv_mul_of_pos_left x _ (by omega)
  simp only [canon, gN_mul]
  simp only [mulN, e, List.map_map, Prod.mk.injEq, true_and]
  refine List.map_congr_left fun x _ => ?_
  simp only [Function.comp, divW, mulW, e]

theorem mul_canon {n : TNet} (h : Fine n) : mulN (gN n) (canon n) = n := by
  have hd := gcdW_dvd n.2.2.2 n.2.2.1.natAbs
  have e : ∀ x : Int, gN n ∣ x.natAbs → x / (gN n : Int) * (gN n : Int) = x := fun x hx => Int.ediv_mul_cancel (Int.natAbs_dvd_natAbs.1 (by rw [Int.natAbs_natCast]; exact hx))
  obtain ⟨a, b, s, l⟩ := n
  simp only [mulN, canon, List.map_map, Prod.mk.injEq, true_and]
  refine ⟨e _ hd.1, ?_⟩
  have : l.map ((mulW (gN (a, b, s, l))) ∘ (divW (gN (a, b, s, l)))) = l.map id := List.map_congr_left fun x hx => by
    simp only [Function.comp, mulW, divW, id]
    rw [e _ (hd.2 x hx)]
  rw [this, List.map_id]

theorem canon_canon {n : TNet} (h : Fine n) : canon (canon n) = canon n := by
  have e := canon_mul h.g_pos (canon n)
  rw [mul_canon h] at e
  exact e.symm

theorem wbt_mul (k : Nat) (ws : List W3) (a b : Int) : wbt (ws.map (mulW k)) a b = wbt ws a b * (k : Int) := by
  have hc : isW a b ∘ mulW k = isW a b := by funext x; rfl
  simp only [wbt, List.find?_map, hc]
  split
  · simp
  · cases ws.find? (isW a b) <;> simp [mulW]

theorem wAt_mul (k : Nat) (ws : List W3) (v : Int) : wAt (ws.map (mulW k)) v = wAt ws v * (k : Int) := by
  induction ws with
  | nil => simp [wAt]
  | cons x l ih =>
    simp only [wAt, List.map_cons, List.sum_cons] at ih ⊢
    rw [ih, Int.add_mul]
    congr 1
    show touch v (mulW k x) = touch v x * (k : Int)
    have e : touch v (mulW k x) = if x.1 = v ∨ x.2.1 = v then x.2.2 * (k : Int) else 0 := rfl
    rw [e]
    simp only [touch]
    split <;> simp

theorem WiresOf.mul {f : Nat → Nat → Int} {m : Nat} {l : List W3} (h : WiresOf f m (fun _ _ => True) l) {k : Nat} (hk : 0 < k) : WiresOf (fun a b => f a b * (k : Int)) m (fun _ _ => True) (l.map (mulW k)) := by
  have hk0 : (k : Int) ≠ 0 := by omega
  refine ⟨?_, fun x => ?_⟩
  · show (l.map (mulW k)).Pairwise _
    rw [List.pairwise_map]
    exact List.Pairwise.imp (fun {a b} hab => (show lex (mulW k a) (mulW k b) = true from hab)) h.srt
  · rw [List.mem_map]
    constructor
    · rintro ⟨y, hy, rfl⟩
      obtain ⟨a, b, _, h1, h2, h3, rfl⟩ := (h.mem y).1 hy
      exact ⟨a, b, trivial, h1, h2, Int.mul_ne_zero h3 hk0, rfl⟩
    · rintro ⟨a, b, _, h1, h2, h3, rfl⟩
      have h3' : f a b ≠ 0 := fun e => h3 (by simp [e])
      exact ⟨((a : Int), (b : Int), f a b), (h.mem _).2 ⟨a, b, trivial, h1, h2, h3', rfl⟩, rfl⟩

end Go.Sx.R

/- What the functions on canonical networks compute. Conditions: none. -/
namespace Go.Sx.R
open Go Go.Sx

theorem foldI_gcd : ∀ (l : List W3) (i g : Nat), foldI (fun (g : Nat) _ (x : W3) => Nat.gcd g x.2.2.natAbs) l i g = gcdW g l
  | [], _, _ => rfl
  | x :: l, i, g => by simp only [foldI, foldI_gcd l (i + 1), gcdW_cons]

theorem foldI_push {β γ : Type} (f : β → γ) : ∀ (l : List β) (i : Nat) (q : List γ), foldI (fun q _ x => q ++ [f x]) l i q = q ++ l.map f
  | [], _, q => by simp [foldI]
  | x :: l, i, q => by simp only [foldI, foldI_push f l (i + 1), List.map_cons, List.append_assoc, List.singleton_append]

theorem s_Canon (n : TNet) (h : Fine n) : e_spec_l03Canon (n, ()) = some (canon n) := by
  have s1 := h.s1
  have s2 := h.s2
  have hlen : n.2.2.2.length ≤ 1073741824 := h.sm.2.2.2.1
  obtain ⟨sN, hsN⟩ : ∃ s : Nat, n.2.2.1 = s := ⟨n.2.2.1.toNat, by omega⟩
  have a := iter_fold (R := TNet) (body := r_spec_l03Canon_L0 e_spec_GcdOf N0) n.2.2.2 (fun (st : Nat) i => (n, (0, 0, 0, []), (st : Int), n.2.2.2, (n.2.2.2.length : Int), i, ())) (fun _ st => 0 < st ∧ st ≤ 1000000000000000) (fun st _ x => Nat.gcd st x.2.2.natAbs)
    (fun st i x kc ke ⟨p1, p2⟩ hx hi => by
      have hw := h.w x (List.mem_of_getElem? hx)
      refine ⟨?_, Nat.gcd_pos_of_pos_left _ p1, Nat.le_trans (Nat.gcd_le_left _ p1) p2⟩
      obtain ⟨k, hk⟩ : ∃ k : Nat, x.2.2 = k := ⟨x.2.2.toNat, by omega⟩
      have hg : e_spec_GcdOf ((st : Int), x.2.2, ()) = some ((Nat.gcd st x.2.2.natAbs : Nat) : Int) := by rw [hk, Int.natAbs_natCast]; exact s_Gcd st k (by omega) (by omega)
      simp only [r_spec_l03Canon_L0, lt_len, hi, decide_true, cond_true, getI_nat, hx, Option.bind_some, hg, wr_succ hi (show n.2.2.2.length ≤ 9223372036854775807 by omega)])
    (fun st kc ke _ => by simp only [r_spec_l03Canon_L0, not_lt_self, cond_false]) (N := N0) (by have := N0_big; omega) sN ⟨by omega, by omega⟩
  have hgg : foldI (fun (st : Nat) _ (x : W3) => Nat.gcd st x.2.2.natAbs) n.2.2.2 0 sN = gN n := by rw [foldI_gcd, gN, hsN, Int.natAbs_natCast]
  rw [hgg] at a
  have hgp : 0 < gN n := h.g_pos
  have dz : decide ((gN n : Int) = 0) = false := by rw [decide_eq_false_iff_not]; omega
  have hsd := div_bd (a := n.2.2.1) (g := gN n) (by omega)
  have ws : wr (Int.tdiv n.2.2.1 (gN n : Int)) = n.2.2.1 / (gN n : Int) := by rw [tdiv_pos _ (by omega)]; exact wr_id (by omega) (by omega)
  have b := iter_fold (R := TNet) (body := r_spec_l03Canon_L2 e_spec_GcdOf N0) n.2.2.2 (fun (q : List W3) i => ((0, 0, 0, []), (gN n : Int), (n.1, n.2.1, n.2.2.1 / (gN n : Int), q), n.2.2.2, (n.2.2.2.length : Int), i, ())) (fun i q => q.length = i) (fun q _ x => q ++ [divW (gN n) x])
    (fun q i x kc ke hq hx hi => by
      refine ⟨?_, by simp [hq]⟩
      have hw := h.w x (List.mem_of_getElem? hx)
      have hxd := div_bd (a := x.2.2) (g := gN n) (by omega)
      have wx : wr (Int.tdiv x.2.2 (gN n : Int)) = x.2.2 / (gN n : Int) := by rw [tdiv_pos _ (by omega)]; exact wr_id (by omega) (by omega)
      have bl : ∀ v : W3, Nat.ble (q.length + List.length (v :: ([] : List W3))) 17179869184 = true := fun v => ble_true (by simp; omega)
      simp only [r_spec_l03Canon_L2, lt_len, hi, decide_true, cond_true, getI_nat, hx, Option.bind_some, dz, cond_false, wx, bl, wr_succ hi (show n.2.2.2.length ≤ 9223372036854775807 by omega), divW])
    (fun q kc ke _ => by simp only [r_spec_l03Canon_L2, not_lt_self, cond_false]) (N := N0) (by have := N0_big; omega) [] rfl (fun s2 => some s2.2.2.1)
  have hn0 : (n.2.2.1 : Int) = (sN : Int) := hsN
  simp only [e_spec_l03Canon, r_spec_l03Canon]
  have a1 := (a (fun s1 => cond (decide (s1.2.2.1 = (0 : Int))) none (iterK (r_spec_l03Canon_L2 e_spec_GcdOf N0) N0 (s1.2.1, s1.2.2.1, (s1.1.1, s1.1.2.1, wr (Int.tdiv s1.1.2.2.1 s1.2.2.1), ([] : List W3)), s1.1.2.2.2, (s1.1.2.2.2.length : Int), 0, ()) fun s2 => some s2.2.2.1))).1
  rw [← hn0] at a1
  rw [a1]
  simp only [dz, cond_false, ws]
  rw [b.1]
  simp only [foldI_push (divW (gN n)), List.nil_append, canon]

/-- A network over its greatest common divisor, if it is in order then: the reference. -/
theorem s_Reduced (ends scale : Int) (m : Nat) (hm5 : m ≤ 5) {f : Nat → Nat → Int} {l : List W3} (hl : Acc m f l) (hs : 1 ≤ scale ∧ scale ≤ 1000000000000000) (he : Sm.sm B1 ends) (hf : ∀ i j, i < j → j < m → 0 ≤ f i j ∧ f i j ≤ 1000000000000000) :
    ∃ l', WiresOf f m (fun _ _ => True) l' ∧ Fine ((m : Int), ends, scale, l') ∧ e_spec_l06Reduced (((m : Int), ends, scale, l), ()) = some (cond (netok (canon ((m : Int), ends, scale, l'))) (canon ((m : Int), ends, scale, l'), true) ((0, 0, 0, []), false)) := by
  have hw := hl.wires
  have hF := hw.fine hm5 hs he hf
  have hlen := hl.len
  have hm25 : m * m ≤ 25 := Nat.mul_le_mul hm5 hm5
  have hsm : Sm.sm B1 l := ⟨by simp only [B1]; omega, fun x hx => by
    obtain ⟨a, b, h1, h2, rfl⟩ := hl.val x hx
    have := hf a b h1 h2
    exact ⟨(⟨by omega, by omega⟩ : Sm.sm B1 (a : Int)), (⟨by omega, by omega⟩ : Sm.sm B1 (b : Int)), (⟨by omega, by omega⟩ : Sm.sm B1 (f a b))⟩⟩
  refine ⟨_, hw, hF, ?_⟩
  simp only [e_spec_l06Reduced, r_spec_l06Reduced, s_Drop l hsm, s_Canon _ hF, s_NetOk _ hF.canon_sm, Option.bind_some]
  cases netok (canon ((m : Int), ends, scale, l.filter fun x => !decide (x.2.2 = 0))) <;> rfl

-- wires put in order
def putG (A B : Int) (st : Int × List W3) (_ : Nat) (e : W3) : Int × List W3 := if keyB A B e = true then (st.1 + e.2.2, st.2) else (st.1, st.2 ++ [e])
theorem foldI_put (A B : Int) : ∀ (l : List W3) (i : Nat) (st : Int × List W3), foldI (putG A B) l i st = (st.1 + keyS A B l, st.2 ++ l.filter fun e => !keyB A B e)
  | [], _, st => by simp [foldI, keyS]
  | x :: l, i, st => by
    simp only [foldI, foldI_put A B l (i + 1), putG, keyS_cons, List.filter_cons]
    by_cases h : keyB A B x = true
    · simp [h]; omega
    · simp [h]

def insG (x : W3) (st : List W3 × Bool) (_ : Nat) (e : W3) : List W3 × Bool := if st.2 = false ∧ lex x e = true then (st.1 ++ [x] ++ [e], true) else (st.1 ++ [e], st.2)
theorem foldI_ins1 (x : W3) : ∀ (l : List W3) (i : Nat) (out : List W3), foldI (insG x) l i (out, true) = (out ++ l, true)
  | [], _, out => by simp [foldI]
  | e :: l, i, out => by simp [foldI, insG, foldI_ins1 x l (i + 1)]
theorem foldI_ins0 (x : W3) : ∀ (l : List W3) (i : Nat) (out : List W3), (if (foldI (insG x) l i (out, false)).2 = true then (foldI (insG x) l i (out, false)).1 else (foldI (insG x) l i (out, false)).1 ++ [x]) = out ++ ins x l
  | [], _, out => by simp [foldI, ins]
  | e :: l, i, out => by
    simp only [foldI, insG, ins]
    by_cases h : lex x e = true
    · simp [h, foldI_ins1]
    · simp only [h, Bool.false_eq_true, and_false, if_false]
      have := foldI_ins0 x l (i + 1) (out ++ [e])
      rw [this]; simp

theorem foldI_inslen (x : W3) (l : List W3) : (foldI (insG x) l 0 (([] : List W3), false)).1.length ≤ l.length + 1 := by
  have := foldI_ind (fun i (st : List W3 × Bool) => st.1.length ≤ i + (if st.2 = true then 1 else 0)) (insG x) (fun s i e h => by
    simp only [insG]
    split
    · rename_i hc
      have h2 := hc.1
      rw [h2] at h; simp at h ⊢; omega
    · simp; omega) l 0 ([], false) (by simp)
  simp only [Nat.zero_add] at this
  split at this <;> omega

theorem s_Put (l : List W3) (A B w : Int) (hAB : A < B) (hlen : l.length ≤ 1000) (hl : ∀ e ∈ l, 0 ≤ e.2.2 ∧ e.2.2 ≤ 1000000000000) (hw : 0 ≤ w ∧ w ≤ 1000000000000) : e_spec_l03Put (l, A, B, w, true, ()) = some (putL l A B w) := by
  have e1 : (@ite Int (B < A) (Int.decLt B A) B A) = A := if_neg (by omega)
  have e2 : (@ite Int (B > A) (Int.decLt A B) B A) = B := if_pos hAB
  simp only [e_spec_l03Put, r_spec_l03Put, e1, e2]
  have a := iter_fold (R := List W3) (body := r_spec_l03Put_L0 N0) l (fun (st : Int × List W3) i => (true, st.2, (A, B, st.1), false, l, (l.length : Int), i, ())) (fun i st => 0 ≤ st.1 ∧ st.1 ≤ (i + 1 : Nat) * 1000000000000 ∧ st.2.length ≤ i) (putG A B)
    (fun st i x kc ke ⟨p1, p2, p3⟩ hx hi => by
      have hxw := hl x (List.mem_of_getElem? hx)
      have hb : wr (st.1 + x.2.2) = st.1 + x.2.2 := wr_id (by omega) (by omega)
      have bl : ∀ v : W3, Nat.ble (st.2.length + List.length (v :: ([] : List W3))) 17179869184 = true := fun v => ble_true (by simp; omega)
      refine ⟨?_, ?_⟩
      · simp only [r_spec_l03Put_L0, lt_len, hi, decide_true, cond_true, getI_nat, hx, Option.bind_some, hb, bl, wr_succ hi (show l.length ≤ 9223372036854775807 by omega), putG, keyB]
        by_cases h1 : x.1 = A
        · by_cases h2 : x.2.1 = B
          · simp [h1, h2]
          · simp [h1, h2]
        · simp [h1]
      · simp only [putG]
        split
        · exact ⟨by simp only; omega, by simp only; omega, by simp only; omega⟩
        · exact ⟨p1, by simp only; omega, by simp; omega⟩)
    (fun st kc ke _ => by simp only [r_spec_l03Put_L0, not_lt_self, cond_false]) (N := N0) (by have := N0_big; omega) (w, []) ⟨by omega, by simp; omega, by simp⟩
  rw [(a _).1, foldI_put]
  simp only [List.nil_append]
  have hlf : (l.filter fun e => !keyB A B e).length ≤ 1000 := Nat.le_trans (List.length_filter_le _ _) hlen
  generalize hr : (l.filter fun e => !keyB A B e) = r at hlf
  generalize hX : ((A, B, w + keyS A B l) : W3) = X
  have b := iter_fold (R := List W3) (body := r_spec_l03Put_L2 N0) r (fun (st : List W3 × Bool) i => (st.1, X, st.2, r, (r.length : Int), i, ())) (fun i st => st.1.length ≤ i + 1 ∧ (st.2 = false → st.1.length ≤ i)) (insG X)
    (fun st i x kc ke ⟨p1, p2⟩ hx hi => by
      have bl : ∀ v : W3, Nat.ble (st.1.length + List.length (v :: ([] : List W3))) 17179869184 = true := fun v => ble_true (by simp; omega)
      have bl2 : ∀ u v : W3, Nat.ble ((st.1 ++ [u]).length + List.length (v :: ([] : List W3))) 17179869184 = true := fun u v => ble_true (by simp; omega)
      refine ⟨?_, ?_⟩
      · simp only [r_spec_l03Put_L2, lt_len, hi, decide_true, cond_true, getI_nat, hx, Option.bind_some, bl, bl2, wr_succ hi (show r.length ≤ 9223372036854775807 by omega), insG]
        cases h0 : st.2 with
        | true => simp
        | false =>
          simp only [Bool.not_false, cond_true, true_and]
          by_cases h1 : X.1 < x.1
          · have hx1 : lex X x = true := by rw [lex_iff]; omega
            have d : decide (x.1 > X.1) = true := by rw [decide_eq_true_eq]; omega
            simp only [hx1, d, cond_true, if_true]
          · have d : decide (x.1 > X.1) = false := by rw [decide_eq_false_iff_not]; omega
            simp only [d, cond_false]
            by_cases h2 : x.1 = X.1
            · simp only [h2, decide_true, cond_true]
              by_cases h3 : x.2.1 > X.2.1
              · have hx1 : lex X x = true := by rw [lex_iff]; omega
                simp only [h3, hx1, decide_true, cond_true, if_true]
              · have hx1 : lex X x = false := by
                  have : ¬ lex X x = true := by rw [lex_iff]; omega
                  simpa using this
                simp only [h3, hx1, decide_false, cond_false, Bool.false_eq_true, if_false]
            · have hx1 : lex X x = false := by
                have : ¬ lex X x = true := by rw [lex_iff]; omega
                simpa using this
              simp only [h2, hx1, decide_false, cond_false, Bool.false_eq_true, if_false]
      · simp only [insG]
        split
        · rename_i hc
          have := p2 hc.1
          exact ⟨by simp; omega, by simp⟩
        · exact ⟨by simp; omega, fun hc => by have := p2 hc; simp; omega⟩)
    (fun st kc ke _ => by simp only [r_spec_l03Put_L2, not_lt_self, cond_false]) (N := N0) (by have := N0_big; omega) ([], false) ⟨by simp, fun _ => by simp⟩
  rw [(b _).1]
  have hpl : putL l A B w = ins X r := by rw [putL, hr, hX]
  have key := foldI_ins0 X r 0 []
  have bnd := foldI_inslen X r
  rw [List.nil_append] at key
  rw [hpl, ← key]
  have bl : Nat.ble ((foldI (insG X) r 0 (([] : List W3), false)).1.length + List.length (X :: ([] : List W3))) 17179869184 = true := ble_true (by simp; omega)
  cases h0 : (foldI (insG X) r 0 (([] : List W3), false)).2 with
  | true => simp
  | false => simp only [Bool.not_false, cond_true, bl, Bool.false_eq_true, if_false]

end Go.Sx.R

/- A star replaced by a mesh: both sides compute the same. Conditions: none. -/
namespace Go.Sx.R
open Go Go.Sx

theorem wbt_comm (ws : List W3) (a b : Int) : wbt ws a b = wbt ws b a := by
  by_cases h : a = b
  · rw [h]
  · have e : isW a b = isW b a := by
      funext x
      have e1 : (if b < a then b else a) = (if a < b then a else b) := by split <;> split <;> omega
      have e2 : (if b > a then b else a) = (if a > b then a else b) := by split <;> split <;> omega
      simp only [isW, e1, e2]
    simp only [wbt, e, h, if_false, Ne.symm h]

theorem scale_ok {n : TNet} (ok : netok n = true) : 1 ≤ n.2.2.1 ∧ n.2.2.1 ≤ 1000 := by
  have hh : hdrOk n = true := by revert ok; simp only [netok]; cases hdrOk n <;> simp
  simp only [hdrOk, Bool.and_eq_true, decide_eq_true_eq] at hh
  omega

theorem sum_mem {β : Type} (h : β → Int) : ∀ (l : List β), (∀ x ∈ l, 0 ≤ h x) → ∀ x ∈ l, h x ≤ (l.map h).sum
  | [], _, x, hx => by simp at hx
  | y :: l, h0, x, hx => by
    have ih := sum_mem h l fun z hz => h0 z (by simp [hz])
    have hs : 0 ≤ (l.map h).sum := by
      have : ∀ (l : List β), (∀ x ∈ l, 0 ≤ h x) → 0 ≤ (l.map h).sum := by
        intro l
        induction l with
        | nil => simp
        | cons z l ih2 => intro hz; have := ih2 fun y hy => hz y (by simp [hy]); have := hz z (by simp); simp; omega
      exact this l fun z hz => h0 z (by simp [hz])
    have hy := h0 y (by simp)
    simp only [List.map_cons, List.sum_cons]
    rcases List.mem_cons.1 hx with rfl | hx
    · omega
    · have := ih x hx; omega

theorem netok_rc {n : TNet} (h : netok n = true) {v : Int} (h0 : 0 ≤ v) (h1 : v < n.1) : Rc n.2.2.2 v := by
  revert h
  simp only [netok, Bool.and_eq_true]
  intro h
  have := h.2
  simp only [conn, decide_eq_true_eq] at this
  exact this v h0 h1

theorem wAt_pos {n : TNet} (h : netok n = true) {v : Int} (h0 : 1 ≤ v) (h1 : v < n.1) : 1 ≤ wAt n.2.2.2 v := by
  have hW := wiresW h
  have hc := netok_rc h (by omega) h1
  obtain ⟨e, he, ht⟩ : ∃ e ∈ n.2.2.2, e.1 = v ∨ e.2.1 = v := by
    cases hc with
    | zero => omega
    | ab he _ => exact ⟨_, he, .inr rfl⟩
    | ba he _ => exact ⟨_, he, .inl rfl⟩
  have := sum_mem (touch v) n.2.2.2 (fun x hx => by have := hW x hx; simp only [touch]; split <;> omega) e he
  have ht' : touch v e = e.2.2 := by simp only [touch]; rw [if_pos ht]
  have := hW e he
  simp only [wAt]; omega

-- numbers after a node is left out
def un (v i : Nat) : Nat := if i < v then i else i + 1
def ix (v a : Nat) : Nat := if v < a then a - 1 else a
theorem un_ne (v i : Nat) : un v i ≠ v := by unfold un; split <;> omega
theorem un_lt {v i j : Nat} (h : i < j) : un v i < un v j := by unfold un; split <;> split <;> omega
theorem un_inj {v i j : Nat} (h : un v i = un v j) : i = j := by
  rcases Nat.lt_trichotomy i j with q | q | q
  · have := un_lt (v := v) q; omega
  · exact q
  · have := un_lt (v := v) q; omega
theorem un_bd {v i m : Nat} (hv : v < m) (h : i < m - 1) : un v i < m := by unfold un; split <;> omega
theorem un_ix {v a : Nat} (h : a ≠ v) : un v (ix v a) = a := by unfold un ix; split <;> split <;> omega
theorem ix_lt {v a b : Nat} (ha : a ≠ v) (hb : b ≠ v) (h : a < b) : ix v a < ix v b := by unfold ix; split <;> split <;> omega
theorem ix_bd {v a m : Nat} (ha : a ≠ v) (hv : v < m) (h : a < m) : ix v a < m - 1 := by unfold ix; split <;> omega
theorem un_iff {v a i : Nat} (ha : a ≠ v) : un v i = a ↔ i = ix v a := ⟨fun h => un_inj (v := v) (by rw [un_ix ha]; exact h), fun h => by rw [h, un_ix ha]⟩

/-- The weights of a mesh. -/
def meshF (ws : List W3) (v : Nat) (a b : Nat) : Int := wbt ws (un v a : Int) (un v b : Int) * wAt ws (v : Int) + wbt ws (v : Int) (un v a : Int) * wbt ws (v : Int) (un v b : Int)

def starG (ws : List W3) (v : Nat) (i j : Nat) (a b : Nat) : Int := if (a < i ∨ (a = i ∧ b < j)) ∧ a ≠ v ∧ b ≠ v ∧ a ≠ b then wbt ws (a : Int) (b : Int) * wAt ws (v : Int) + wbt ws (a : Int) (v : Int) * wbt ws (v : Int) (b : Int) else wbt ws (a : Int) (b : Int)

theorem mesh_bd {x y z s : Int} (hx : 0 ≤ x ∧ x ≤ 200) (hs : 0 ≤ s ∧ s ≤ 1000) (hy : 0 ≤ y ∧ y ≤ 200) (hz : 0 ≤ z ∧ z ≤ 200) : (0 ≤ x * s ∧ x * s ≤ 200000) ∧ 0 ≤ y * z ∧ y * z ≤ 40000 := by
  have h1 : 0 ≤ x * s := Int.mul_nonneg hx.1 hs.1
  have h2 : x * s ≤ 200 * 1000 := Int.mul_le_mul hx.2 hs.2 hs.1 (by omega)
  have h3 : 0 ≤ y * z := Int.mul_nonneg hy.1 hz.1
  have h4 : y * z ≤ 200 * 200 := Int.mul_le_mul hy.2 hz.2 hz.1 (by omega)
  omega

theorem meshF_bd {ws : List W3} {m : Nat} (hs : Srt ws) (hin : InW m ws) (hm5 : m ≤ 5) (hW : ∀ e ∈ ws, 1 ≤ e.2.2 ∧ e.2.2 ≤ 200) (v a b : Nat) : 0 ≤ meshF ws v a b ∧ meshF ws v a b ≤ 240000 := by
  have q := wAt_le hs hin hm5 hW (v : Int)
  have := mesh_bd (wbt_bd hW (un v a : Int) (un v b : Int)) q (wbt_bd hW (v : Int) (un v a : Int)) (wbt_bd hW (v : Int) (un v b : Int))
  simp only [meshF]; omega

/-- What both sides compute of a star. -/
def meshN (n : TNet) (m v : Nat) (l : List W3) : TNet := (((m - 1 : Nat) : Int), n.2.1, n.2.2.1 * wAt n.2.2.2 (v : Int), l)

end Go.Sx.R

/- A star replaced by a mesh: the reference. Conditions: none. -/
namespace Go.Sx.R
open Go Go.Sx

theorem foldI_near (ws : List W3) (v : Int) : ∀ (l : List Nat) (i : Nat) (q : List Int), foldI (nearG ws v) l i q = q ++ ((List.range' i l.length).filter fun (u : Nat) => decide (wbt ws v (u : Int) > 0)).map fun (u : Nat) => (u : Int)
  | [], _, q => by simp [foldI]
  | x :: l, i, q => by
    simp only [foldI, foldI_near ws v l (i + 1), nearG, List.length_cons, List.range'_succ, List.filter_cons]
    by_cases h : wbt ws v (i : Int) > 0
    · simp [h]
    · simp [h]

theorem near_nat (ws : List W3) (v : Int) (m : Nat) : ∃ nl : List Nat, near ws v m = nl.map (fun (u : Nat) => (u : Int)) ∧ nl.Pairwise (· < ·) ∧ ∀ u : Nat, u ∈ nl ↔ u < m ∧ 0 < wbt ws v (u : Int) := by
  refine ⟨(List.range' 0 m).filter fun (u : Nat) => decide (wbt ws v (u : Int) > 0), ?_, List.Pairwise.filter _ List.pairwise_lt_range', fun u => ?_⟩
  · simp only [near, foldI_near, List.length_range, List.nil_append]
  · rw [List.mem_filter, List.mem_range'_1]; simp

def F1 (ws : List W3) (v : Nat) (s : Int) (l : List W3) (a b : Nat) : Int := if l.any (keyB (un v a : Int) (un v b : Int)) = true then wbt ws (un v a : Int) (un v b : Int) * s else 0
def F2 (ws : List W3) (v : Nat) (s : Int) (q : List Nat) (a b : Nat) : Int := wbt ws (un v a : Int) (un v b : Int) * s + if un v a ∈ q then wbt ws (v : Int) (un v a : Int) * wbt ws (v : Int) (un v b : Int) else 0
def F3 (ws : List W3) (v : Nat) (s : Int) (q : List Nat) (u : Nat) (r : List Nat) (a b : Nat) : Int := F2 ws v s q a b + if un v a = u ∧ un v b ∈ r then wbt ws (v : Int) (un v a : Int) * wbt ws (v : Int) (un v b : Int) else 0

section
variable {ws : List W3} {m v : Nat} {s : Int}

theorem F1_bd (hW : ∀ e ∈ ws, 1 ≤ e.2.2 ∧ e.2.2 ≤ 200) (hs : 0 ≤ s ∧ s ≤ 1000) (l : List W3) (a b : Nat) : 0 ≤ F1 ws v s l a b ∧ F1 ws v s l a b ≤ 200000 := by
  have := mesh_bd (wbt_bd hW (un v a : Int) (un v b : Int)) hs (wbt_bd hW (v : Int) (un v a : Int)) (wbt_bd hW (v : Int) (un v b : Int))
  simp only [F1]; split <;> omega
theorem F2_bd (hW : ∀ e ∈ ws, 1 ≤ e.2.2 ∧ e.2.2 ≤ 200) (hs : 0 ≤ s ∧ s ≤ 1000) (q : List Nat) (a b : Nat) : 0 ≤ F2 ws v s q a b ∧ F2 ws v s q a b ≤ 240000 := by
  have := mesh_bd (wbt_bd hW (un v a : Int) (un v b : Int)) hs (wbt_bd hW (v : Int) (un v a : Int)) (wbt_bd hW (v : Int) (un v b : Int))
  simp only [F2]; split <;> omega
theorem F3_bd (hW : ∀ e ∈ ws, 1 ≤ e.2.2 ∧ e.2.2 ≤ 200) (hs : 0 ≤ s ∧ s ≤ 1000) (q : List Nat) (u : Nat) (r : List Nat) (a b : Nat) : 0 ≤ F3 ws v s q u r a b ∧ F3 ws v s q u r a b ≤ 280000 := by
  have h1 := mesh_bd (wbt_bd hW (un v a : Int) (un v b : Int)) hs (wbt_bd hW (v : Int) (un v a : Int)) (wbt_bd hW (v : Int) (un v b : Int))
  have h2 := F2_bd (v := v) hW hs q a b
  simp only [F3]; split <;> omega

theorem any_take {p : W3 → Bool} {l : List W3} {i : Nat} {x : W3} (h : l[i]? = some x) : (l.take (i + 1)).any p = ((l.take i).any p || p x) := by
  rw [List.take_add_one, h]; simp

theorem F1_skip {i : Nat} {x : W3} (hx : ws[i]? = some x) (h : x.1 = (v : Int) ∨ x.2.1 = (v : Int)) (a b : Nat) : F1 ws v s (ws.take i) a b = F1 ws v s (ws.take (i + 1)) a b := by
  have hk : keyB (un v a : Int) (un v b : Int) x = false := by
    have : ¬ keyB (un v a : Int) (un v b : Int) x = true := by
      rw [keyB_iff]
      have := un_ne v a; have := un_ne v b
      omega
    simpa using this
  simp only [F1, any_take hx, hk, Bool.or_false]

theorem F1_put {i : Nat} {x : W3} (hS : Srt ws) (hx : ws[i]? = some x) {A B : Nat} (hA : x.1 = (A : Int)) (hB : x.2.1 = (B : Int)) (hAB : A < B) (hAv : A ≠ v) (hBv : B ≠ v) (hw0 : x.2.2 ≠ 0) (a b : Nat) :
    (if a = ix v A ∧ b = ix v B then F1 ws v s (ws.take i) a b + x.2.2 * s else F1 ws v s (ws.take i) a b) = F1 ws v s (ws.take (i + 1)) a b := by
  have hxm := List.mem_of_getElem? hx
  have hi := get_lt hx
  by_cases e : a = ix v A ∧ b = ix v B
  · rw [if_pos e]
    have ua : un v a = A := (un_iff hAv).2 e.1
    have ub : un v b = B := (un_iff hBv).2 e.2
    have hk : keyB (A : Int) (B : Int) x = true := keyB_iff.2 ⟨hA, hB⟩
    have hn : (ws.take i).any (keyB (A : Int) (B : Int)) = false := by
      rw [List.any_eq_false]
      intro y hy hk2
      obtain ⟨j, hj⟩ := List.getElem?_of_mem hy
      rw [List.getElem?_take] at hj
      split at hj
      · rename_i hji
        have hjl := get_lt hj
        have := List.pairwise_iff_getElem.1 hS j i hjl hi hji
        rw [List.getElem?_eq_getElem hjl] at hj
        rw [List.getElem?_eq_getElem hi] at hx
        simp only [Option.some.injEq] at hj hx
        rw [hj, hx, lex_iff] at this
        rw [keyB_iff] at hk2
        omega
      · simp at hj
    have hwb : wbt ws (A : Int) (B : Int) = x.2.2 := (wbt_mem hS (by omega) hw0).2 (by
      have : x = ((A : Int), (B : Int), x.2.2) := by rw [← hA, ← hB]
      rw [← this]; exact hxm)
    simp only [F1, any_take hx, ua, ub, hk, hn, Bool.or_true, if_true, hwb]
    simp
  · rw [if_neg e]
    have hk : keyB (un v a : Int) (un v b : Int) x = false := by
      have : ¬ keyB (un v a : Int) (un v b : Int) x = true := by
        rw [keyB_iff]
        rintro ⟨q1, q2⟩
        exact e ⟨(un_iff hAv).1 (by omega), (un_iff hBv).1 (by omega)⟩
      simpa using this
    simp only [F1, any_take hx, hk, Bool.or_false]

theorem F1_all (hS : Srt ws) {a b : Nat} (hab : a < b) : F1 ws v s ws a b = F2 ws v s [] a b := by
  simp only [F1, F2, List.not_mem_nil, if_false, Int.add_zero]
  split
  · rfl
  · rename_i h
    have hz : wbt ws (un v a : Int) (un v b : Int) = 0 := by
      by_cases hz : wbt ws (un v a : Int) (un v b : Int) = 0
      · exact hz
      · refine absurd ?_ h
        have hm := (wbt_mem hS (a := (un v a : Int)) (b := (un v b : Int)) (by have := un_lt (v := v) hab; omega) hz).1 rfl
        rw [List.any_eq_true]
        exact ⟨_, hm, keyB_iff.2 ⟨rfl, rfl⟩⟩
    rw [hz, Int.zero_mul]

theorem F3_put {q r : List Nat} {u x j : Nat} (hu : u ≠ v) (hxv : x ≠ v) (hr : r.Pairwise (· < ·)) (hx : r[j]? = some x) (a b : Nat) :
    (if a = ix v u ∧ b = ix v x then F3 ws v s q u (r.take j) a b + wbt ws (v : Int) (u : Int) * wbt ws (v : Int) (x : Int) else F3 ws v s q u (r.take j) a b) = F3 ws v s q u (r.take (j + 1)) a b := by
  have ht : r.take (j + 1) = r.take j ++ [x] := by rw [List.take_add_one, hx]; rfl
  have hj := get_lt hx
  have hnx : x ∉ r.take j := fun hm => by
    obtain ⟨k, hk⟩ := List.getElem?_of_mem hm
    rw [List.getElem?_take] at hk
    split at hk
    · rename_i hkj
      have hkl := get_lt hk
      have := List.pairwise_iff_getElem.1 hr k j hkl hj hkj
      rw [List.getElem?_eq_getElem hkl] at hk
      rw [List.getElem?_eq_getElem hj] at hx
      simp only [Option.some.injEq] at hk hx
      omega
    · simp at hk
  by_cases e : a = ix v u ∧ b = ix v x
  · have ua : un v a = u := (un_iff hu).2 e.1
    have ub : un v b = x := (un_iff hxv).2 e.2
    rw [if_pos e]
    simp only [F3, ua, ub, ht, hnx, List.mem_append, List.mem_singleton, or_true, and_false, and_true, if_true, if_false, Int.add_zero]
  · rw [if_neg e]
    have : (un v a = u ∧ un v b ∈ r.take (j + 1)) ↔ (un v a = u ∧ un v b ∈ r.take j) := by
      rw [ht, List.mem_append, List.mem_singleton]
      constructor
      · rintro ⟨h1, h2 | h2⟩
        · exact ⟨h1, h2⟩
        · exact absurd ⟨(un_iff hu).1 h1, (un_iff hxv).1 h2⟩ e
      · rintro ⟨h1, h2⟩; exact ⟨h1, .inl h2⟩
    simp only [F3, this]

theorem F3_end {nl : List Nat} (hp : nl.Pairwise (· < ·)) (hm : ∀ u : Nat, u ∈ nl ↔ u < m ∧ 0 < wbt ws (v : Int) (u : Int)) (hW : ∀ e ∈ ws, 1 ≤ e.2.2 ∧ e.2.2 ≤ 200) {i u : Nat} (hu : nl[i]? = some u) (hv : v < m) {a b : Nat} (hab : a < b) (hb : b < m - 1) :
    F3 ws v s (nl.take i) u (nl.drop (i + 1)) a b = F2 ws v s (nl.take (i + 1)) a b := by
  have ht : nl.take (i + 1) = nl.take i ++ [u] := by rw [List.take_add_one, hu]; rfl
  have hi := get_lt hu
  have hd : nl.drop i = u :: nl.drop (i + 1) := by
    rw [List.drop_eq_getElem_cons hi]
    rw [List.getElem?_eq_getElem hi] at hu
    simp only [Option.some.injEq] at hu
    rw [hu]
  have hnl : nl = nl.take i ++ u :: nl.drop (i + 1) := by rw [← hd, List.take_append_drop]
  have hlt : ∀ y ∈ nl.take i, y < u := fun y hy => by
    rw [hnl] at hp
    exact (List.pairwise_append.1 hp).2.2 y hy u (by simp)
  by_cases e : un v a = u
  · have hn : u ∉ nl.take i := fun h => by have := hlt u h; omega
    have hub := un_lt (v := v) hab
    have hubm := un_bd hv hb
    have key : (if un v b ∈ nl.drop (i + 1) then wbt ws (v : Int) (u : Int) * wbt ws (v : Int) (un v b : Int) else 0) = wbt ws (v : Int) (u : Int) * wbt ws (v : Int) (un v b : Int) := by
      split
      · rfl
      · rename_i hnd
        have hz : ¬ 0 < wbt ws (v : Int) (un v b : Int) := fun h => by
          have hmem := (hm (un v b)).2 ⟨hubm, h⟩
          rw [hnl] at hmem
          rcases List.mem_append.1 hmem with h1 | h1
          · have := hlt _ h1; omega
          · rcases List.mem_cons.1 h1 with h1 | h1
            · omega
            · exact hnd h1
        have := wbt_bd hW (v : Int) (un v b : Int)
        have hz0 : wbt ws (v : Int) (un v b : Int) = 0 := by omega
        rw [hz0, Int.mul_zero]
    simp only [F3, F2, e, hn, ht, List.mem_append, List.mem_singleton, or_true, true_and, if_true, if_false, Int.add_zero, key]
  · simp only [F3, F2, e, ht, List.mem_append, List.mem_singleton, or_false, false_and, if_false, Int.add_zero]

theorem F2_all {nl : List Nat} (hm : ∀ u : Nat, u ∈ nl ↔ u < m ∧ 0 < wbt ws (v : Int) (u : Int)) (hW : ∀ e ∈ ws, 1 ≤ e.2.2 ∧ e.2.2 ≤ 200) (hv : v < m) {a b : Nat} (ha : a < m - 1) : F2 ws v (wAt ws (v : Int)) nl a b = meshF ws v a b := by
  simp only [F2, meshF]
  split
  · rfl
  · rename_i h
    have hub := un_bd hv ha
    have hz : ¬ 0 < wbt ws (v : Int) (un v a : Int) := fun q => h ((hm _).2 ⟨hub, q⟩)
    have := wbt_bd hW (v : Int) (un v a : Int)
    have hz0 : wbt ws (v : Int) (un v a : Int) = 0 := by omega
    rw [hz0, Int.zero_mul]
end

/-- What a mesh comes to. -/
def MeshQ (n : TNet) (m v : Nat) (o : Option (TNet × Bool)) : Prop := ∃ l, WiresOf (meshF n.2.2.2 v) (m - 1) (fun _ _ => True) l ∧ Fine (meshN n m v l) ∧ o = some (cond (netok (canon (meshN n m v l))) (canon (meshN n m v l), true) ((0, 0, 0, []), false))

theorem Acc.small {m : Nat} {F : Nat → Nat → Int} {l : List W3} (h : Acc m F l) (hm5 : m ≤ 5) (hF : ∀ a b, 0 ≤ F a b ∧ F a b ≤ 1000000000000) : l.length ≤ 1000 ∧ ∀ e ∈ l, 0 ≤ e.2.2 ∧ e.2.2 ≤ 1000000000000 := by
  have := h.len
  have h25 : m * m ≤ 25 := Nat.mul_le_mul hm5 hm5
  refine ⟨by omega, fun e he => ?_⟩
  obtain ⟨a, b, _, _, rfl⟩ := h.val e he
  exact hF a b

/-- A star replaced by a mesh: both sides. -/
theorem mesh_same {n : TNet} {m v : Nat} {o o' : Option (TNet × Bool)} (h : MeshQ n m v o) (h' : MeshQ n m v o') : o = o' := by
  obtain ⟨l, l1, _, e⟩ := h
  obtain ⟨l', l1', _, e'⟩ := h'
  have : l = l' := l1.uniq l1' fun _ _ _ _ => rfl
  rw [e, e', this]

end Go.Sx.R

/- Stars, nodes that are dropped, all that can be reduced: the laws. Conditions: none. -/
namespace Go.Sx.R
open Go Go.Sx

theorem zero_sm : Sm.sm B1 ((0, 0, 0, []) : TNet) := ⟨sm_z0, sm_z0, sm_z0, by simp [sm_list]⟩

/-- What a reduced network is. -/
structure Red (n : TNet) (r : TNet × Bool) : Prop where
  sm : Sm.sm B1 r.1
  ok : r.2 = true → netok r.1 = true ∧ r.1.1 = n.1 - 1 ∧ r.1.2.1 = n.2.1

theorem Red.zero (n : TNet) : Red n ((0, 0, 0, []), false) := ⟨zero_sm, by simp⟩

theorem MeshQ.red {n : TNet} {m v : Nat} {o : Option (TNet × Bool)} (hm : n.1 = m) (hm1 : 1 ≤ m) (h : MeshQ n m v o) : ∃ r, o = some r ∧ Red n r := by
  obtain ⟨l, l1, l2, e⟩ := h
  cases hq : netok (canon (meshN n m v l)) with
  | false => rw [hq] at e; exact ⟨_, e, Red.zero n⟩
  | true =>
    rw [hq] at e
    refine ⟨_, e, l2.canon_sm, fun _ => ⟨hq, ?_, rfl⟩⟩
    show ((m - 1 : Nat) : Int) = n.1 - 1
    omega

theorem s_inE (n : TNet) (hok : netok n = true) (v : Int) : e_spec_l01In (v, n.2.1, wr (n.1 - 1), ()) = some (decide (n.2.1 ≤ v) && decide (v < n.1)) := by
  obtain ⟨m, hm, hm1, hm5, hin, he1, he2⟩ := netok_facts hok
  have w : wr (n.1 - 1) = n.1 - 1 := wr_id (by omega) (by omega)
  have e : decide (v ≤ n.1 - 1) = decide (v < n.1) := by rw [decide_eq_decide]; omega
  simp only [w, p_l01In, n_l01In, e]

end Go.Sx.R

/- A triangle replaced by a star: the law. Conditions: none. -/
namespace Go.Sx.R
open Go Go.Sx

theorem mulB {x y A B : Int} (hx : 0 ≤ x ∧ x ≤ A) (hy : 0 ≤ y ∧ y ≤ B) : 0 ≤ x * y ∧ x * y ≤ A * B :=
  ⟨Int.mul_nonneg hx.1 hy.1, Int.mul_le_mul hx.2 hy.2 hy.1 (Int.le_trans hx.1 hx.2)⟩

/-- A triangle and its weights. -/
structure Tri (n : TNet) (m a b c : Nat) (X Y Z : Int) : Prop where
  hn : Sm.sm B1 n
  ok : netok n = true
  hm : n.1 = m
  m4 : m ≤ 4
  ab : a < b
  bc : b < c
  cm : c < m
  eX : wbt n.2.2.2 (a : Int) (b : Int) = X
  eY : wbt n.2.2.2 (b : Int) (c : Int) = Y
  eZ : wbt n.2.2.2 (a : Int) (c : Int) = Z
  hX : 1 ≤ X ∧ X ≤ 200
  hY : 1 ≤ Y ∧ Y ≤ 200
  hZ : 1 ≤ Z ∧ Z ≤ 200

def triB (a b c i j : Nat) : Prop := (i = a ∧ j = b) ∨ (i = b ∧ j = c) ∨ (i = a ∧ j = c)
instance (a b c i j : Nat) : Decidable (triB a b c i j) := by unfold triB; infer_instance

/-- The weights of the network with a star. -/
def triF (ws : List W3) (m a b c : Nat) (X Y Z : Int) (i j : Nat) : Int :=
  if j = m then (if i = a then (X * Y + Y * Z + Z * X) * X * Z else if i = b then (X * Y + Y * Z + Z * X) * X * Y else if i = c then (X * Y + Y * Z + Z * X) * Y * Z else 0)
  else if triB a b c i j then 0 else wbt ws (i : Int) (j : Int) * (X * Y * Z)

def triN (n : TNet) (m : Nat) (X Y Z : Int) (l : List W3) : TNet := (((m + 1 : Nat) : Int), n.2.1, n.2.2.1 * X * Y * Z, l)
def TriQ (n : TNet) (m a b c : Nat) (X Y Z : Int) (o : Option (TNet × Bool)) : Prop := ∃ l, WiresOf (triF n.2.2.2 m a b c X Y Z) (m + 1) (fun _ _ => True) l ∧ Fine (triN n m X Y Z l) ∧ o = some (cond (netok (canon (triN n m X Y Z l))) (canon (triN n m X Y Z l), true) ((0, 0, 0, []), false))

theorem triQ_same {n : TNet} {m a b c : Nat} {X Y Z : Int} {o o' : Option (TNet × Bool)} (h : TriQ n m a b c X Y Z o) (h' : TriQ n m a b c X Y Z o') : o = o' := by
  obtain ⟨l, l1, _, e⟩ := h
  obtain ⟨l', l1', _, e'⟩ := h'
  have : l = l' := l1.uniq l1' fun _ _ _ _ => rfl
  rw [e, e', this]

section
variable {n : TNet} {m a b c : Nat} {X Y Z : Int}

/-- The bounds of the products. -/
structure Bds (n : TNet) (X Y Z : Int) : Prop where
  xy : 0 ≤ X * Y ∧ X * Y ≤ 40000
  yz : 0 ≤ Y * Z ∧ Y * Z ≤ 40000
  zx : 0 ≤ Z * X ∧ Z * X ≤ 40000
  p : 0 ≤ X * Y * Z ∧ X * Y * Z ≤ 8000000
  s1 : 0 ≤ (X * Y + Y * Z + Z * X) * X ∧ (X * Y + Y * Z + Z * X) * X ≤ 24000000
  s2 : 0 ≤ (X * Y + Y * Z + Z * X) * Y ∧ (X * Y + Y * Z + Z * X) * Y ≤ 24000000
  sa : 0 ≤ (X * Y + Y * Z + Z * X) * X * Z ∧ (X * Y + Y * Z + Z * X) * X * Z ≤ 4800000000
  sb : 0 ≤ (X * Y + Y * Z + Z * X) * X * Y ∧ (X * Y + Y * Z + Z * X) * X * Y ≤ 4800000000
  sc : 0 ≤ (X * Y + Y * Z + Z * X) * Y * Z ∧ (X * Y + Y * Z + Z * X) * Y * Z ≤ 4800000000
  k1 : 1 ≤ n.2.2.1 * X ∧ n.2.2.1 * X ≤ 200000
  k2 : 1 ≤ n.2.2.1 * X * Y ∧ n.2.2.1 * X * Y ≤ 40000000
  k3 : 1 ≤ n.2.2.1 * X * Y * Z ∧ n.2.2.1 * X * Y * Z ≤ 8000000000

theorem mulP {x y A B : Int} (hx : 1 ≤ x ∧ x ≤ A) (hy : 1 ≤ y ∧ y ≤ B) : 1 ≤ x * y ∧ x * y ≤ A * B := by
  refine ⟨?_, (mulB (x := x) (y := y) ⟨by omega, hx.2⟩ ⟨by omega, hy.2⟩).2⟩
  have := Int.mul_le_mul hx.1 hy.1 (by omega) (show 0 ≤ x by omega); omega

theorem Tri.bds (h : Tri n m a b c X Y Z) : Bds n X Y Z := by
  have hX := h.hX; have hY := h.hY; have hZ := h.hZ
  have hs := scale_ok h.ok
  have xy := mulB (x := X) (y := Y) (A := 200) (B := 200) (by omega) (by omega)
  have yz := mulB (x := Y) (y := Z) (A := 200) (B := 200) (by omega) (by omega)
  have zx := mulB (x := Z) (y := X) (A := 200) (B := 200) (by omega) (by omega)
  have p := mulB (x := X * Y) (y := Z) (A := 40000) (B := 200) (by omega) (by omega)
  have s1 := mulB (x := X * Y + Y * Z + Z * X) (y := X) (A := 120000) (B := 200) (by omega) (by omega)
  have s2 := mulB (x := X * Y + Y * Z + Z * X) (y := Y) (A := 120000) (B := 200) (by omega) (by omega)
  have sa := mulB (x := (X * Y + Y * Z + Z * X) * X) (y := Z) (A := 24000000) (B := 200) (by omega) (by omega)
  have sb := mulB (x := (X * Y + Y * Z + Z * X) * X) (y := Y) (A := 24000000) (B := 200) (by omega) (by omega)
  have sc := mulB (x := (X * Y + Y * Z + Z * X) * Y) (y := Z) (A := 24000000) (B := 200) (by omega) (by omega)
  have k1 := mulP (x := n.2.2.1) (y := X) hs hX
  have k2 := mulP (x := n.2.2.1 * X) (y := Y) (A := 200000) (by omega) hY
  have k3 := mulP (x := n.2.2.1 * X * Y) (y := Z) (A := 40000000) (by omega) hZ
  exact ⟨by omega, by omega, by omega, by omega, by omega, by omega, by omega, by omega, by omega, by omega, by omega, by omega⟩

theorem Tri.f_bd (h : Tri n m a b c X Y Z) (i j : Nat) : 0 ≤ triF n.2.2.2 m a b c X Y Z i j ∧ triF n.2.2.2 m a b c X Y Z i j ≤ 4800000000 := by
  have B := h.bds
  have hw := wbt_bd (wiresW h.ok) (i : Int) (j : Int)
  have := mulB hw B.p
  have sa := B.sa; have sb := B.sb; have sc := B.sc
  simp only [triF]
  split
  · split
    · exact sa
    · split
      · exact sb
      · split
        · exact sc
        · omega
  · split <;> omega

def H1 (ws : List W3) (a b c : Nat) (P : Int) (l : List W3) (i j : Nat) : Int := if l.any (keyB (i : Int) (j : Int)) = true ∧ ¬ triB a b c i j then wbt ws (i : Int) (j : Int) * P else 0

theorem H1_skip {ws : List W3} {P : Int} {k : Nat} {x : W3} (hx : ws[k]? = some x) {A B : Nat} (hA : x.1 = (A : Int)) (hB : x.2.1 = (B : Int)) (ht : triB a b c A B) (i j : Nat) : H1 ws a b c P (ws.take k) i j = H1 ws a b c P (ws.take (k + 1)) i j := by
  have : ((ws.take (k + 1)).any (keyB (i : Int) (j : Int)) = true ∧ ¬ triB a b c i j) ↔ ((ws.take k).any (keyB (i : Int) (j : Int)) = true ∧ ¬ triB a b c i j) := by
    rw [any_take hx, Bool.or_eq_true, keyB_iff]
    constructor
    · rintro ⟨h1 | h1, h2⟩
      · exact ⟨h1, h2⟩
      · have e1 : i = A := by omega
        have e2 : j = B := by omega
        subst e1; subst e2; exact absurd ht h2
    · rintro ⟨h1, h2⟩; exact ⟨.inl h1, h2⟩
  simp only [H1, this]

theorem H1_put {ws : List W3} {P : Int} {k : Nat} {x : W3} (hS : Srt ws) (hx : ws[k]? = some x) {A B : Nat} (hA : x.1 = (A : Int)) (hB : x.2.1 = (B : Int)) (hAB : A < B) (ht : ¬ triB a b c A B) (hw0 : x.2.2 ≠ 0) (i j : Nat) :
    (if i = A ∧ j = B then H1 ws a b c P (ws.take k) i j + x.2.2 * P else H1 ws a b c P (ws.take k) i j) = H1 ws a b c P (ws.take (k + 1)) i j := by
  have hxm := List.mem_of_getElem? hx
  have hi := get_lt hx
  by_cases e : i = A ∧ j = B
  · rw [if_pos e]
    obtain ⟨rfl, rfl⟩ := e
    have hk : keyB (i : Int) (j : Int) x = true := keyB_iff.2 ⟨hA, hB⟩
    have hn : (ws.take k).any (keyB (i : Int) (j : Int)) = false := by
      rw [List.any_eq_false]
      intro y hy hk2
      obtain ⟨q, hq⟩ := List.getElem?_of_mem hy
      rw [List.getElem?_take] at hq
      split at hq
      · rename_i hji
        have hjl := get_lt hq
        have := List.pairwise_iff_getElem.1 hS q k hjl hi hji
        rw [List.getElem?_eq_getElem hjl] at hq
        rw [List.getElem?_eq_getElem hi] at hx
        simp only [Option.some.injEq] at hq hx
        rw [hq, hx, lex_iff] at this
        rw [keyB_iff] at hk2
        omega
      · simp at hq
    have hwb : wbt ws (i : Int) (j : Int) = x.2.2 := (wbt_mem hS (by omega) hw0).2 (by
      have : x = ((i : Int), (j : Int), x.2.2) := by rw [← hA, ← hB]
      rw [← this]; exact hxm)
    simp only [H1, any_take hx, hk, hn, Bool.or_true, hwb, ht, not_false_eq_true, and_self, if_true, Bool.false_eq_true, false_and, if_false, Int.zero_add]
  · rw [if_neg e]
    have hk : keyB (i : Int) (j : Int) x = false := by
      have : ¬ keyB (i : Int) (j : Int) x = true := by
        rw [keyB_iff]
        rintro ⟨q1, q2⟩
        exact e ⟨by omega, by omega⟩
      simpa using this
    simp only [H1, any_take hx, hk, Bool.or_false]

theorem s_Tri (h : Tri n m a b c X Y Z) : TriQ n m a b c X Y Z (e_spec_TriangleStar (n, (a : Int), (b : Int), (c : Int), ())) := by
  have B := h.bds
  have hn := h.hn
  have hok := h.ok
  have hlen : n.2.2.2.length ≤ 1073741824 := hn.2.2.2.1
  obtain ⟨m', hm', hm1, hm5, hin, he1, he2⟩ := netok_facts hok
  have hm := h.hm
  have hmm : m' = m := by omega
  subst hmm
  have hW := wiresW hok
  have hS := netok_srt hok
  have m4 := h.m4; have ab := h.ab; have bc := h.bc; have cm := h.cm
  have hX := h.hX; have hY := h.hY; have hZ := h.hZ
  have xy := B.xy; have yz := B.yz; have zx := B.zx; have p := B.p; have s1 := B.s1; have s2 := B.s2; have sa := B.sa; have sb := B.sb; have sc := B.sc; have k1 := B.k1; have k2 := B.k2; have k3 := B.k3
  have w0 : wr (n.1 - 1) = n.1 - 1 := wr_id (by omega) (by omega)
  have wa : wr ((a : Int) + 1) = (a : Int) + 1 := wr_id (by omega) (by omega)
  have wb : wr ((b : Int) + 1) = (b : Int) + 1 := wr_id (by omega) (by omega)
  have wn : wr (n.1 + 1) = ((m' + 1 : Nat) : Int) := by rw [wr_id (by omega) (by omega)]; omega
  have d5 : decide (n.1 = 5) = false := by rw [decide_eq_false_iff_not]; omega
  have g1 : (decide ((0 : Int) ≤ (a : Int)) && decide ((a : Int) ≤ n.1 - 1)) = true := by simp only [Bool.and_eq_true, decide_eq_true_eq]; omega
  have g2 : (decide ((a : Int) + 1 ≤ (b : Int)) && decide ((b : Int) ≤ n.1 - 1)) = true := by simp only [Bool.and_eq_true, decide_eq_true_eq]; omega
  have g3 : (decide ((b : Int) + 1 ≤ (c : Int)) && decide ((c : Int) ≤ n.1 - 1)) = true := by simp only [Bool.and_eq_true, decide_eq_true_eq]; omega
  have dX : decide (X = 0) = false := by rw [decide_eq_false_iff_not]; omega
  have dY : decide (Y = 0) = false := by rw [decide_eq_false_iff_not]; omega
  have dZ : decide (Z = 0) = false := by rw [decide_eq_false_iff_not]; omega
  have wxy : wr (X * Y) = X * Y := wr_id (by omega) (by omega)
  have wyz : wr (Y * Z) = Y * Z := wr_id (by omega) (by omega)
  have wzx : wr (Z * X) = Z * X := wr_id (by omega) (by omega)
  have wxyz : wr (X * Y + Y * Z) = X * Y + Y * Z := wr_id (by omega) (by omega)
  have wS : wr (X * Y + Y * Z + Z * X) = X * Y + Y * Z + Z * X := wr_id (by omega) (by omega)
  have wk1 : wr (n.2.2.1 * X) = n.2.2.1 * X := wr_id (by omega) (by omega)
  have wk2 : wr (n.2.2.1 * X * Y) = n.2.2.1 * X * Y := wr_id (by omega) (by omega)
  have wk3 : wr (n.2.2.1 * X * Y * Z) = n.2.2.1 * X * Y * Z := wr_id (by omega) (by omega)
  have ws1 : wr ((X * Y + Y * Z + Z * X) * X) = (X * Y + Y * Z + Z * X) * X := wr_id (by omega) (by omega)
  have ws2 : wr ((X * Y + Y * Z + Z * X) * Y) = (X * Y + Y * Z + Z * X) * Y := wr_id (by omega) (by omega)
  have wsa : wr ((X * Y + Y * Z + Z * X) * X * Z) = (X * Y + Y * Z + Z * X) * X * Z := wr_id (by omega) (by omega)
  have wsb : wr ((X * Y + Y * Z + Z * X) * X * Y) = (X * Y + Y * Z + Z * X) * X * Y := wr_id (by omega) (by omega)
  have wsc : wr ((X * Y + Y * Z + Z * X) * Y * Z) = (X * Y + Y * Z + Z * X) * Y * Z := wr_id (by omega) (by omega)
  simp only [e_spec_TriangleStar, r_spec_TriangleStar, s_NetOk n hn, hok, Option.bind_some, Bool.not_true, cond_false, d5, p_l01In, n_l01In, w0, wa, wb, g1, g2, g3, s_WB n hn, h.eX, h.eY, h.eZ, dX, dY, dZ, wxy, wyz, wzx, wxyz, wS, wk1, wk2, wk3, wn]
  refine iter_rule (R := TNet × Bool) (TriQ n m' a b c X Y Z) n.2.2.2 (fun (q : List W3) i => ((a : Int), (b : Int), (c : Int), n, (0, 0, 0, []), X, Y, Z, X * Y + Y * Z + Z * X, (((m' + 1 : Nat) : Int), n.2.1, n.2.2.1 * X * Y * Z, q), n.2.2.2, (n.2.2.2.length : Int), i, ()))
    (fun i q => Acc (m' + 1) (H1 n.2.2.2 a b c (X * Y * Z) (n.2.2.2.take i)) q) (fun q i x kc hq hx hi hk => ?_) (fun q kc hq => ?_) (N := N0) (by have := N0_big; omega) [] ((Acc.nil _).congr fun i j _ _ => by simp [H1])
  · have hxm := List.mem_of_getElem? hx
    have hx3 := hin x hxm
    have hxw := hW x hxm
    obtain ⟨A, hA⟩ : ∃ A : Nat, x.1 = A := ⟨x.1.toNat, by omega⟩
    obtain ⟨B', hB⟩ : ∃ B : Nat, x.2.1 = B := ⟨x.2.1.toNat, by omega⟩
    have b1 := mulB (x := x.2.2) (y := X) (A := 200) (B := 200) (by omega) (by omega)
    have b2 := mulB (x := x.2.2 * X) (y := Y) (A := 40000) (B := 200) (by omega) (by omega)
    have b3 := mulB (x := x.2.2 * X * Y) (y := Z) (A := 8000000) (B := 200) (by omega) (by omega)
    have ww1 : wr (x.2.2 * X) = x.2.2 * X := wr_id (by omega) (by omega)
    have ww2 : wr (x.2.2 * X * Y) = x.2.2 * X * Y := wr_id (by omega) (by omega)
    have ww3 : wr (x.2.2 * X * Y * Z) = x.2.2 * X * Y * Z := wr_id (by omega) (by omega)
    have hP : x.2.2 * X * Y * Z = x.2.2 * (X * Y * Z) := by rw [Int.mul_assoc, Int.mul_assoc, ← Int.mul_assoc X Y Z]
    have hsmall := hq.small (by omega) (fun i j => by
      have := mulB (wbt_bd hW (i : Int) (j : Int)) p
      simp only [H1]; split <;> omega)
    have hp := s_Put q (A : Int) (B' : Int) (x.2.2 * X * Y * Z) (by omega) hsmall.1 hsmall.2 (by omega)
    have put := fun ht : ¬ triB a b c A B' => hk _ ((hq.put (a := A) (b := B') (by omega) (by omega) (x.2.2 * (X * Y * Z))).congr fun i j _ _ => H1_put hS hx hA hB (by omega) ht (by omega) i j)
    have skip := fun ht : triB a b c A B' => hk q (hq.congr fun i j _ _ => H1_skip hx hA hB ht i j)
    simp only [r_spec_TriangleStar_L0, lt_len, hi, decide_true, cond_true, getI_nat, hx, Option.bind_some, wr_succ hi (show n.2.2.2.length ≤ 9223372036854775807 by omega), hA, hB, ww1, ww2, ww3, hp]
    rw [hP]
    by_cases c1 : A = a
    · have e1 : decide ((A : Int) = (a : Int)) = true := by rw [decide_eq_true_eq]; omega
      simp only [e1, Bool.not_true, cond_false]
      by_cases c3 : B' = b
      · have e3 : decide ((B' : Int) = (b : Int)) = true := by rw [decide_eq_true_eq]; omega
        simp only [e3, Bool.not_true, cond_false]
        exact skip (.inl ⟨c1, c3⟩)
      · have e3 : decide ((B' : Int) = (b : Int)) = false := by rw [decide_eq_false_iff_not]; omega
        simp only [e3, Bool.not_false, cond_true]
        by_cases c4 : B' = c
        · have e4 : decide ((B' : Int) = (c : Int)) = true := by rw [decide_eq_true_eq]; omega
          simp only [e4, Bool.not_true, cond_false]
          exact skip (.inr (.inr ⟨c1, c4⟩))
        · have e4 : decide ((B' : Int) = (c : Int)) = false := by rw [decide_eq_false_iff_not]; omega
          simp only [e4, Bool.not_false, cond_true]
          exact put (by unfold triB; omega)
    · have e1 : decide ((A : Int) = (a : Int)) = false := by rw [decide_eq_false_iff_not]; omega
      simp only [e1, Bool.not_false, cond_true]
      by_cases c2 : A = b
      · have e2 : decide ((A : Int) = (b : Int)) = true := by rw [decide_eq_true_eq]; omega
        simp only [e2, Bool.not_true, cond_false]
        by_cases c3 : B' = b
        · omega
        · have e3 : decide ((B' : Int) = (b : Int)) = false := by rw [decide_eq_false_iff_not]; omega
          simp only [e3, Bool.not_false, cond_true]
          by_cases c4 : B' = c
          · have e4 : decide ((B' : Int) = (c : Int)) = true := by rw [decide_eq_true_eq]; omega
            simp only [e4, Bool.not_true, cond_false]
            exact skip (.inr (.inl ⟨c2, c4⟩))
          · have e4 : decide ((B' : Int) = (c : Int)) = false := by rw [decide_eq_false_iff_not]; omega
            simp only [e4, Bool.not_false, cond_true]
            exact put (by unfold triB; omega)
      · have e2 : decide ((A : Int) = (b : Int)) = false := by rw [decide_eq_false_iff_not]; omega
        simp only [e2, Bool.not_false, cond_true]
        exact put (by unfold triB; omega)
  · rw [List.take_length] at hq
    simp only [r_spec_TriangleStar_L0, not_lt_self, cond_false]
    have hH : ∀ i j, 0 ≤ H1 n.2.2.2 a b c (X * Y * Z) n.2.2.2 i j ∧ H1 n.2.2.2 a b c (X * Y * Z) n.2.2.2 i j ≤ 1600000000 := fun i j => by
      have := mulB (wbt_bd hW (i : Int) (j : Int)) p
      simp only [H1]; split <;> omega
    have hq1 := hq.put (a := a) (b := m') (by omega) (by omega) ((X * Y + Y * Z + Z * X) * X * Z)
    have hq2 := hq1.put (a := b) (b := m') (by omega) (by omega) ((X * Y + Y * Z + Z * X) * X * Y)
    have hq3 := hq2.put (a := c) (b := m') (by omega) (by omega) ((X * Y + Y * Z + Z * X) * Y * Z)
    have m0 := hq.small (by omega) (fun i j => by have := hH i j; omega)
    have m1 := hq1.small (by omega) (fun i j => by have := hH i j; split <;> omega)
    have m2 := hq2.small (by omega) (fun i j => by have := hH i j; split <;> split <;> omega)
    have hp1 := s_Put q (a : Int) (m' : Int) ((X * Y + Y * Z + Z * X) * X * Z) (by omega) m0.1 m0.2 (by omega)
    have hp2 := s_Put _ (b : Int) (m' : Int) ((X * Y + Y * Z + Z * X) * X * Y) (by omega) m1.1 m1.2 (by omega)
    have hp3 := s_Put _ (c : Int) (m' : Int) ((X * Y + Y * Z + Z * X) * Y * Z) (by omega) m2.1 m2.2 (by omega)
    have hz : ∀ i j : Nat, m' ≤ j → H1 n.2.2.2 a b c (X * Y * Z) n.2.2.2 i j = 0 := fun i j hj => by
      simp only [H1]
      rw [if_neg]
      rintro ⟨h1, _⟩
      rw [List.any_eq_true] at h1
      obtain ⟨y, hy, hk⟩ := h1
      rw [keyB_iff] at hk
      have := hin y hy
      omega
    have hfin := hq3.congr (G := triF n.2.2.2 m' a b c X Y Z) fun i j hij hj => by
      simp only [triF]
      by_cases hjm : j = m'
      · subst hjm
        rw [hz i j (Nat.le_refl _), if_pos rfl]
        by_cases i1 : i = a
        · subst i1
          rw [if_neg (by omega), if_neg (by omega), if_pos ⟨rfl, rfl⟩, if_pos rfl]; omega
        · by_cases i2 : i = b
          · subst i2
            rw [if_neg (by omega), if_pos ⟨rfl, rfl⟩, if_neg (by omega), if_neg (by omega), if_pos rfl]; omega
          · by_cases i3 : i = c
            · subst i3
              rw [if_pos ⟨rfl, rfl⟩, if_neg (by omega), if_neg (by omega), if_neg (by omega), if_neg (by omega), if_pos rfl]; omega
            · rw [if_neg (by omega), if_neg (by omega), if_neg (by omega), if_neg (by omega), if_neg (by omega), if_neg (by omega)]
      · rw [if_neg (by omega), if_neg (by omega), if_neg (by omega), if_neg hjm]
        by_cases ht : triB a b c i j
        · rw [if_pos ht]; simp only [H1, ht, not_true_eq_false, and_false, if_false]
        · rw [if_neg ht]
          simp only [H1, ht, not_false_eq_true, and_true]
          split
          · rfl
          · rename_i hna
            have hz0 : wbt n.2.2.2 (i : Int) (j : Int) = 0 := by
              by_cases hz0 : wbt n.2.2.2 (i : Int) (j : Int) = 0
              · exact hz0
              · refine absurd ?_ hna
                have hmem := (wbt_mem hS (a := (i : Int)) (b := (j : Int)) (by omega) hz0).1 rfl
                rw [List.any_eq_true]
                exact ⟨_, hmem, keyB_iff.2 ⟨rfl, rfl⟩⟩
            rw [hz0, Int.zero_mul]
    obtain ⟨l, l1, l2, l3⟩ := s_Reduced n.2.1 (n.2.2.1 * X * Y * Z) (m' + 1) (by omega) hfin ⟨k3.1, by omega⟩ hn.2.1 (fun i j _ _ => by have := h.f_bd i j; omega)
    refine ⟨l, l1, l2, ?_⟩
    simp only [hm, ws1, ws2, wsa, wsb, wsc, hp1, hp2, hp3, Option.bind_some, l3, triN]
end

end Go.Sx.R

/- A triangle replaced by a star: the program, the law. Conditions: none. -/
namespace Go.Sx.R
open Go Go.Sx

theorem same_idx' (a : Nat) : samePath (([] : List PS) ++ (PS.idx a :: ([] : List PS))) (([] : List PS) ++ (PS.idx a :: ([] : List PS))) = true := by
  simp [samePath]

/-- A table of which some rows are done. -/
def Half2 (ws : List W3) (m : Nat) (P : Int) (i j : Nat) (T : List (List Int)) : Prop :=
  T.length = m ∧ ∀ k, k < m → ∃ row : List Int, T[k]? = some row ∧ row.length = (if k < i then m + 1 else m) ∧ (∀ l, l < m → row[l]? = some (if k < i ∨ (k = i ∧ l < j) then wbt ws (k : Int) (l : Int) * P else wbt ws (k : Int) (l : Int))) ∧ (k < i → row[m]? = some 0)

theorem Half2.step {ws : List W3} {m : Nat} {P : Int} {i j : Nat} {T : List (List Int)} (h : Half2 ws m P i j T) (hi : i < m) (hj : j < m) {row : List Int} (hr : T[i]? = some row) : Half2 ws m P i (j + 1) (T.set i (row.set j (wbt ws (i : Int) (j : Int) * P))) := by
  obtain ⟨h1, h2⟩ := h
  refine ⟨by simpa using h1, fun k hk => ?_⟩
  rw [List.getElem?_set]
  by_cases e : i = k
  · subst e
    obtain ⟨row', r1, r2, r3, r4⟩ := h2 i hk
    rw [hr] at r1; simp only [Option.some.injEq] at r1; subst r1
    rw [if_pos rfl, if_pos (by omega)]
    have hrl : row.length = m := by rw [r2, if_neg (by omega)]
    refine ⟨_, rfl, by simpa using r2, fun l hl => ?_, fun h => absurd h (Nat.lt_irrefl _)⟩
    rw [List.getElem?_set]
    by_cases e2 : j = l
    · subst e2; rw [if_pos rfl, if_pos (by omega), if_pos (.inr ⟨rfl, by omega⟩)]
    · rw [if_neg e2, r3 l hl]
      by_cases hlj : l < j
      · rw [if_pos (.inr ⟨rfl, hlj⟩), if_pos (.inr ⟨rfl, by omega⟩)]
      · rw [if_neg (by omega), if_neg (by omega)]
  · rw [if_neg e]
    obtain ⟨row', r1, r2, r3, r4⟩ := h2 k hk
    refine ⟨row', r1, r2, fun l hl => ?_, r4⟩
    rw [r3 l hl]
    by_cases c : k < i
    · rw [if_pos (.inl c), if_pos (.inl c)]
    · rw [if_neg (by omega), if_neg (by omega)]

theorem Half2.row {ws : List W3} {m : Nat} {P : Int} {i : Nat} {T : List (List Int)} (h : Half2 ws m P i m T) (hi : i < m) {row : List Int} (hr : T[i]? = some row) : Half2 ws m P (i + 1) 0 (T.set i (row ++ [0])) := by
  obtain ⟨h1, h2⟩ := h
  refine ⟨by simpa using h1, fun k hk => ?_⟩
  rw [List.getElem?_set]
  by_cases e : i = k
  · subst e
    obtain ⟨row', r1, r2, r3, r4⟩ := h2 i hk
    rw [hr] at r1; simp only [Option.some.injEq] at r1; subst r1
    have hrl : row.length = m := by rw [r2, if_neg (by omega)]
    rw [if_pos rfl, if_pos (by omega)]
    refine ⟨_, rfl, by rw [List.length_append, hrl, if_pos (by omega)]; rfl, fun l hl => ?_, fun _ => ?_⟩
    · rw [List.getElem?_append_left (by omega), r3 l hl, if_pos (.inr ⟨rfl, hl⟩), if_pos (.inl (by omega))]
    · rw [List.getElem?_append_right (by omega), hrl, Nat.sub_self]; rfl
  · rw [if_neg e]
    obtain ⟨row', r1, r2, r3, r4⟩ := h2 k hk
    refine ⟨row', r1, ?_, fun l hl => ?_, fun hki => r4 (by omega)⟩
    · rw [r2]
      by_cases c : k < i
      · rw [if_pos c, if_pos (by omega)]
      · rw [if_neg c, if_neg (by omega)]
    · rw [r3 l hl]
      by_cases c : k < i
      · rw [if_pos (.inl c), if_pos (.inl (by omega))]
      · rw [if_neg (by omega), if_neg (by omega)]

theorem Half2.done {ws : List W3} {m : Nat} {P : Int} {T : List (List Int)} (h : Half2 ws m P m 0 T) : IsTab (T ++ [List.replicate (m + 1) (0 : Int)]) (m + 1) (fun k l => if k = m ∨ l = m then 0 else wbt ws (k : Int) (l : Int) * P) := by
  obtain ⟨h1, h2⟩ := h
  refine ⟨by simp [h1], fun k hk => ?_⟩
  by_cases c : k < m
  · rw [List.getElem?_append_left (by omega)]
    obtain ⟨row, r1, r2, r3, r4⟩ := h2 k c
    refine ⟨row, r1, by rw [r2, if_pos c], fun l hl => ?_⟩
    show row[l]? = some (if k = m ∨ l = m then 0 else wbt ws (k : Int) (l : Int) * P)
    by_cases c2 : l < m
    · rw [r3 l c2, if_pos (.inl c), if_neg (by omega)]
    · have : l = m := by omega
      rw [this, r4 c, if_pos (.inr rfl)]
  · have : k = m := by omega
    rw [List.getElem?_append_right (by omega), h1, this, Nat.sub_self]
    refine ⟨_, rfl, by simp, fun l hl => ?_⟩
    show (List.replicate (m + 1) (0 : Int))[l]? = some (if m = m ∨ l = m then 0 else wbt ws (m : Int) (l : Int) * P)
    rw [if_pos (Or.inl rfl), List.getElem?_replicate, if_pos (by omega)]

section
variable {n : TNet} {m a b c : Nat} {X Y Z : Int}

theorem p_Tri (h : Tri n m a b c X Y Z) : TriQ n m a b c X Y Z (e_impl_TriangleStar (n, (a : Int), (b : Int), (c : Int), ())) := by
  have B := h.bds
  have hn := h.hn
  have hok := h.ok
  obtain ⟨m', hm', hm1, hm5, hin, he1, he2⟩ := netok_facts hok
  have hm := h.hm
  have hmm : m' = m := by omega
  subst hmm
  have hW := wiresW hok
  have hS := netok_srt hok
  have m4 := h.m4; have ab := h.ab; have bc := h.bc; have cm := h.cm
  have hX := h.hX; have hY := h.hY; have hZ := h.hZ
  have xy := B.xy; have yz := B.yz; have zx := B.zx; have p := B.p; have s1 := B.s1; have s2 := B.s2; have sa := B.sa; have sb := B.sb; have sc := B.sc; have k1 := B.k1; have k2 := B.k2; have k3 := B.k3
  have wn : wr (n.1 + 1) = ((m' + 1 : Nat) : Int) := by rw [wr_id (by omega) (by omega)]; omega
  have d5 : decide (n.1 = 5) = false := by rw [decide_eq_false_iff_not]; omega
  have g1 : decide ((a : Int) < 0) = false := by rw [decide_eq_false_iff_not]; omega
  have g2 : decide ((a : Int) ≥ (b : Int)) = false := by rw [decide_eq_false_iff_not]; omega
  have g3 : decide ((b : Int) ≥ (c : Int)) = false := by rw [decide_eq_false_iff_not]; omega
  have g4 : decide ((c : Int) ≥ n.1) = false := by rw [decide_eq_false_iff_not]; omega
  have dX : decide (X = 0) = false := by rw [decide_eq_false_iff_not]; omega
  have dY : decide (Y = 0) = false := by rw [decide_eq_false_iff_not]; omega
  have dZ : decide (Z = 0) = false := by rw [decide_eq_false_iff_not]; omega
  have wxy : wr (X * Y) = X * Y := wr_id (by omega) (by omega)
  have wyz : wr (Y * Z) = Y * Z := wr_id (by omega) (by omega)
  have wzx : wr (Z * X) = Z * X := wr_id (by omega) (by omega)
  have wp : wr (X * Y * Z) = X * Y * Z := wr_id (by omega) (by omega)
  have wxyz : wr (X * Y + Y * Z) = X * Y + Y * Z := wr_id (by omega) (by omega)
  have wS : wr (X * Y + Y * Z + Z * X) = X * Y + Y * Z + Z * X := wr_id (by omega) (by omega)
  have wk1 : wr (n.2.2.1 * X) = n.2.2.1 * X := wr_id (by omega) (by omega)
  have wk2 : wr (n.2.2.1 * X * Y) = n.2.2.1 * X * Y := wr_id (by omega) (by omega)
  have wk3 : wr (n.2.2.1 * X * Y * Z) = n.2.2.1 * X * Y * Z := wr_id (by omega) (by omega)
  have ws1 : wr ((X * Y + Y * Z + Z * X) * X) = (X * Y + Y * Z + Z * X) * X := wr_id (by omega) (by omega)
  have ws2 : wr ((X * Y + Y * Z + Z * X) * Y) = (X * Y + Y * Z + Z * X) * Y := wr_id (by omega) (by omega)
  have wsa : wr ((X * Y + Y * Z + Z * X) * X * Z) = (X * Y + Y * Z + Z * X) * X * Z := wr_id (by omega) (by omega)
  have wsb : wr ((X * Y + Y * Z + Z * X) * X * Y) = (X * Y + Y * Z + Z * X) * X * Y := wr_id (by omega) (by omega)
  have wsc : wr ((X * Y + Y * Z + Z * X) * Y * Z) = (X * Y + Y * Z + Z * X) * Y * Z := wr_id (by omega) (by omega)
  obtain ⟨T, hT, hTab⟩ := p_table n m' hn hm hm5 hin
  have hTl := hTab.1
  have hd : (List.range m').length = m' := by simp
  have hmB : m' ≤ 9223372036854775807 := by omega
  simp only [e_impl_TriangleStar, r_impl_TriangleStar, p_NetOk n hn, hok, Option.bind_some, Bool.not_true, cond_false, d5, g1, g2, g3, g4, p_WB n m' hn hin, h.eX, h.eY, h.eZ, dX, dY, dZ, hT, hTl]
  refine iter_rule (R := TNet × Bool) (TriQ n m' a b c X Y Z) (List.range m') (fun (T : List (List Int)) i => ((a : Int), (b : Int), (c : Int), n, (0, 0, 0, []), X, Y, Z, T, (m' : Int), i, ()))
    (fun i T => Half2 n.2.2.2 m' (X * Y * Z) i 0 T) (fun T i x kc hp hx hi hk => ?_) (fun T kc hp => ?_) (N := N0) (by have := N0_big; omega) T ⟨hTl, fun k hk => ?_⟩
  · have him : i < m' := by rw [hd] at hi; exact hi
    have d3 : decide ((i : Int) < (m' : Int)) = true := by rw [decide_eq_true_eq]; omega
    have hTl := hp.1
    simp only [r_impl_TriangleStar_L0, d3, cond_true, hTl]
    refine iter_rule (R := TNet × Bool) (TriQ n m' a b c X Y Z) (List.range m') (fun (T : List (List Int)) j => ((a : Int), (b : Int), (c : Int), n, (0, 0, 0, []), X, Y, Z, T, (i : Int), (m' : Int), (i : Int), (m' : Int), j, ()))
      (fun j T => Half2 n.2.2.2 m' (X * Y * Z) i j T) (fun T j y kc2 hq hy hj hk2 => ?_) (fun T kc2 hq => ?_) (N := N0) (by have := N0_big; omega) T hp
    · have hjm : j < m' := by rw [hd] at hj; exact hj
      have d4 : decide ((j : Int) < (m' : Int)) = true := by rw [decide_eq_true_eq]; omega
      obtain ⟨row, r1, r2, r3, r4⟩ := hq.2 i him
      have gj : row[j]? = some (wbt n.2.2.2 (i : Int) (j : Int)) := by rw [r3 j hjm, if_neg (by omega)]
      have bw := mulB (wbt_bd hW (i : Int) (j : Int)) p
      have ww : wr (wbt n.2.2.2 (i : Int) (j : Int) * (X * Y * Z)) = wbt n.2.2.2 (i : Int) (j : Int) * (X * Y * Z) := wr_id (by omega) (by omega)
      simp only [r_impl_TriangleStar_L2, d4, cond_true, getI_nat, r1, gj, Option.bind_some, wxy, wp, ww, Int.toNat_natCast, wr_succ hjm hmB]
      exact hk2 _ (hq.step him hjm r1)
    · have d4 : decide ((((List.range m').length : Nat) : Int) < (m' : Int)) = false := by rw [decide_eq_false_iff_not, hd]; omega
      rw [hd] at hq
      obtain ⟨row, r1, r2, r3, r4⟩ := hq.2 i him
      have hrl : row.length = m' := by rw [r2, if_neg (by omega)]
      have bl : Nat.ble (row.length + List.length ((0 : Int) :: ([] : List Int))) 17179869184 = true := ble_true (by simp; omega)
      simp only [r_impl_TriangleStar_L2, d4, cond_false, getI_nat, r1, Option.bind_some, bl, cond_true, Int.toNat_natCast, same_idx' i, wr_succ him hmB]
      exact hk _ (hq.row him r1)
  · have d4 : decide ((((List.range m').length : Nat) : Int) < (m' : Int)) = false := by rw [decide_eq_false_iff_not, hd]; omega
    rw [hd] at hp
    have d6 : decide ((0 : Int) ≤ ((m' + 1 : Nat) : Int)) = true := by rw [decide_eq_true_eq]; omega
    have b1 : Nat.ble (m' + 1) 17179869184 = true := ble_true (by omega)
    have b2 : Nat.ble (T.length + List.length (List.replicate (m' + 1) (0 : Int) :: ([] : List (List Int)))) 17179869184 = true := ble_true (by rw [hp.1]; simp; omega)
    have hTab := hp.done
    simp only [r_impl_TriangleStar_L0, d4, cond_false, wn, d6, cond_true, Int.toNat_natCast, b1, b2]
    have w0 : (List.length (((a : Int), (b : Int)) :: (((b : Int), (c : Int)) :: (((a : Int), (c : Int)) :: ([] : List (Int × Int)))))) = 3 := rfl
    generalize hU : T ++ [List.replicate (m' + 1) (0 : Int)] = U at hTab
    refine iter_rule (R := TNet × Bool) (TriQ n m' a b c X Y Z) [(a, b), (b, c), (a, c)] (fun (T : List (List Int)) i => ((a : Int), (b : Int), (c : Int), n, (0, 0, 0, []), X, Y, Z, T, ((a : Int), (b : Int)) :: (((b : Int), (c : Int)) :: (((a : Int), (c : Int)) :: ([] : List (Int × Int)))), ((3 : Nat) : Int), i, ()))
      (fun i T => IsTab T (m' + 1) (fun k l => if (k, l) ∈ [(a, b), (b, c), (a, c)].take i ∨ (l, k) ∈ [(a, b), (b, c), (a, c)].take i then 0 else if k = m' ∨ l = m' then 0 else wbt n.2.2.2 (k : Int) (l : Int) * (X * Y * Z)))
      (fun T i x kc hq hx hi hk => ?_) (fun T kc hq => ?_) (N := N0) (by have := N0_big; simp; omega) U (hTab.congr fun k l _ _ => by simp)
    · obtain ⟨u, v⟩ := x
      have hmem : ((u, v) : Nat × Nat) ∈ [(a, b), (b, c), (a, c)] := List.mem_of_getElem? hx
      have huv : u < m' ∧ v < m' ∧ u ≠ v := by
        simp only [List.mem_cons, Prod.mk.injEq, List.not_mem_nil, or_false] at hmem
        omega
      have hi3 : i < 3 := hi
      have d7 : decide ((i : Int) < ((3 : Nat) : Int)) = true := by rw [decide_eq_true_eq]; omega
      have gx : (((a : Int), (b : Int)) :: (((b : Int), (c : Int)) :: (((a : Int), (c : Int)) :: ([] : List (Int × Int)))))[i]? = some ((u : Int), (v : Int)) := by
        have e : (((a : Int), (b : Int)) :: (((b : Int), (c : Int)) :: (((a : Int), (c : Int)) :: ([] : List (Int × Int))))) = [(a, b), (b, c), (a, c)].map fun (q : Nat × Nat) => ((q.1 : Int), (q.2 : Int)) := rfl
        rw [e, List.getElem?_map, hx]; rfl
      have hten : [(a, b), (b, c), (a, c)].take (i + 1) = [(a, b), (b, c), (a, c)].take i ++ [(u, v)] := by rw [List.take_add_one, hx]; rfl
      obtain ⟨ru, u1, u2, u3⟩ := hq.2 u (by omega)
      have hq1 := hq.put (v := 0) (b := v) (show u < m' + 1 by omega) u1
      obtain ⟨rv, v1, v2, v3⟩ := hq1.2 v (by omega)
      have hq2 := hq1.put (v := 0) (b := u) (show v < m' + 1 by omega) v1
      simp only [r_impl_TriangleStar_L4, d7, cond_true, getI_nat, gx, u1, u3 v (by omega), v1, v3 u (by omega), Option.bind_some, Int.toNat_natCast, wr_succ hi3 (by omega)]
      refine hk _ (hq2.congr fun k l _ _ => ?_)
      simp only [hten, List.mem_append, List.mem_singleton, Prod.mk.injEq]
      by_cases e1 : k = v ∧ l = u
      · rw [if_pos e1, if_pos (.inr (.inr ⟨e1.2, e1.1⟩))]
      · rw [if_neg e1]
        by_cases e2 : k = u ∧ l = v
        · rw [if_pos e2, if_pos (.inl (.inr e2))]
        · rw [if_neg e2]
          have : ((((k, l) ∈ [(a, b), (b, c), (a, c)].take i) ∨ k = u ∧ l = v) ∨ ((l, k) ∈ [(a, b), (b, c), (a, c)].take i) ∨ l = u ∧ k = v) ↔ (((k, l) ∈ [(a, b), (b, c), (a, c)].take i) ∨ ((l, k) ∈ [(a, b), (b, c), (a, c)].take i)) := by
            constructor
            · rintro ((h1 | h1) | (h1 | h1))
              · exact .inl h1
              · exact absurd h1 e2
              · exact .inr h1
              · exact absurd ⟨h1.2, h1.1⟩ e1
            · rintro (h1 | h1)
              · exact .inl (.inl h1)
              · exact .inr (.inl h1)
          simp only [this]
    · have d7 : decide ((([(a, b), (b, c), (a, c)].length : Nat) : Int) < ((3 : Nat) : Int)) = false := by simp
      have hq' : IsTab T (m' + 1) (fun k l => if triB a b c k l ∨ triB a b c l k then 0 else if k = m' ∨ l = m' then 0 else wbt n.2.2.2 (k : Int) (l : Int) * (X * Y * Z)) := hq.congr fun k l _ _ => by
        have e : ∀ k l : Nat, (k, l) ∈ [(a, b), (b, c), (a, c)].take [(a, b), (b, c), (a, c)].length ↔ triB a b c k l := fun k l => by
          simp [triB]
        simp only [e]
      obtain ⟨ra, a1, a2, a3⟩ := hq'.2 a (by omega)
      have q1 := hq'.put (v := (X * Y + Y * Z + Z * X) * X * Z) (b := m') (show a < m' + 1 by omega) a1
      obtain ⟨rb, b1', b2', b3⟩ := q1.2 b (by omega)
      have q2 := q1.put (v := (X * Y + Y * Z + Z * X) * X * Y) (b := m') (show b < m' + 1 by omega) b1'
      obtain ⟨rc, c1, c2, c3⟩ := q2.2 c (by omega)
      have q3 := q2.put (v := (X * Y + Y * Z + Z * X) * Y * Z) (b := m') (show c < m' + 1 by omega) c1
      have hfin := q3.congr (g := fun k l => if l < k ∨ k = l then (if k = c ∧ l = m' then (X * Y + Y * Z + Z * X) * Y * Z else if k = b ∧ l = m' then (X * Y + Y * Z + Z * X) * X * Y else if k = a ∧ l = m' then (X * Y + Y * Z + Z * X) * X * Z else if triB a b c k l ∨ triB a b c l k then 0 else if k = m' ∨ l = m' then 0 else wbt n.2.2.2 (k : Int) (l : Int) * (X * Y * Z)) else triF n.2.2.2 m' a b c X Y Z k l) fun k l hk hl => by
        by_cases hkl : l < k ∨ k = l
        · rw [if_pos hkl]
        · rw [if_neg hkl]
          have hnt : ¬ triB a b c l k := by unfold triB; omega
          simp only [triF, hnt, or_false]
          by_cases hlm : l = m'
          · subst hlm
            have ht : ¬ triB a b c k l := by unfold triB; omega
            rw [if_pos rfl]
            simp only [and_true, or_true, if_true, ht, if_false]
            by_cases i1 : k = a
            · rw [if_neg (by omega), if_neg (by omega), if_pos i1, if_pos i1]
            · by_cases i2 : k = b
              · rw [if_neg (by omega), if_pos i2, if_neg i1, if_pos i2]
              · by_cases i3 : k = c
                · rw [if_pos i3, if_neg i1, if_neg i2, if_pos i3]
                · rw [if_neg i3, if_neg i2, if_neg i1, if_neg i1, if_neg i2, if_neg i3]
          · rw [if_neg hlm, if_neg (by omega), if_neg (by omega), if_neg (by omega)]
            by_cases ht : triB a b c k l
            · rw [if_pos ht, if_pos ht]
            · rw [if_neg ht, if_neg ht, if_neg (by omega)]
      have hbd : ∀ i j, i < j → j < m' + 1 → 0 ≤ (if j < i ∨ i = j then (if i = c ∧ j = m' then (X * Y + Y * Z + Z * X) * Y * Z else if i = b ∧ j = m' then (X * Y + Y * Z + Z * X) * X * Y else if i = a ∧ j = m' then (X * Y + Y * Z + Z * X) * X * Z else if triB a b c i j ∨ triB a b c j i then 0 else if i = m' ∨ j = m' then 0 else wbt n.2.2.2 (i : Int) (j : Int) * (X * Y * Z)) else triF n.2.2.2 m' a b c X Y Z i j) ∧ (if j < i ∨ i = j then (if i = c ∧ j = m' then (X * Y + Y * Z + Z * X) * Y * Z else if i = b ∧ j = m' then (X * Y + Y * Z + Z * X) * X * Y else if i = a ∧ j = m' then (X * Y + Y * Z + Z * X) * X * Z else if triB a b c i j ∨ triB a b c j i then 0 else if i = m' ∨ j = m' then 0 else wbt n.2.2.2 (i : Int) (j : Int) * (X * Y * Z)) else triF n.2.2.2 m' a b c X Y Z i j) ≤ 1000000000000000 := fun i j hij _ => by
        have := h.f_bd i j
        rw [if_neg (by omega)]
        omega
      obtain ⟨l, l1, l2, l3⟩ := p_netOfC n.2.1 (n.2.2.1 * X * Y * Z) _ (m' + 1) (by omega) (by omega) _ hfin ⟨k3.1, by omega⟩ hn.2.1 hbd
      refine ⟨l, ⟨l1.srt, fun x => ?_⟩, l2, ?_⟩
      · rw [l1.mem]
        constructor
        · rintro ⟨i, j, h0, h1, h2, h3, h4⟩
          rw [if_neg (by omega)] at h3 h4
          exact ⟨i, j, h0, h1, h2, h3, h4⟩
        · rintro ⟨i, j, h0, h1, h2, h3, h4⟩
          refine ⟨i, j, h0, h1, h2, ?_, ?_⟩
          · rw [if_neg (by omega)]; exact h3
          · rw [if_neg (by omega)]; exact h4
      · simp only [r_impl_TriangleStar_L4, d7, cond_false, hm, getI_nat, a1, a3 m' (by omega), b1', b3 m' (by omega), c1, c3 m' (by omega), Option.bind_some, Int.toNat_natCast, wxy, wyz, wzx, wxyz, wS, ws1, ws2, wsa, wsb, wsc, wk1, wk2, wk3, l3]
        rfl
  · obtain ⟨row, r1, r2, r3⟩ := hTab.2 k hk
    exact ⟨row, r1, by rw [r2, if_neg (by omega)], fun l hl => by rw [r3 l hl, if_neg (by omega)], fun h => absurd h (Nat.not_lt_zero _)⟩
end

theorem tri_both (n : TNet) (hn : Sm.sm B1 n) (a b c : Int) : ∃ r : TNet × Bool, e_impl_TriangleStar (n, a, b, c, ()) = some r ∧ e_spec_TriangleStar (n, a, b, c, ()) = some r ∧ Sm.sm B1 r.1 := by
  cases hok : netok n with
  | false =>
    refine ⟨((0, 0, 0, []), false), ?_, ?_, zero_sm⟩
    · simp only [e_impl_TriangleStar, r_impl_TriangleStar, p_NetOk n hn, hok, Option.bind_some, Bool.not_false, cond_true]
    · simp only [e_spec_TriangleStar, r_spec_TriangleStar, s_NetOk n hn, hok, Option.bind_some, Bool.not_false, cond_true]
  | true =>
    obtain ⟨m, hm, hm1, hm5, hin, he1, he2⟩ := netok_facts hok
    have hW := wiresW hok
    have w0 : wr (n.1 - 1) = n.1 - 1 := wr_id (by omega) (by omega)
    by_cases hc : 0 ≤ a ∧ a < b ∧ b < c ∧ c < n.1 ∧ n.1 ≠ 5
    · obtain ⟨a, rfl⟩ : ∃ k : Nat, a = k := ⟨a.toNat, by omega⟩
      obtain ⟨b, rfl⟩ : ∃ k : Nat, b = k := ⟨b.toNat, by omega⟩
      obtain ⟨c, rfl⟩ : ∃ k : Nat, c = k := ⟨c.toNat, by omega⟩
      have bX := wbt_bd hW (a : Int) (b : Int)
      have bY := wbt_bd hW (b : Int) (c : Int)
      have bZ := wbt_bd hW (a : Int) (c : Int)
      by_cases hz : wbt n.2.2.2 (a : Int) (b : Int) ≠ 0 ∧ wbt n.2.2.2 (b : Int) (c : Int) ≠ 0 ∧ wbt n.2.2.2 (a : Int) (c : Int) ≠ 0
      · have hT : Tri n m a b c _ _ _ := ⟨hn, hok, hm, by omega, by omega, by omega, by omega, rfl, rfl, rfl, by omega, by omega, by omega⟩
        have h1 := p_Tri hT
        have h2 := s_Tri hT
        have hs := triQ_same h2 h1
        obtain ⟨l, l1, l2, e⟩ := h1
        cases hq : netok (canon (triN n m (wbt n.2.2.2 (a : Int) (b : Int)) (wbt n.2.2.2 (b : Int) (c : Int)) (wbt n.2.2.2 (a : Int) (c : Int)) l)) with
        | false => rw [hq] at e; exact ⟨_, e, hs.trans e, zero_sm⟩
        | true => rw [hq] at e; exact ⟨_, e, hs.trans e, l2.canon_sm⟩
      · have wa : wr ((a : Int) + 1) = (a : Int) + 1 := wr_id (by omega) (by omega)
        have wb : wr ((b : Int) + 1) = (b : Int) + 1 := wr_id (by omega) (by omega)
        have d5 : decide (n.1 = 5) = false := by rw [decide_eq_false_iff_not]; omega
        have g1 : decide ((a : Int) < 0) = false := by rw [decide_eq_false_iff_not]; omega
        have g2 : decide ((a : Int) ≥ (b : Int)) = false := by rw [decide_eq_false_iff_not]; omega
        have g3 : decide ((b : Int) ≥ (c : Int)) = false := by rw [decide_eq_false_iff_not]; omega
        have g4 : decide ((c : Int) ≥ n.1) = false := by rw [decide_eq_false_iff_not]; omega
        have s1 : (decide ((0 : Int) ≤ (a : Int)) && decide ((a : Int) ≤ n.1 - 1)) = true := by simp only [Bool.and_eq_true, decide_eq_true_eq]; omega
        have s2 : (decide ((a : Int) + 1 ≤ (b : Int)) && decide ((b : Int) ≤ n.1 - 1)) = true := by simp only [Bool.and_eq_true, decide_eq_true_eq]; omega
        have s3 : (decide ((b : Int) + 1 ≤ (c : Int)) && decide ((c : Int) ≤ n.1 - 1)) = true := by simp only [Bool.and_eq_true, decide_eq_true_eq]; omega
        simp only [e_impl_TriangleStar, r_impl_TriangleStar, e_spec_TriangleStar, r_spec_TriangleStar, p_NetOk n hn, s_NetOk n hn, hok, Option.bind_some, Bool.not_true, cond_false, d5, g1, g2, g3, g4, p_l01In, n_l01In, w0, wa, wb, s1, s2, s3, p_WB n m hn hin, s_WB n hn]
        by_cases z1 : wbt n.2.2.2 (a : Int) (b : Int) = 0
        · simp only [z1, decide_true, cond_true]; exact ⟨_, rfl, rfl, zero_sm⟩
        · by_cases z2 : wbt n.2.2.2 (b : Int) (c : Int) = 0
          · simp only [z1, z2, decide_true, decide_false, cond_true, cond_false]; exact ⟨_, rfl, rfl, zero_sm⟩
          · have z3 : wbt n.2.2.2 (a : Int) (c : Int) = 0 := by omega
            simp only [z1, z2, z3, decide_true, decide_false, cond_true, cond_false]; exact ⟨_, rfl, rfl, zero_sm⟩
    · refine ⟨((0, 0, 0, []), false), ?_, ?_, zero_sm⟩
      · simp only [e_impl_TriangleStar, r_impl_TriangleStar, p_NetOk n hn, hok, Option.bind_some, Bool.not_true, cond_false]
        by_cases c1 : a < 0
        · simp [c1]
        · by_cases c2 : a ≥ b
          · simp [c1, c2]
          · by_cases c3 : b ≥ c
            · simp [c1, c2, c3]
            · by_cases c4 : c ≥ n.1
              · simp [c1, c2, c3, c4]
              · have c5 : n.1 = 5 := by omega
                simp only [c1, c2, c3, c4, c5, decide_true, decide_false, cond_true, cond_false]
                cases decide (c ≥ 5) <;> rfl
      · simp only [e_spec_TriangleStar, r_spec_TriangleStar, s_NetOk n hn, hok, Option.bind_some, Bool.not_true, cond_false, p_l01In, n_l01In, w0]
        by_cases c5 : n.1 = 5
        · simp [c5]
        · have d5 : decide (n.1 = 5) = false := by rw [decide_eq_false_iff_not]; exact c5
          simp only [d5, cond_false]
          by_cases c1 : 0 ≤ a ∧ a ≤ n.1 - 1
          · have s1 : (decide ((0 : Int) ≤ a) && decide (a ≤ n.1 - 1)) = true := by simp only [Bool.and_eq_true, decide_eq_true_eq]; omega
            have wa : wr (a + 1) = a + 1 := wr_id (by omega) (by omega)
            simp only [s1, Bool.not_true, cond_false, wa]
            by_cases c2 : a + 1 ≤ b ∧ b ≤ n.1 - 1
            · have s2 : (decide (a + 1 ≤ b) && decide (b ≤ n.1 - 1)) = true := by simp only [Bool.and_eq_true, decide_eq_true_eq]; omega
              have wb : wr (b + 1) = b + 1 := wr_id (by omega) (by omega)
              have s3 : (decide (b + 1 ≤ c) && decide (c ≤ n.1 - 1)) = false := by simp only [Bool.and_eq_false_iff, decide_eq_false_iff_not]; omega
              simp only [s2, Bool.not_true, cond_false, wb, s3, Bool.not_false, cond_true]
            · have s2 : (decide (a + 1 ≤ b) && decide (b ≤ n.1 - 1)) = false := by simp only [Bool.and_eq_false_iff, decide_eq_false_iff_not]; omega
              simp only [s2, Bool.not_false, cond_true]
          · have s1 : (decide ((0 : Int) ≤ a) && decide (a ≤ n.1 - 1)) = false := by simp only [Bool.and_eq_false_iff, decide_eq_false_iff_not]; omega
            simp only [s1, Bool.not_false, cond_true]

theorem law_TriangleStar (n : TNet) (a b c : Int) (hn : Sm.sm BB n) (_ha : Sm.sm BB a) (_hb : Sm.sm BB b) (_hc : Sm.sm BB c) : e_laws_FnExactTriangleStar (n, a, b, c, ()) = some true := by
  simp only [e_laws_FnExactTriangleStar, r_laws_FnExactTriangleStar]
  obtain ⟨r, e1, e2, e3⟩ := sz_Net n 1048576 hn (by omega) (by omega)
  simp only [e1, Option.bind_some]
  by_cases hr : r < 0
  · simp [hr]
  · have hd : decide (r < 0) = false := by simp; omega
    have hb : Sm.sm B1 n := up_net B01 (e3 (by omega))
    obtain ⟨q, q1, q2, q3⟩ := tri_both n hb a b c
    obtain ⟨n', k', m1, m2, _⟩ := mhh_Net n 1 hb (by omega) (by omega)
    obtain ⟨n2, k2, h1, h2, h3⟩ := mhh_Net q.1 1 q3 (by omega) (by omega)
    have d1 : decide (k' < 0) = false := by rw [decide_eq_false_iff_not]; omega
    have d2 : decide (k2 < 0) = false := by rw [decide_eq_false_iff_not]; omega
    simp only [hd, cond_false, to_Net n hb, Option.bind_some, q1, q2, eq_Net q.1 q3, eq_Net n hb, Bool.not_true, beqB_self, m1, d1, h1, h3, d2, decide_true]

end Go.Sx.R
