/- The law in plain words. Conditions: none. -/
import Derived.Test.YtgiiolidgiglaaaRes
namespace Go.Sx.R
open Go Go.Sx
def r_laws_heldWireS_L0 (_N : Nat) (s : ((List (Int × (Int × Int))) × (Int × (Int × Unit)))) (kc ke : ((List (Int × (Int × Int))) × (Int × (Int × Unit))) → Option Int) : Option Int :=
  (cond (decide (s.2.2.1 < (((List.length s.1) : Nat) : Int)))
    (Option.bind (getI s.1 s.2.2.1) fun (x1 : (Int × (Int × Int))) =>
    (cond (!(decide (x1.1 = s.2.1)))
      (some (-(1 : Int)))
      (Option.bind (getI s.1 s.2.2.1) fun (x2 : (Int × (Int × Int))) =>
      (cond (!(decide (x2.2.1 = (wr (s.2.1 + (1 : Int))))))
        (some (-(1 : Int)))
        (Option.bind (getI s.1 s.2.2.1) fun (x3 : (Int × (Int × Int))) =>
        (cond (!(decide (x3.2.2 = (wr ((wr (s.2.1 + (1 : Int))) + (1 : Int))))))
          (some (-(1 : Int)))
          (kc (s.1, ((wr ((wr ((wr (s.2.1 + (1 : Int))) + (1 : Int))) + (1 : Int))), ((wr (s.2.2.1 + (1 : Int))), ()))))))))))
    (ke (s.1, (s.2.1, (s.2.2.1, ())))))
def r_laws_heldWireS (N : Nat) (a0 : (List (Int × (Int × Int)))) (a1 : Int) : Option Int :=
  (iterK (r_laws_heldWireS_L0 N) N (a0, (a1, ((0 : Int), ()))) fun (s1 : ((List (Int × (Int × Int))) × (Int × (Int × Unit)))) =>
  (some s1.2.1))
noncomputable def e_laws_heldWireS (a : (List (Int × Int × Int)) × Int × Unit) : Option Int := r_laws_heldWireS N0 a.1 a.2.1
end Go.Sx.R
namespace Go.Sx.R
open Go Go.Sx

theorem wr_sub_len {n : Int} {len : Nat} (h0 : 0 ≤ n) (h1 : n ≤ 1048576) (hl : len ≤ 9223372036854775807) : wr (n - (len : Int)) = n - len := wr_id (by omega) (by omega)

theorem beqB_self (b : Bool) : beqB b b = true := by cases b <;> rfl

theorem sm_up {α : Type} [Sm α] (up : ∀ {B B' : Nat} {x : α}, B ≤ B' → Sm.sm B x → Sm.sm B' x) {B B' : Nat} {x : List α} (h : B ≤ B') (hx : Sm.sm B x) : Sm.sm B' x := ⟨Nat.le_trans hx.1 h, fun y hy => up h (hx.2 y hy)⟩
theorem up_wire {B B' : Nat} {x : Int × Int × Int} (h : B ≤ B') (hx : Sm.sm B x) : Sm.sm B' x := hx
theorem up_wireS {B B' : Nat} {x : List (Int × Int × Int)} (h : B ≤ B') (hx : Sm.sm B x) : Sm.sm B' x := sm_up up_wire h hx
abbrev TNet := Int × Int × Int × List (Int × Int × Int)
theorem up_net {B B' : Nat} {x : TNet} (h : B ≤ B') (hx : Sm.sm B x) : Sm.sm B' x := ⟨hx.1, hx.2.1, hx.2.2.1, up_wireS h hx.2.2.2⟩
abbrev B0 : Nat := 1048576
theorem B01 : B0 ≤ B1 := by decide

theorem eq_IntS (a : List Int) (ha : Sm.sm B1 a) : e_laws_eqIntS (a, a, ()) = some true := by
  simp only [e_laws_eqIntS, r_laws_eqIntS, decide_true, Bool.not_true, cond_false]
  rw [iter_range (R := Bool) a (fun (_ : Unit) i => (a, a, i, ())) (fun st i x k => k ()) ?_ ?_ (len_lt ha N0_gt) ()]
  · rw [rangeK_fold (fun _ _ _ => ()) _ _ _ _ (fun _ _ _ _ _ => rfl)]
  · intro st i x kc ke hx hi
    simp only [r_laws_eqIntS_L0, lt_len, hi, decide_true, cond_true, getI_nat, hx, Option.bind_some, decide_true, Bool.not_true, cond_false]
    rw [wr_len hi ha]
  · intro st kc ke
    simp only [r_laws_eqIntS_L0, not_lt_self, cond_false]

theorem to_Wire (a : Int × Int × Int) (ha : Sm.sm B1 a) : e_laws_toWire (a, ()) = some a := rfl
theorem eq_Wire (a : Int × Int × Int) (ha : Sm.sm B1 a) : e_laws_eqWire (a, a, ()) = some true := by
  simp only [e_laws_eqWire, r_laws_eqWire, decide_true, Bool.not_true, cond_false]

theorem to_WireS (a : List (Int × Int × Int)) (ha : Sm.sm B1 a) : e_laws_toWireS (a, ()) = some a := by
  simp only [e_laws_toWireS, r_laws_toWireS, Int.toNat_natCast]
  rw [ble_true (by have := ha.1; simp only [B1] at this; omega), cond_true]
  rw [iter_range (R := List (Int × Int × Int)) a (fun (st : List (Int × Int × Int)) i => (a, st, i, ())) (fun st i x k => Option.bind (st[i]?) fun _ => k (st.set i x)) ?_ ?_ (len_lt ha N0_gt)]
  · rw [rangeK_copy (fun x => x) ((0 : Int), ((0 : Int), (0 : Int)))]
    · simp
    · intro st j x k hs hx
      have : st[j]? = some (st[j]'(by rw [hs]; exact get_lt hx)) := List.getElem?_eq_getElem _
      rw [this]; rfl
  · intro st i x kc ke hx hi
    simp only [r_laws_toWireS_L0, lt_len, hi, decide_true, cond_true, getI_nat, hx, Option.bind_some, to_Wire _ (sm_get ha hx)]
    rw [wr_len hi ha, Int.toNat_natCast]
  · intro st kc ke
    simp only [r_laws_toWireS_L0, not_lt_self, cond_false]

theorem eq_WireS (a : List (Int × Int × Int)) (ha : Sm.sm B1 a) : e_laws_eqWireS (a, a, ()) = some true := by
  simp only [e_laws_eqWireS, r_laws_eqWireS, decide_true, Bool.not_true, cond_false]
  rw [iter_range (R := Bool) a (fun (_ : Unit) i => (a, a, i, ())) (fun st i x k => k ()) ?_ ?_ (len_lt ha N0_gt) ()]
  · rw [rangeK_fold (fun _ _ _ => ()) _ _ _ _ (fun _ _ _ _ _ => rfl)]
  · intro st i x kc ke hx hi
    simp only [r_laws_eqWireS_L0, lt_len, hi, decide_true, cond_true, getI_nat, hx, Option.bind_some, eq_Wire _ (sm_get ha hx), Option.bind_some, Bool.not_true, cond_false]
    rw [wr_len hi ha]
  · intro st kc ke
    simp only [r_laws_eqWireS_L0, not_lt_self, cond_false]

theorem sz_WireS (a : List (Int × Int × Int)) (n : Int) (ha : Sm.sm BB a) (h0 : 0 ≤ n) (h1 : n ≤ 1048576) : ∃ r, e_laws_szWireS (a, n, ()) = some r ∧ r ≤ n ∧ (0 ≤ r → Sm.sm B0 a) := by
  simp only [e_laws_szWireS, r_laws_szWireS]
  rw [wr_sub_len h0 h1 ha.1]
  by_cases h : n - (a.length : Int) < 0
  · refine ⟨-1, ?_, by omega, by omega⟩
    simp [h]
  · refine ⟨n - a.length, ?_, by omega, fun _ => ⟨by simp only [B0]; omega, ha.2⟩⟩
    simp [h]

theorem to_Net (a : TNet) (ha : Sm.sm B1 a) : e_laws_toNet (a, ()) = some a := by
  obtain ⟨x, y, z, l⟩ := a
  simp only [e_laws_toNet, r_laws_toNet]
  rw [to_WireS l ha.2.2.2]; rfl
theorem eq_Net (a : TNet) (ha : Sm.sm B1 a) : e_laws_eqNet (a, a, ()) = some true := by
  simp only [e_laws_eqNet, r_laws_eqNet, decide_true, Bool.not_true, cond_false, eq_WireS _ ha.2.2.2, Option.bind_some]
theorem sz_Net (a : TNet) (n : Int) (ha : Sm.sm BB a) (h0 : 0 ≤ n) (h1 : n ≤ 1048576) : ∃ r, e_laws_szNet (a, n, ()) = some r ∧ r ≤ n ∧ (0 ≤ r → Sm.sm B0 a) := by
  simp only [e_laws_szNet, r_laws_szNet]
  obtain ⟨r, e1, e2, e3⟩ := sz_WireS a.2.2.2 n ha.2.2.2 h0 h1
  simp only [e1, Option.bind_some]
  by_cases hr : r < 0
  · exact ⟨-1, by simp [hr], by omega, by omega⟩
  · exact ⟨r, by simp [hr], e2, fun h => ⟨ha.1, ha.2.1, ha.2.2.1, e3 h⟩⟩

end Go.Sx.R
namespace Go.Sx.R
open Go Go.Sx

def n_l01In (a : Int × Int × Int × Unit) : Bool := decide (a.2.1 ≤ a.1) && decide (a.1 ≤ a.2.2.1)

theorem p_l01In (a : Int × Int × Int × Unit) : e_spec_l01In a = some (n_l01In a) := by
  obtain ⟨a0, a1, a2, _⟩ := a
  simp only [e_spec_l01In, r_spec_l01In, n_l01In]
  by_cases h : a1 ≤ a0 <;> simp [h]

end Go.Sx.R
namespace Go.Sx.R
open Go Go.Sx

-- lists without doubles
theorem nodup_len {α : Type} [DecidableEq α] : ∀ {l m : List α}, l.Nodup → (∀ x ∈ l, x ∈ m) → l.length ≤ m.length
  | [], m, _, _ => Nat.zero_le _
  | x :: l, m, h, hs => by
    have hx : x ∈ m := hs x (by simp)
    have hd := List.nodup_cons.1 h
    have := nodup_len (l := l) (m := m.erase x) hd.2 fun y hy => (List.mem_erase_of_ne (by rintro rfl; exact hd.1 hy)).2 (hs y (by simp [hy]))
    rw [List.length_erase_of_mem hx] at this
    have hp : 0 < m.length := List.length_pos_of_mem hx
    simp only [List.length_cons]; omega

theorem nodup_all {α : Type} [DecidableEq α] {l m : List α} (h : l.Nodup) (hs : ∀ x ∈ l, x ∈ m) (hl : m.length ≤ l.length) : ∀ x ∈ m, x ∈ l := by
  intro x hx
  by_cases hxl : x ∈ l
  · exact hxl
  · have := nodup_len (l := x :: l) (m := m) (List.nodup_cons.2 ⟨hxl, h⟩) (by
      intro y hy
      rcases List.mem_cons.1 hy with rfl | hy
      · exact hx
      · exact hs y hy)
    simp at this; omega

/-- The numbers below n. -/
def ints (n : Nat) : List Int := (List.range n).map Int.ofNat
theorem mem_ints {n : Nat} {x : Int} : x ∈ ints n ↔ 0 ≤ x ∧ x < n := by
  simp only [ints, List.mem_map, List.mem_range]
  constructor
  · rintro ⟨i, hi, rfl⟩
    simp only [Int.ofNat_eq_natCast]; omega
  · intro h; exact ⟨x.toNat, by omega, by simp only [Int.ofNat_eq_natCast]; omega⟩
theorem len_ints {n : Nat} : (ints n).length = n := by simp [ints]
theorem nodup_ints {n : Nat} : (ints n).Nodup := by
  refine List.Pairwise.map Int.ofNat (fun (a b : Nat) (h : a ≠ b) => ?_) (List.nodup_range (n := n))
  intro e
  simp only [Int.ofNat_eq_natCast] at e
  exact h (by omega)

abbrev W3 := Int × Int × Int

-- looking in lists
theorem p_Has (xs : List Int) (v : Int) (hl : xs.length ≤ BB) : e_spec_l03Has (xs, v, ()) = some (decide (v ∈ xs)) := by
  simp only [e_spec_l03Has, r_spec_l03Has]
  rw [iter_range (R := Bool) xs (fun (_ : Unit) i => (v, xs, (xs.length : Int), i, ())) (fun _ i x k => cond (decide (x = v)) (some true) (k ())) ?_ ?_ (by have := N0_gt; omega) ()]
  · rw [rangeK_stop' (fun x => decide (x = v)) (some true) _ _ _ (fun _ _ _ _ => rfl)]
    have : xs.any (fun x => decide (x = v)) = decide (v ∈ xs) := by
      rw [Bool.eq_iff_iff]; simp
    rw [this]; cases decide (v ∈ xs) <;> rfl
  · intro st i x kc ke hx hi
    simp only [r_spec_l03Has_L0, lt_len, hi, decide_true, cond_true, getI_nat, hx, Option.bind_some]
    rw [wr_succ hi hl]
  · intro st kc ke
    simp only [r_spec_l03Has_L0, not_lt_self, cond_false]

theorem p_ContainsB (xs : List Bool) (v : Bool) (hl : xs.length ≤ BB) : e_slices_Contains_bool (xs, v, ()) = some (decide (v ∈ xs)) := by
  simp only [e_slices_Contains_bool, r_slices_Contains_bool, e_slices_Index_bool, r_slices_Index_bool]
  rw [iter_range (R := Int) xs (fun (_ : Unit) i => (xs, v, (xs.length : Int), i, ())) (fun _ i x k => cond (beqB v x) (some (i : Int)) (k ())) ?_ ?_ (by have := N0_gt; omega) ()]
  · have key : ∀ (l : List Bool) (i : Nat), (rangeK l i () (fun _ i x k => cond (beqB v x) (some (i : Int)) (k ())) fun _ => some (-1 : Int)).bind (fun r => some (decide (r ≥ 0))) = some (decide (v ∈ l)) := by
      intro l
      induction l with
      | nil => intro i; simp [rangeK]
      | cons x l ih =>
        intro i
        simp only [rangeK]
        by_cases e : v = x
        · subst e; rw [beqB_self]; simp
        · have : beqB v x = false := by revert e; cases v <;> cases x <;> simp [beqB]
          rw [this, cond_false, ih (i + 1)]
          simp [e]
    exact key xs 0
  · intro st i x kc ke hx hi
    simp only [r_slices_Index_bool_L0, lt_len, hi, decide_true, cond_true, getI_nat, hx, Option.bind_some]
    rw [wr_succ hi hl]
  · intro st kc ke
    simp only [r_slices_Index_bool_L0, not_lt_self, cond_false]

-- the order of wires
def n_cmp (x y : Int) : Int := if x < y then -1 else if x > y then 1 else 0
theorem p_Compare (x y : Int) : e_cmp_Compare_int (x, y, ()) = some (n_cmp x y) := by
  simp only [e_cmp_Compare_int, r_cmp_Compare_int, e_cmp_isNaN_int, r_cmp_isNaN_int, Option.bind_some, decide_true, Bool.not_true, cond_false, n_cmp]
  by_cases h1 : x < y
  · simp [h1]
  · by_cases h2 : x > y <;> simp [h1, h2]

theorem N0_big : 9223372036854775807 < N0 := N0_gt
theorem N0_succ : ∃ m, N0 = m + 5 := ⟨N0 - 5, by have := N0_big; omega⟩

def n_byEnds (x y : W3) : Int := if n_cmp x.1 y.1 = 0 then n_cmp x.2.1 y.2.1 else n_cmp x.1 y.1
theorem p_byEnds (x y : W3) : e_impl_byEnds (x, y, ()) = some (n_byEnds x y) := by
  simp only [e_impl_byEnds, r_impl_byEnds, p_Compare, Option.bind_some, e_cmp_Or_int, r_cmp_Or_int, n_byEnds]
  obtain ⟨m, hm⟩ := N0_succ
  rw [hm]
  by_cases h1 : n_cmp x.1 y.1 = 0
  · by_cases h2 : n_cmp x.2.1 y.2.1 = 0
    · simp [iterK, r_cmp_Or_int_L0, h1, h2, getI_zero, wr_id, getI]
    · simp [iterK, r_cmp_Or_int_L0, h1, h2, getI_zero, wr_id, getI]
  · simp [iterK, r_cmp_Or_int_L0, h1, getI_zero]

/-- Strictly before. -/
def lex (x y : W3) : Bool := decide (x.1 < y.1) || (decide (x.1 = y.1) && decide (x.2.1 < y.2.1))
theorem byEnds_lex (x y : W3) : decide (n_byEnds x y ≥ 0) = !lex x y := by
  rw [Bool.eq_iff_iff]
  by_cases a : x.1 < y.1
  · have a2 : ¬ x.1 > y.1 := by omega
    simp [n_byEnds, n_cmp, lex, a]
  · by_cases b : x.1 > y.1
    · have e : ¬ x.1 = y.1 := by omega
      simp [n_byEnds, n_cmp, lex, a, b, e]
    · have e : x.1 = y.1 := by omega
      by_cases c : x.2.1 < y.2.1
      · simp [n_byEnds, n_cmp, lex, e, c]
      · by_cases d : x.2.1 > y.2.1 <;> simp [n_byEnds, n_cmp, lex, e, c, d]

/-- A wire at place i that does not fit. -/
def badW (nodes : Int) (ws : List W3) (i : Nat) (x : W3) : Bool :=
  !(decide (0 ≤ x.1) && decide (x.1 < x.2.1) && decide (x.2.1 < nodes) && decide (1 ≤ x.2.2) && decide (x.2.2 ≤ 200)) || (match i with | 0 => false | j + 1 => match ws[j]? with | some y => !lex y x | none => false)

def wiresBad (n : TNet) : Bool := (n.2.2.2.zipIdx 0).any fun p => badW n.1 n.2.2.2 p.2 p.1
def hdrOk (n : TNet) : Bool := decide (1 ≤ n.1) && decide (n.1 ≤ 5) && decide (1 ≤ n.2.1) && decide (n.2.1 ≤ n.1) && decide (1 ≤ n.2.2.1) && decide (n.2.2.1 ≤ 1000)

theorem netL0_impl (n : TNet) (hn : Sm.sm B1 n) (k : _ → Option Bool) :
    iterK (r_impl_NetOk_L0 e_slices_Contains_bool e_impl_byEnds N0) N0 (n, n.2.2.2, (n.2.2.2.length : Int), 0, ()) k = cond (wiresBad n) (some false) (k (n, n.2.2.2, (n.2.2.2.length : Int), (n.2.2.2.length : Int), ())) := by
  have hw : Sm.sm B1 n.2.2.2 := hn.2.2.2
  rw [iter_range (R := Bool) n.2.2.2 (fun (_ : Unit) i => (n, n.2.2.2, (n.2.2.2.length : Int), i, ())) (fun _ i x k => cond (badW n.1 n.2.2.2 i x) (some false) (k ())) ?_ ?_ (len_lt hw N0_gt) ()]
  · rw [rangeK_stop (fun i x => badW n.1 n.2.2.2 i x) (some false) _ _ _ (fun j x k _ => rfl)]
    rfl
  · intro st i x kc ke hx hi
    simp only [r_impl_NetOk_L0, lt_len, hi, decide_true, cond_true, getI_nat, hx, Option.bind_some, wr_len hi hw]
    have hb : ∀ b : Bool, (decide (x.1 < 0) = true → b = true) → True := fun _ _ => trivial
    by_cases h1 : x.1 < 0
    · have : badW n.1 n.2.2.2 i x = true := by simp only [badW, Bool.or_eq_true, Bool.not_eq_true', Bool.and_eq_false_iff, decide_eq_false_iff_not]; left; omega
      simp [h1, this]
    by_cases h2 : x.1 ≥ x.2.1
    · have : badW n.1 n.2.2.2 i x = true := by simp only [badW, Bool.or_eq_true, Bool.not_eq_true', Bool.and_eq_false_iff, decide_eq_false_iff_not]; left; omega
      simp [h1, h2, this]
    by_cases h3 : x.2.1 ≥ n.1
    · have : badW n.1 n.2.2.2 i x = true := by simp only [badW, Bool.or_eq_true, Bool.not_eq_true', Bool.and_eq_false_iff, decide_eq_false_iff_not]; left; omega
      simp [h1, h2, h3, this]
    by_cases h4 : x.2.2 < 1
    · have : badW n.1 n.2.2.2 i x = true := by simp only [badW, Bool.or_eq_true, Bool.not_eq_true', Bool.and_eq_false_iff, decide_eq_false_iff_not]; left; omega
      simp [h1, h2, h3, h4, this]
    by_cases h5 : x.2.2 > 200
    · have : badW n.1 n.2.2.2 i x = true := by simp only [badW, Bool.or_eq_true, Bool.not_eq_true', Bool.and_eq_false_iff, decide_eq_false_iff_not]; left; omega
      simp [h1, h2, h3, h4, h5, this]
    have hg : (!(decide (0 ≤ x.1) && decide (x.1 < x.2.1) && decide (x.2.1 < n.1) && decide (1 ≤ x.2.2) && decide (x.2.2 ≤ 200))) = false := by
      simp only [Bool.not_eq_false', Bool.and_eq_true, decide_eq_true_eq]; omega
    cases i with
    | zero =>
      have hbad : badW n.1 n.2.2.2 0 x = false := by simp only [badW, hg, Bool.or_false]
      simp [h1, h2, h3, h4, h5, hbad]
    | succ j =>
      have hj : n.2.2.2[j]? = some n.2.2.2[j] := List.getElem?_eq_getElem (by omega)
      have hbad : badW n.1 n.2.2.2 (j + 1) x = !lex n.2.2.2[j] x := by simp only [badW, hg, Bool.false_or, hj]
      have hwr : wr (((j + 1 : Nat) : Int) - 1) = (j : Int) := by
        rw [wr_id (by omega) (by have := hw.1; simp only [B1] at this; omega)]; omega
      have hpos : decide (((j + 1 : Nat) : Int) > 0) = true := by rw [decide_eq_true_eq]; omega
      rw [hbad, hpos, hwr, getI_nat, hj]
      simp only [cond_true, Option.bind_some, p_byEnds, byEnds_lex]
      simp [h1, h2, h3, h4, h5]
  · intro st kc ke
    simp only [r_impl_NetOk_L0, not_lt_self, cond_false]

theorem netL0_spec (n : TNet) (hn : Sm.sm B1 n) (k : _ → Option Bool) (hn1 : 1 ≤ n.1) (hn5 : n.1 ≤ 5) :
    iterK (r_spec_NetOk_L0 e_spec_l01In e_spec_l03Reach N0) N0 (n, n.2.2.2, (n.2.2.2.length : Int), 0, ()) k = cond (wiresBad n) (some false) (k (n, n.2.2.2, (n.2.2.2.length : Int), (n.2.2.2.length : Int), ())) := by
  have hw : Sm.sm B1 n.2.2.2 := hn.2.2.2
  rw [iter_range (R := Bool) n.2.2.2 (fun (_ : Unit) i => (n, n.2.2.2, (n.2.2.2.length : Int), i, ())) (fun _ i x k => cond (badW n.1 n.2.2.2 i x) (some false) (k ())) ?_ ?_ (len_lt hw N0_gt) ()]
  · rw [rangeK_stop (fun i x => badW n.1 n.2.2.2 i x) (some false) _ _ _ (fun j x k _ => rfl)]
    rfl
  · intro st i x kc ke hx hi
    simp only [r_spec_NetOk_L0, lt_len, hi, decide_true, cond_true, getI_nat, hx, Option.bind_some, wr_len hi hw, p_l01In, n_l01In]
    have hw1 : wr (n.1 - 1) = n.1 - 1 := wr_id (by omega) (by omega)
    rw [hw1]
    by_cases h1 : 0 ≤ x.1 ∧ x.1 ≤ n.1 - 1
    · have hw2 : wr (x.1 + 1) = x.1 + 1 := wr_id (by omega) (by omega)
      rw [hw2]
      by_cases h2 : x.1 + 1 ≤ x.2.1 ∧ x.2.1 ≤ n.1 - 1
      · by_cases h3 : 1 ≤ x.2.2 ∧ x.2.2 ≤ 200
        · have hg : (!(decide (0 ≤ x.1) && decide (x.1 < x.2.1) && decide (x.2.1 < n.1) && decide (1 ≤ x.2.2) && decide (x.2.2 ≤ 200))) = false := by
            simp only [Bool.not_eq_false', Bool.and_eq_true, decide_eq_true_eq]; omega
          cases i with
          | zero =>
            have hbad : badW n.1 n.2.2.2 0 x = false := by simp only [badW, hg, Bool.or_false]
            simp [h1, h2, h3, hbad]
          | succ j =>
            have hj : n.2.2.2[j]? = some n.2.2.2[j] := List.getElem?_eq_getElem (by omega)
            have hbad : badW n.1 n.2.2.2 (j + 1) x = !lex n.2.2.2[j] x := by simp only [badW, hg, Bool.false_or, hj]
            have hwr : wr (((j + 1 : Nat) : Int) - 1) = (j : Int) := by
              rw [wr_id (by omega) (by have := hw.1; simp only [B1] at this; omega)]; omega
            have hpos : decide (((j + 1 : Nat) : Int) > 0) = true := by rw [decide_eq_true_eq]; omega
            rw [hbad, hpos, hwr, getI_nat, hj]
            simp only [cond_true, Option.bind_some, h1, h2, h3, decide_true, Bool.and_self, Bool.not_true, cond_false, lex]
            by_cases e1 : x.1 < n.2.2.2[j].1
            · have a1 : ¬ n.2.2.2[j].1 < x.1 := by omega
              have a2 : ¬ n.2.2.2[j].1 = x.1 := by omega
              simp [e1, a1, a2]
            · by_cases e2 : x.1 = n.2.2.2[j].1
              · by_cases e3 : x.2.1 ≤ n.2.2.2[j].2.1
                · have a3 : ¬ n.2.2.2[j].2.1 < x.2.1 := by omega
                  simp [e2, e3, a3]
                · have a3 : n.2.2.2[j].2.1 < x.2.1 := by omega
                  simp [e2, e3, a3]
              · have a1 : n.2.2.2[j].1 < x.1 := by omega
                simp [e1, e2, a1]
        · have : badW n.1 n.2.2.2 i x = true := by simp only [badW, Bool.or_eq_true, Bool.not_eq_true', Bool.and_eq_false_iff, decide_eq_false_iff_not]; left; omega
          have h3' : (decide (1 ≤ x.2.2) && decide (x.2.2 ≤ 200)) = false := by simp only [Bool.and_eq_false_iff, decide_eq_false_iff_not]; omega
          simp [h1, h2, h3', this]
      · have : badW n.1 n.2.2.2 i x = true := by simp only [badW, Bool.or_eq_true, Bool.not_eq_true', Bool.and_eq_false_iff, decide_eq_false_iff_not]; left; omega
        have h2' : (decide (x.1 + 1 ≤ x.2.1) && decide (x.2.1 ≤ n.1 - 1)) = false := by simp only [Bool.and_eq_false_iff, decide_eq_false_iff_not]; omega
        simp [h1, h2', this]
    · have : badW n.1 n.2.2.2 i x = true := by simp only [badW, Bool.or_eq_true, Bool.not_eq_true', Bool.and_eq_false_iff, decide_eq_false_iff_not]; left; omega
      have h1' : (decide (0 ≤ x.1) && decide (x.1 ≤ n.1 - 1)) = false := by simp only [Bool.and_eq_false_iff, decide_eq_false_iff_not]; omega
      simp [h1', this]
  · intro st kc ke
    simp only [r_spec_NetOk_L0, not_lt_self, cond_false]
-- what can be reached
inductive Rc (ws : List W3) : Int → Prop
  | zero : Rc ws 0
  | ab {e : W3} : e ∈ ws → Rc ws e.1 → Rc ws e.2.1
  | ba {e : W3} : e ∈ ws → Rc ws e.2.1 → Rc ws e.1

/-- The wires lie among the nodes. -/
def InW (nodes : Nat) (ws : List W3) : Prop := ∀ e ∈ ws, 0 ≤ e.1 ∧ e.1 < e.2.1 ∧ e.2.1 < nodes

theorem Rc.inn {nodes : Nat} {ws : List W3} (h0 : 0 < nodes) (hw : InW nodes ws) {v : Int} (h : Rc ws v) : 0 ≤ v ∧ v < nodes := by
  cases h with
  | zero => omega
  | ab he _ => have := hw _ he; omega
  | ba he _ => have := hw _ he; omega

-- the program's marks
def gt (st : List Bool) (v : Int) : Bool := (st[v.toNat]?).getD false
def upd (st : List Bool) (e : W3) : List Bool := if gt st e.1 = true ∨ gt st e.2.1 = true then (st.set e.1.toNat true).set e.2.1.toNat true else st
def cnt (st : List Bool) : Nat := (st.filter id).length

theorem cnt_le (st : List Bool) : cnt st ≤ st.length := List.length_filter_le _ _

theorem cnt_set : ∀ (st : List Bool) (i : Nat), cnt st ≤ cnt (st.set i true) ∧ (st[i]? = some false → cnt st + 1 ≤ cnt (st.set i true))
  | [], i => by simp [cnt]
  | b :: st, 0 => by cases b <;> simp [cnt]
  | b :: st, i + 1 => by
    have := cnt_set st i
    cases b <;> simp_all [cnt]

theorem gt_set (st : List Bool) (i : Nat) (v : Int) : gt (st.set i true) v = (gt st v || (decide (i = v.toNat) && decide (i < st.length))) := by
  simp only [gt, List.getElem?_set]
  by_cases e : i = v.toNat
  · subst e
    by_cases h : v.toNat < st.length
    · simp [h]
    · simp [h]
  · simp [e]

theorem upd_len (st : List Bool) (e : W3) : (upd st e).length = st.length := by
  unfold upd; split <;> simp

theorem upd_mono {st : List Bool} {e : W3} {v : Int} (h : gt st v = true) : gt (upd st e) v = true := by
  unfold upd; split
  · simp [gt_set, h]
  · exact h

theorem upd_sound {ws : List W3} {st : List Bool} {e : W3} {nodes : Nat} (hl : st.length = nodes) (hw : InW nodes ws) (he : e ∈ ws) (h : ∀ v, 0 ≤ v → gt st v = true → Rc ws v) : ∀ v, 0 ≤ v → gt (upd st e) v = true → Rc ws v := by
  intro v hv hg
  obtain ⟨h1, h2, h3⟩ := hw e he
  unfold upd at hg
  split at hg
  · rename_i hor
    have ha : Rc ws e.1 ∧ Rc ws e.2.1 := by
      rcases hor with hor | hor
      · have := h _ h1 hor; exact ⟨this, .ab he this⟩
      · have := h _ (by omega) hor; exact ⟨.ba he this, this⟩
    simp only [gt_set, Bool.or_eq_true, Bool.and_eq_true, decide_eq_true_eq] at hg
    rcases hg with (hg | hg) | hg
    · exact h v hv hg
    · have : e.1 = v := by omega
      rw [← this]; exact ha.1
    · have : e.2.1 = v := by omega
      rw [← this]; exact ha.2
  · exact h v hv hg

theorem gt_false {st : List Bool} {v : Int} (h : gt st v = false) (hl : v.toNat < st.length) : st[v.toNat]? = some false := by
  have : st[v.toNat]? = some st[v.toNat] := List.getElem?_eq_getElem hl
  unfold gt at h
  rw [this] at h ⊢
  simpa using h

theorem upd_cnt (st : List Bool) (e : W3) : cnt st ≤ cnt (upd st e) := by
  unfold upd; split
  · exact Nat.le_trans (cnt_set st _).1 (cnt_set _ _).1
  · exact Nat.le_refl _

theorem upd_grow {st : List Bool} {e : W3} {nodes : Nat} (hl : st.length = nodes) (hi : 0 ≤ e.1 ∧ e.1 < e.2.1 ∧ e.2.1 < nodes) (h : gt st e.1 ≠ gt st e.2.1) : cnt st + 1 ≤ cnt (upd st e) := by
  have hor : gt st e.1 = true ∨ gt st e.2.1 = true := by
    revert h; cases gt st e.1 <;> cases gt st e.2.1 <;> simp
  unfold upd
  rw [if_pos hor]
  by_cases h1 : gt st e.1 = true
  · have h2 : gt st e.2.1 = false := by
      revert h; rw [h1]; cases gt st e.2.1 <;> simp
    have : gt (st.set e.1.toNat true) e.2.1 = false := by
      rw [gt_set, h2]; simp; omega
    have hs := gt_false this (by simp; omega)
    exact Nat.le_trans (Nat.add_le_add_right (cnt_set st _).1 1) ((cnt_set _ _).2 hs)
  · have h1' : gt st e.1 = false := by simpa using h1
    have hs := gt_false h1' (by omega)
    exact Nat.le_trans ((cnt_set st _).2 hs) (cnt_set _ _).1

theorem upd_fix {st : List Bool} {e : W3} {nodes : Nat} (hl : st.length = nodes) (hi : 0 ≤ e.1 ∧ e.1 < e.2.1 ∧ e.2.1 < nodes) (h : gt st e.1 = gt st e.2.1) : upd st e = st := by
  unfold upd
  split
  · rename_i hor
    have hb : gt st e.1 = true ∧ gt st e.2.1 = true := by
      rw [h] at hor ⊢; rcases hor with hor | hor <;> exact ⟨hor, hor⟩
    have one : ∀ (v : Int), gt st v = true → st.set v.toNat true = st := by
      intro v hv
      apply List.ext_getElem?; intro j
      rw [List.getElem?_set]
      split
      · rename_i ej; subst ej
        unfold gt at hv
        split
        · rename_i hlt
          rw [List.getElem?_eq_getElem hlt] at hv ⊢
          simp at hv; rw [hv]
        · rename_i hlt
          rw [List.getElem?_eq_none (by omega)]
      · rfl
    rw [one _ hb.1, one _ hb.2]
  · rfl

def Closed (ws : List W3) (st : List Bool) : Prop := ∀ e ∈ ws, gt st e.1 = gt st e.2.1

theorem round_fix {nodes : Nat} : ∀ {ws : List W3} {st : List Bool}, st.length = nodes → InW nodes ws → Closed ws st → ws.foldl upd st = st
  | [], _, _, _, _ => rfl
  | e :: ws, st, hl, hw, hc => by
    simp only [List.foldl_cons]
    rw [upd_fix hl (hw e (by simp)) (hc e (by simp))]
    exact round_fix hl (fun x hx => hw x (by simp [hx])) fun x hx => hc x (by simp [hx])

theorem round_mono {nodes : Nat} : ∀ {ws : List W3} {st : List Bool}, cnt st ≤ cnt (ws.foldl upd st)
  | [], _ => Nat.le_refl _
  | e :: ws, st => Nat.le_trans (upd_cnt st e) (round_mono (nodes := nodes) (ws := ws))

theorem round_grow {nodes : Nat} : ∀ {ws : List W3} {st : List Bool}, st.length = nodes → InW nodes ws → Closed ws st ∨ cnt st + 1 ≤ cnt (ws.foldl upd st)
  | [], _, _, _ => .inl fun _ h => by simp at h
  | e :: ws, st, hl, hw => by
    by_cases h : gt st e.1 = gt st e.2.1
    · simp only [List.foldl_cons, upd_fix hl (hw e (by simp)) h]
      rcases round_grow (ws := ws) hl (fun x hx => hw x (by simp [hx])) with hc | hg
      · refine .inl fun x hx => ?_
        rcases List.mem_cons.1 hx with rfl | hx
        · exact h
        · exact hc x hx
      · exact .inr hg
    · refine .inr ?_
      simp only [List.foldl_cons]
      exact Nat.le_trans (upd_grow hl (hw e (by simp)) h) (round_mono (nodes := nodes))

theorem round_len : ∀ {ws : List W3} {st : List Bool}, (ws.foldl upd st).length = st.length
  | [], _ => rfl
  | e :: ws, st => by simp only [List.foldl_cons]; rw [round_len, upd_len]

theorem round_keep {v : Int} : ∀ {ws : List W3} {st : List Bool}, gt st v = true → gt (ws.foldl upd st) v = true
  | [], _, h => h
  | e :: ws, st, h => by simp only [List.foldl_cons]; exact round_keep (upd_mono h)

theorem round_sound {ws0 : List W3} {nodes : Nat} (hw : InW nodes ws0) : ∀ {ws : List W3} {st : List Bool}, (∀ e ∈ ws, e ∈ ws0) → st.length = nodes → (∀ v, 0 ≤ v → gt st v = true → Rc ws0 v) → ∀ v, 0 ≤ v → gt (ws.foldl upd st) v = true → Rc ws0 v
  | [], _, _, _, h => h
  | e :: ws, st, hs, hl, h => by
    simp only [List.foldl_cons]
    exact round_sound hw (fun x hx => hs x (by simp [hx])) ((upd_len st e).trans hl) (upd_sound hl hw (hs e (by simp)) h)

/-- All nodes can be reached. -/
noncomputable def conn (n : TNet) : Bool := open Classical in decide (∀ v : Int, 0 ≤ v → v < n.1 → Rc n.2.2.2 v)

theorem closed_all {ws : List W3} {st : List Bool} (hc : Closed ws st) (h0 : gt st 0 = true) : ∀ v, Rc ws v → gt st v = true := by
  intro v h
  induction h with
  | zero => exact h0
  | ab he _ ih => rw [← hc _ he]; exact ih
  | ba he _ ih => rw [hc _ he]; exact ih

theorem all_true {st : List Bool} {nodes : Nat} (hl : st.length = nodes) : decide (false ∈ st) = false ↔ ∀ v : Int, 0 ≤ v → v < nodes → gt st v = true := by
  constructor
  · intro h v h0 h1
    simp only [decide_eq_false_iff_not] at h
    cases hg : gt st v with
    | true => rfl
    | false => exact absurd (List.mem_of_getElem? (gt_false hg (by omega))) h
  · intro h
    simp only [decide_eq_false_iff_not]
    intro hm
    obtain ⟨i, hi⟩ := List.getElem?_of_mem hm
    have := h (i : Int) (by omega) (by have := get_lt hi; omega)
    simp [gt, hi] at this

end Go.Sx.R
namespace Go.Sx

/-- The rule of loops, with a measure. -/
theorem iter_while {S R : Type} {body : S → (S → Option R) → (S → Option R) → Option R} {ke : S → Option R} (Q : Option R → Prop) (p : S → Prop) (mu : S → Nat)
    (h : ∀ s kc, p s → (∀ s', p s' → mu s' < mu s → Q (kc s')) → Q (body s kc ke)) : ∀ (N : Nat) (s : S), p s → mu s < N → Q (iterK body N s ke)
  | 0, _, _, hN => absurd hN (Nat.not_lt_zero _)
  | N + 1, s, hp, hN => by
    simp only [iterK]
    exact h s _ hp fun s' hp' hlt => iter_while Q p mu h N s' hp' (by omega)

/-- A loop over a list that ends with a fold's state. -/
theorem iter_fold {β σ S R : Type} {body : S → (S → Option R) → (S → Option R) → Option R} (l : List β) (mk : σ → Int → S) (p : Nat → σ → Prop) (g : σ → Nat → β → σ)
    (h : ∀ st (i : Nat) x kc ke, p i st → l[i]? = some x → i < l.length → body (mk st i) kc ke = kc (mk (g st i x) ((i + 1 : Nat) : Int)) ∧ p (i + 1) (g st i x))
    (h2 : ∀ st kc ke, p l.length st → body (mk st l.length) kc ke = ke (mk st l.length)) {N : Nat} (hN : l.length < N) (st : σ) (hp : p 0 st) (ke : S → Option R) :
    iterK body N (mk st 0) ke = ke (mk (foldI g l 0 st) l.length) ∧ p l.length (foldI g l 0 st) := by
  have gen : ∀ (r : List β) (i N : Nat) (st : σ), i + r.length = l.length → l.drop i = r → r.length < N → p i st → iterK body N (mk st i) ke = ke (mk (foldI g r i st) l.length) ∧ p l.length (foldI g r i st) := by
    intro r
    induction r with
    | nil =>
      intro i N st hi hd hN hp
      obtain ⟨m, rfl⟩ : ∃ m, N = m + 1 := ⟨N - 1, by omega⟩
      simp only [iterK, foldI]
      have e : i = l.length := by simpa using hi
      subst e
      exact ⟨h2 _ _ _ hp, hp⟩
    | cons x r ih =>
      intro i N st hi hd hN hp
      obtain ⟨m, rfl⟩ : ∃ m, N = m + 1 := ⟨N - 1, by omega⟩
      simp only [List.length_cons] at hi hN
      have hx : l[i]? = some x := by
        have := congrArg (fun l => l[0]?) hd
        simpa using this
      have q := h st i x (fun s' => iterK body m s' ke) ke hp hx (by omega)
      simp only [iterK, foldI]
      rw [q.1]
      exact ih (i + 1) m _ (by omega) (by rw [← List.drop_drop, hd]; simp) (by omega) q.2
  exact gen l 0 N st (by simp) (by simp) hN hp

/-- A loop over a list: the rule. -/
theorem iter_rule {β σ S R : Type} {body : S → (S → Option R) → (S → Option R) → Option R} {ke : S → Option R} (Q : Option R → Prop) (l : List β) (mk : σ → Int → S) (p : Nat → σ → Prop)
    (h : ∀ st (i : Nat) x kc, p i st → l[i]? = some x → i < l.length → (∀ st', p (i + 1) st' → Q (kc (mk st' ((i + 1 : Nat) : Int)))) → Q (body (mk st i) kc ke))
    (h2 : ∀ st kc, p l.length st → Q (body (mk st l.length) kc ke)) {N : Nat} (hN : l.length < N) (st : σ) (hp : p 0 st) : Q (iterK body N (mk st 0) ke) := by
  have gen : ∀ (d i N : Nat) (st : σ), i + d = l.length → d < N → p i st → Q (iterK body N (mk st i) ke) := by
    intro d
    induction d with
    | zero =>
      intro i N st hi hN hp
      obtain ⟨m, rfl⟩ : ∃ m, N = m + 1 := ⟨N - 1, by omega⟩
      have e : i = l.length := by omega
      subst e
      exact h2 _ _ hp
    | succ d ih =>
      intro i N st hi hN hp
      obtain ⟨m, rfl⟩ : ∃ m, N = m + 1 := ⟨N - 1, by omega⟩
      have hlt : i < l.length := by omega
      exact h st i l[i] _ hp (List.getElem?_eq_getElem hlt) hlt fun st' hp' => ih (i + 1) m st' (by omega) (by omega) hp'
  exact gen l.length 0 N st (by omega) hN hp

end Go.Sx
namespace Go.Sx.R
open Go Go.Sx

theorem getI_gt {st : List Bool} {v : Int} (h0 : 0 ≤ v) (h1 : v < st.length) : getI st v = some (gt st v) := by
  have e : v = ((v.toNat : Nat) : Int) := by omega
  have hl : v.toNat < st.length := by omega
  rw [e, getI_nat, gt, Int.toNat_natCast, List.getElem?_eq_getElem hl]; rfl

def met4 (st : List Bool) (_ : Nat) (x : W3) (k : List Bool → Option Bool) : Option Bool :=
  Option.bind (getI st x.1) fun b => cond b (Option.bind (getI st x.1) fun _ => Option.bind (getI (st.set x.1.toNat true) x.2.1) fun _ => k ((st.set x.1.toNat true).set x.2.1.toNat true))
    (Option.bind (getI st x.2.1) fun b2 => cond b2 (Option.bind (getI st x.1) fun _ => Option.bind (getI (st.set x.1.toNat true) x.2.1) fun _ => k ((st.set x.1.toNat true).set x.2.1.toNat true)) (k st))

theorem met4_upd {st : List Bool} {j : Nat} {x : W3} {k : List Bool → Option Bool} (hi : 0 ≤ x.1 ∧ x.1 < x.2.1 ∧ x.2.1 < st.length) : met4 st j x k = k (upd st x) := by
  have g1 := getI_gt (st := st) (v := x.1) (by omega) (by omega)
  have g2 := getI_gt (st := st) (v := x.2.1) (by omega) (by omega)
  have g3 := getI_gt (st := st.set x.1.toNat true) (v := x.2.1) (by omega) (by simp; omega)
  simp only [met4, g1, g2, g3, Option.bind_some, upd]
  cases h1 : gt st x.1 <;> cases h2 : gt st x.2.1 <;> simp

theorem met_inner (n : TNet) (hn : Sm.sm B1 n) (i : Int) (st : List Bool) (hl : InW st.length n.2.2.2) (k : _ → Option Bool) :
    iterK (r_impl_NetOk_L4 e_slices_Contains_bool e_impl_byEnds N0) N0 (n, st, n.1, i, n.2.2.2, (n.2.2.2.length : Int), 0, ()) k =
      k (n, n.2.2.2.foldl upd st, n.1, i, n.2.2.2, (n.2.2.2.length : Int), (n.2.2.2.length : Int), ()) := by
  have hw : Sm.sm B1 n.2.2.2 := hn.2.2.2
  rw [iter_range (R := Bool) n.2.2.2 (fun (st : List Bool) j => (n, st, n.1, i, n.2.2.2, (n.2.2.2.length : Int), j, ())) met4 ?_ ?_ (len_lt hw N0_gt)]
  · have := (rangeK_foldP (step := met4) (fun _ s => s.length = st.length) (fun s _ x => upd s x) (fun st' => k (n, st', n.1, i, n.2.2.2, (n.2.2.2.length : Int), (n.2.2.2.length : Int), ())) n.2.2.2 0 st rfl
      (fun s j x k hs hx => ⟨met4_upd (by rw [hs]; exact hl x (List.mem_of_getElem? hx)), by rw [upd_len, hs]⟩)).1
    rw [this]
    have key : ∀ (l : List W3) (i : Nat) (s : List Bool), foldI (fun s _ x => upd s x) l i s = l.foldl upd s := by
      intro l
      induction l with
      | nil => intros; rfl
      | cons x l ih => intro i s; simp only [foldI, List.foldl_cons, ih]
    rw [key]
  · intro st j x kc ke hx hj
    simp only [r_impl_NetOk_L4, lt_len, hj, decide_true, cond_true, getI_nat, hx, Option.bind_some, wr_len hj hw, met4]
  · intro st kc ke
    simp only [r_impl_NetOk_L4, not_lt_self, cond_false]

/-- The marks at the end. -/
theorem met_outer (n : TNet) (hn : Sm.sm B1 n) (m : Nat) (hm : n.1 = m) (h1 : 1 ≤ m) (hw : InW m n.2.2.2) (st : List Bool) (hl : st.length = m) (hs : ∀ v, 0 ≤ v → gt st v = true → Rc n.2.2.2 v) (h0 : gt st 0 = true) (hc : 1 ≤ cnt st) (k : _ → Option Bool) :
    ∃ st', st'.length = m ∧ Closed n.2.2.2 st' ∧ (∀ v, 0 ≤ v → gt st' v = true → Rc n.2.2.2 v) ∧ gt st' 0 = true ∧
      iterK (r_impl_NetOk_L2 e_slices_Contains_bool e_impl_byEnds N0) N0 (n, st, n.1, 0, ()) k = k (n, st', n.1, n.1, ()) := by
  have hb : m ≤ 9223372036854775807 := by have := hn.1.2; omega
  have hlen : (List.range m).length = m := by simp
  have hnm : n.1 = ((List.range m).length : Int) := by simp [hm]
  have fp := iter_fold (R := Bool) (body := r_impl_NetOk_L2 e_slices_Contains_bool e_impl_byEnds N0) (List.range m) (fun (st : List Bool) i => (n, st, n.1, i, ()))
    (fun i st => st.length = m ∧ (∀ v, 0 ≤ v → gt st v = true → Rc n.2.2.2 v) ∧ gt st 0 = true ∧ (Closed n.2.2.2 st ∨ i + 1 ≤ cnt st)) (fun st _ _ => n.2.2.2.foldl upd st)
    (fun st j x kc ke ⟨p1, p2, p3, p4⟩ hx hj => by
      refine ⟨?_, round_len.trans p1, round_sound hw (fun e he => he) p1 p2, round_keep p3, ?_⟩
      · have hlt : decide ((j : Int) < n.1) = true := by rw [decide_eq_true_eq, hnm]; exact Int.ofNat_lt.2 hj
        simp only [r_impl_NetOk_L2, hlt, cond_true]
        rw [met_inner n hn _ st (by rw [p1]; exact hw)]
        rw [wr_succ hj (by omega)]
      · rcases p4 with p4 | p4
        · left; rw [round_fix p1 hw p4]; exact p4
        · rcases round_grow p1 hw with q | q
          · left; rw [round_fix p1 hw q]; exact q
          · right; omega)
    (fun st kc ke _ => by
      have hlt : decide ((((List.range m).length : Nat) : Int) < n.1) = false := by rw [decide_eq_false_iff_not, hnm]; omega
      simp only [r_impl_NetOk_L2, hlt, cond_false]) (N := N0) (by have := N0_big; omega) st ⟨hl, hs, h0, .inr hc⟩ k
  refine ⟨foldI (fun st _ _ => n.2.2.2.foldl upd st) (List.range m) 0 st, fp.2.1, ?_, fp.2.2.1, fp.2.2.2.1, ?_⟩
  · rcases fp.2.2.2.2 with q | q
    · exact q
    · have := cnt_le (foldI (fun st _ _ => n.2.2.2.foldl upd st) (List.range m) 0 st)
      rw [fp.2.1] at this
      simp only [hlen] at q; omega
  · rw [fp.1, hlen, hm]

theorem wiresOk {n : TNet} {m : Nat} (hm : n.1 = m) (h : wiresBad n = false) : InW m n.2.2.2 := by
  intro e he
  obtain ⟨i, hi⟩ := List.getElem?_of_mem he
  simp only [wiresBad, List.any_eq_false] at h
  have := h (e, i) (by rw [List.mem_zipIdx_iff_getElem?]; exact hi)
  simp only [badW, Bool.not_eq_true, Bool.or_eq_false_iff, Bool.not_eq_false', Bool.and_eq_true, decide_eq_true_eq] at this
  omega

noncomputable def netok (n : TNet) : Bool := hdrOk n && !wiresBad n && conn n

theorem p_NetOk (n : TNet) (hn : Sm.sm B1 n) : e_impl_NetOk (n, ()) = some (netok n) := by
  simp only [e_impl_NetOk, r_impl_NetOk, netL0_impl n hn]
  by_cases hh : hdrOk n = true
  · have hh' := hh
    simp only [hdrOk, Bool.and_eq_true, decide_eq_true_eq] at hh'
    obtain ⟨⟨⟨⟨⟨q1, q2⟩, q3⟩, q4⟩, q5⟩, q6⟩ := hh'
    have d1 : decide (n.1 < 1) = false := by rw [decide_eq_false_iff_not]; omega
    have d2 : decide (n.1 > 5) = false := by rw [decide_eq_false_iff_not]; omega
    have d3 : decide (n.2.1 < 1) = false := by rw [decide_eq_false_iff_not]; omega
    have d4 : decide (n.2.1 > n.1) = false := by rw [decide_eq_false_iff_not]; omega
    have d5 : decide (n.2.2.1 < 1) = false := by rw [decide_eq_false_iff_not]; omega
    have d6 : decide (n.2.2.1 > 1000) = false := by rw [decide_eq_false_iff_not]; omega
    simp only [d1, d2, d3, d4, d5, d6, cond_false]
    cases hb : wiresBad n with
    | true => simp [netok, hh, hb]
    | false =>
      simp only [cond_false]
      obtain ⟨m, hm⟩ : ∃ m : Nat, n.1 = m := ⟨n.1.toNat, by omega⟩
      have hw := wiresOk hm hb
      have d7 : decide (0 ≤ n.1) = true := by rw [decide_eq_true_eq]; omega
      have hm' : n.1.toNat = m := by omega
      simp only [d7, cond_true, hm', ble_true (show m ≤ 17179869184 by omega)]
      have g0 : getI (List.replicate m false) 0 = some false := by
        rw [getI_zero, List.getElem?_replicate, if_pos (by omega)]
      simp only [g0, Option.bind_some, Int.toNat_zero]
      obtain ⟨st', p1, p2, p3, p4, p5⟩ := met_outer n hn m hm (by omega) hw ((List.replicate m false).set 0 true) (by simp)
        (fun v hv hg => by
          rw [gt_set] at hg
          have hz : gt (List.replicate m false) v = false := by
            simp only [gt, List.getElem?_replicate]; split <;> rfl
          rw [hz] at hg
          simp at hg
          have : v = 0 := by omega
          subst this; exact .zero)
        (by rw [gt_set]; simp; omega)
        (by have := (cnt_set (List.replicate m false) 0).2 (by rw [List.getElem?_replicate, if_pos (by omega)]); omega)
        (fun s3 => Option.bind (e_slices_Contains_bool (s3.2.1, false, ())) fun x4 => some (!x4))
      rw [p5]
      simp only [p_ContainsB st' false (show st'.length ≤ BB by rw [p1]; exact Nat.le_trans (show m ≤ 5 by omega) (by decide)), Option.bind_some, netok, hh, hb, Bool.not_false, Bool.true_and, Option.some.injEq]
      have hall := all_true p1
      by_cases hc : ∀ v : Int, 0 ≤ v → v < n.1 → Rc n.2.2.2 v
      · have e1 : conn n = true := by simp only [conn, decide_eq_true_eq]; exact hc
        rw [e1, hall.2 fun v h0 h1 => closed_all p2 p4 v (hc v h0 (by omega))]; rfl
      · have e1 : conn n = false := by simp only [conn, decide_eq_false_iff_not]; exact hc
        have : decide (false ∈ st') = true := by
          cases hd : decide (false ∈ st') with
          | true => rfl
          | false => exact absurd (fun v h0 h1 => p3 v h0 (hall.1 hd v h0 (by omega))) hc
        rw [e1, this]; rfl
  · simp only [Bool.not_eq_true] at hh
    have e : netok n = false := by simp [netok, hh]
    rw [e]
    have hh' := hh
    simp only [hdrOk, Bool.and_eq_false_iff, decide_eq_false_iff_not] at hh'
    by_cases d1 : n.1 < 1
    · simp [d1]
    by_cases d2 : n.1 > 5
    · simp [d1, d2]
    by_cases d3 : n.2.1 < 1
    · simp [d1, d2, d3]
    by_cases d4 : n.2.1 > n.1
    · simp [d1, d2, d3, d4]
    by_cases d5 : n.2.2.1 < 1
    · simp [d1, d2, d3, d4, d5]
    by_cases d6 : n.2.2.1 > 1000
    · simp [d1, d2, d3, d4, d5, d6]
    omega

end Go.Sx.R
namespace Go.Sx.R
open Go Go.Sx

def addIf (c : Bool) (v : Int) (q : List Int) : List Int := if c = true ∧ v ∉ q then q ++ [v] else q

theorem addIf_mem {c : Bool} {v u : Int} {q : List Int} (h : u ∈ q) : u ∈ addIf c v q := by
  unfold addIf; split
  · simp [h]
  · exact h
theorem addIf_in {v : Int} {q : List Int} : v ∈ addIf true v q := by
  unfold addIf; split
  · simp
  · rename_i h; simpa using h
theorem addIf_get {c : Bool} {v u : Int} {q : List Int} {i : Nat} (h : q[i]? = some u) : (addIf c v q)[i]? = some u := by
  unfold addIf; split
  · rw [List.getElem?_append_left (get_lt h)]; exact h
  · exact h
theorem addIf_len {c : Bool} {v : Int} {q : List Int} : q.length ≤ (addIf c v q).length := by
  unfold addIf; split <;> simp

/-- What holds of the queue. -/
structure QOk (ws : List W3) (q : List Int) : Prop where
  nodup : q.Nodup
  rc : ∀ v ∈ q, Rc ws v
  zero : (0 : Int) ∈ q

theorem QOk.add {ws : List W3} {q : List Int} (h : QOk ws q) {c : Bool} {v : Int} (hv : c = true → Rc ws v) : QOk ws (addIf c v q) := by
  unfold addIf; split
  · rename_i hc
    refine ⟨?_, fun u hu => ?_, by simp [h.zero]⟩
    · rw [List.nodup_append]
      refine ⟨h.nodup, by simp, fun a ha b hb e => ?_⟩
      simp at hb; subst hb; subst e; exact hc.2 ha
    · rcases List.mem_append.1 hu with hu | hu
      · exact h.rc u hu
      · simp at hu; subst hu; exact hv hc.1
  · exact h

theorem QOk.len {ws : List W3} {q : List Int} {m : Nat} (h : QOk ws q) (h0 : 0 < m) (hw : InW m ws) : q.length ≤ m := by
  have := nodup_len (m := ints m) h.nodup fun v hv => mem_ints.2 ((h.rc v hv).inn h0 hw)
  rwa [len_ints] at this

def Done (ws : List W3) (v : Int) (q : List Int) : Prop := ∀ e ∈ ws, (e.1 = v → e.2.1 ∈ q) ∧ (e.2.1 = v → e.1 ∈ q)

def reachG (x : Int) (q : List Int) (_ : Nat) (e : W3) : List Int := addIf (decide (e.2.1 = x)) e.1 (addIf (decide (e.1 = x)) e.2.1 q)

theorem addT {v : Int} {q : List Int} (h : v ∉ q) : addIf true v q = q ++ [v] := by simp [addIf, h]
theorem addN {c : Bool} {v : Int} {q : List Int} (h : v ∈ q) : addIf c v q = q := by simp [addIf, h]
theorem addF {v : Int} {q : List Int} : addIf false v q = q := by simp [addIf]

theorem reach_step (ws : List W3) (hws : Sm.sm B1 ws) (m : Nat) (h0 : 0 < m) (h5 : m ≤ 5) (hw : InW m ws) (i : Nat) (x : Int) (q : List Int) (hq : QOk ws q) (hx : q[i]? = some x) (j : Nat) (e : W3) (he : ws[j]? = some e) (hj : j < ws.length) (kc ke : _ → Option (List Int)) :
    r_spec_l03Reach_L2 e_spec_l03Has N0 (ws, q, (i : Int), ws, (ws.length : Int), (j : Int), ()) kc ke = kc (ws, reachG x q j e, (i : Int), ws, (ws.length : Int), ((j + 1 : Nat) : Int), ()) := by
  have hxq : x ∈ q := List.mem_of_getElem? hx
  have hl := hq.len h0 hw
  have hbb : ∀ k : Nat, k ≤ 7 → k ≤ BB := fun k hk => Nat.le_trans hk (by decide)
  simp only [r_spec_l03Reach_L2, lt_len, hj, decide_true, cond_true, getI_nat, he, hx, Option.bind_some, wr_len hj hws]
  rw [p_Has q e.2.1 (hbb _ (by omega)), p_Has q e.1 (hbb _ (by omega))]
  have hx2 : ∀ v : Int, (q ++ [v])[i]? = some x := fun v => by rw [List.getElem?_append_left (get_lt hx)]; exact hx
  have room : Nat.ble (q.length + 1) 17179869184 = true := ble_true (by omega)
  have room2 : Nat.ble (q.length + 1 + 1) 17179869184 = true := ble_true (by omega)
  rw [p_Has (q ++ [e.2.1]) e.1 (hbb _ (by simp; omega))]
  simp only [List.length_cons, List.length_nil, List.length_append, Nat.zero_add, room, room2, hx2, Option.bind_some, cond_true, reachG]
  by_cases a1 : e.1 = x
  · rw [a1]
    simp only [decide_true, cond_true]
    by_cases a2 : e.2.1 ∈ q
    · simp only [a2, decide_true, Bool.not_true, cond_false, addN a2]
      by_cases a3 : e.2.1 = x
      · simp only [a3, decide_true, cond_true, hxq, Bool.not_true, cond_false, addN hxq]
      · simp only [a3, decide_false, cond_false, addF]
    · simp only [a2, decide_false, Bool.not_false, cond_true, addT a2]
      by_cases a3 : e.2.1 = x
      · exact absurd (a3 ▸ hxq) a2
      · simp only [a3, decide_false, cond_false, addF]
  · simp only [a1, decide_false, cond_false, addF]
    by_cases a3 : e.2.1 = x
    · simp only [a3, decide_true, cond_true]
      by_cases a4 : e.1 ∈ q
      · simp only [a4, decide_true, Bool.not_true, cond_false, addN a4]
      · simp only [a4, decide_false, Bool.not_false, cond_true, addT a4]
    · simp only [a3, decide_false, cond_false, addF]

theorem reach_inner (ws : List W3) (hws : Sm.sm B1 ws) (m : Nat) (h0 : 0 < m) (h5 : m ≤ 5) (hw : InW m ws) (i : Nat) (x : Int) (q : List Int) (hq : QOk ws q) (hx : q[i]? = some x) (ke : _ → Option (List Int)) :
    ∃ q', iterK (r_spec_l03Reach_L2 e_spec_l03Has N0) N0 (ws, q, (i : Int), ws, (ws.length : Int), 0, ()) ke = ke (ws, q', (i : Int), ws, (ws.length : Int), (ws.length : Int), ()) ∧
      QOk ws q' ∧ q'[i]? = some x ∧ (∀ u ∈ q, u ∈ q') ∧ q.length ≤ q'.length ∧ Done ws x q' ∧ ∀ (j : Nat) (u : Int), q[j]? = some u → q'[j]? = some u := by
  have hxr : Rc ws x := hq.rc x (List.mem_of_getElem? hx)
  have := iter_fold (R := List Int) (body := r_spec_l03Reach_L2 e_spec_l03Has N0) ws (fun (q : List Int) j => (ws, q, (i : Int), ws, (ws.length : Int), j, ()))
    (fun j q' => QOk ws q' ∧ q'[i]? = some x ∧ (∀ u ∈ q, u ∈ q') ∧ q.length ≤ q'.length ∧ (∀ (k : Nat) (e : W3), k < j → ws[k]? = some e → (e.1 = x → e.2.1 ∈ q') ∧ (e.2.1 = x → e.1 ∈ q')) ∧ ∀ (k : Nat) (u : Int), q[k]? = some u → q'[k]? = some u) (reachG x)
    (fun q' j e kc ke ⟨p1, p2, p3, p4, p5, p6⟩ he hj => by
      refine ⟨reach_step ws hws m h0 h5 hw i x q' p1 p2 j e he hj kc ke, ?_, ?_, ?_, ?_, ?_, ?_⟩
      · have hem := List.mem_of_getElem? he
        refine (p1.add fun hc => ?_).add fun hc => ?_
        · have : e.1 = x := by simpa using hc
          exact .ab hem (this ▸ hxr)
        · have : e.2.1 = x := by simpa using hc
          exact .ba hem (this ▸ hxr)
      · exact addIf_get (addIf_get p2)
      · exact fun u hu => addIf_mem (addIf_mem (p3 u hu))
      · exact Nat.le_trans p4 (Nat.le_trans addIf_len addIf_len)
      · intro k e' hk hek
        by_cases ek : k = j
        · subst ek
          rw [he] at hek; simp only [Option.some.injEq] at hek; subst hek
          refine ⟨fun h1 => ?_, fun h2 => ?_⟩
          · refine addIf_mem ?_
            rw [decide_eq_true h1]; exact addIf_in
          · simp only [reachG]
            rw [decide_eq_true h2]; exact addIf_in
        · have := p5 k e' (by omega) hek
          exact ⟨fun h => addIf_mem (addIf_mem (this.1 h)), fun h => addIf_mem (addIf_mem (this.2 h))⟩
      · exact fun k u hk => addIf_get (addIf_get (p6 k u hk)))
    (fun q' kc ke _ => by simp only [r_spec_l03Reach_L2, not_lt_self, cond_false]) (N := N0) (len_lt hws N0_gt) q ⟨hq, hx, fun _ h => h, Nat.le_refl _, by simp, fun _ _ h => h⟩ ke
  obtain ⟨e1, p1, p2, p3, p4, p5, p6⟩ := this
  refine ⟨_, e1, p1, p2, p3, p4, fun e he => ?_, p6⟩
  obtain ⟨k, hk⟩ := List.getElem?_of_mem he
  exact p5 k e (get_lt hk) hk

theorem p_Reach (ws : List W3) (hws : Sm.sm B1 ws) (m : Nat) (h0 : 0 < m) (h5 : m ≤ 5) (hw : InW m ws) :
    ∃ q, e_spec_l03Reach (ws, 0, ()) = some q ∧ QOk ws q ∧ ∀ v ∈ q, Done ws v q := by
  simp only [e_spec_l03Reach, r_spec_l03Reach]
  refine iter_while (fun o => ∃ q, o = some q ∧ QOk ws q ∧ ∀ v ∈ q, Done ws v q)
    (fun s : List W3 × List Int × Int × Unit => s.1 = ws ∧ QOk ws s.2.1 ∧ ∃ i : Nat, s.2.2.1 = i ∧ i ≤ s.2.1.length ∧ ∀ (j : Nat) (u : Int), j < i → s.2.1[j]? = some u → Done ws u s.2.1) (fun s => m - s.2.2.1.toNat) ?_ N0 _ ⟨rfl, ⟨by simp, fun v hv => ?_, by simp⟩, 0, rfl, by simp, by simp⟩ (by have := N0_big; simp only [Int.toNat_zero]; omega)
  · rintro ⟨ws', q, at', u⟩ kc ⟨rfl, hq, i, rfl, hi, hd⟩ hk
    simp only [r_spec_l03Reach_L0]
    simp only at hq hi hd
    by_cases hlt : i < q.length
    · simp only [lt_len, hlt, decide_true, cond_true]
      have hx : q[i]? = some q[i] := List.getElem?_eq_getElem hlt
      obtain ⟨q', e1, p1, p2, p3, p4, p5, p6⟩ := reach_inner ws' hws m h0 h5 hw i q[i] q hq hx (fun s1 => kc (s1.1, s1.2.1, wr (s1.2.2.1 + 1), ()))
      rw [e1]
      have hl := hq.len h0 hw
      simp only [wr_succ hlt (by omega)]
      refine hk _ ⟨rfl, p1, i + 1, rfl, by simp only; omega, fun j u hj hu => ?_⟩ (by simp only [Int.toNat_natCast]; omega)
      simp only at hu ⊢
      by_cases ej : j = i
      · subst ej; rw [p2] at hu; simp only [Option.some.injEq] at hu; rw [← hu]; exact p5
      · have hj' : j < q.length := by omega
        have h1 : q[j]? = some q[j] := List.getElem?_eq_getElem hj'
        have h2 := p6 j _ h1
        rw [hu] at h2; simp only [Option.some.injEq] at h2; subst h2
        intro e he
        exact ⟨fun h => p3 _ ((hd j _ (by omega) h1 e he).1 h), fun h => p3 _ ((hd j _ (by omega) h1 e he).2 h)⟩
    · have hd' : decide ((i : Int) < (q.length : Int)) = false := by simp; omega
      simp only [hd', cond_false]
      refine ⟨q, rfl, hq, fun v hv => ?_⟩
      obtain ⟨j, hj⟩ := List.getElem?_of_mem hv
      exact hd j v (by have := get_lt hj; omega) hj
  · simp at hv; subst hv; exact .zero

theorem reach_all {ws : List W3} {q : List Int} (hq : QOk ws q) (hd : ∀ v ∈ q, Done ws v q) : ∀ v, Rc ws v → v ∈ q := by
  intro v h
  induction h with
  | zero => exact hq.zero
  | ab he _ ih => exact (hd _ ih _ he).1 rfl
  | ba he _ ih => exact (hd _ ih _ he).2 rfl

theorem s_NetOk (n : TNet) (hn : Sm.sm B1 n) : e_spec_NetOk (n, ()) = some (netok n) := by
  simp only [e_spec_NetOk, r_spec_NetOk, p_l01In, n_l01In, Option.bind_some]
  by_cases hh : hdrOk n = true
  · have hh' := hh
    simp only [hdrOk, Bool.and_eq_true, decide_eq_true_eq] at hh'
    obtain ⟨⟨⟨⟨⟨q1, q2⟩, q3⟩, q4⟩, q5⟩, q6⟩ := hh'
    simp only [q1, q2, q3, q4, q5, q6, decide_true, Bool.and_self, Bool.not_true, cond_false]
    rw [netL0_spec n hn _ q1 q2]
    cases hb : wiresBad n with
    | true => simp [netok, hh, hb]
    | false =>
      simp only [cond_false]
      obtain ⟨m, hm⟩ : ∃ m : Nat, n.1 = m := ⟨n.1.toNat, by omega⟩
      have hw := wiresOk hm hb
      obtain ⟨q, e1, hq, hd⟩ := p_Reach n.2.2.2 hn.2.2.2 m (by omega) (by omega) hw
      rw [e1]
      simp only [Option.bind_some, netok, hh, hb, Bool.not_false, Bool.true_and, Option.some.injEq]
      have hl := hq.len (by omega) hw
      by_cases hc : ∀ v : Int, 0 ≤ v → v < n.1 → Rc n.2.2.2 v
      · have e2 : conn n = true := by simp only [conn, decide_eq_true_eq]; exact hc
        rw [e2, decide_eq_true_eq]
        have := nodup_len (l := ints m) (m := q) nodup_ints fun v hv => reach_all hq hd v (hc v (mem_ints.1 hv).1 (by have := (mem_ints.1 hv).2; omega))
        rw [len_ints] at this; omega
      · have e2 : conn n = false := by simp only [conn, decide_eq_false_iff_not]; exact hc
        rw [e2, decide_eq_false_iff_not]
        intro hlen
        have hall := nodup_all (m := ints m) hq.nodup (fun v hv => mem_ints.2 ((hq.rc v hv).inn (by omega) hw)) (by rw [len_ints]; omega)
        exact hc fun v h0 h1 => hq.rc v (hall v (mem_ints.2 ⟨h0, by omega⟩))
  · simp only [Bool.not_eq_true] at hh
    have e : netok n = false := by simp [netok, hh]
    rw [e]
    have hh' := hh
    simp only [hdrOk, Bool.and_eq_false_iff, decide_eq_false_iff_not] at hh'
    by_cases d1 : 1 ≤ n.1 ∧ n.1 ≤ 5
    · by_cases d3 : 1 ≤ n.2.1 ∧ n.2.1 ≤ n.1
      · have d5 : (decide (1 ≤ n.2.2.1) && decide (n.2.2.1 ≤ 1000)) = false := by simp only [Bool.and_eq_false_iff, decide_eq_false_iff_not]; omega
        simp [d1, d3, d5]
      · have d3' : (decide (1 ≤ n.2.1) && decide (n.2.1 ≤ n.1)) = false := by simp only [Bool.and_eq_false_iff, decide_eq_false_iff_not]; omega
        simp [d1, d3']
    · have d1' : (decide (1 ≤ n.1) && decide (n.1 ≤ 5)) = false := by simp only [Bool.and_eq_false_iff, decide_eq_false_iff_not]; omega
      simp [d1']
end Go.Sx.R
namespace Go.Sx.R
open Go Go.Sx

theorem range_get {m i x : Nat} (h : (List.range m)[i]? = some x) : x = i ∧ i < m := by
  have := get_lt h
  simp at this
  rw [List.getElem?_range this] at h
  simp at h; exact ⟨h.symm, this⟩

/-- What a good network is. -/
theorem netok_facts {n : TNet} (h : netok n = true) : ∃ m : Nat, n.1 = m ∧ 1 ≤ m ∧ m ≤ 5 ∧ InW m n.2.2.2 ∧ 1 ≤ n.2.1 ∧ n.2.1 ≤ m := by
  have hh : hdrOk n = true := by revert h; simp only [netok]; cases hdrOk n <;> simp
  have hb : wiresBad n = false := by revert h; simp only [netok]; cases wiresBad n <;> simp
  simp only [hdrOk, Bool.and_eq_true, decide_eq_true_eq] at hh
  obtain ⟨m, hm⟩ : ∃ m : Nat, n.1 = m := ⟨n.1.toNat, by omega⟩
  exact ⟨m, hm, by omega, by omega, wiresOk hm hb, by omega, by omega⟩

end Go.Sx.R
namespace Go.Sx.R
open Go Go.Sx

theorem getI_ok {β : Type} {l : List β} {n i : Nat} (h : l.length = n) (hi : i < n) : ∃ y, getI l (i : Int) = some y := getI_has h hi

theorem mh_IntS (x : List Int) (k : Int) (hx : Sm.sm B1 x) (h0 : 0 ≤ k) (h1 : k ≤ 1099511627776) : ∃ x' k', e_laws_markIntS x (k, ()) = some (x', k') ∧ e_laws_heldIntS (x', k, ()) = some k' ∧ k ≤ k' ∧ k' ≤ k + x.length ∧ x'.length = x.length := by
  have hlen : x.length ≤ 1073741824 := hx.1
  have m := iter_fold (R := List Int × Int) (body := r_laws_markIntS_L0 N0) x (fun (st : List Int × Int) i => (st.1, st.2, i, ()))
    (fun i st => st.2 = k + i ∧ st.1.length = x.length ∧ ∀ (j : Nat), j < i → st.1[j]? = some (k + j)) (fun st i _ => (st.1.set i st.2, st.2 + 1))
    (fun st i y kc ke ⟨p1, p2, p3⟩ hy hi => by
      refine ⟨?_, ?_, by simpa using p2, fun j hj => ?_⟩
      · obtain ⟨z, hz⟩ := getI_ok p2 hi
        have hlt : decide ((i : Int) < (st.1.length : Int)) = true := by rw [decide_eq_true_eq, p2]; exact Int.ofNat_lt.2 hi
        simp only [r_laws_markIntS_L0, hlt, cond_true, hz, Option.bind_some, Int.toNat_natCast]
        rw [wr_id (x := st.2 + 1) (by omega) (by omega), wr_len hi hx]
      · simp only; omega
      · simp only
        rw [List.getElem?_set]
        by_cases e : i = j
        · subst e; rw [if_pos rfl, if_pos (by omega), p1]
        · rw [if_neg e]; exact p3 j (by omega))
    (fun st kc ke ⟨p1, p2, p3⟩ => by
      have hlt : decide ((x.length : Int) < (st.1.length : Int)) = false := by rw [decide_eq_false_iff_not, p2]; omega
      simp only [r_laws_markIntS_L0, hlt, cond_false]) (N := N0) (len_lt hx N0_gt) (x, k) ⟨by simp, rfl, by simp⟩ (fun s1 => some (s1.1, s1.2.1))
  obtain ⟨e1, p1, p2, p3⟩ := m
  generalize (foldI (fun (st : List Int × Int) (i : Nat) (_ : Int) => (st.1.set i st.2, st.2 + 1)) x 0 (x, k)) = st at e1 p1 p2 p3
  refine ⟨st.1, st.2, e1, ?_, by omega, by omega, p2⟩
  have hh := iter_fold (R := Int) (body := r_laws_heldIntS_L0 N0) st.1 (fun (c : Int) i => (st.1, c, i, ())) (fun i c => c = k + i) (fun c _ _ => c + 1)
    (fun c i y kc ke pc hy hi => by
      have h2 := p3 i (by omega)
      rw [hy] at h2; simp only [Option.some.injEq] at h2
      refine ⟨?_, by omega⟩
      simp only [r_laws_heldIntS_L0, lt_len, hi, decide_true, cond_true, getI_nat, hy, Option.bind_some]
      have d : decide (y = c) = true := by rw [decide_eq_true_eq]; omega
      rw [d]
      simp only [Bool.not_true, cond_false]
      rw [wr_id (x := c + 1) (by omega) (by omega), wr_succ hi (by omega)])
    (fun c kc ke _ => by simp only [r_laws_heldIntS_L0, not_lt_self, cond_false]) (N := N0) (by have := N0_big; omega) k (by simp) (fun s1 => some s1.2.1)
  simp only [e_laws_heldIntS, r_laws_heldIntS]
  rw [hh.1, hh.2, p1, p2]

theorem mh_WireS (x : List W3) (k : Int) (hx : Sm.sm B1 x) (h0 : 0 ≤ k) (h1 : k ≤ 1099511627776) : ∃ x' k', e_laws_markWireS x (k, ()) = some (x', k') ∧ e_laws_heldWireS (x', k, ()) = some k' ∧ k ≤ k' ∧ k' ≤ k + 3 * x.length ∧ x'.length = x.length := by
  have hlen : x.length ≤ 1073741824 := hx.1
  have m := iter_fold (R := List W3 × Int) (body := r_laws_markWireS_L0 N0) x (fun (st : List W3 × Int) i => (st.1, st.2, i, ()))
    (fun i st => st.2 = k + 3 * i ∧ st.1.length = x.length ∧ ∀ (j : Nat), j < i → st.1[j]? = some (k + 3 * j, k + 3 * j + 1, k + 3 * j + 2)) (fun st i _ => (st.1.set i (st.2, st.2 + 1, st.2 + 2), st.2 + 3))
    (fun st i y kc ke ⟨p1, p2, p3⟩ hy hi => by
      refine ⟨?_, ?_, by simpa using p2, fun j hj => ?_⟩
      · have hlt : decide ((i : Int) < (st.1.length : Int)) = true := by rw [decide_eq_true_eq, p2]; exact Int.ofNat_lt.2 hi
        have g1 : st.1[i]? = some (st.1[i]'(by omega)) := List.getElem?_eq_getElem _
        have w1 : wr (st.2 + 1) = st.2 + 1 := wr_id (by omega) (by omega)
        have w2 : wr (st.2 + 1 + 1) = st.2 + 1 + 1 := wr_id (by omega) (by omega)
        have w3 : wr (st.2 + 1 + 1 + 1) = st.2 + 1 + 1 + 1 := wr_id (by omega) (by omega)
        have e1 : st.2 + 1 + 1 = st.2 + 2 := by omega
        have e2 : st.2 + 2 + 1 = st.2 + 3 := by omega
        have hl : i < st.1.length := by omega
        have w2' : wr (st.2 + 2) = st.2 + 2 := wr_id (by omega) (by omega)
        have w3' : wr (st.2 + 3) = st.2 + 3 := wr_id (by omega) (by omega)
        simp only [r_laws_markWireS_L0, hlt, cond_true, getI_nat, g1, Option.bind_some, Int.toNat_natCast, w1, w2, w3, w2', w3', List.getElem?_set_self, List.length_set, hl, List.set_set, wr_len hi hx, e1, e2]
      · simp only; omega
      · simp only
        rw [List.getElem?_set]
        by_cases e : i = j
        · subst e; rw [if_pos rfl, if_pos (by omega), p1]
        · rw [if_neg e]; exact p3 j (by omega))
    (fun st kc ke ⟨p1, p2, p3⟩ => by
      have hlt : decide ((x.length : Int) < (st.1.length : Int)) = false := by rw [decide_eq_false_iff_not, p2]; omega
      simp only [r_laws_markWireS_L0, hlt, cond_false]) (N := N0) (len_lt hx N0_gt) (x, k) ⟨by simp, rfl, by simp⟩ (fun s1 => some (s1.1, s1.2.1))
  obtain ⟨e1, p1, p2, p3⟩ := m
  generalize (foldI (fun (st : List W3 × Int) (i : Nat) (_ : W3) => (st.1.set i (st.2, st.2 + 1, st.2 + 2), st.2 + 3)) x 0 (x, k)) = st at e1 p1 p2 p3
  refine ⟨st.1, st.2, e1, ?_, by omega, by omega, p2⟩
  have hh := iter_fold (R := Int) (body := r_laws_heldWireS_L0 N0) st.1 (fun (c : Int) i => (st.1, c, i, ())) (fun i c => c = k + 3 * i) (fun c _ _ => c + 3)
    (fun c i y kc ke pc hy hi => by
      have h2 := p3 i (by omega)
      rw [hy] at h2; simp only [Option.some.injEq] at h2
      refine ⟨?_, by omega⟩
      have w1 : wr (c + 1) = c + 1 := wr_id (by omega) (by omega)
      have w2 : wr (c + 1 + 1) = c + 1 + 1 := wr_id (by omega) (by omega)
      have w3 : wr (c + 1 + 1 + 1) = c + 1 + 1 + 1 := wr_id (by omega) (by omega)
      have d1 : decide (y.1 = c) = true := by rw [decide_eq_true_eq, h2]; simp only; omega
      have d2 : decide (y.2.1 = c + 1) = true := by rw [decide_eq_true_eq, h2]; simp only; omega
      have d3 : decide (y.2.2 = c + 1 + 1) = true := by rw [decide_eq_true_eq, h2]; simp only; omega
      have e2 : c + 1 + 1 + 1 = c + 3 := by omega
      have w4 : wr (c + 3) = c + 3 := wr_id (by omega) (by omega)
      simp only [r_laws_heldWireS_L0, lt_len, hi, decide_true, cond_true, getI_nat, hy, Option.bind_some, d1, Bool.not_true, cond_false, w1, w2, w3, w4, d2, d3, wr_succ hi (show st.1.length ≤ 9223372036854775807 by omega), e2])
    (fun c kc ke _ => by simp only [r_laws_heldWireS_L0, not_lt_self, cond_false]) (N := N0) (by have := N0_big; omega) k (by simp) (fun s1 => some s1.2.1)
  simp only [e_laws_heldWireS, r_laws_heldWireS]
  rw [hh.1, hh.2, p1, p2]

end Go.Sx.R
namespace Go.Sx.R
open Go Go.Sx

theorem mh_Net (n : TNet) (k : Int) (hn : Sm.sm B1 n) (h0 : 0 ≤ k) (h1 : k ≤ 1099511627776) : ∃ n' k', e_laws_markNet n (k, ()) = some (n', k') ∧ k ≤ k' ∧ k' ≤ k + 3 * n.2.2.2.length ∧ ∃ w', e_laws_heldWireS (w', k, ()) = some k' ∧ n' = (n.1, n.2.1, n.2.2.1, w') := by
  obtain ⟨w', k', e1, e2, e3, e4, _⟩ := mh_WireS n.2.2.2 k hn.2.2.2 h0 h1
  exact ⟨_, k', by simp only [e_laws_markNet, e1, Option.map_some], e3, e4, w', e2, rfl⟩

end Go.Sx.R
namespace Go.Sx.R
open Go Go.Sx

-- lists in strict order
theorem lex_trans {x y z : W3} (h1 : lex x y = true) (h2 : lex y z = true) : lex x z = true := by
  simp only [lex, Bool.or_eq_true, Bool.and_eq_true, decide_eq_true_eq] at *; omega
theorem lex_irr {x : W3} : lex x x = false := by simp [lex]
abbrev Srt (l : List W3) : Prop := l.Pairwise fun x y => lex x y = true

theorem srt_of_adj : ∀ {l : List W3}, (∀ (i : Nat) (x y : W3), l[i]? = some x → l[i + 1]? = some y → lex x y = true) → Srt l
  | [], _ => List.Pairwise.nil
  | [x], _ => by simp [Srt]
  | x :: y :: l, h => by
    have ih : Srt (y :: l) := srt_of_adj fun i a b ha hb => h (i + 1) a b (by simpa using ha) (by simpa using hb)
    have hxy := h 0 x y (by simp) (by simp)
    refine List.pairwise_cons.2 ⟨fun z hz => ?_, ih⟩
    rcases List.mem_cons.1 hz with rfl | hz
    · exact hxy
    · exact lex_trans hxy ((List.pairwise_cons.1 ih).1 z hz)

theorem netok_srt {n : TNet} (h : netok n = true) : Srt n.2.2.2 := by
  have hb : wiresBad n = false := by revert h; simp only [netok]; cases wiresBad n <;> simp
  refine srt_of_adj fun i x y hx hy => ?_
  simp only [wiresBad, List.any_eq_false] at hb
  have := hb (y, i + 1) (by rw [List.mem_zipIdx_iff_getElem?]; exact hy)
  simp only [badW, Bool.not_eq_true, Bool.or_eq_false_iff, hx] at this
  simpa using this.2

end Go.Sx.R
namespace Go.Sx.R
open Go Go.Sx

theorem foldI_ind {β σ : Type} (p : Nat → σ → Prop) (g : σ → Nat → β → σ) (hg : ∀ s i x, p i s → p (i + 1) (g s i x)) : ∀ (l : List β) (i : Nat) (s : σ), p i s → p (i + l.length) (foldI g l i s)
  | [], i, s, h => by simpa [foldI] using h
  | x :: l, i, s, h => by
    have := foldI_ind p g hg l (i + 1) (g s i x) (hg s i x h)
    have e : i + (x :: l).length = i + 1 + l.length := by simp; omega
    rw [e]; exact this

section
variable {n : TNet} {m : Nat} {L : List (List Int)}

end

end Go.Sx.R
namespace Go.Sx.R
open Go Go.Sx

/-- The same wire. -/
def eqW (x w : W3) : Bool := intEq x.1 w.1 && (intEq x.2.1 w.2.1 && intEq x.2.2 w.2.2)

theorem eqW_iff {x w : W3} : eqW x w = true ↔ x = w := by
  obtain ⟨a, b, c⟩ := x
  obtain ⟨a', b', c'⟩ := w
  simp only [eqW, intEq, Bool.and_eq_true, decide_eq_true_eq, Prod.mk.injEq]

def atW (x : W3) (v : Int) : Bool := decide (x.1 = v) || decide (x.2.1 = v)

/-- Whether a way on from node v, behind the nodes Q, leads to another terminal, over the wire w where it was not used before. -/
def pathV (ws : List W3) (E : Int) (w : W3) : Nat → List Int → Int → Bool → Bool
  | 0, _, _, _ => false
  | k + 1, Q, v, used => (decide (v < E) && (!Q.isEmpty && used)) || ws.any fun x => atW x v && (!decide (x.1 + x.2.1 - v ∈ Q ++ [v]) && pathV ws E w k (Q ++ [v]) (x.1 + x.2.1 - v) (used || eqW x w))

theorem foldI_or {β : Type} (f : β → Bool) : ∀ (l : List β) (i : Nat) (s : Bool), foldI (fun s _ x => s || f x) l i s = (s || l.any f)
  | [], _, s => by simp [foldI]
  | x :: l, i, s => by simp only [foldI, foldI_or f l, List.any_cons, Bool.or_assoc]

theorem any_takeB {β : Type} {f : β → Bool} {l : List β} {i : Nat} {x : β} (h : l[i]? = some x) : (l.take (i + 1)).any f = ((l.take i).any f || f x) := by
  rw [List.take_add_one, h, Option.toList_some, List.any_append, List.any_cons, List.any_nil, Bool.or_false]

theorem nodup_in {m : Nat} {l : List Int} (h : l.Nodup) (hb : ∀ j ∈ l, 0 ≤ j ∧ j < m) : l.length ≤ m := by
  have := nodup_len (m := (List.range m).map Int.ofNat) h fun x hx => by
    obtain ⟨h0, h1⟩ := hb x hx
    exact List.mem_map.2 ⟨x.toNat, List.mem_range.2 (by omega), by simp only [Int.ofNat_eq_natCast]; omega⟩
  simpa using this

theorem srt_idx {l : List W3} (h : Srt l) {i j : Nat} {x : W3} (hi : l[i]? = some x) (hj : l[j]? = some x) : i = j := by
  have key : ∀ a b : Nat, l[a]? = some x → l[b]? = some x → a < b → False := fun a b ha hb hab => by
    obtain ⟨la, ea⟩ := List.getElem?_eq_some_iff.1 ha
    obtain ⟨lb, eb⟩ := List.getElem?_eq_some_iff.1 hb
    have := (List.pairwise_iff_getElem.1 h) a b la lb hab
    rw [ea, eb, lex_irr] at this
    cases this
  rcases Nat.lt_trichotomy i j with h1 | h1 | h1
  · exact (key i j hi hj h1).elim
  · exact h1
  · exact (key j i hj hi h1).elim

/-- A path's facts. -/
structure PathOk (m : Nat) (Q : List Int) (v : Int) : Prop where
  nd : (Q ++ [v]).Nodup
  inn : ∀ j ∈ Q ++ [v], 0 ≤ j ∧ j < (m : Int)

theorem PathOk.not {m : Nat} {Q : List Int} {v : Int} (h : PathOk m Q v) : v ∉ Q := by
  intro hv
  have := h.nd
  rw [List.nodup_append] at this
  exact this.2.2 v hv v (by simp) rfl

theorem PathOk.last {m : Nat} {Q : List Int} {v : Int} (h : PathOk m Q v) : 0 ≤ v ∧ v < m := h.inn v (by simp)

theorem PathOk.len {m : Nat} {Q : List Int} {v : Int} (h : PathOk m Q v) : Q.length + 1 ≤ m := by
  have := nodup_in h.nd h.inn
  simpa using this

theorem PathOk.next {m : Nat} {Q : List Int} {v t : Int} (h : PathOk m Q v) (ht : t ∉ Q ++ [v]) (h0 : 0 ≤ t) (h1 : t < m) : PathOk m (Q ++ [v]) t where
  nd := by
    rw [List.nodup_append]
    exact ⟨h.nd, by simp, fun a ha b hb e => by simp at hb; subst hb; subst e; exact ht ha⟩
  inn := fun j hj => by
    rcases List.mem_append.1 hj with hj | hj
    · exact h.inn j hj
    · simp at hj; subst hj; exact ⟨h0, h1⟩

theorem PathOk.first {m : Nat} {Q : List Int} {v first : Int} (h : PathOk m Q v) (hf : (Q ++ [v]).head? = some first) : decide (v = first) = Q.isEmpty := by
  cases Q with
  | nil => simp at hf; simp [hf]
  | cons q Q =>
    simp at hf
    have : v ≠ first := fun e => h.not (by rw [e, ← hf]; simp)
    simp [this]

theorem set_back {L : List Bool} {i : Nat} (h : L[i]? = some false) : (L.set i true).set i false = L := by
  rw [List.set_set]
  apply List.ext_getElem?; intro j
  rw [List.getElem?_set]
  split
  · rename_i e; subst e
    rw [h, if_pos (List.getElem?_eq_some_iff.1 h).1]
  · rfl

theorem to_wr {m : Nat} (hm5 : m ≤ 5) {ws : List W3} (hw : InW m ws) {x : W3} (hx : x ∈ ws) {v : Int} (h0 : 0 ≤ v) (h1 : v < m) : wr (wr (x.1 + x.2.1) - v) = x.1 + x.2.1 - v := by
  obtain ⟨a, b, c⟩ := hw x hx
  rw [wr_id (x := x.1 + x.2.1) (by omega) (by omega), wr_id (by omega) (by omega)]

theorem p_onPath (n : TNet) (m : Nat) (hn : Sm.sm B1 n) (hm5 : m ≤ 5) (hw : InW m n.2.2.2) (w : W3) (first : Int) : ∀ (k : Nat) (Q : List Int) (v : Int) (used : Bool) (L : List Bool) (fu : Nat), PathOk m Q v → (Q ++ [v]).head? = some first → m ≤ k + Q.length → k ≤ fu →
    L.length = m → (∀ j : Nat, j < m → L[j]? = some (decide ((j : Int) ∈ Q))) → e_impl_onPath_n fu L (n, v, w, used, first, ()) = some (L, pathV n.2.2.2 n.2.1 w k Q v used)
  | 0, Q, v, used, L, fu, hp, _, hk, _, _, _ => by have := hp.len; omega
  | k + 1, Q, v, used, L, 0, _, _, _, hf, _, _ => by omega
  | k + 1, Q, v, used, L, fu + 1, hp, hh, hk, hf, hlen, hL => by
    obtain ⟨h0, h1⟩ := hp.last
    obtain ⟨vn, rfl⟩ : ∃ vn : Nat, v = vn := ⟨v.toNat, by omega⟩
    have hvm : vn < m := by omega
    have hnot : decide ((vn : Int) ∈ Q) = false := by rw [decide_eq_false_iff_not]; exact hp.not
    have hLv : L[vn]? = some false := by rw [hL vn hvm, hnot]
    have hL' : ∀ j : Nat, j < m → (L.set vn true)[j]? = some (decide ((j : Int) ∈ Q ++ [(vn : Int)])) := by
      intro j hj
      rw [List.getElem?_set]
      split
      · rename_i e; subst e
        rw [if_pos (by omega)]; simp
      · rename_i e
        rw [hL j hj]
        have : ((j : Int) ∈ Q ++ [(vn : Int)]) ↔ (j : Int) ∈ Q := by
          simp only [List.mem_append, List.mem_singleton, or_iff_left_iff_imp]
          intro h; omega
        simp only [this]
    have hlt : n.2.2.2.length < N0 := by have := N0_big; have : n.2.2.2.length ≤ 1073741824 := hn.2.2.2.1; omega
    have loop : ∀ ke, iterK (r_impl_onPath_L0 (e_impl_onPath_n fu) N0) N0 ((vn : Int), (L.set vn true), used, first, n, w, false, n.2.2.2, ((n.2.2.2.length : Nat) : Int), (0 : Int), ()) ke =
        ke ((vn : Int), (L.set vn true), used, first, n, w, (n.2.2.2.any fun x => atW x vn && (!decide (x.1 + x.2.1 - (vn : Int) ∈ Q ++ [(vn : Int)]) && pathV n.2.2.2 n.2.1 w k (Q ++ [(vn : Int)]) (x.1 + x.2.1 - (vn : Int)) (used || eqW x w))), n.2.2.2, ((n.2.2.2.length : Nat) : Int), ((n.2.2.2.length : Nat) : Int), ()) := by
      intro ke
      have := (iter_fold (R := List Bool × Bool) (body := r_impl_onPath_L0 (e_impl_onPath_n fu) N0) n.2.2.2 (fun (st : Bool) i => ((vn : Int), (L.set vn true), used, first, n, w, st, n.2.2.2, ((n.2.2.2.length : Nat) : Int), i, ())) (fun _ _ => True)
        (fun st _ x => st || (atW x vn && (!decide (x.1 + x.2.1 - (vn : Int) ∈ Q ++ [(vn : Int)]) && pathV n.2.2.2 n.2.1 w k (Q ++ [(vn : Int)]) (x.1 + x.2.1 - (vn : Int)) (used || eqW x w))))
        (fun st i x kc ke _ hx hi => ⟨by
          have hxm : x ∈ n.2.2.2 := List.mem_of_getElem? hx
          obtain ⟨a, b, c⟩ := hw x hxm
          have wsucc : wr ((i : Int) + 1) = ((i + 1 : Nat) : Int) := wr_succ hi (by have : n.2.2.2.length ≤ 1073741824 := hn.2.2.2.1; omega)
          simp only [r_impl_onPath_L0, lt_len, hi, decide_true, cond_true, getI_nat, hx, Option.bind_some, wsucc, to_wr hm5 hw hxm h0 h1]
          have main : atW x vn = true → (getI (L.set vn true) (x.1 + x.2.1 - (vn : Int)) = some (decide (x.1 + x.2.1 - (vn : Int) ∈ Q ++ [(vn : Int)]))) ∧ (x.1 + x.2.1 - (vn : Int) ∉ Q ++ [(vn : Int)] → ∀ u, e_impl_onPath_n fu (L.set vn true) (n, x.1 + x.2.1 - (vn : Int), w, u, first, ()) = some (L.set vn true, pathV n.2.2.2 n.2.1 w k (Q ++ [(vn : Int)]) (x.1 + x.2.1 - (vn : Int)) u)) := by
            intro hat
            simp only [atW, Bool.or_eq_true, decide_eq_true_eq] at hat
            obtain ⟨t, ht⟩ : ∃ t : Nat, x.1 + x.2.1 - (vn : Int) = t := ⟨(x.1 + x.2.1 - (vn : Int)).toNat, by omega⟩
            have htm : t < m := by omega
            rw [ht]
            refine ⟨by rw [getI_nat, hL' t htm], fun hnt u => ?_⟩
            exact p_onPath n m hn hm5 hw w first k (Q ++ [(vn : Int)]) t u (L.set vn true) fu (hp.next hnt (by omega) (by omega)) (by rw [List.head?_append, hh]; rfl) (by simp only [List.length_append, List.length_cons, List.length_nil]; omega) (by omega) (by simpa using hlen) hL'
          cases hat : atW x vn with
          | false =>
            simp only [atW, Bool.or_eq_false_iff] at hat
            simp only [hat.1, hat.2, cond_false, Bool.false_and, Bool.or_false]
          | true =>
            obtain ⟨m1, m2⟩ := main hat
            have both : ∀ (A B : Option (List Bool × Bool)), A = B → (cond (decide (x.1 = (vn : Int))) A (cond (decide (x.2.1 = (vn : Int))) A B)) = A := by
              intro A B hAB; cases decide (x.1 = (vn : Int)) <;> cases decide (x.2.1 = (vn : Int)) <;> simp [hAB]
            have pick : ∀ (A B : Option (List Bool × Bool)), (cond (decide (x.1 = (vn : Int))) A (cond (decide (x.2.1 = (vn : Int))) A B)) = A := by
              intro A B
              simp only [atW, Bool.or_eq_true] at hat
              rcases hat with h | h
              · rw [h]; rfl
              · rw [h]; cases decide (x.1 = (vn : Int)) <;> rfl
            rw [pick]
            simp only [m1, Option.bind_some, Bool.true_and]
            cases hd : decide (x.1 + x.2.1 - (vn : Int) ∈ Q ++ [(vn : Int)]) with
            | true => simp only [Bool.not_true, cond_false, Bool.false_and, Bool.or_false]
            | false =>
              have hnt := of_decide_eq_false hd
              simp only [Bool.not_false, cond_true, Bool.true_and]
              cases st with
              | true => simp only [cond_true, Bool.true_or]
              | false =>
                cases used with
                | true => simp only [cond_false, cond_true, m2 hnt, Option.bind_some, Bool.false_or, Bool.true_or]
                | false => simp only [cond_false, m2 hnt, Option.bind_some, Bool.false_or, eqW], trivial⟩)
        (fun st kc ke _ => by simp only [r_impl_onPath_L0, not_lt_self, cond_false]) hlt false trivial ke).1
      rw [foldI_or, Bool.false_or] at this
      exact this
    have hget : getI (L.set vn true) (vn : Int) = some true := by
      rw [getI_nat, hL' vn hvm]; simp
    have hLg : getI L (vn : Int) = some false := by rw [getI_nat, hLv]
    simp only [e_impl_onPath_n, r_impl_onPath, Int.toNat_natCast, hLg, Option.bind_some, loop, hget, set_back hLv, pathV, hp.first hh]
    cases decide ((vn : Int) < n.2.1) <;> cases Q.isEmpty <;> cases used <;> simp only [cond_true, cond_false, Bool.not_true, Bool.not_false, Bool.true_and, Bool.false_and, Bool.and_self, Bool.true_or, Bool.false_or, Bool.and_false, Bool.and_true]

theorem s_l10Path (n : TNet) (m : Nat) (hn : Sm.sm B1 n) (hm5 : m ≤ 5) (hw : InW m n.2.2.2) (w : W3) (idx : Int) (hidx : ∀ (i : Nat) x, n.2.2.2[i]? = some x → decide ((i : Int) = idx) = eqW x w) : ∀ (k : Nat) (Q : List Int) (v : Int) (used : Bool) (fu : Nat), PathOk m Q v → m ≤ k + Q.length → k ≤ fu →
    e_spec_l10Path_n fu (n, Q ++ [v], used, idx, ()) = some (pathV n.2.2.2 n.2.1 w k Q v used)
  | 0, Q, v, used, fu, hp, hk, _ => by have := hp.len; omega
  | k + 1, Q, v, used, 0, _, _, hf => by omega
  | k + 1, Q, v, used, fu + 1, hp, hk, hf => by
    obtain ⟨h0, h1⟩ := hp.last
    have hql := hp.len
    have hlt : n.2.2.2.length < N0 := by have := N0_big; have : n.2.2.2.length ≤ 1073741824 := hn.2.2.2.1; omega
    have hll : (Q ++ [v]).length = Q.length + 1 := by simp
    have hwl : wr ((((Q ++ [v]).length : Nat) : Int) - 1) = ((Q.length : Nat) : Int) := by rw [hll, wr_id (by omega) (by omega)]; omega
    have hgl : getI (Q ++ [v]) ((Q.length : Nat) : Int) = some v := by rw [getI_nat]; simp
    have hgt : decide ((((Q ++ [v]).length : Nat) : Int) > 1) = !Q.isEmpty := by
      rw [hll]
      cases Q with
      | nil => rfl
      | cons q Q => simp; omega
    have loop : iterK (r_spec_l10Path_L0 e_spec_l03Has (e_spec_l10Path_n fu) N0) N0 (Q ++ [v], used, idx, n, v, n.2.2.2, ((n.2.2.2.length : Nat) : Int), (0 : Int), ()) (fun _ => some false) =
        some (n.2.2.2.any fun x => atW x v && (!decide (x.1 + x.2.1 - v ∈ Q ++ [v]) && pathV n.2.2.2 n.2.1 w k (Q ++ [v]) (x.1 + x.2.1 - v) (used || eqW x w))) := by
      generalize hF : (fun x : W3 => atW x v && (!decide (x.1 + x.2.1 - v ∈ Q ++ [v]) && pathV n.2.2.2 n.2.1 w k (Q ++ [v]) (x.1 + x.2.1 - v) (used || eqW x w))) = F
      refine iter_rule (R := Bool) (body := r_spec_l10Path_L0 e_spec_l03Has (e_spec_l10Path_n fu) N0) (ke := fun _ => some false) (fun o => o = some (n.2.2.2.any F)) n.2.2.2 (fun (_ : Unit) i => (Q ++ [v], used, idx, n, v, n.2.2.2, ((n.2.2.2.length : Nat) : Int), i, ()))
        (fun i _ => (n.2.2.2.take i).any F = false) (fun st i x kc hpi hx hi hkc => ?_) (fun st kc hpi => ?_) hlt () (by simp)
      · have hxm : x ∈ n.2.2.2 := List.mem_of_getElem? hx
        obtain ⟨a, b, c⟩ := hw x hxm
        have wsucc : wr ((i : Int) + 1) = ((i + 1 : Nat) : Int) := wr_succ hi (by have : n.2.2.2.length ≤ 1073741824 := hn.2.2.2.1; omega)
        have hhas := p_Has (Q ++ [v]) (x.1 + x.2.1 - v) (by rw [hll]; simp only [BB]; omega)
        have no : F x = false → kc (Q ++ [v], used, idx, n, v, n.2.2.2, ((n.2.2.2.length : Nat) : Int), ((i + 1 : Nat) : Int), ()) = some (n.2.2.2.any F) := fun hFx => hkc () (by rw [any_takeB hx, hpi, hFx]; rfl)
        have yes : F x = true → some true = some (n.2.2.2.any F) := fun hFx => by
          rw [List.any_eq_true.2 ⟨x, hxm, hFx⟩]
        have hFx : F x = (atW x v && (!decide (x.1 + x.2.1 - v ∈ Q ++ [v]) && pathV n.2.2.2 n.2.1 w k (Q ++ [v]) (x.1 + x.2.1 - v) (used || eqW x w))) := by rw [← hF]
        simp only [r_spec_l10Path_L0, lt_len, hi, decide_true, cond_true, getI_nat, hx, Option.bind_some, wsucc, to_wr hm5 hw hxm h0 h1, hhas, List.length_nil, Nat.zero_add, List.nil_append, List.length_cons]
        rw [ble_true (show (Q ++ [v]).length ≤ 17179869184 by omega), ble_true (show (Q ++ [v]).length + 1 ≤ 17179869184 by omega)]
        have pick : atW x v = true → ∀ (A B : Option Bool), (cond (!decide (x.1 = v)) (cond (!decide (x.2.1 = v)) B A) A) = A := by
          intro hat A B
          simp only [atW, Bool.or_eq_true] at hat
          rcases hat with h | h
          · rw [h]; rfl
          · rw [h]; cases decide (x.1 = v) <;> rfl
        cases hat : atW x v with
        | false =>
          have := no (by rw [hFx, hat]; rfl)
          simp only [atW, Bool.or_eq_false_iff] at hat
          simp only [hat.1, hat.2, Bool.not_false, cond_true]
          exact this
        | true =>
          rw [pick hat]
          rw [hat, Bool.true_and] at hFx
          cases hd : decide (x.1 + x.2.1 - v ∈ Q ++ [v]) with
          | true =>
            rw [hd] at hFx
            simp only [Bool.not_true, cond_false]
            exact no hFx
          | false =>
            have hnt := of_decide_eq_false hd
            rw [hd, Bool.not_false, Bool.true_and] at hFx
            simp only [atW, Bool.or_eq_true, decide_eq_true_eq] at hat
            have ih : ∀ u, e_spec_l10Path_n fu (n, Q ++ [v] ++ [x.1 + x.2.1 - v], u, idx, ()) = some (pathV n.2.2.2 n.2.1 w k (Q ++ [v]) (x.1 + x.2.1 - v) u) := fun u =>
              s_l10Path n m hn hm5 hw w idx hidx k (Q ++ [v]) _ u fu (hp.next hnt (by omega) (by omega)) (by simp only [List.length_append, List.length_cons, List.length_nil]; omega) (by omega)
            simp only [Bool.not_false, cond_true, ih, Option.bind_some, hidx i x hx]
            have fin : ∀ b, F x = b → (cond b (some true) (kc (Q ++ [v], used, idx, n, v, n.2.2.2, ((n.2.2.2.length : Nat) : Int), ((i + 1 : Nat) : Int), ()))) = some (n.2.2.2.any F) := by
              intro b hb
              cases b with
              | true => exact yes hb
              | false => exact no hb
            cases used with
            | true => exact fin _ (by rw [hFx, Bool.true_or])
            | false => exact fin _ (by rw [hFx, Bool.false_or])
      · simp only [r_spec_l10Path_L0, not_lt_self, cond_false]
        rw [List.take_of_length_le (Nat.le_refl _)] at hpi
        rw [hpi]
    simp only [e_spec_l10Path_n, r_spec_l10Path, hwl, hgl, Option.bind_some, hgt, loop, pathV]
    cases decide (v < n.2.1) <;> cases Q.isEmpty <;> cases used <;> simp only [cond_true, cond_false, Bool.not_true, Bool.not_false, Bool.true_and, Bool.false_and, Bool.and_self, Bool.true_or, Bool.false_or, Bool.and_false, Bool.and_true]

/-- A wire lies on a path between two terminals. -/
def seenV (ws : List W3) (E : Int) (m : Nat) (w : W3) : Bool := (List.range E.toNat).any fun t => pathV ws E w m [] (t : Int) false

/-- The wires on no path. -/
def blindV (n : TNet) (m : Nat) : List Int := foldI (fun out i x => if seenV n.2.2.2 n.2.1 m x then out else out ++ [(i : Int)]) n.2.2.2 0 []

theorem one_path {m t : Nat} (h : t < m) : PathOk m [] (t : Int) := ⟨by simp, fun j hj => by simp at hj; subst hj; omega⟩

theorem s_Seen (n : TNet) (m : Nat) (hn : Sm.sm B1 n) (hm5 : m ≤ 5) (hw : InW m n.2.2.2) (he : 1 ≤ n.2.1) (hem : n.2.1 ≤ m) (w : W3) (idx : Int) (hidx : ∀ (i : Nat) x, n.2.2.2[i]? = some x → decide ((i : Int) = idx) = eqW x w) :
    e_spec_l10Seen (n, idx, ()) = some (seenV n.2.2.2 n.2.1 m w) := by
  obtain ⟨E, hE⟩ : ∃ E : Nat, n.2.1 = E := ⟨n.2.1.toNat, by omega⟩
  have hr : (List.range E).length = E := by simp
  simp only [e_spec_l10Seen, r_spec_l10Seen, seenV]
  rw [hE, Int.toNat_natCast]
  generalize hF : (fun t : Nat => pathV n.2.2.2 (E : Int) w m [] (t : Int) false) = F
  refine iter_rule (R := Bool) (body := r_spec_l10Seen_L0 e_spec_l10Path N0) (ke := fun _ => some false) (fun o => o = some ((List.range E).any F)) (List.range E) (fun (_ : Unit) i => (idx, n, i, ()))
    (fun i _ => ((List.range E).take i).any F = false) (fun st i x kc hpi hx hi hkc => ?_) (fun st kc hpi => ?_) (by rw [hr]; have := N0_big; omega) () (by simp)
  · obtain ⟨rfl, hxE⟩ := range_get hx
    have d1 : decide ((x : Int) < n.2.1) = true := by rw [decide_eq_true_eq]; omega
    have key : e_spec_l10Path (n, [(x : Int)], false, idx, ()) = some (F x) := by
      have := s_l10Path n m hn hm5 hw w idx hidx m [] (x : Int) false N0 (one_path (by omega)) (by simp) (by have := N0_big; omega)
      rw [← hF]
      simp only [← hE]
      exact this
    simp only [r_spec_l10Seen_L0, d1, cond_true, key, Option.bind_some, wr_succ hxE (show E ≤ 9223372036854775807 by omega)]
    cases hFx : F x with
    | true =>
      show some true = _
      rw [List.any_eq_true.2 ⟨x, List.mem_range.2 hxE, hFx⟩]
    | false =>
      simp only [cond_false]
      exact hkc () (by rw [any_takeB hx, hpi, hFx]; rfl)
  · have d1 : decide ((((List.range E).length : Nat) : Int) < n.2.1) = false := by rw [decide_eq_false_iff_not, hr]; omega
    simp only [r_spec_l10Seen_L0, d1, cond_false]
    rw [List.take_of_length_le (Nat.le_refl _)] at hpi
    rw [hpi]

theorem blind_both (n : TNet) (hn : Sm.sm B1 n) : ∃ q, e_impl_BlindWires (n, ()) = some q ∧ e_spec_BlindWires (n, ()) = some q ∧ Sm.sm B1 q ∧ (netok n = true → ∀ m : Nat, n.1 = m → q = blindV n m) := by
  cases hok : netok n with
  | false =>
    refine ⟨[], ?_, ?_, by simp [sm_list], by simp⟩
    · simp only [e_impl_BlindWires, r_impl_BlindWires, p_NetOk n hn, hok, Option.bind_some, Bool.not_false, cond_true]
    · simp only [e_spec_BlindWires, r_spec_BlindWires, s_NetOk n hn, hok, Option.bind_some, Bool.not_false, cond_true]
  | true =>
    obtain ⟨m, hm, hm1, hm5, hw, he1, he2⟩ := netok_facts hok
    obtain ⟨E, hE⟩ : ∃ E : Nat, n.2.1 = E := ⟨n.2.1.toNat, by omega⟩
    have hr : (List.range E).length = E := by simp
    have hwl : n.2.2.2.length ≤ 1073741824 := hn.2.2.2.1
    have hlt : n.2.2.2.length < N0 := by have := N0_big; omega
    have hidx : ∀ (j : Nat) w, n.2.2.2[j]? = some w → ∀ (i : Nat) x, n.2.2.2[i]? = some x → decide ((i : Int) = (j : Int)) = eqW x w := by
      intro j w hj i x hi
      have hnd := fun (i j : Nat) (x w : W3) (hi : n.2.2.2[i]? = some x) (hj : n.2.2.2[j]? = some w) (h : x = w) => srt_idx (netok_srt hok) (h ▸ hi) hj
      by_cases e : i = j
      · subst e
        rw [hi] at hj; simp only [Option.some.injEq] at hj; subst hj
        simp [eqW_iff.2 rfl]
      · have hne : x ≠ w := fun h => e (hnd i j x w hi hj h)
        have : eqW x w = false := by
          cases h : eqW x w with
          | true => exact absurd (eqW_iff.1 h) hne
          | false => rfl
        rw [this, decide_eq_false_iff_not]; omega
    refine ⟨blindV n m, ?_, ?_, ?_, fun _ m' hm' => congrArg (blindV n) (show m = m' by omega)⟩
    · -- the program
      simp only [e_impl_BlindWires, r_impl_BlindWires, p_NetOk n hn, hok, Option.bind_some, Bool.not_true, cond_false]
      have inner : ∀ (out : List Int) (i : Int) (x : W3) ke, iterK (r_impl_BlindWires_L2 e_impl_NetOk e_impl_onPath N0) N0 (n, out, i, x, false, n.2.2.2, ((n.2.2.2.length : Nat) : Int), i, n.2.1, (0 : Int), ()) ke =
          ke (n, out, i, x, seenV n.2.2.2 n.2.1 m x, n.2.2.2, ((n.2.2.2.length : Nat) : Int), i, n.2.1, n.2.1, ()) := by
        intro out i x ke
        have := (iter_fold (R := List Int) (body := r_impl_BlindWires_L2 e_impl_NetOk e_impl_onPath N0) (List.range E) (fun (st : Bool) t => (n, out, i, x, st, n.2.2.2, ((n.2.2.2.length : Nat) : Int), i, n.2.1, t, ())) (fun _ _ => True)
          (fun st _ (t : Nat) => st || pathV n.2.2.2 n.2.1 x m [] (t : Int) false)
          (fun st j t kc ke _ hx hi => ⟨by
            obtain ⟨rfl, htE⟩ := range_get hx
            have d1 : decide ((t : Int) < n.2.1) = true := by rw [decide_eq_true_eq]; omega
            have d2 : decide ((0 : Int) ≤ n.1) = true := by rw [decide_eq_true_eq]; omega
            have key : e_impl_onPath (List.replicate m false) (n, (t : Int), x, false, (t : Int), ()) = some (List.replicate m false, pathV n.2.2.2 n.2.1 x m [] (t : Int) false) :=
              p_onPath n m hn hm5 hw x (t : Int) m [] (t : Int) false (List.replicate m false) N0 (one_path (by omega)) rfl (by simp) (by have := N0_big; omega) (by simp) (fun j hj => by simp [List.getElem?_replicate, hj])
            have hmt : Int.toNat n.1 = m := by omega
            simp only [r_impl_BlindWires_L2, d1, cond_true, d2, hmt, ble_true (show m ≤ 17179869184 by omega), key, Option.bind_some, wr_succ htE (show E ≤ 9223372036854775807 by omega)]
            cases st with
            | true => simp only [cond_true, Bool.true_or]
            | false => simp only [cond_false, Bool.false_or], trivial⟩)
          (fun st kc ke _ => by
            have d1 : decide ((((List.range E).length : Nat) : Int) < n.2.1) = false := by rw [decide_eq_false_iff_not, hr]; omega
            simp only [r_impl_BlindWires_L2, d1, cond_false]) (N := N0) (by rw [hr]; have := N0_big; omega) false trivial ke).1
        rw [foldI_or, Bool.false_or, hr, ← hE] at this
        have e : E = n.2.1.toNat := by omega
        rw [e] at this
        exact this
      have := (iter_fold (R := List Int) (body := r_impl_BlindWires_L0 e_impl_NetOk e_impl_onPath N0) n.2.2.2 (fun (out : List Int) i => (n, out, n.2.2.2, ((n.2.2.2.length : Nat) : Int), i, ())) (fun i out => out.length ≤ i)
        (fun out i x => if seenV n.2.2.2 n.2.1 m x then out else out ++ [(i : Int)])
        (fun out i x kc ke hp hx hi => by
          simp only [r_impl_BlindWires_L0, lt_len, hi, decide_true, cond_true, getI_nat, hx, Option.bind_some, inner, wr_succ hi (show n.2.2.2.length ≤ 9223372036854775807 by omega), List.length_cons, List.length_nil, Nat.zero_add, ble_true (show out.length + 1 ≤ 17179869184 by omega)]
          cases seenV n.2.2.2 n.2.1 m x with
          | true => simp only [Bool.not_true, cond_false, if_true]; exact ⟨trivial, by omega⟩
          | false => simp only [Bool.not_false, cond_true, Bool.false_eq_true, if_false]; exact ⟨trivial, by simp; omega⟩)
        (fun out kc ke _ => by simp only [r_impl_BlindWires_L0, not_lt_self, cond_false]) hlt [] (by simp) (fun s2 => some s2.2.1)).1
      exact this
    · simp only [e_spec_BlindWires, r_spec_BlindWires, s_NetOk n hn, hok, Option.bind_some, Bool.not_true, cond_false]
      have := (iter_fold (R := List Int) (body := r_spec_BlindWires_L0 e_spec_NetOk e_spec_l10Seen N0) n.2.2.2 (fun (out : List Int) i => (n, out, ((n.2.2.2.length : Nat) : Int), i, ())) (fun i out => out.length ≤ i)
        (fun out i x => if seenV n.2.2.2 n.2.1 m x then out else out ++ [(i : Int)])
        (fun out i x kc ke hp hx hi => by
          simp only [r_spec_BlindWires_L0, lt_len, hi, decide_true, cond_true, s_Seen n m hn hm5 hw he1 he2 x (i : Int) (hidx i x hx), Option.bind_some, wr_succ hi (show n.2.2.2.length ≤ 9223372036854775807 by omega), List.length_cons, List.length_nil, Nat.zero_add, ble_true (show out.length + 1 ≤ 17179869184 by omega)]
          cases seenV n.2.2.2 n.2.1 m x with
          | true => simp only [Bool.not_true, cond_false, if_true]; exact ⟨trivial, by omega⟩
          | false => simp only [Bool.not_false, cond_true, Bool.false_eq_true, if_false]; exact ⟨trivial, by simp; omega⟩)
        (fun out kc ke _ => by simp only [r_spec_BlindWires_L0, not_lt_self, cond_false]) hlt [] (by simp) (fun s2 => some s2.2.1)).1
      exact this
    · have := foldI_ind (fun i (out : List Int) => out.length ≤ i ∧ ∀ y ∈ out, 0 ≤ y ∧ y < i) (fun out i x => if seenV n.2.2.2 n.2.1 m x then out else out ++ [(i : Int)]) (fun out i x ⟨h1, h2⟩ => by
        split
        · exact ⟨by omega, fun y hy => by have := h2 y hy; omega⟩
        · refine ⟨by simp; omega, fun y hy => ?_⟩
          rcases List.mem_append.1 hy with hy | hy
          · have := h2 y hy; omega
          · simp at hy; omega) n.2.2.2 0 [] ⟨by simp, by simp⟩
      refine ⟨Nat.le_trans this.1 (by simpa using hwl), fun y hy => ?_⟩
      have := this.2 y hy
      exact ⟨by omega, by omega⟩

theorem law_BlindWires (n : TNet) (hn : Sm.sm BB n) : e_laws_FnExactBlindWires (n, ()) = some true := by
  simp only [e_laws_FnExactBlindWires, r_laws_FnExactBlindWires]
  obtain ⟨r, e1, e2, e3⟩ := sz_Net n 1048576 hn (by omega) (by omega)
  simp only [e1, Option.bind_some]
  by_cases hr : r < 0
  · simp [hr]
  · have hd : decide (r < 0) = false := by simp; omega
    have hb : Sm.sm B1 n := up_net B01 (e3 (by omega))
    obtain ⟨q, q1, q2, q3, _⟩ := blind_both n hb
    obtain ⟨n', k', m1, m2, m3, _⟩ := mh_Net n 1 hb (by omega) (by omega)
    obtain ⟨q', k2, h1, h2, h3, h4, _⟩ := mh_IntS q 1 q3 (by omega) (by omega)
    have d1 : decide (k' < 0) = false := by rw [decide_eq_false_iff_not]; omega
    have d2 : decide (k2 < 0) = false := by rw [decide_eq_false_iff_not]; omega
    simp only [hd, cond_false, to_Net n hb, Option.bind_some, q1, q2, eq_IntS q q3, eq_Net n hb, Bool.not_true, m1, d1, h1, h2, d2, decide_true]
end Go.Sx.R
