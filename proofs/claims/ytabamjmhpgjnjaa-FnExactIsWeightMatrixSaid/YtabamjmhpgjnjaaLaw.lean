/- The laws in plain words. Conditions: none. -/
import Derived.Test.YtabamjmhpgjnjaaRes
/- The laws' helpers: sizes, copies, comparisons. Conditions: none. -/
namespace Go.Sx.R
open Go Go.Sx

theorem wr_sub_len {n : Int} {len : Nat} (h0 : 0 ≤ n) (h1 : n ≤ 1048576) (hl : len ≤ 9223372036854775807) : wr (n - (len : Int)) = n - len := wr_id (by omega) (by omega)

theorem beqB_self (b : Bool) : beqB b b = true := by cases b <;> rfl

theorem sm_up {α : Type} [Sm α] (up : ∀ {B B' : Nat} {x : α}, B ≤ B' → Sm.sm B x → Sm.sm B' x) {B B' : Nat} {x : List α} (h : B ≤ B') (hx : Sm.sm B x) : Sm.sm B' x := ⟨Nat.le_trans hx.1 h, fun y hy => up h (hx.2 y hy)⟩
theorem up_int {B B' : Nat} {x : Int} (h : B ≤ B') (hx : Sm.sm B x) : Sm.sm B' x := hx
theorem up_intS {B B' : Nat} {x : List Int} (h : B ≤ B') (hx : Sm.sm B x) : Sm.sm B' x := sm_up up_int h hx
theorem up_intSS {B B' : Nat} {x : List (List Int)} (h : B ≤ B') (hx : Sm.sm B x) : Sm.sm B' x := sm_up up_intS h hx
theorem up_pair {B B' : Nat} {x : Int × Int} (h : B ≤ B') (hx : Sm.sm B x) : Sm.sm B' x := hx
theorem up_wire {B B' : Nat} {x : Int × Int × Int} (h : B ≤ B') (hx : Sm.sm B x) : Sm.sm B' x := hx
theorem up_wireS {B B' : Nat} {x : List (Int × Int × Int)} (h : B ≤ B') (hx : Sm.sm B x) : Sm.sm B' x := sm_up up_wire h hx
theorem up_pairS {B B' : Nat} {x : List (Int × Int)} (h : B ≤ B') (hx : Sm.sm B x) : Sm.sm B' x := sm_up up_pair h hx
theorem up_pairSS {B B' : Nat} {x : List (List (Int × Int))} (h : B ≤ B') (hx : Sm.sm B x) : Sm.sm B' x := sm_up up_pairS h hx
abbrev TNet := Int × Int × Int × List (Int × Int × Int)
theorem up_net {B B' : Nat} {x : TNet} (h : B ≤ B') (hx : Sm.sm B x) : Sm.sm B' x := ⟨hx.1, hx.2.1, hx.2.2.1, up_wireS h hx.2.2.2⟩
abbrev B0 : Nat := 1048576
theorem B01 : B0 ≤ B1 := by decide

theorem to_IntS (a : List Int) (ha : Sm.sm B1 a) : e_laws_toIntS (a, ()) = some a := by
  simp only [e_laws_toIntS, r_laws_toIntS, Int.toNat_natCast]
  rw [ble_true (by have := ha.1; simp only [B1] at this; omega), cond_true]
  rw [iter_range (R := List Int) a (fun (st : List Int) i => (a, st, i, ())) (fun st i x k => Option.bind (st[i]?) fun _ => k (st.set i x)) ?_ ?_ (len_lt ha N0_gt)]
  · rw [rangeK_copy (fun x => x) (0 : Int)]
    · simp
    · intro st j x k hs hx
      have : st[j]? = some (st[j]'(by rw [hs]; exact get_lt hx)) := List.getElem?_eq_getElem _
      rw [this]; rfl
  · intro st i x kc ke hx hi
    simp only [r_laws_toIntS_L0, lt_len, hi, decide_true, cond_true, getI_nat, hx, Option.bind_some]
    rw [wr_len hi ha, Int.toNat_natCast]
  · intro st kc ke
    simp only [r_laws_toIntS_L0, not_lt_self, cond_false]

theorem eq_IntS (a : List Int) (ha : Sm.sm B1 a) : e_laws_eqIntS (a, a, ()) = some true := by
  simp only [e_laws_eqIntS, r_laws_eqIntS, decide_true, Bool.not_true, cond_false]
  rw [iter_range (R := Bool) a (fun (_ : Unit) i => (a, a, i, ())) (fun st i x k => k ()) ?_ ?_ (len_lt ha N0_gt) ()]
  · rw [rangeK_fold (fun _ _ _ => ()) _ _ _ _ (fun _ _ _ _ _ => rfl)]
  · intro st i x kc ke hx hi
    simp only [r_laws_eqIntS_L0, lt_len, hi, decide_true, cond_true, getI_nat, hx, Option.bind_some, decide_true, Bool.not_true, cond_false]
    rw [wr_len hi ha]
  · intro st kc ke
    simp only [r_laws_eqIntS_L0, not_lt_self, cond_false]

theorem sz_IntS (a : List Int) (n : Int) (ha : Sm.sm BB a) (h0 : 0 ≤ n) (h1 : n ≤ 1048576) : ∃ r, e_laws_szIntS (a, n, ()) = some r ∧ r ≤ n ∧ (0 ≤ r → Sm.sm B0 a) := by
  simp only [e_laws_szIntS, r_laws_szIntS]
  rw [wr_sub_len h0 h1 ha.1]
  by_cases h : n - (a.length : Int) < 0
  · refine ⟨-1, ?_, by omega, by omega⟩
    simp [h]
  · refine ⟨n - a.length, ?_, by omega, fun _ => ⟨by simp only [B0]; omega, ha.2⟩⟩
    simp [h]

theorem to_IntSS (a : List (List Int)) (ha : Sm.sm B1 a) : e_laws_toIntSS (a, ()) = some a := by
  simp only [e_laws_toIntSS, r_laws_toIntSS, Int.toNat_natCast]
  rw [ble_true (by have := ha.1; simp only [B1] at this; omega), cond_true]
  rw [iter_range (R := List (List Int)) a (fun (st : List (List Int)) i => (a, st, i, ())) (fun st i x k => Option.bind (st[i]?) fun _ => k (st.set i x)) ?_ ?_ (len_lt ha N0_gt)]
  · rw [rangeK_copy (fun x => x) ([] : List Int)]
    · simp
    · intro st j x k hs hx
      have : st[j]? = some (st[j]'(by rw [hs]; exact get_lt hx)) := List.getElem?_eq_getElem _
      rw [this]; rfl
  · intro st i x kc ke hx hi
    simp only [r_laws_toIntSS_L0, lt_len, hi, decide_true, cond_true, getI_nat, hx, Option.bind_some, to_IntS _ (sm_get ha hx)]
    rw [wr_len hi ha, Int.toNat_natCast]
  · intro st kc ke
    simp only [r_laws_toIntSS_L0, not_lt_self, cond_false]

theorem eq_IntSS (a : List (List Int)) (ha : Sm.sm B1 a) : e_laws_eqIntSS (a, a, ()) = some true := by
  simp only [e_laws_eqIntSS, r_laws_eqIntSS, decide_true, Bool.not_true, cond_false]
  rw [iter_range (R := Bool) a (fun (_ : Unit) i => (a, a, i, ())) (fun st i x k => k ()) ?_ ?_ (len_lt ha N0_gt) ()]
  · rw [rangeK_fold (fun _ _ _ => ()) _ _ _ _ (fun _ _ _ _ _ => rfl)]
  · intro st i x kc ke hx hi
    simp only [r_laws_eqIntSS_L0, lt_len, hi, decide_true, cond_true, getI_nat, hx, Option.bind_some, eq_IntS _ (sm_get ha hx), Option.bind_some, Bool.not_true, cond_false]
    rw [wr_len hi ha]
  · intro st kc ke
    simp only [r_laws_eqIntSS_L0, not_lt_self, cond_false]

theorem sz_IntSS (a : List (List Int)) (n : Int) (ha : Sm.sm BB a) (h0 : 0 ≤ n) (h1 : n ≤ 1048576) : ∃ r, e_laws_szIntSS (a, n, ()) = some r ∧ r ≤ n ∧ (0 ≤ r → Sm.sm B0 a) := by
  simp only [e_laws_szIntSS, r_laws_szIntSS]
  rw [wr_sub_len h0 h1 ha.1]
  by_cases h : n - (a.length : Int) < 0
  · refine ⟨-1, ?_, by omega, by omega⟩
    simp [h]
  · have hd : decide (n - (a.length : Int) < 0) = false := by simp; omega
    rw [hd, cond_false]
    rw [iter_range (R := Int) a (fun (st : Int) i => (a, st, i, ())) (fun st i x k => Option.bind (e_laws_szIntS (x, st, ())) fun x2 => cond (decide (x2 < 0)) (some (-1)) (k x2)) ?_ ?_ (len_ltB ha N0_gt)]
    · refine rangeK_rule (fun o => ∃ r, o = some r ∧ r ≤ n ∧ (0 ≤ r → Sm.sm B0 a)) (fun i st => 0 ≤ st ∧ st ≤ n ∧ ∀ j x, j < i → a[j]? = some x → Sm.sm B0 x) a 0 _ ⟨by omega, by omega, by simp⟩ ?_ ?_
      · intro st j x k ⟨q0, q1, q2⟩ hx hk
        simp only [Nat.zero_add] at *
        obtain ⟨r, e1, e2, e3⟩ := sz_IntS x st (sm_get ha hx) q0 (by omega)
        simp only [e1, Option.bind_some]
        by_cases hr : r < 0
        · refine ⟨-1, by simp [hr], by omega, by omega⟩
        · have hd : decide (r < 0) = false := by simp; omega
          simp only [hd, cond_false]
          refine hk r ⟨by omega, by omega, fun i y hi hy => ?_⟩
          by_cases e : i = j
          · subst e; rw [hx] at hy; simp only [Option.some.injEq] at hy; subst hy; exact e3 (by omega)
          · exact q2 i y (by omega) hy
      · intro st ⟨q0, q1, q2⟩
        refine ⟨st, rfl, q1, fun _ => ⟨by simp only [B0]; omega, fun y hy => ?_⟩⟩
        obtain ⟨j, hj⟩ := List.getElem?_of_mem hy
        exact q2 j y (by have := get_lt hj; omega) hj
    · intro st i x kc ke hx hi
      simp only [r_laws_szIntSS_L0, lt_len, hi, decide_true, cond_true, getI_nat, hx, Option.bind_some]
      rw [wr_lenB hi ha]
    · intro st kc ke
      simp only [r_laws_szIntSS_L0, not_lt_self, cond_false]

theorem to_Wire (a : Int × Int × Int) (ha : Sm.sm B1 a) : e_laws_toWire (a, ()) = some a := rfl
theorem eq_Wire (a : Int × Int × Int) (ha : Sm.sm B1 a) : e_laws_eqWire (a, a, ()) = some true := by
  simp only [e_laws_eqWire, r_laws_eqWire, decide_true, Bool.not_true, cond_false]

theorem to_WireS (a : List (Int × Int × Int)) (ha : Sm.sm B1 a) : e_laws_toWireS (a, ()) = some a := by
  simp only [e_laws_toWireS, r_laws_toWireS, Int.toNat_natCast]
  rw [ble_true (by have := ha.1; simp only [B1] at this; omega), cond_true]
  rw [iter_range (R := List (Int × Int × Int)) a (fun (st : List (Int × Int × Int)) i => (a, st, i, ())) (fun st i x k => Option.bind (st[i]?) fun _ => k (st.set i x)) ?_ ?_ (len_lt ha N0_gt)]
  · rw [rangeK_copy (fun x => x) ((0 : Int), ((0 : Int), (0 : Int)))]
    · simp
    · intro st j x k hs hx
      have : st[j]? = some (st[j]'(by rw [hs]; exact get_lt hx)) := List.getElem?_eq_getElem _
      rw [this]; rfl
  · intro st i x kc ke hx hi
    simp only [r_laws_toWireS_L0, lt_len, hi, decide_true, cond_true, getI_nat, hx, Option.bind_some, to_Wire _ (sm_get ha hx)]
    rw [wr_len hi ha, Int.toNat_natCast]
  · intro st kc ke
    simp only [r_laws_toWireS_L0, not_lt_self, cond_false]

theorem eq_WireS (a : List (Int × Int × Int)) (ha : Sm.sm B1 a) : e_laws_eqWireS (a, a, ()) = some true := by
  simp only [e_laws_eqWireS, r_laws_eqWireS, decide_true, Bool.not_true, cond_false]
  rw [iter_range (R := Bool) a (fun (_ : Unit) i => (a, a, i, ())) (fun st i x k => k ()) ?_ ?_ (len_lt ha N0_gt) ()]
  · rw [rangeK_fold (fun _ _ _ => ()) _ _ _ _ (fun _ _ _ _ _ => rfl)]
  · intro st i x kc ke hx hi
    simp only [r_laws_eqWireS_L0, lt_len, hi, decide_true, cond_true, getI_nat, hx, Option.bind_some, eq_Wire _ (sm_get ha hx), Option.bind_some, Bool.not_true, cond_false]
    rw [wr_len hi ha]
  · intro st kc ke
    simp only [r_laws_eqWireS_L0, not_lt_self, cond_false]

theorem sz_WireS (a : List (Int × Int × Int)) (n : Int) (ha : Sm.sm BB a) (h0 : 0 ≤ n) (h1 : n ≤ 1048576) : ∃ r, e_laws_szWireS (a, n, ()) = some r ∧ r ≤ n ∧ (0 ≤ r → Sm.sm B0 a) := by
  simp only [e_laws_szWireS, r_laws_szWireS]
  rw [wr_sub_len h0 h1 ha.1]
  by_cases h : n - (a.length : Int) < 0
  · refine ⟨-1, ?_, by omega, by omega⟩
    simp [h]
  · refine ⟨n - a.length, ?_, by omega, fun _ => ⟨by simp only [B0]; omega, ha.2⟩⟩
    simp [h]

theorem to_Net (a : TNet) (ha : Sm.sm B1 a) : e_laws_toNet (a, ()) = some a := by
  obtain ⟨x, y, z, l⟩ := a
  simp only [e_laws_toNet, r_laws_toNet]
  rw [to_WireS l ha.2.2.2]; rfl
theorem eq_Net (a : TNet) (ha : Sm.sm B1 a) : e_laws_eqNet (a, a, ()) = some true := by
  simp only [e_laws_eqNet, r_laws_eqNet, decide_true, Bool.not_true, cond_false, eq_WireS _ ha.2.2.2, Option.bind_some]
theorem sz_Net (a : TNet) (n : Int) (ha : Sm.sm BB a) (h0 : 0 ≤ n) (h1 : n ≤ 1048576) : ∃ r, e_laws_szNet (a, n, ()) = some r ∧ r ≤ n ∧ (0 ≤ r → Sm.sm B0 a) := by
  simp only [e_laws_szNet, r_laws_szNet]
  obtain ⟨r, e1, e2, e3⟩ := sz_WireS a.2.2.2 n ha.2.2.2 h0 h1
  simp only [e1, Option.bind_some]
  by_cases hr : r < 0
  · exact ⟨-1, by simp [hr], by omega, by omega⟩
  · exact ⟨r, by simp [hr], e2, fun h => ⟨ha.1, ha.2.1, ha.2.2.1, e3 h⟩⟩

end Go.Sx.R

/- Matrices of weights: the program's test and the reference's are one. Conditions: none. -/
namespace Go.Sx.R
open Go Go.Sx

def n_l01In (a : Int × Int × Int × Unit) : Bool := decide (a.2.1 ≤ a.1) && decide (a.1 ≤ a.2.2.1)

theorem p_l01In (a : Int × Int × Int × Unit) : e_spec_l01In a = some (n_l01In a) := by
  obtain ⟨a0, a1, a2, _⟩ := a
  simp only [e_spec_l01In, r_spec_l01In, n_l01In]
  by_cases h : a1 ≤ a0 <;> simp [h]

theorem e_l01In : e_spec_l01In = fun a => some (n_l01In a) := funext p_l01In

/-- Square, of numbers up to a bound, not too large. -/
def n_sq (a : List (List Int)) : Bool := !decide (a.length > 5) && !(a.any fun x => !decide (x.length = a.length) || x.any fun v => decide (v < -1000) || decide (v > 1000))

theorem p_l04Matrix (a : List (List Int)) (ha : Sm.sm B1 a) : e_spec_l04Matrix (a, ()) = some (n_sq a) := by
  simp only [e_spec_l04Matrix, e_l01In, r_spec_l04Matrix, n_sq]
  by_cases h5 : a.length > 5
  · have : decide ((a.length : Int) > 5) = true := by simp; omega
    rw [this]; simp [h5]
  have h5' : decide ((a.length : Int) > 5) = false := by simp; omega
  rw [h5']
  simp only [cond_false]
  rw [iter_range (R := Bool) a (fun (_ : Unit) i => (a, a, (a.length : Int), i, ()))
    (fun _ i x k => cond (!decide (x.length = a.length)) (some false) (rangeK x 0 () (fun _ _ v k => cond (decide (v < -1000) || decide (v > 1000)) (some false) (k ())) (fun _ => k ()))) ?_ ?_ (len_lt ha N0_gt)]
  · rw [rangeK_stop' (fun x => !decide (x.length = a.length) || x.any fun v => decide (v < -1000) || decide (v > 1000)) (some false)]
    · simp only [h5, decide_false, Bool.not_false, Bool.true_and]
      cases (a.any _) <;> rfl
    · intro j x k hx
      rw [rangeK_stop' (fun v => decide (v < -1000) || decide (v > 1000)) (some false) _ _ _ (fun _ _ _ _ => rfl)]
      cases decide (x.length = a.length) <;> simp
  · intro st i x kc ke hx hi
    simp only [r_spec_l04Matrix_L0, lt_len, hi, decide_true, cond_true, getI_nat, hx, Option.bind_some]
    rw [dec_eq]
    congr 1
    have hxs : Sm.sm B1 x := sm_get ha hx
    rw [iter_range (R := Bool) x (fun (_ : Unit) j => (a, a, (a.length : Int), (i : Int), x, (x.length : Int), j, ()))
      (fun _ _ v k => cond (decide (v < -1000) || decide (v > 1000)) (some false) (k ())) ?_ ?_ (len_lt hxs N0_gt)]
    · rw [wr_len hi ha]
    · intro st j v kc ke hv hj
      simp only [r_spec_l04Matrix_L2, lt_len, hj, decide_true, cond_true, getI_nat, hv, Option.bind_some]
      rw [wr_len hj hxs]
      simp only [n_l01In]
      have : (!(decide (-1000 ≤ v) && decide (v ≤ 1000))) = (decide (v < -1000) || decide (v > 1000)) := by
        rw [Bool.eq_iff_iff]; simp only [Bool.not_eq_true', Bool.and_eq_false_iff, decide_eq_false_iff_not, Bool.or_eq_true, decide_eq_true_eq]; omega
      rw [this]
    · intro st kc ke
      simp [r_spec_l04Matrix_L2]
  · intro st kc ke
    simp [r_spec_l04Matrix_L0]

theorem squareOk_L2 (N : Nat) : r_impl_squareOk_L2 N = r_spec_l04Matrix_L2 (fun a => some (n_l01In a)) N := by
  funext s kc ke
  simp only [r_impl_squareOk_L2, r_spec_l04Matrix_L2]
  congr 1; congr 1; funext x
  simp only [n_l01In, Option.bind_some]
  by_cases h1 : x < -1000
  · have : ¬ (-1000 ≤ x) := by omega
    simp [h1, this]
  · by_cases h2 : x > 1000
    · have : ¬ (x ≤ 1000) := by omega
      have : -1000 ≤ x := by omega
      simp [h1, h2, *]
    · have a1 : (x ≤ 1000) := by omega
      have a2 : -1000 ≤ x := by omega
      simp [h1, h2, a1, a2]

theorem e_squareOk : e_impl_squareOk = e_spec_l04Matrix := by
  funext a
  simp only [e_impl_squareOk, e_spec_l04Matrix, e_l01In, r_impl_squareOk, r_spec_l04Matrix]
  have : r_impl_squareOk_L0 N0 = r_spec_l04Matrix_L0 (fun a => some (n_l01In a)) N0 := by
    funext s kc ke
    simp only [r_impl_squareOk_L0, r_spec_l04Matrix_L0, squareOk_L2]
  rw [this]

theorem len_range (a : List (List Int)) (h : a.length ≤ 5) : n_l01In ((a.length : Int), 1, 5, ()) = !decide ((a.length : Int) < 1) := by
  rw [Bool.eq_iff_iff]
  simp [n_l01In]; omega

theorem e_IsWeightMatrix (a : List (List Int)) (ha : Sm.sm B1 a) : e_impl_IsWeightMatrix (a, ()) = e_spec_IsWeightMatrix (a, ()) := by
  simp only [e_impl_IsWeightMatrix, e_spec_IsWeightMatrix, r_impl_IsWeightMatrix, r_spec_IsWeightMatrix, e_squareOk, p_l01In, p_l04Matrix a ha, Option.bind_some]
  have : r_impl_IsWeightMatrix_L0 e_spec_l04Matrix N0 = r_spec_IsWeightMatrix_L0 e_spec_l01In e_spec_l04Matrix N0 := rfl
  rw [this]
  by_cases h : n_sq a = true
  · have h5 : a.length ≤ 5 := by
      simp only [n_sq, Bool.and_eq_true, Bool.not_eq_true', decide_eq_false_iff_not] at h; omega
    rw [len_range a h5, h]
    cases decide ((a.length : Int) < 1) <;> rfl
  · simp only [Bool.not_eq_true] at h
    rw [h]
    simp

theorem sq_row {a : List (List Int)} (h : n_sq a = true) {x : List Int} (hx : x ∈ a) : x.length = a.length ∧ ∀ v ∈ x, -1000 ≤ v ∧ v ≤ 1000 := by
  simp only [n_sq, Bool.and_eq_true, Bool.not_eq_true', List.any_eq_false, Bool.or_eq_true, not_or, decide_eq_false_iff_not, Bool.not_eq_true, decide_eq_true_eq] at h
  have := h.2 x hx
  refine ⟨by simpa using this.1, fun v hv => ?_⟩
  have := this.2 v hv
  omega

theorem some_IsWeightMatrix (a : List (List Int)) (ha : Sm.sm B1 a) : (e_spec_IsWeightMatrix (a, ())).isSome = true := by
  simp only [e_spec_IsWeightMatrix, r_spec_IsWeightMatrix, p_l01In, p_l04Matrix a ha, Option.bind_some]
  cases n_l01In ((a.length : Int), 1, 5, ()) with
  | false => rfl
  | true =>
    simp only [Bool.not_true, cond_false]
    cases h : n_sq a with
    | false => rfl
    | true =>
      simp only [Bool.not_true, cond_false]
      rw [iter_range (R := Bool) a (fun (_ : Unit) i => (a, a, (a.length : Int), i, ()))
        (fun _ i x k => rangeK x 0 (0 : Int) (fun sum j v k => Option.bind (a[j]?) fun x2 => Option.bind (x2[i]?) fun x3 => cond (!(decide (v = x3))) (some false) (cond (!(decide ((i : Int) = (j : Int)))) (cond (decide (v > 0)) (some false) (k (wr (sum + v)))) (k (wr (sum + v)))))
          fun sum => cond (!decide (sum = 0)) (some false) (k ())) ?_ ?_ (len_lt ha N0_gt)]
      · refine rangeK_isSome (fun _ _ => True) a 0 () trivial (fun st i x k _ hx hk => ?_) fun _ _ => rfl
        refine rangeK_isSome (fun _ _ => True) x 0 _ trivial (fun sum j v k _ hv hk => ?_) fun sum _ => ?_
        · simp only [Nat.zero_add]
          obtain ⟨hxl, _⟩ := sq_row h (List.mem_of_getElem? hx)
          have hj := get_lt hv
          have hi := get_lt hx
          have e1 : a[j]? = some a[j] := List.getElem?_eq_getElem (by omega)
          obtain ⟨hl2, _⟩ := sq_row h (List.getElem_mem (l := a) (n := j) (by omega))
          have e2 : a[j][i]? = some a[j][i] := List.getElem?_eq_getElem (by omega)
          rw [e1, Option.bind_some, e2, Option.bind_some]
          cases (!(decide (v = a[j][i]))) with
          | true => rfl
          | false =>
            simp only [cond_false]
            cases (!(decide ((i : Int) = (j : Int)))) with
            | true =>
              simp only [cond_true]
              cases decide (v > 0) with
              | true => rfl
              | false => exact hk _ trivial
            | false => exact hk _ trivial
        · cases (!decide (sum = 0)) with
          | true => rfl
          | false => exact hk _ trivial
      · intro st i x kc ke hx hi
        simp only [r_spec_IsWeightMatrix_L0, lt_len, hi, decide_true, cond_true, getI_nat, hx, Option.bind_some]
        have hxs : Sm.sm B1 x := sm_get ha hx
        rw [iter_range (R := Bool) x (fun (sum : Int) j => (a, (i : Int), sum, a, (a.length : Int), (i : Int), x, (x.length : Int), j, ()))
          (fun sum j v k => Option.bind (a[j]?) fun x2 => Option.bind (x2[i]?) fun x3 => cond (!(decide (v = x3))) (some false) (cond (!(decide ((i : Int) = (j : Int)))) (cond (decide (v > 0)) (some false) (k (wr (sum + v)))) (k (wr (sum + v))))) ?_ ?_ (len_lt hxs N0_gt)]
        · simp only [wr_len hi ha]
        · intro st j v kc ke hv hj
          simp only [r_spec_IsWeightMatrix_L2, lt_len, hj, decide_true, cond_true, getI_nat, hv, Option.bind_some]
          rw [wr_len hj hxs]
        · intro st kc ke
          simp only [r_spec_IsWeightMatrix_L2, not_lt_self, cond_false]
      · intro st kc ke
        simp only [r_spec_IsWeightMatrix_L0, not_lt_self, cond_false]

theorem law_IsWeightMatrix (a : List (List Int)) (ha : Sm.sm BB a) : e_laws_FnExactIsWeightMatrix (a, ()) = some true := by
  simp only [e_laws_FnExactIsWeightMatrix, r_laws_FnExactIsWeightMatrix]
  obtain ⟨r, e1, e2, e3⟩ := sz_IntSS a 1048576 ha (by omega) (by omega)
  rw [e1, Option.bind_some]
  by_cases hr : r < 0
  · simp [hr]
  · have hd : decide (r < 0) = false := by simp; omega
    have hb : Sm.sm B1 a := up_intSS B01 (e3 (by omega))
    rw [hd, cond_false, to_IntSS a hb]
    simp only [Option.bind_some]
    rw [e_IsWeightMatrix a hb]
    obtain ⟨v, hv⟩ := Option.isSome_iff_exists.1 (some_IsWeightMatrix a hb)
    rw [hv]
    simp only [Option.bind_some, beqB_self, Bool.not_true, cond_false, eq_IntSS a hb]
end Go.Sx.R
