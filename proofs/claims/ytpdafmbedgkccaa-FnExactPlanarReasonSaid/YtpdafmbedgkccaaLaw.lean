/- The laws in plain words. Conditions: none. -/
import Derived.Test.YtpdafmbedgkccaaRes
/- Rules for loops. Conditions: none. -/
namespace Go.Sx

/-- The rule of loops, with a measure. -/
theorem iter_while {S R : Type} {body : S → (S → Option R) → (S → Option R) → Option R} {ke : S → Option R} (Q : Option R → Prop) (p : S → Prop) (mu : S → Nat)
    (h : ∀ s kc, p s → (∀ s', p s' → mu s' < mu s → Q (kc s')) → Q (body s kc ke)) : ∀ (N : Nat) (s : S), p s → mu s < N → Q (iterK body N s ke)
  | 0, _, _, hN => absurd hN (Nat.not_lt_zero _)
  | N + 1, s, hp, hN => by
    simp only [iterK]
    exact h s _ hp fun s' hp' hlt => iter_while Q p mu h N s' hp' (by omega)

/-- A loop over a list that ends with a fold's state. -/
theorem iter_fold {β σ S R : Type} {body : S → (S → Option R) → (S → Option R) → Option R} (l : List β) (mk : σ → Int → S) (p : Nat → σ → Prop) (g : σ → Nat → β → σ)
    (h : ∀ st (i : Nat) x kc ke, p i st → l[i]? = some x → i < l.length → body (mk st i) kc ke = kc (mk (g st i x) ((i + 1 : Nat) : Int)) ∧ p (i + 1) (g st i x))
    (h2 : ∀ st kc ke, p l.length st → body (mk st l.length) kc ke = ke (mk st l.length)) {N : Nat} (hN : l.length < N) (st : σ) (hp : p 0 st) (ke : S → Option R) :
    iterK body N (mk st 0) ke = ke (mk (foldI g l 0 st) l.length) ∧ p l.length (foldI g l 0 st) := by
  have gen : ∀ (r : List β) (i N : Nat) (st : σ), i + r.length = l.length → l.drop i = r → r.length < N → p i st → iterK body N (mk st i) ke = ke (mk (foldI g r i st) l.length) ∧ p l.length (foldI g r i st) := by
    intro r
    induction r with
    | nil =>
      intro i N st hi hd hN hp
      obtain ⟨m, rfl⟩ : ∃ m, N = m + 1 := ⟨N - 1, by omega⟩
      simp only [iterK, foldI]
      have e : i = l.length := by simpa using hi
      subst e
      exact ⟨h2 _ _ _ hp, hp⟩
    | cons x r ih =>
      intro i N st hi hd hN hp
      obtain ⟨m, rfl⟩ : ∃ m, N = m + 1 := ⟨N - 1, by omega⟩
      simp only [List.length_cons] at hi hN
      have hx : l[i]? = some x := by
        have := congrArg (fun l => l[0]?) hd
        simpa using this
      have q := h st i x (fun s' => iterK body m s' ke) ke hp hx (by omega)
      simp only [iterK, foldI]
      rw [q.1]
      exact ih (i + 1) m _ (by omega) (by rw [← List.drop_drop, hd]; simp) (by omega) q.2
  exact gen l 0 N st (by simp) (by simp) hN hp

/-- A loop over a list: the rule. -/
theorem iter_rule {β σ S R : Type} {body : S → (S → Option R) → (S → Option R) → Option R} {ke : S → Option R} (Q : Option R → Prop) (l : List β) (mk : σ → Int → S) (p : Nat → σ → Prop)
    (h : ∀ st (i : Nat) x kc, p i st → l[i]? = some x → i < l.length → (∀ st', p (i + 1) st' → Q (kc (mk st' ((i + 1 : Nat) : Int)))) → Q (body (mk st i) kc ke))
    (h2 : ∀ st kc, p l.length st → Q (body (mk st l.length) kc ke)) {N : Nat} (hN : l.length < N) (st : σ) (hp : p 0 st) : Q (iterK body N (mk st 0) ke) := by
  have gen : ∀ (d i N : Nat) (st : σ), i + d = l.length → d < N → p i st → Q (iterK body N (mk st i) ke) := by
    intro d
    induction d with
    | zero =>
      intro i N st hi hN hp
      obtain ⟨m, rfl⟩ : ∃ m, N = m + 1 := ⟨N - 1, by omega⟩
      have e : i = l.length := by omega
      subst e
      exact h2 _ _ hp
    | succ d ih =>
      intro i N st hi hN hp
      obtain ⟨m, rfl⟩ : ∃ m, N = m + 1 := ⟨N - 1, by omega⟩
      have hlt : i < l.length := by omega
      exact h st i l[i] _ hp (List.getElem?_eq_getElem hlt) hlt fun st' hp' => ih (i + 1) m st' (by omega) (by omega) hp'
  exact gen l.length 0 N st (by omega) hN hp

end Go.Sx

/- The laws' helpers: sizes, copies, comparisons. Conditions: none. -/
namespace Go.Sx.R
open Go Go.Sx

theorem wr_sub_len {n : Int} {len : Nat} (h0 : 0 ≤ n) (h1 : n ≤ 1048576) (hl : len ≤ 9223372036854775807) : wr (n - (len : Int)) = n - len := wr_id (by omega) (by omega)

theorem beqB_self (b : Bool) : beqB b b = true := by cases b <;> rfl

theorem sm_up {α : Type} [Sm α] (up : ∀ {B B' : Nat} {x : α}, B ≤ B' → Sm.sm B x → Sm.sm B' x) {B B' : Nat} {x : List α} (h : B ≤ B') (hx : Sm.sm B x) : Sm.sm B' x := ⟨Nat.le_trans hx.1 h, fun y hy => up h (hx.2 y hy)⟩
theorem up_int {B B' : Nat} {x : Int} (h : B ≤ B') (hx : Sm.sm B x) : Sm.sm B' x := hx
theorem up_intS {B B' : Nat} {x : List Int} (h : B ≤ B') (hx : Sm.sm B x) : Sm.sm B' x := sm_up up_int h hx
theorem up_intSS {B B' : Nat} {x : List (List Int)} (h : B ≤ B') (hx : Sm.sm B x) : Sm.sm B' x := sm_up up_intS h hx
theorem up_pair {B B' : Nat} {x : Int × Int} (h : B ≤ B') (hx : Sm.sm B x) : Sm.sm B' x := hx
theorem up_wire {B B' : Nat} {x : Int × Int × Int} (h : B ≤ B') (hx : Sm.sm B x) : Sm.sm B' x := hx
theorem up_wireS {B B' : Nat} {x : List (Int × Int × Int)} (h : B ≤ B') (hx : Sm.sm B x) : Sm.sm B' x := sm_up up_wire h hx
theorem up_pairS {B B' : Nat} {x : List (Int × Int)} (h : B ≤ B') (hx : Sm.sm B x) : Sm.sm B' x := sm_up up_pair h hx
theorem up_pairSS {B B' : Nat} {x : List (List (Int × Int))} (h : B ≤ B') (hx : Sm.sm B x) : Sm.sm B' x := sm_up up_pairS h hx
abbrev TNet := Int × Int × Int × List (Int × Int × Int)
theorem up_net {B B' : Nat} {x : TNet} (h : B ≤ B') (hx : Sm.sm B x) : Sm.sm B' x := ⟨hx.1, hx.2.1, hx.2.2.1, up_wireS h hx.2.2.2⟩
abbrev B0 : Nat := 1048576
theorem B01 : B0 ≤ B1 := by decide

theorem to_IntS (a : List Int) (ha : Sm.sm B1 a) : e_laws_toIntS (a, ()) = some a := by
  simp only [e_laws_toIntS, r_laws_toIntS, Int.toNat_natCast]
  rw [ble_true (by have := ha.1; simp only [B1] at this; omega), cond_true]
  rw [iter_range (R := List Int) a (fun (st : List Int) i => (a, st, i, ())) (fun st i x k => Option.bind (st[i]?) fun _ => k (st.set i x)) ?_ ?_ (len_lt ha N0_gt)]
  · rw [rangeK_copy (fun x => x) (0 : Int)]
    · simp
    · intro st j x k hs hx
      have : st[j]? = some (st[j]'(by rw [hs]; exact get_lt hx)) := List.getElem?_eq_getElem _
      rw [this]; rfl
  · intro st i x kc ke hx hi
    simp only [r_laws_toIntS_L0, lt_len, hi, decide_true, cond_true, getI_nat, hx, Option.bind_some]
    rw [wr_len hi ha, Int.toNat_natCast]
  · intro st kc ke
    simp only [r_laws_toIntS_L0, not_lt_self, cond_false]

theorem eq_IntS (a : List Int) (ha : Sm.sm B1 a) : e_laws_eqIntS (a, a, ()) = some true := by
  simp only [e_laws_eqIntS, r_laws_eqIntS, decide_true, Bool.not_true, cond_false]
  rw [iter_range (R := Bool) a (fun (_ : Unit) i => (a, a, i, ())) (fun st i x k => k ()) ?_ ?_ (len_lt ha N0_gt) ()]
  · rw [rangeK_fold (fun _ _ _ => ()) _ _ _ _ (fun _ _ _ _ _ => rfl)]
  · intro st i x kc ke hx hi
    simp only [r_laws_eqIntS_L0, lt_len, hi, decide_true, cond_true, getI_nat, hx, Option.bind_some, decide_true, Bool.not_true, cond_false]
    rw [wr_len hi ha]
  · intro st kc ke
    simp only [r_laws_eqIntS_L0, not_lt_self, cond_false]

theorem sz_IntS (a : List Int) (n : Int) (ha : Sm.sm BB a) (h0 : 0 ≤ n) (h1 : n ≤ 1048576) : ∃ r, e_laws_szIntS (a, n, ()) = some r ∧ r ≤ n ∧ (0 ≤ r → Sm.sm B0 a) := by
  simp only [e_laws_szIntS, r_laws_szIntS]
  rw [wr_sub_len h0 h1 ha.1]
  by_cases h : n - (a.length : Int) < 0
  · refine ⟨-1, ?_, by omega, by omega⟩
    simp [h]
  · refine ⟨n - a.length, ?_, by omega, fun _ => ⟨by simp only [B0]; omega, ha.2⟩⟩
    simp [h]

theorem to_IntSS (a : List (List Int)) (ha : Sm.sm B1 a) : e_laws_toIntSS (a, ()) = some a := by
  simp only [e_laws_toIntSS, r_laws_toIntSS, Int.toNat_natCast]
  rw [ble_true (by have := ha.1; simp only [B1] at this; omega), cond_true]
  rw [iter_range (R := List (List Int)) a (fun (st : List (List Int)) i => (a, st, i, ())) (fun st i x k => Option.bind (st[i]?) fun _ => k (st.set i x)) ?_ ?_ (len_lt ha N0_gt)]
  · rw [rangeK_copy (fun x => x) ([] : List Int)]
    · simp
    · intro st j x k hs hx
      have : st[j]? = some (st[j]'(by rw [hs]; exact get_lt hx)) := List.getElem?_eq_getElem _
      rw [this]; rfl
  · intro st i x kc ke hx hi
    simp only [r_laws_toIntSS_L0, lt_len, hi, decide_true, cond_true, getI_nat, hx, Option.bind_some, to_IntS _ (sm_get ha hx)]
    rw [wr_len hi ha, Int.toNat_natCast]
  · intro st kc ke
    simp only [r_laws_toIntSS_L0, not_lt_self, cond_false]

theorem eq_IntSS (a : List (List Int)) (ha : Sm.sm B1 a) : e_laws_eqIntSS (a, a, ()) = some true := by
  simp only [e_laws_eqIntSS, r_laws_eqIntSS, decide_true, Bool.not_true, cond_false]
  rw [iter_range (R := Bool) a (fun (_ : Unit) i => (a, a, i, ())) (fun st i x k => k ()) ?_ ?_ (len_lt ha N0_gt) ()]
  · rw [rangeK_fold (fun _ _ _ => ()) _ _ _ _ (fun _ _ _ _ _ => rfl)]
  · intro st i x kc ke hx hi
    simp only [r_laws_eqIntSS_L0, lt_len, hi, decide_true, cond_true, getI_nat, hx, Option.bind_some, eq_IntS _ (sm_get ha hx), Option.bind_some, Bool.not_true, cond_false]
    rw [wr_len hi ha]
  · intro st kc ke
    simp only [r_laws_eqIntSS_L0, not_lt_self, cond_false]

theorem sz_IntSS (a : List (List Int)) (n : Int) (ha : Sm.sm BB a) (h0 : 0 ≤ n) (h1 : n ≤ 1048576) : ∃ r, e_laws_szIntSS (a, n, ()) = some r ∧ r ≤ n ∧ (0 ≤ r → Sm.sm B0 a) := by
  simp only [e_laws_szIntSS, r_laws_szIntSS]
  rw [wr_sub_len h0 h1 ha.1]
  by_cases h : n - (a.length : Int) < 0
  · refine ⟨-1, ?_, by omega, by omega⟩
    simp [h]
  · have hd : decide (n - (a.length : Int) < 0) = false := by simp; omega
    rw [hd, cond_false]
    rw [iter_range (R := Int) a (fun (st : Int) i => (a, st, i, ())) (fun st i x k => Option.bind (e_laws_szIntS (x, st, ())) fun x2 => cond (decide (x2 < 0)) (some (-1)) (k x2)) ?_ ?_ (len_ltB ha N0_gt)]
    · refine rangeK_rule (fun o => ∃ r, o = some r ∧ r ≤ n ∧ (0 ≤ r → Sm.sm B0 a)) (fun i st => 0 ≤ st ∧ st ≤ n ∧ ∀ j x, j < i → a[j]? = some x → Sm.sm B0 x) a 0 _ ⟨by omega, by omega, by simp⟩ ?_ ?_
      · intro st j x k ⟨q0, q1, q2⟩ hx hk
        simp only [Nat.zero_add] at *
        obtain ⟨r, e1, e2, e3⟩ := sz_IntS x st (sm_get ha hx) q0 (by omega)
        simp only [e1, Option.bind_some]
        by_cases hr : r < 0
        · refine ⟨-1, by simp [hr], by omega, by omega⟩
        · have hd : decide (r < 0) = false := by simp; omega
          simp only [hd, cond_false]
          refine hk r ⟨by omega, by omega, fun i y hi hy => ?_⟩
          by_cases e : i = j
          · subst e; rw [hx] at hy; simp only [Option.some.injEq] at hy; subst hy; exact e3 (by omega)
          · exact q2 i y (by omega) hy
      · intro st ⟨q0, q1, q2⟩
        refine ⟨st, rfl, q1, fun _ => ⟨by simp only [B0]; omega, fun y hy => ?_⟩⟩
        obtain ⟨j, hj⟩ := List.getElem?_of_mem hy
        exact q2 j y (by have := get_lt hj; omega) hj
    · intro st i x kc ke hx hi
      simp only [r_laws_szIntSS_L0, lt_len, hi, decide_true, cond_true, getI_nat, hx, Option.bind_some]
      rw [wr_lenB hi ha]
    · intro st kc ke
      simp only [r_laws_szIntSS_L0, not_lt_self, cond_false]

end Go.Sx.R

/- Matrices of weights: the program's test and the reference's are one. Conditions: none. -/
namespace Go.Sx.R
open Go Go.Sx

def n_l01In (a : Int × Int × Int × Unit) : Bool := decide (a.2.1 ≤ a.1) && decide (a.1 ≤ a.2.2.1)

theorem p_l01In (a : Int × Int × Int × Unit) : e_spec_l01In a = some (n_l01In a) := by
  obtain ⟨a0, a1, a2, _⟩ := a
  simp only [e_spec_l01In, r_spec_l01In, n_l01In]
  by_cases h : a1 ≤ a0 <;> simp [h]

theorem e_l01In : e_spec_l01In = fun a => some (n_l01In a) := funext p_l01In

/-- Square, of numbers up to a bound, not too large. -/
def n_sq (a : List (List Int)) : Bool := !decide (a.length > 5) && !(a.any fun x => !decide (x.length = a.length) || x.any fun v => decide (v < -1000) || decide (v > 1000))

theorem p_l04Matrix (a : List (List Int)) (ha : Sm.sm B1 a) : e_spec_l04Matrix (a, ()) = some (n_sq a) := by
  simp only [e_spec_l04Matrix, e_l01In, r_spec_l04Matrix, n_sq]
  by_cases h5 : a.length > 5
  · have : decide ((a.length : Int) > 5) = true := by simp; omega
    rw [this]; simp [h5]
  have h5' : decide ((a.length : Int) > 5) = false := by simp; omega
  rw [h5']
  simp only [cond_false]
  rw [iter_range (R := Bool) a (fun (_ : Unit) i => (a, a, (a.length : Int), i, ()))
    (fun _ i x k => cond (!decide (x.length = a.length)) (some false) (rangeK x 0 () (fun _ _ v k => cond (decide (v < -1000) || decide (v > 1000)) (some false) (k ())) (fun _ => k ()))) ?_ ?_ (len_lt ha N0_gt)]
  · rw [rangeK_stop' (fun x => !decide (x.length = a.length) || x.any fun v => decide (v < -1000) || decide (v > 1000)) (some false)]
    · simp only [h5, decide_false, Bool.not_false, Bool.true_and]
      cases (a.any _) <;> rfl
    · intro j x k hx
      rw [rangeK_stop' (fun v => decide (v < -1000) || decide (v > 1000)) (some false) _ _ _ (fun _ _ _ _ => rfl)]
      cases decide (x.length = a.length) <;> simp
  · intro st i x kc ke hx hi
    simp only [r_spec_l04Matrix_L0, lt_len, hi, decide_true, cond_true, getI_nat, hx, Option.bind_some]
    rw [dec_eq]
    congr 1
    have hxs : Sm.sm B1 x := sm_get ha hx
    rw [iter_range (R := Bool) x (fun (_ : Unit) j => (a, a, (a.length : Int), (i : Int), x, (x.length : Int), j, ()))
      (fun _ _ v k => cond (decide (v < -1000) || decide (v > 1000)) (some false) (k ())) ?_ ?_ (len_lt hxs N0_gt)]
    · rw [wr_len hi ha]
    · intro st j v kc ke hv hj
      simp only [r_spec_l04Matrix_L2, lt_len, hj, decide_true, cond_true, getI_nat, hv, Option.bind_some]
      rw [wr_len hj hxs]
      simp only [n_l01In]
      have : (!(decide (-1000 ≤ v) && decide (v ≤ 1000))) = (decide (v < -1000) || decide (v > 1000)) := by
        rw [Bool.eq_iff_iff]; simp only [Bool.not_eq_true', Bool.and_eq_false_iff, decide_eq_false_iff_not, Bool.or_eq_true, decide_eq_true_eq]; omega
      rw [this]
    · intro st kc ke
      simp [r_spec_l04Matrix_L2]
  · intro st kc ke
    simp [r_spec_l04Matrix_L0]

theorem squareOk_L2 (N : Nat) : r_impl_squareOk_L2 N = r_spec_l04Matrix_L2 (fun a => some (n_l01In a)) N := by
  funext s kc ke
  simp only [r_impl_squareOk_L2, r_spec_l04Matrix_L2]
  congr 1; congr 1; funext x
  simp only [n_l01In, Option.bind_some]
  by_cases h1 : x < -1000
  · have : ¬ (-1000 ≤ x) := by omega
    simp [h1, this]
  · by_cases h2 : x > 1000
    · have : ¬ (x ≤ 1000) := by omega
      have : -1000 ≤ x := by omega
      simp [h1, h2, *]
    · have a1 : (x ≤ 1000) := by omega
      have a2 : -1000 ≤ x := by omega
      simp [h1, h2, a1, a2]

theorem e_squareOk : e_impl_squareOk = e_spec_l04Matrix := by
  funext a
  simp only [e_impl_squareOk, e_spec_l04Matrix, e_l01In, r_impl_squareOk, r_spec_l04Matrix]
  have : r_impl_squareOk_L0 N0 = r_spec_l04Matrix_L0 (fun a => some (n_l01In a)) N0 := by
    funext s kc ke
    simp only [r_impl_squareOk_L0, r_spec_l04Matrix_L0, squareOk_L2]
  rw [this]

theorem len_range (a : List (List Int)) (h : a.length ≤ 5) : n_l01In ((a.length : Int), 1, 5, ()) = !decide ((a.length : Int) < 1) := by
  rw [Bool.eq_iff_iff]
  simp [n_l01In]; omega

theorem e_IsWeightMatrix (a : List (List Int)) (ha : Sm.sm B1 a) : e_impl_IsWeightMatrix (a, ()) = e_spec_IsWeightMatrix (a, ()) := by
  simp only [e_impl_IsWeightMatrix, e_spec_IsWeightMatrix, r_impl_IsWeightMatrix, r_spec_IsWeightMatrix, e_squareOk, p_l01In, p_l04Matrix a ha, Option.bind_some]
  have : r_impl_IsWeightMatrix_L0 e_spec_l04Matrix N0 = r_spec_IsWeightMatrix_L0 e_spec_l01In e_spec_l04Matrix N0 := rfl
  rw [this]
  by_cases h : n_sq a = true
  · have h5 : a.length ≤ 5 := by
      simp only [n_sq, Bool.and_eq_true, Bool.not_eq_true', decide_eq_false_iff_not] at h; omega
    rw [len_range a h5, h]
    cases decide ((a.length : Int) < 1) <;> rfl
  · simp only [Bool.not_eq_true] at h
    rw [h]
    simp

theorem sq_row {a : List (List Int)} (h : n_sq a = true) {x : List Int} (hx : x ∈ a) : x.length = a.length ∧ ∀ v ∈ x, -1000 ≤ v ∧ v ≤ 1000 := by
  simp only [n_sq, Bool.and_eq_true, Bool.not_eq_true', List.any_eq_false, Bool.or_eq_true, not_or, decide_eq_false_iff_not, Bool.not_eq_true, decide_eq_true_eq] at h
  have := h.2 x hx
  refine ⟨by simpa using this.1, fun v hv => ?_⟩
  have := this.2 v hv
  omega

theorem some_IsWeightMatrix (a : List (List Int)) (ha : Sm.sm B1 a) : (e_spec_IsWeightMatrix (a, ())).isSome = true := by
  simp only [e_spec_IsWeightMatrix, r_spec_IsWeightMatrix, p_l01In, p_l04Matrix a ha, Option.bind_some]
  cases n_l01In ((a.length : Int), 1, 5, ()) with
  | false => rfl
  | true =>
    simp only [Bool.not_true, cond_false]
    cases h : n_sq a with
    | false => rfl
    | true =>
      simp only [Bool.not_true, cond_false]
      rw [iter_range (R := Bool) a (fun (_ : Unit) i => (a, a, (a.length : Int), i, ()))
        (fun _ i x k => rangeK x 0 (0 : Int) (fun sum j v k => Option.bind (a[j]?) fun x2 => Option.bind (x2[i]?) fun x3 => cond (!(decide (v = x3))) (some false) (cond (!(decide ((i : Int) = (j : Int)))) (cond (decide (v > 0)) (some false) (k (wr (sum + v)))) (k (wr (sum + v)))))
          fun sum => cond (!decide (sum = 0)) (some false) (k ())) ?_ ?_ (len_lt ha N0_gt)]
      · refine rangeK_isSome (fun _ _ => True) a 0 () trivial (fun st i x k _ hx hk => ?_) fun _ _ => rfl
        refine rangeK_isSome (fun _ _ => True) x 0 _ trivial (fun sum j v k _ hv hk => ?_) fun sum _ => ?_
        · simp only [Nat.zero_add]
          obtain ⟨hxl, _⟩ := sq_row h (List.mem_of_getElem? hx)
          have hj := get_lt hv
          have hi := get_lt hx
          have e1 : a[j]? = some a[j] := List.getElem?_eq_getElem (by omega)
          obtain ⟨hl2, _⟩ := sq_row h (List.getElem_mem (l := a) (n := j) (by omega))
          have e2 : a[j][i]? = some a[j][i] := List.getElem?_eq_getElem (by omega)
          rw [e1, Option.bind_some, e2, Option.bind_some]
          cases (!(decide (v = a[j][i]))) with
          | true => rfl
          | false =>
            simp only [cond_false]
            cases (!(decide ((i : Int) = (j : Int)))) with
            | true =>
              simp only [cond_true]
              cases decide (v > 0) with
              | true => rfl
              | false => exact hk _ trivial
            | false => exact hk _ trivial
        · cases (!decide (sum = 0)) with
          | true => rfl
          | false => exact hk _ trivial
      · intro st i x kc ke hx hi
        simp only [r_spec_IsWeightMatrix_L0, lt_len, hi, decide_true, cond_true, getI_nat, hx, Option.bind_some]
        have hxs : Sm.sm B1 x := sm_get ha hx
        rw [iter_range (R := Bool) x (fun (sum : Int) j => (a, (i : Int), sum, a, (a.length : Int), (i : Int), x, (x.length : Int), j, ()))
          (fun sum j v k => Option.bind (a[j]?) fun x2 => Option.bind (x2[i]?) fun x3 => cond (!(decide (v = x3))) (some false) (cond (!(decide ((i : Int) = (j : Int)))) (cond (decide (v > 0)) (some false) (k (wr (sum + v)))) (k (wr (sum + v))))) ?_ ?_ (len_lt hxs N0_gt)]
        · simp only [wr_len hi ha]
        · intro st j v kc ke hv hj
          simp only [r_spec_IsWeightMatrix_L2, lt_len, hj, decide_true, cond_true, getI_nat, hv, Option.bind_some]
          rw [wr_len hj hxs]
        · intro st kc ke
          simp only [r_spec_IsWeightMatrix_L2, not_lt_self, cond_false]
      · intro st kc ke
        simp only [r_spec_IsWeightMatrix_L0, not_lt_self, cond_false]

end Go.Sx.R

/- Networks: the program's test and the reference's are one. Conditions: none. -/
namespace Go.Sx.R
open Go Go.Sx

-- lists without doubles
theorem nodup_len {α : Type} [DecidableEq α] : ∀ {l m : List α}, l.Nodup → (∀ x ∈ l, x ∈ m) → l.length ≤ m.length
  | [], m, _, _ => Nat.zero_le _
  | x :: l, m, h, hs => by
    have hx : x ∈ m := hs x (by simp)
    have hd := List.nodup_cons.1 h
    have := nodup_len (l := l) (m := m.erase x) hd.2 fun y hy => (List.mem_erase_of_ne (by rintro rfl; exact hd.1 hy)).2 (hs y (by simp [hy]))
    rw [List.length_erase_of_mem hx] at this
    have hp : 0 < m.length := List.length_pos_of_mem hx
    simp only [List.length_cons]; omega

theorem nodup_all {α : Type} [DecidableEq α] {l m : List α} (h : l.Nodup) (hs : ∀ x ∈ l, x ∈ m) (hl : m.length ≤ l.length) : ∀ x ∈ m, x ∈ l := by
  intro x hx
  by_cases hxl : x ∈ l
  · exact hxl
  · have := nodup_len (l := x :: l) (m := m) (List.nodup_cons.2 ⟨hxl, h⟩) (by
      intro y hy
      rcases List.mem_cons.1 hy with rfl | hy
      · exact hx
      · exact hs y hy)
    simp at this; omega

/-- The numbers below n. -/
def ints (n : Nat) : List Int := (List.range n).map Int.ofNat
theorem mem_ints {n : Nat} {x : Int} : x ∈ ints n ↔ 0 ≤ x ∧ x < n := by
  simp only [ints, List.mem_map, List.mem_range]
  constructor
  · rintro ⟨i, hi, rfl⟩
    simp only [Int.ofNat_eq_natCast]; omega
  · intro h; exact ⟨x.toNat, by omega, by simp only [Int.ofNat_eq_natCast]; omega⟩
theorem len_ints {n : Nat} : (ints n).length = n := by simp [ints]
theorem nodup_ints {n : Nat} : (ints n).Nodup := by
  refine List.Pairwise.map Int.ofNat (fun (a b : Nat) (h : a ≠ b) => ?_) (List.nodup_range (n := n))
  intro e
  simp only [Int.ofNat_eq_natCast] at e
  exact h (by omega)

abbrev W3 := Int × Int × Int

-- looking in lists
theorem p_Has (xs : List Int) (v : Int) (hl : xs.length ≤ BB) : e_spec_l03Has (xs, v, ()) = some (decide (v ∈ xs)) := by
  simp only [e_spec_l03Has, r_spec_l03Has]
  rw [iter_range (R := Bool) xs (fun (_ : Unit) i => (v, xs, (xs.length : Int), i, ())) (fun _ i x k => cond (decide (x = v)) (some true) (k ())) ?_ ?_ (by have := N0_gt; omega) ()]
  · rw [rangeK_stop' (fun x => decide (x = v)) (some true) _ _ _ (fun _ _ _ _ => rfl)]
    have : xs.any (fun x => decide (x = v)) = decide (v ∈ xs) := by
      rw [Bool.eq_iff_iff]; simp
    rw [this]; cases decide (v ∈ xs) <;> rfl
  · intro st i x kc ke hx hi
    simp only [r_spec_l03Has_L0, lt_len, hi, decide_true, cond_true, getI_nat, hx, Option.bind_some]
    rw [wr_succ hi hl]
  · intro st kc ke
    simp only [r_spec_l03Has_L0, not_lt_self, cond_false]

def n_cmp (x y : Int) : Int := if x < y then -1 else if x > y then 1 else 0
theorem N0_big : 9223372036854775807 < N0 := N0_gt
theorem N0_succ : ∃ m, N0 = m + 5 := ⟨N0 - 5, by have := N0_big; omega⟩

def n_byEnds (x y : W3) : Int := if n_cmp x.1 y.1 = 0 then n_cmp x.2.1 y.2.1 else n_cmp x.1 y.1
/-- Strictly before. -/
def lex (x y : W3) : Bool := decide (x.1 < y.1) || (decide (x.1 = y.1) && decide (x.2.1 < y.2.1))
theorem byEnds_lex (x y : W3) : decide (n_byEnds x y ≥ 0) = !lex x y := by
  rw [Bool.eq_iff_iff]
  by_cases a : x.1 < y.1
  · have a2 : ¬ x.1 > y.1 := by omega
    simp [n_byEnds, n_cmp, lex, a]
  · by_cases b : x.1 > y.1
    · have e : ¬ x.1 = y.1 := by omega
      simp [n_byEnds, n_cmp, lex, a, b, e]
    · have e : x.1 = y.1 := by omega
      by_cases c : x.2.1 < y.2.1
      · simp [n_byEnds, n_cmp, lex, e, c]
      · by_cases d : x.2.1 > y.2.1 <;> simp [n_byEnds, n_cmp, lex, e, c, d]

/-- A wire at place i that does not fit. -/
def badW (nodes : Int) (ws : List W3) (i : Nat) (x : W3) : Bool :=
  !(decide (0 ≤ x.1) && decide (x.1 < x.2.1) && decide (x.2.1 < nodes) && decide (1 ≤ x.2.2) && decide (x.2.2 ≤ 200)) || (match i with | 0 => false | j + 1 => match ws[j]? with | some y => !lex y x | none => false)

def wiresBad (n : TNet) : Bool := (n.2.2.2.zipIdx 0).any fun p => badW n.1 n.2.2.2 p.2 p.1
def hdrOk (n : TNet) : Bool := decide (1 ≤ n.1) && decide (n.1 ≤ 5) && decide (1 ≤ n.2.1) && decide (n.2.1 ≤ n.1) && decide (1 ≤ n.2.2.1) && decide (n.2.2.1 ≤ 1000)

inductive Rc (ws : List W3) : Int → Prop
  | zero : Rc ws 0
  | ab {e : W3} : e ∈ ws → Rc ws e.1 → Rc ws e.2.1
  | ba {e : W3} : e ∈ ws → Rc ws e.2.1 → Rc ws e.1

/-- The wires lie among the nodes. -/
def InW (nodes : Nat) (ws : List W3) : Prop := ∀ e ∈ ws, 0 ≤ e.1 ∧ e.1 < e.2.1 ∧ e.2.1 < nodes

theorem Rc.inn {nodes : Nat} {ws : List W3} (h0 : 0 < nodes) (hw : InW nodes ws) {v : Int} (h : Rc ws v) : 0 ≤ v ∧ v < nodes := by
  cases h with
  | zero => omega
  | ab he _ => have := hw _ he; omega
  | ba he _ => have := hw _ he; omega

-- the program's marks
def gt (st : List Bool) (v : Int) : Bool := (st[v.toNat]?).getD false
def upd (st : List Bool) (e : W3) : List Bool := if gt st e.1 = true ∨ gt st e.2.1 = true then (st.set e.1.toNat true).set e.2.1.toNat true else st
def cnt (st : List Bool) : Nat := (st.filter id).length

theorem cnt_le (st : List Bool) : cnt st ≤ st.length := List.length_filter_le _ _

theorem cnt_set : ∀ (st : List Bool) (i : Nat), cnt st ≤ cnt (st.set i true) ∧ (st[i]? = some false → cnt st + 1 ≤ cnt (st.set i true))
  | [], i => by simp [cnt]
  | b :: st, 0 => by cases b <;> simp [cnt]
  | b :: st, i + 1 => by
    have := cnt_set st i
    cases b <;> simp_all [cnt]

theorem gt_set (st : List Bool) (i : Nat) (v : Int) : gt (st.set i true) v = (gt st v || (decide (i = v.toNat) && decide (i < st.length))) := by
  simp only [gt, List.getElem?_set]
  by_cases e : i = v.toNat
  · subst e
    by_cases h : v.toNat < st.length
    · simp [h]
    · simp [h]
  · simp [e]

theorem upd_len (st : List Bool) (e : W3) : (upd st e).length = st.length := by
  unfold upd; split <;> simp

theorem upd_mono {st : List Bool} {e : W3} {v : Int} (h : gt st v = true) : gt (upd st e) v = true := by
  unfold upd; split
  · simp [gt_set, h]
  · exact h

theorem upd_sound {ws : List W3} {st : List Bool} {e : W3} {nodes : Nat} (hl : st.length = nodes) (hw : InW nodes ws) (he : e ∈ ws) (h : ∀ v, 0 ≤ v → gt st v = true → Rc ws v) : ∀ v, 0 ≤ v → gt (upd st e) v = true → Rc ws v := by
  intro v hv hg
  obtain ⟨h1, h2, h3⟩ := hw e he
  unfold upd at hg
  split at hg
  · rename_i hor
    have ha : Rc ws e.1 ∧ Rc ws e.2.1 := by
      rcases hor with hor | hor
      · have := h _ h1 hor; exact ⟨this, .ab he this⟩
      · have := h _ (by omega) hor; exact ⟨.ba he this, this⟩
    simp only [gt_set, Bool.or_eq_true, Bool.and_eq_true, decide_eq_true_eq] at hg
    rcases hg with (hg | hg) | hg
    · exact h v hv hg
    · have : e.1 = v := by omega
      rw [← this]; exact ha.1
    · have : e.2.1 = v := by omega
      rw [← this]; exact ha.2
  · exact h v hv hg

theorem gt_false {st : List Bool} {v : Int} (h : gt st v = false) (hl : v.toNat < st.length) : st[v.toNat]? = some false := by
  have : st[v.toNat]? = some st[v.toNat] := List.getElem?_eq_getElem hl
  unfold gt at h
  rw [this] at h ⊢
  simpa using h

theorem upd_cnt (st : List Bool) (e : W3) : cnt st ≤ cnt (upd st e) := by
  unfold upd; split
  · exact Nat.le_trans (cnt_set st _).1 (cnt_set _ _).1
  · exact Nat.le_refl _

theorem upd_grow {st : List Bool} {e : W3} {nodes : Nat} (hl : st.length = nodes) (hi : 0 ≤ e.1 ∧ e.1 < e.2.1 ∧ e.2.1 < nodes) (h : gt st e.1 ≠ gt st e.2.1) : cnt st + 1 ≤ cnt (upd st e) := by
  have hor : gt st e.1 = true ∨ gt st e.2.1 = true := by
    revert h; cases gt st e.1 <;> cases gt st e.2.1 <;> simp
  unfold upd
  rw [if_pos hor]
  by_cases h1 : gt st e.1 = true
  · have h2 : gt st e.2.1 = false := by
      revert h; rw [h1]; cases gt st e.2.1 <;> simp
    have : gt (st.set e.1.toNat true) e.2.1 = false := by
      rw [gt_set, h2]; simp; omega
    have hs := gt_false this (by simp; omega)
    exact Nat.le_trans (Nat.add_le_add_right (cnt_set st _).1 1) ((cnt_set _ _).2 hs)
  · have h1' : gt st e.1 = false := by simpa using h1
    have hs := gt_false h1' (by omega)
    exact Nat.le_trans ((cnt_set st _).2 hs) (cnt_set _ _).1

theorem upd_fix {st : List Bool} {e : W3} {nodes : Nat} (hl : st.length = nodes) (hi : 0 ≤ e.1 ∧ e.1 < e.2.1 ∧ e.2.1 < nodes) (h : gt st e.1 = gt st e.2.1) : upd st e = st := by
  unfold upd
  split
  · rename_i hor
    have hb : gt st e.1 = true ∧ gt st e.2.1 = true := by
      rw [h] at hor ⊢; rcases hor with hor | hor <;> exact ⟨hor, hor⟩
    have one : ∀ (v : Int), gt st v = true → st.set v.toNat true = st := by
      intro v hv
      apply List.ext_getElem?; intro j
      rw [List.getElem?_set]
      split
      · rename_i ej; subst ej
        unfold gt at hv
        split
        · rename_i hlt
          rw [List.getElem?_eq_getElem hlt] at hv ⊢
          simp at hv; rw [hv]
        · rename_i hlt
          rw [List.getElem?_eq_none (by omega)]
      · rfl
    rw [one _ hb.1, one _ hb.2]
  · rfl

def Closed (ws : List W3) (st : List Bool) : Prop := ∀ e ∈ ws, gt st e.1 = gt st e.2.1

theorem round_fix {nodes : Nat} : ∀ {ws : List W3} {st : List Bool}, st.length = nodes → InW nodes ws → Closed ws st → ws.foldl upd st = st
  | [], _, _, _, _ => rfl
  | e :: ws, st, hl, hw, hc => by
    simp only [List.foldl_cons]
    rw [upd_fix hl (hw e (by simp)) (hc e (by simp))]
    exact round_fix hl (fun x hx => hw x (by simp [hx])) fun x hx => hc x (by simp [hx])

theorem round_mono {nodes : Nat} : ∀ {ws : List W3} {st : List Bool}, cnt st ≤ cnt (ws.foldl upd st)
  | [], _ => Nat.le_refl _
  | e :: ws, st => Nat.le_trans (upd_cnt st e) (round_mono (nodes := nodes) (ws := ws))

theorem round_grow {nodes : Nat} : ∀ {ws : List W3} {st : List Bool}, st.length = nodes → InW nodes ws → Closed ws st ∨ cnt st + 1 ≤ cnt (ws.foldl upd st)
  | [], _, _, _ => .inl fun _ h => by simp at h
  | e :: ws, st, hl, hw => by
    by_cases h : gt st e.1 = gt st e.2.1
    · simp only [List.foldl_cons, upd_fix hl (hw e (by simp)) h]
      rcases round_grow (ws := ws) hl (fun x hx => hw x (by simp [hx])) with hc | hg
      · refine .inl fun x hx => ?_
        rcases List.mem_cons.1 hx with rfl | hx
        · exact h
        · exact hc x hx
      · exact .inr hg
    · refine .inr ?_
      simp only [List.foldl_cons]
      exact Nat.le_trans (upd_grow hl (hw e (by simp)) h) (round_mono (nodes := nodes))

theorem round_len : ∀ {ws : List W3} {st : List Bool}, (ws.foldl upd st).length = st.length
  | [], _ => rfl
  | e :: ws, st => by simp only [List.foldl_cons]; rw [round_len, upd_len]

theorem round_keep {v : Int} : ∀ {ws : List W3} {st : List Bool}, gt st v = true → gt (ws.foldl upd st) v = true
  | [], _, h => h
  | e :: ws, st, h => by simp only [List.foldl_cons]; exact round_keep (upd_mono h)

theorem round_sound {ws0 : List W3} {nodes : Nat} (hw : InW nodes ws0) : ∀ {ws : List W3} {st : List Bool}, (∀ e ∈ ws, e ∈ ws0) → st.length = nodes → (∀ v, 0 ≤ v → gt st v = true → Rc ws0 v) → ∀ v, 0 ≤ v → gt (ws.foldl upd st) v = true → Rc ws0 v
  | [], _, _, _, h => h
  | e :: ws, st, hs, hl, h => by
    simp only [List.foldl_cons]
    exact round_sound hw (fun x hx => hs x (by simp [hx])) ((upd_len st e).trans hl) (upd_sound hl hw (hs e (by simp)) h)

/-- All nodes can be reached. -/
noncomputable def conn (n : TNet) : Bool := open Classical in decide (∀ v : Int, 0 ≤ v → v < n.1 → Rc n.2.2.2 v)

theorem closed_all {ws : List W3} {st : List Bool} (hc : Closed ws st) (h0 : gt st 0 = true) : ∀ v, Rc ws v → gt st v = true := by
  intro v h
  induction h with
  | zero => exact h0
  | ab he _ ih => rw [← hc _ he]; exact ih
  | ba he _ ih => rw [hc _ he]; exact ih

theorem all_true {st : List Bool} {nodes : Nat} (hl : st.length = nodes) : decide (false ∈ st) = false ↔ ∀ v : Int, 0 ≤ v → v < nodes → gt st v = true := by
  constructor
  · intro h v h0 h1
    simp only [decide_eq_false_iff_not] at h
    cases hg : gt st v with
    | true => rfl
    | false => exact absurd (List.mem_of_getElem? (gt_false hg (by omega))) h
  · intro h
    simp only [decide_eq_false_iff_not]
    intro hm
    obtain ⟨i, hi⟩ := List.getElem?_of_mem hm
    have := h (i : Int) (by omega) (by have := get_lt hi; omega)
    simp [gt, hi] at this

end Go.Sx.R

/- Networks: connected or not, by the program's marks and by the reference's queue. Conditions: none. -/
namespace Go.Sx.R
open Go Go.Sx

theorem getI_gt {st : List Bool} {v : Int} (h0 : 0 ≤ v) (h1 : v < st.length) : getI st v = some (gt st v) := by
  have e : v = ((v.toNat : Nat) : Int) := by omega
  have hl : v.toNat < st.length := by omega
  rw [e, getI_nat, gt, Int.toNat_natCast, List.getElem?_eq_getElem hl]; rfl

def met4 (st : List Bool) (_ : Nat) (x : W3) (k : List Bool → Option Bool) : Option Bool :=
  Option.bind (getI st x.1) fun b => cond b (Option.bind (getI st x.1) fun _ => Option.bind (getI (st.set x.1.toNat true) x.2.1) fun _ => k ((st.set x.1.toNat true).set x.2.1.toNat true))
    (Option.bind (getI st x.2.1) fun b2 => cond b2 (Option.bind (getI st x.1) fun _ => Option.bind (getI (st.set x.1.toNat true) x.2.1) fun _ => k ((st.set x.1.toNat true).set x.2.1.toNat true)) (k st))

theorem met4_upd {st : List Bool} {j : Nat} {x : W3} {k : List Bool → Option Bool} (hi : 0 ≤ x.1 ∧ x.1 < x.2.1 ∧ x.2.1 < st.length) : met4 st j x k = k (upd st x) := by
  have g1 := getI_gt (st := st) (v := x.1) (by omega) (by omega)
  have g2 := getI_gt (st := st) (v := x.2.1) (by omega) (by omega)
  have g3 := getI_gt (st := st.set x.1.toNat true) (v := x.2.1) (by omega) (by simp; omega)
  simp only [met4, g1, g2, g3, Option.bind_some, upd]
  cases h1 : gt st x.1 <;> cases h2 : gt st x.2.1 <;> simp

theorem wiresOk {n : TNet} {m : Nat} (hm : n.1 = m) (h : wiresBad n = false) : InW m n.2.2.2 := by
  intro e he
  obtain ⟨i, hi⟩ := List.getElem?_of_mem he
  simp only [wiresBad, List.any_eq_false] at h
  have := h (e, i) (by rw [List.mem_zipIdx_iff_getElem?]; exact hi)
  simp only [badW, Bool.not_eq_true, Bool.or_eq_false_iff, Bool.not_eq_false', Bool.and_eq_true, decide_eq_true_eq] at this
  omega

noncomputable def netok (n : TNet) : Bool := hdrOk n && !wiresBad n && conn n

end Go.Sx.R

/- Networks: the reference's queue. Conditions: none. -/
namespace Go.Sx.R
open Go Go.Sx

def addIf (c : Bool) (v : Int) (q : List Int) : List Int := if c = true ∧ v ∉ q then q ++ [v] else q

theorem addIf_mem {c : Bool} {v u : Int} {q : List Int} (h : u ∈ q) : u ∈ addIf c v q := by
  unfold addIf; split
  · simp [h]
  · exact h
theorem addIf_in {v : Int} {q : List Int} : v ∈ addIf true v q := by
  unfold addIf; split
  · simp
  · rename_i h; simpa using h
theorem addIf_get {c : Bool} {v u : Int} {q : List Int} {i : Nat} (h : q[i]? = some u) : (addIf c v q)[i]? = some u := by
  unfold addIf; split
  · rw [List.getElem?_append_left (get_lt h)]; exact h
  · exact h
theorem addIf_len {c : Bool} {v : Int} {q : List Int} : q.length ≤ (addIf c v q).length := by
  unfold addIf; split <;> simp

/-- What holds of the queue. -/
structure QOk (ws : List W3) (q : List Int) : Prop where
  nodup : q.Nodup
  rc : ∀ v ∈ q, Rc ws v
  zero : (0 : Int) ∈ q

theorem QOk.add {ws : List W3} {q : List Int} (h : QOk ws q) {c : Bool} {v : Int} (hv : c = true → Rc ws v) : QOk ws (addIf c v q) := by
  unfold addIf; split
  · rename_i hc
    refine ⟨?_, fun u hu => ?_, by simp [h.zero]⟩
    · rw [List.nodup_append]
      refine ⟨h.nodup, by simp, fun a ha b hb e => ?_⟩
      simp at hb; subst hb; subst e; exact hc.2 ha
    · rcases List.mem_append.1 hu with hu | hu
      · exact h.rc u hu
      · simp at hu; subst hu; exact hv hc.1
  · exact h

theorem QOk.len {ws : List W3} {q : List Int} {m : Nat} (h : QOk ws q) (h0 : 0 < m) (hw : InW m ws) : q.length ≤ m := by
  have := nodup_len (m := ints m) h.nodup fun v hv => mem_ints.2 ((h.rc v hv).inn h0 hw)
  rwa [len_ints] at this

def Done (ws : List W3) (v : Int) (q : List Int) : Prop := ∀ e ∈ ws, (e.1 = v → e.2.1 ∈ q) ∧ (e.2.1 = v → e.1 ∈ q)

def reachG (x : Int) (q : List Int) (_ : Nat) (e : W3) : List Int := addIf (decide (e.2.1 = x)) e.1 (addIf (decide (e.1 = x)) e.2.1 q)

theorem addT {v : Int} {q : List Int} (h : v ∉ q) : addIf true v q = q ++ [v] := by simp [addIf, h]
theorem addN {c : Bool} {v : Int} {q : List Int} (h : v ∈ q) : addIf c v q = q := by simp [addIf, h]
theorem addF {v : Int} {q : List Int} : addIf false v q = q := by simp [addIf]

theorem reach_all {ws : List W3} {q : List Int} (hq : QOk ws q) (hd : ∀ v ∈ q, Done ws v q) : ∀ v, Rc ws v → v ∈ q := by
  intro v h
  induction h with
  | zero => exact hq.zero
  | ab he _ ih => exact (hd _ ih _ he).1 rfl
  | ba he _ ih => exact (hd _ ih _ he).2 rfl

end Go.Sx.R

/- Bounds; weights between nodes, neighbours, leaves and series. Conditions: none. -/
namespace Go.Sx.R
open Go Go.Sx

-- bounds
def badB (low high : List Int) (i : Nat) (x : W3) : Bool := match low[i]?, high[i]? with
  | some l, some h => !(decide (1 ≤ l) && decide (l ≤ x.2.2) && (decide (x.2.2 ≤ h) && decide (h ≤ 200)))
  | _, _ => false

noncomputable def n_BoundsOk (n : TNet) (low high : List Int) : Bool := netok n && decide (low.length = n.2.2.2.length) && decide (high.length = n.2.2.2.length) && !(n.2.2.2.zipIdx 0).any fun p => badB low high p.2 p.1

theorem sm_intS {B : Nat} {l : List Int} (h : Sm.sm BB l) (hl : l.length ≤ B) : Sm.sm B l := ⟨hl, fun y hy => h.2 y hy⟩

end Go.Sx.R

/- Weights between nodes, neighbours, leaves and series. Conditions: none. -/
namespace Go.Sx.R
open Go Go.Sx

theorem find_first {β : Type} (p : β → Bool) : ∀ (l : List β) (i : Nat) (x : β), (∀ (j : Nat) (y : β), j < i → l[j]? = some y → p y = false) → l[i]? = some x → p x = true → l.find? p = some x
  | [], i, x, _, hx, _ => by simp at hx
  | y :: l, 0, x, _, hx, hp => by
    simp at hx; subst hx; simp [hp]
  | y :: l, i + 1, x, h, hx, hp => by
    have h0 := h 0 y (by omega) (by simp)
    simp only [List.find?_cons, h0]
    exact find_first p l i x (fun j z hj hz => h (j + 1) z (by omega) (by simpa using hz)) (by simpa using hx) hp

theorem find_none {β : Type} (p : β → Bool) (l : List β) (h : ∀ (j : Nat) (y : β), l[j]? = some y → p y = false) : l.find? p = none := by
  rw [List.find?_eq_none]
  intro x hx
  obtain ⟨j, hj⟩ := List.getElem?_of_mem hx
  simp [h j x hj]

/-- A wire between two nodes. -/
def isW (a b : Int) (x : W3) : Bool := decide (x.1 = if b < a then b else a) && decide (x.2.1 = if b > a then b else a)
def wbt (ws : List W3) (a b : Int) : Int := if a = b then 0 else match ws.find? (isW a b) with
  | some x => x.2.2
  | none => 0

def nearG (ws : List W3) (v : Int) (q : List Int) (j : Nat) (_ : Nat) : List Int := if wbt ws v j > 0 then q ++ [(j : Int)] else q
def near (ws : List W3) (v : Int) (m : Nat) : List Int := foldI (nearG ws v) (List.range m) 0 []

theorem range_get {m i x : Nat} (h : (List.range m)[i]? = some x) : x = i ∧ i < m := by
  have := get_lt h
  simp at this
  rw [List.getElem?_range this] at h
  simp at h; exact ⟨h.symm, this⟩

theorem near_len (ws : List W3) (v : Int) (m : Nat) : (near ws v m).length ≤ m := by
  have key : ∀ (l : List Nat) (i : Nat) (q : List Int), (foldI (nearG ws v) l i q).length ≤ q.length + l.length := by
    intro l
    induction l with
    | nil => intros; simp [foldI]
    | cons x l ih =>
      intro i q
      simp only [foldI]
      have := ih (i + 1) (nearG ws v q i x)
      have h2 : (nearG ws v q i x).length ≤ q.length + 1 := by unfold nearG; split <;> simp
      simp only [List.length_cons]; omega
  have := key (List.range m) 0 []
  simpa [near] using this

theorem near_mem {ws : List W3} {v : Int} {m : Nat} : ∀ u ∈ near ws v m, 0 ≤ u ∧ u < m := by
  have key : ∀ (l : List Nat) (i : Nat) (q : List Int), (∀ u ∈ q, 0 ≤ u ∧ u < ((i + l.length : Nat) : Int)) → ∀ u ∈ foldI (nearG ws v) l i q, 0 ≤ u ∧ u < ((i + l.length : Nat) : Int) := by
    intro l
    induction l with
    | nil => intro i q h; simpa [foldI] using h
    | cons x l ih =>
      intro i q h
      simp only [foldI]
      have e : i + (x :: l).length = i + 1 + l.length := by simp; omega
      rw [e] at h ⊢
      refine ih (i + 1) _ fun u hu => ?_
      unfold nearG at hu
      split at hu
      · rcases List.mem_append.1 hu with hu | hu
        · exact h u hu
        · simp at hu; subst hu; omega
      · exact h u hu
  have := key (List.range m) 0 [] (by simp)
  simpa [near] using this

/-- What a good network is. -/
theorem netok_facts {n : TNet} (h : netok n = true) : ∃ m : Nat, n.1 = m ∧ 1 ≤ m ∧ m ≤ 5 ∧ InW m n.2.2.2 ∧ 1 ≤ n.2.1 ∧ n.2.1 ≤ m := by
  have hh : hdrOk n = true := by revert h; simp only [netok]; cases hdrOk n <;> simp
  have hb : wiresBad n = false := by revert h; simp only [netok]; cases wiresBad n <;> simp
  simp only [hdrOk, Bool.and_eq_true, decide_eq_true_eq] at hh
  obtain ⟨m, hm⟩ : ∃ m : Nat, n.1 = m := ⟨n.1.toNat, by omega⟩
  exact ⟨m, hm, by omega, by omega, wiresOk hm hb, by omega, by omega⟩

end Go.Sx.R

/- Leaves and series. Conditions: none. -/
namespace Go.Sx.R
open Go Go.Sx

/-- The nodes that are no terminals. -/
def rng (lo : Int) (d : Nat) : List Int := (List.range d).map fun i => lo + Int.ofNat i

theorem rng_get {lo : Int} {d i : Nat} {v : Int} (h : (rng lo d)[i]? = some v) : v = lo + i ∧ i < d := by
  have hlt := get_lt h
  simp [rng] at hlt
  simp only [rng, List.getElem?_map, List.getElem?_range hlt, Option.map_some, Option.some.injEq] at h
  exact ⟨h.symm, hlt⟩

theorem rng_len {lo : Int} {d : Nat} : (rng lo d).length = d := by simp [rng]

theorem rng_succ (lo : Int) (d : Nat) : rng lo (d + 1) = rng lo d ++ [lo + d] := by
  simp [rng, List.range_succ]

def firstWith (n : TNet) (m : Nat) (count : Int) : Int := match (rng n.2.1 (m - n.2.1.toNat)).find? fun v => decide (((near n.2.2.2 v m).length : Int) = count) with
  | some v => v
  | none => -1

end Go.Sx.R

/- Marks, and marks found again. Conditions: none. -/
namespace Go.Sx.R
open Go Go.Sx

theorem getI_ok {β : Type} {l : List β} {n i : Nat} (h : l.length = n) (hi : i < n) : ∃ y, getI l (i : Int) = some y := getI_has h hi

theorem mh_IntS (x : List Int) (k : Int) (hx : Sm.sm B1 x) (h0 : 0 ≤ k) (h1 : k ≤ 1099511627776) : ∃ x' k', e_laws_markIntS x (k, ()) = some (x', k') ∧ e_laws_heldIntS (x', k, ()) = some k' ∧ k ≤ k' ∧ k' ≤ k + x.length ∧ x'.length = x.length := by
  have hlen : x.length ≤ 1073741824 := hx.1
  have m := iter_fold (R := List Int × Int) (body := r_laws_markIntS_L0 N0) x (fun (st : List Int × Int) i => (st.1, st.2, i, ()))
    (fun i st => st.2 = k + i ∧ st.1.length = x.length ∧ ∀ (j : Nat), j < i → st.1[j]? = some (k + j)) (fun st i _ => (st.1.set i st.2, st.2 + 1))
    (fun st i y kc ke ⟨p1, p2, p3⟩ hy hi => by
      refine ⟨?_, ?_, by simpa using p2, fun j hj => ?_⟩
      · obtain ⟨z, hz⟩ := getI_ok p2 hi
        have hlt : decide ((i : Int) < (st.1.length : Int)) = true := by rw [decide_eq_true_eq, p2]; exact Int.ofNat_lt.2 hi
        simp only [r_laws_markIntS_L0, hlt, cond_true, hz, Option.bind_some, Int.toNat_natCast]
        rw [wr_id (x := st.2 + 1) (by omega) (by omega), wr_len hi hx]
      · simp only; omega
      · simp only
        rw [List.getElem?_set]
        by_cases e : i = j
        · subst e; rw [if_pos rfl, if_pos (by omega), p1]
        · rw [if_neg e]; exact p3 j (by omega))
    (fun st kc ke ⟨p1, p2, p3⟩ => by
      have hlt : decide ((x.length : Int) < (st.1.length : Int)) = false := by rw [decide_eq_false_iff_not, p2]; omega
      simp only [r_laws_markIntS_L0, hlt, cond_false]) (N := N0) (len_lt hx N0_gt) (x, k) ⟨by simp, rfl, by simp⟩ (fun s1 => some (s1.1, s1.2.1))
  obtain ⟨e1, p1, p2, p3⟩ := m
  generalize (foldI (fun (st : List Int × Int) (i : Nat) (_ : Int) => (st.1.set i st.2, st.2 + 1)) x 0 (x, k)) = st at e1 p1 p2 p3
  refine ⟨st.1, st.2, e1, ?_, by omega, by omega, p2⟩
  have hh := iter_fold (R := Int) (body := r_laws_heldIntS_L0 N0) st.1 (fun (c : Int) i => (st.1, c, i, ())) (fun i c => c = k + i) (fun c _ _ => c + 1)
    (fun c i y kc ke pc hy hi => by
      have h2 := p3 i (by omega)
      rw [hy] at h2; simp only [Option.some.injEq] at h2
      refine ⟨?_, by omega⟩
      simp only [r_laws_heldIntS_L0, lt_len, hi, decide_true, cond_true, getI_nat, hy, Option.bind_some]
      have d : decide (y = c) = true := by rw [decide_eq_true_eq]; omega
      rw [d]
      simp only [Bool.not_true, cond_false]
      rw [wr_id (x := c + 1) (by omega) (by omega), wr_succ hi (by omega)])
    (fun c kc ke _ => by simp only [r_laws_heldIntS_L0, not_lt_self, cond_false]) (N := N0) (by have := N0_big; omega) k (by simp) (fun s1 => some s1.2.1)
  simp only [e_laws_heldIntS, r_laws_heldIntS]
  rw [hh.1, hh.2, p1, p2]

end Go.Sx.R

/- Circular pairs of lists: the law. Conditions: none. -/
namespace Go.Sx.R
open Go Go.Sx

theorem p_ContainsI (xs : List Int) (v : Int) (hl : xs.length ≤ BB) : e_slices_Contains_int (xs, v, ()) = some (decide (v ∈ xs)) := by
  simp only [e_slices_Contains_int, r_slices_Contains_int, e_slices_Index_int, r_slices_Index_int]
  rw [iter_range (R := Int) xs (fun (_ : Unit) i => (xs, v, (xs.length : Int), i, ())) (fun _ i x k => cond (decide (v = x)) (some (i : Int)) (k ())) ?_ ?_ (by have := N0_gt; omega) ()]
  · have key : ∀ (l : List Int) (i : Nat), (rangeK l i () (fun _ i x k => cond (decide (v = x)) (some (i : Int)) (k ())) fun _ => some (-1 : Int)).bind (fun r => some (decide (r ≥ 0))) = some (decide (v ∈ l)) := by
      intro l
      induction l with
      | nil => intro i; simp [rangeK]
      | cons x l ih =>
        intro i
        simp only [rangeK]
        by_cases e : v = x
        · subst e; simp
        · simp only [e, decide_false, cond_false, ih (i + 1)]
          simp [e]
    exact key xs 0
  · intro st i x kc ke hx hi
    simp only [r_slices_Index_int_L0, lt_len, hi, decide_true, cond_true, getI_nat, hx, Option.bind_some]
    rw [wr_succ hi hl]
  · intro st kc ke
    simp only [r_slices_Index_int_L0, not_lt_self, cond_false]


theorem p_Clone (x : List Int) (hl : x.length ≤ 17179869184) : e_slices_Clone_int (x, ()) = some x := by
  have h : Nat.ble (List.length ([] : List Int) + x.length) 17179869184 = true := ble_true (by simp; omega)
  simp only [e_slices_Clone_int, r_slices_Clone_int, h, cond_true, List.nil_append]
  cases x with
  | nil => exact agree_same
  | cons a l => rfl

theorem p_Reverse (x : List Int) (hl : x.length ≤ 9223372036854775807) : e_slices_Reverse_int x () = some (x.reverse, ()) := by
  simp [e_slices_Reverse_int, revFn, hl]

def badR (k : Int) (rim : List Int) (i : Nat) (x : Int) : Bool := decide (x < 0) || decide (x ≥ k) || decide (x ∈ rim.take i)

theorem p_indicesOk (rim : List Int) (k : Int) (hl : rim.length ≤ BB) : e_impl_indicesOk (rim, k, ()) = some (!(rim.zipIdx 0).any fun p => badR k rim p.2 p.1) := by
  simp only [e_impl_indicesOk, r_impl_indicesOk]
  rw [iter_range (R := Bool) rim (fun (_ : Unit) i => (rim, k, rim, (rim.length : Int), i, ())) (fun _ i x kk => cond (badR k rim i x) (some false) (kk ())) ?_ ?_ (by have := N0_gt; omega) ()]
  · rw [rangeK_stop (fun i x => badR k rim i x) (some false) _ _ _ (fun j x k _ => rfl)]
    cases (rim.zipIdx 0).any _ <;> rfl
  · intro st i x kc ke hx hi
    have d1 : decide ((0 : Int) ≤ (i : Int)) = true := by simp
    have d2 : decide ((i : Int) ≤ (rim.length : Int)) = true := by rw [decide_eq_true_eq]; omega
    simp only [r_impl_indicesOk_L0, lt_len, hi, decide_true, cond_true, getI_nat, hx, Option.bind_some, wr_succ hi hl, d1, d2, Int.toNat_natCast, Int.toNat_zero, Nat.sub_zero, List.drop_zero, badR]
    rw [p_ContainsI (rim.take i) x (by have : (rim.take i).length ≤ rim.length := by simp; omega
                                       omega)]
    by_cases h1 : x < 0
    · simp [h1]
    · by_cases h2 : x ≥ k
      · simp [h1, h2]
      · simp only [h1, h2, decide_false, cond_false, Bool.false_or, Option.bind_some]
  · intro st kc ke
    simp only [r_impl_indicesOk_L0, not_lt_self, cond_false]

def dn (rim : List Int) (i : Nat) (x : Int) : Int := if (rim[(i + 1) % rim.length]?).getD 0 < x then 1 else 0
def falls (rim : List Int) : Int := foldI (fun s i x => s + dn rim i x) rim 0 0

theorem next_get {rim : List Int} {i : Nat} (hi : i < rim.length) (hl : rim.length ≤ 9223372036854775807) : getI rim (Int.tmod (wr ((i : Int) + 1)) (rim.length : Int)) = some ((rim[(i + 1) % rim.length]?).getD 0) := by
  rw [wr_succ hi hl, Int.tmod_eq_emod_of_nonneg (by omega)]
  have e : ((i + 1 : Nat) : Int) % (rim.length : Int) = (((i + 1) % rim.length : Nat) : Int) := by simp
  have hlt : (i + 1) % rim.length < rim.length := Nat.mod_lt _ (by omega)
  rw [e, getI_nat, List.getElem?_eq_getElem hlt]; rfl

theorem impl_falls (rim : List Int) (hl : rim.length ≤ 9223372036854775807) (k : _ → Option Bool) : ∃ j, iterK (r_impl_IsCircular_L0 e_slices_Clone_int e_slices_Reverse_int e_impl_indicesOk N0) N0 (rim, 0, rim, (rim.length : Int), 0, ()) k = k (rim, falls rim, rim, (rim.length : Int), j, ()) := by
  have m := iter_fold (R := Bool) (body := r_impl_IsCircular_L0 e_slices_Clone_int e_slices_Reverse_int e_impl_indicesOk N0) rim (fun (s : Int) i => (rim, s, rim, (rim.length : Int), i, ())) (fun i s => 0 ≤ s ∧ s ≤ i) (fun s i x => s + dn rim i x)
    (fun s i x kc ke ⟨h0, h1⟩ hx hi => by
      refine ⟨?_, ?_⟩
      · have d : decide ((rim.length : Int) = 0) = false := by rw [decide_eq_false_iff_not]; omega
        simp only [r_impl_IsCircular_L0, lt_len, hi, decide_true, cond_true, getI_nat, hx, Option.bind_some, d, cond_false, next_get hi hl]
        have w1 : wr (s + 1) = s + 1 := wr_id (by omega) (by omega)
        by_cases c : (rim[(i + 1) % rim.length]?).getD 0 < x
        · simp only [c, decide_true, cond_true, w1, dn, if_true, wr_succ hi hl]
        · simp only [c, decide_false, cond_false, dn, if_false, wr_succ hi hl, Int.add_zero]
      · simp only [dn]; split <;> omega)
    (fun s kc ke _ => by simp only [r_impl_IsCircular_L0, not_lt_self, cond_false]) (N := N0) (by have := N0_big; omega) 0 (by simp) k
  exact ⟨_, m.1⟩

theorem foldI_snoc {β σ : Type} (g : σ → Nat → β → σ) : ∀ (l : List β) (x : β) (i : Nat) (s : σ), foldI g (l ++ [x]) i s = g (foldI g l i s) (i + l.length) x
  | [], x, i, s => rfl
  | y :: l, x, i, s => by
    simp only [List.cons_append, foldI, foldI_snoc g l x (i + 1), List.length_cons]
    congr 1; omega

theorem dn_bounds (rim : List Int) : ∀ (l : List Int) (i : Nat) (s : Int), s ≤ foldI (fun s i x => s + dn rim i x) l i s ∧ foldI (fun s i x => s + dn rim i x) l i s ≤ s + l.length
  | [], i, s => by simp [foldI]
  | x :: l, i, s => by
    have h := dn_bounds rim l (i + 1) (s + dn rim i x)
    have : 0 ≤ dn rim i x ∧ dn rim i x ≤ 1 := by simp only [dn]; split <;> omega
    simp only [foldI, List.length_cons]; omega

theorem spec_falls (k : Int) (hk1 : 1 ≤ k) (hk5 : k ≤ 5) (rim : List Int) (hl : rim.length ≤ 9223372036854775807) :
    (iterK (r_spec_IsCircular_L0 e_spec_l01In e_spec_l09Rim e_spec_l03Has N0) N0 (k, rim, 0, rim, (rim.length : Int), 0, ()) fun s => some (decide (s.2.2.1 = 1))) =
      cond ((rim.zipIdx 0).any fun p => badR k rim p.2 p.1) (some false) (some (decide (falls rim = 1))) := by
  refine iter_rule (R := Bool) (fun o => o = cond ((rim.zipIdx 0).any fun p => badR k rim p.2 p.1) (some false) (some (decide (falls rim = 1)))) rim (fun (s : Int) i => (k, rim, s, rim, (rim.length : Int), i, ()))
    (fun i s => s = foldI (fun s i x => s + dn rim i x) (rim.take i) 0 0 ∧ ∀ (j : Nat) (y : Int), j < i → rim[j]? = some y → badR k rim j y = false) (fun s i x kc ⟨hs, hp⟩ hx hi hk => ?_) (fun s kc ⟨hs, hp⟩ => ?_) (by have := N0_big; omega) 0 ⟨by simp [foldI], by simp⟩
  · have d : decide ((rim.length : Int) = 0) = false := by rw [decide_eq_false_iff_not]; omega
    have d1 : decide ((0 : Int) ≤ (i : Int)) = true := by simp
    have d2 : decide ((i : Int) ≤ (rim.length : Int)) = true := by rw [decide_eq_true_eq]; omega
    have wk : wr (k - 1) = k - 1 := wr_id (by omega) (by omega)
    have tl : (rim.take i).length ≤ 9223372036854775807 := by simp; omega
    simp only [r_spec_IsCircular_L0, lt_len, hi, decide_true, cond_true, getI_nat, hx, Option.bind_some, d, d1, d2, cond_false, next_get hi hl, wk, p_l01In, n_l01In, Int.toNat_natCast, Int.toNat_zero, Nat.sub_zero, List.drop_zero, p_Has (rim.take i) x tl]
    cases hb : badR k rim i x with
    | true =>
      have hany : ((rim.zipIdx 0).any fun p => badR k rim p.2 p.1) = true := by
        rw [List.any_eq_true]
        exact ⟨(x, i), by rw [List.mem_zipIdx_iff_getElem?]; exact hx, hb⟩
      rw [hany, cond_true]
      by_cases hr : 0 ≤ x ∧ x ≤ k - 1
      · have hm : decide (x ∈ rim.take i) = true := by
          simp only [badR, Bool.or_eq_true, decide_eq_true_eq] at hb
          rw [decide_eq_true_eq]
          rcases hb with (hb | hb) | hb
          · omega
          · omega
          · exact hb
        have r1 : (decide (0 ≤ x) && decide (x ≤ k - 1)) = true := by simp only [Bool.and_eq_true, decide_eq_true_eq]; exact hr
        simp only [r1, hm, Bool.not_true, cond_false, cond_true]
      · have r1 : (decide (0 ≤ x) && decide (x ≤ k - 1)) = false := by simp only [Bool.and_eq_false_iff, decide_eq_false_iff_not]; omega
        simp only [r1, Bool.not_false, cond_true]
    | false =>
      have hb' := hb
      simp only [badR, Bool.or_eq_false_iff, decide_eq_false_iff_not] at hb'
      have r1 : (decide (0 ≤ x) && decide (x ≤ k - 1)) = true := by simp only [Bool.and_eq_true, decide_eq_true_eq]; omega
      have hm : decide (x ∈ rim.take i) = false := by rw [decide_eq_false_iff_not]; exact hb'.2
      simp only [r1, hm, Bool.not_true, cond_false]
      have bd := dn_bounds rim (rim.take i) 0 0
      have tll : ((rim.take i).length : Int) ≤ i := by simp; omega
      have w1 : wr (s + 1) = s + 1 := wr_id (by omega) (by omega)
      have htake : rim.take (i + 1) = rim.take i ++ [x] := by rw [List.take_add_one, hx]; rfl
      have hlen : (rim.take i).length = i := by simp; omega
      have nx : foldI (fun s i x => s + dn rim i x) (rim.take (i + 1)) 0 0 = s + dn rim i x := by
        rw [htake, foldI_snoc, ← hs, hlen, Nat.zero_add]
      have nb : ∀ (j : Nat) (y : Int), j < i + 1 → rim[j]? = some y → badR k rim j y = false := fun j y hj hy => by
        by_cases e : j = i
        · subst e; rw [hx] at hy; simp only [Option.some.injEq] at hy; subst hy; exact hb
        · exact hp j y (by omega) hy
      by_cases c : (rim[(i + 1) % rim.length]?).getD 0 < x
      · simp only [c, decide_true, cond_true, w1, wr_succ hi hl]
        exact hk (s + 1) ⟨by rw [nx]; simp [dn, c], nb⟩
      · simp only [c, decide_false, cond_false, wr_succ hi hl]
        exact hk s ⟨by rw [nx]; simp [dn, c], nb⟩
  · simp only [r_spec_IsCircular_L0, not_lt_self, cond_false]
    have hany : ((rim.zipIdx 0).any fun p => badR k rim p.2 p.1) = false := by
      rw [List.any_eq_false]
      rintro ⟨x, i⟩ hm
      have := hp i x (get_lt (List.mem_zipIdx_iff_getElem?.1 hm)) (List.mem_zipIdx_iff_getElem?.1 hm)
      simp [this]
    rw [hany, cond_false, hs, List.take_length]; rfl

theorem s_Rim (p q : List Int) (hp : p.length ≤ 1048576) (hq : q.length ≤ 1048576) : e_spec_l09Rim (p, q, ()) = some (p ++ q.reverse) := by
  simp only [e_spec_l09Rim, r_spec_l09Rim, List.nil_append]
  rw [ble_true (by simp; omega), cond_true]
  have w0 : wr ((q.length : Int) - 1) = (q.length : Int) - 1 := wr_id (by omega) (by omega)
  rw [w0]
  refine iter_while (fun o => o = some (p ++ q.reverse)) (fun s : List Int × List Int × Int × Unit => ∃ m : Nat, m ≤ q.length ∧ s = (q, p ++ (q.drop m).reverse, (m : Int) - 1, ())) (fun s => (s.2.2.1 + 1).toNat) ?_ N0 _ ⟨q.length, Nat.le_refl _, by simp⟩ (by have := N0_big; simp only; omega)
  rintro _ kc ⟨m, hm, rfl⟩ hk
  simp only [r_spec_l09Rim_L0]
  cases m with
  | zero =>
    have d : decide (((0 : Nat) : Int) - 1 ≥ 0) = false := by simp
    simp only [d, cond_false, List.drop_zero]
  | succ m =>
    have d : decide (((m + 1 : Nat) : Int) - 1 ≥ 0) = true := by rw [decide_eq_true_eq]; omega
    have e : ((m + 1 : Nat) : Int) - 1 = (m : Int) := by omega
    have hx : q[m]? = some q[m] := List.getElem?_eq_getElem (by omega)
    have wm : wr ((m : Int) - 1) = (m : Int) - 1 := wr_id (by omega) (by omega)
    have hdrop : q.drop m = q[m] :: q.drop (m + 1) := List.drop_eq_getElem_cons (by omega)
    have hroom : (p ++ (q.drop (m + 1)).reverse).length + 1 ≤ 17179869184 := by simp; omega
    rw [d, e, getI_nat, hx]
    simp only [cond_true, Option.bind_some, List.length_cons, List.length_nil, Nat.zero_add, ble_true hroom, wm]
    refine hk _ ⟨m, by omega, ?_⟩ (by simp only; omega)
    rw [hdrop, List.reverse_cons, List.append_assoc]

theorem circular_both (k : Int) (p q : List Int) (hk : Sm.sm B1 k) (hp : p.length ≤ 1048576) (hq : q.length ≤ 1048576) : ∃ r, e_impl_IsCircular (k, p, q, ()) = some r ∧ e_spec_IsCircular (k, p, q, ()) = some r ∧ (r = true → p.length = q.length ∧ (∀ x ∈ p, 0 ≤ x ∧ x < k) ∧ ∀ x ∈ q, 0 ≤ x ∧ x < k) := by
  simp only [e_impl_IsCircular, r_impl_IsCircular, e_spec_IsCircular, r_spec_IsCircular, p_l01In, n_l01In, Option.bind_some, dec_eq]
  by_cases h1 : k < 1
  · have d : (decide (1 ≤ k) && decide (k ≤ 5)) = false := by simp only [Bool.and_eq_false_iff, decide_eq_false_iff_not]; omega
    exact ⟨false, by simp [h1], by simp [d], by simp⟩
  by_cases h2 : k > 5
  · have d : (decide (1 ≤ k) && decide (k ≤ 5)) = false := by simp only [Bool.and_eq_false_iff, decide_eq_false_iff_not]; omega
    exact ⟨false, by simp [h1, h2], by simp [d], by simp⟩
  have d : (decide (1 ≤ k) && decide (k ≤ 5)) = true := by simp only [Bool.and_eq_true, decide_eq_true_eq]; omega
  simp only [h1, h2, decide_false, cond_false, d, Bool.not_true]
  by_cases h3 : p.length = q.length
  · simp only [h3, decide_true, Bool.not_true, cond_false]
    by_cases h4 : q.length = 0
    · have d4 : decide ((q.length : Int) < 1) = true := by rw [decide_eq_true_eq]; omega
      have d5 : decide ((q.length : Int) = 0) = true := by rw [decide_eq_true_eq]; omega
      exact ⟨false, by rw [d4]; rfl, by rw [d5]; rfl, by simp⟩
    · have d4 : decide ((q.length : Int) < 1) = false := by rw [decide_eq_false_iff_not]; omega
      have d5 : decide ((q.length : Int) = 0) = false := by rw [decide_eq_false_iff_not]; omega
      have hroom : p.length + q.reverse.length ≤ 17179869184 := by simp; omega
      have hrl : (p ++ q.reverse).length ≤ 9223372036854775807 := by simp; omega
      simp only [d4, d5, cond_false, p_Clone q (by omega), p_Clone p (by omega), p_Reverse q (by omega), Option.bind_some, ble_true hroom, cond_true, p_indicesOk (p ++ q.reverse) k hrl, s_Rim p q hp hq]
      rw [spec_falls k (by omega) (by omega) (p ++ q.reverse) hrl]
      cases hb : ((p ++ q.reverse).zipIdx 0).any fun x => badR k (p ++ q.reverse) x.2 x.1 with
      | true => exact ⟨false, rfl, rfl, by simp⟩
      | false =>
        obtain ⟨j, hj⟩ := impl_falls (p ++ q.reverse) hrl (fun s5 => some (decide (s5.2.1 = 1)))
        have hin : ∀ x ∈ p ++ q.reverse, 0 ≤ x ∧ x < k := fun x hx => by
          obtain ⟨i, hi⟩ := List.getElem?_of_mem hx
          have := List.any_eq_false.1 hb (x, i) (List.mem_zipIdx_iff_getElem?.2 hi)
          simp only [badR, Bool.not_eq_true, Bool.or_eq_false_iff, decide_eq_false_iff_not] at this
          omega
        refine ⟨decide (falls (p ++ q.reverse) = 1), ?_, rfl, fun _ => ⟨trivial, fun x hx => hin x (by simp [hx]), fun x hx => hin x (by simp [hx])⟩⟩
        simp only [Bool.not_false, Bool.not_true, cond_false]
        exact hj
  · exact ⟨false, by simp [h3], by simp [h3], by simp⟩

end Go.Sx.R

/- Determinants: what the program and the reference compute, up to the wrap. Conditions: none. -/
namespace Go.Sx.R
open Go Go.Sx

theorem wr_def (x : Int) : wr x = if 9223372036854775808 ≤ x % 18446744073709551616 then x % 18446744073709551616 - 18446744073709551616 else x % 18446744073709551616 := by
  show IntKind.i64.wrap x = _
  unfold IntKind.wrap
  have h1 : ((2 : Int) ^ IntKind.i64.bits) = 18446744073709551616 := by decide
  have h2 : ((2 : Int) ^ (IntKind.i64.bits - 1)) = 9223372036854775808 := by decide
  have h3 : IntKind.i64.signed = true := rfl
  simp only [h1, h2, h3, Bool.true_and, ge_iff_le, decide_eq_true_eq]

theorem wr_congr {x y : Int} (h : (x - y) % 18446744073709551616 = 0) : wr x = wr y := by
  have : x % 18446744073709551616 = y % 18446744073709551616 := by omega
  rw [wr_def, wr_def, this]

theorem wr_off (x : Int) : ∃ k, wr x = x + 18446744073709551616 * k := by
  have h : (wr x - x) % 18446744073709551616 = 0 := by rw [wr_def]; split <;> omega
  exact ⟨(wr x - x) / 18446744073709551616, by omega⟩

theorem wr_addM (x k : Int) : wr (x + 18446744073709551616 * k) = wr x := wr_congr (by omega)
theorem wr_wr (x : Int) : wr (wr x) = wr x := by obtain ⟨k, e⟩ := wr_off x; rw [e, wr_addM]; exact e
theorem wr_addl (x y : Int) : wr (wr x + y) = wr (x + y) := by
  obtain ⟨k, e⟩ := wr_off x
  exact wr_congr (by rw [e]; omega)
theorem wr_addr (x y : Int) : wr (x + wr y) = wr (x + y) := by rw [Int.add_comm, wr_addl, Int.add_comm]
theorem wr_mull (x y : Int) : wr (wr x * y) = wr (x * y) := by
  obtain ⟨k, e⟩ := wr_off x
  rw [e, Int.add_mul, Int.mul_assoc, wr_addM]
theorem wr_mulr (x y : Int) : wr (x * wr y) = wr (x * y) := by rw [Int.mul_comm, wr_mull, Int.mul_comm]

def at2 (m : List (List Int)) (r c : Int) : Int := (getI ((getI m r).getD []) c).getD 0

def dsum (m : List (List Int)) (r : Int) (D : Nat → Int) : List Int → Nat → Int → Int
  | [], _, _ => 0
  | c :: cs, j, sg => sg * at2 m r c * D j + dsum m r D cs (j + 1) (-sg)

/-- The determinant of some rows and columns, along the first row. -/
def detZ (m : List (List Int)) : List Int → List Int → Int
  | [], _ => 1
  | r :: rows, cols => dsum m r (fun j => detZ m rows (cols.eraseIdx j)) cols 0 1

def stepD (m : List (List Int)) (r : Int) (D : Nat → Int) (st : Int × Int) (j : Nat) (c : Int) : Int × Int :=
  (if at2 m r c = 0 then st.1 else wr (st.1 + wr (wr (st.2 * at2 m r c) * wr (D j))), wr (0 - st.2))

theorem fold_det (m : List (List Int)) (r : Int) (D : Nat → Int) : ∀ (cs : List Int) (j : Nat) (s sg : Int), (sg = 1 ∨ sg = -1) → wr s = s → (foldI (stepD m r D) cs j (s, sg)).1 = wr (s + dsum m r D cs j sg)
  | [], _, s, _, _, hs => by simp only [foldI, dsum, Int.add_zero, hs]
  | c :: cs, j, s, sg, hg, hs => by
    have hsg : wr (0 - sg) = -sg := by rcases hg with rfl | rfl <;> rfl
    have h1 : (stepD m r D (s, sg) j c) = (wr (s + sg * at2 m r c * D j), -sg) := by
      simp only [stepD, hsg, Prod.mk.injEq, and_true]
      split
      · rename_i h; rw [h, Int.mul_zero, Int.zero_mul, Int.add_zero, hs]
      · rw [wr_addr, ← wr_addr s, wr_mull, wr_mulr, wr_addr]
    simp only [foldI, dsum, h1]
    rw [fold_det m r D cs (j + 1) _ _ (by rcases hg with rfl | rfl <;> simp) (wr_wr _), wr_addl, Int.add_assoc]

/-- All entries are there. -/
def Ent (m : List (List Int)) (rows cols : List Int) : Prop := ∀ r ∈ rows, ∃ row, getI m r = some row ∧ ∀ c ∈ cols, ∃ x, getI row c = some x

theorem Ent.at {m : List (List Int)} {rows cols : List Int} (h : Ent m rows cols) {r c : Int} (hr : r ∈ rows) (hc : c ∈ cols) : ∃ row, getI m r = some row ∧ getI row c = some (at2 m r c) := by
  obtain ⟨row, e1, h1⟩ := h r hr
  obtain ⟨x, e2⟩ := h1 c hc
  exact ⟨row, e1, by simp only [at2, e1, Option.getD_some, e2]⟩

theorem sgn_next {sg : Int} (hg : sg = 1 ∨ sg = -1) : wr (0 - sg) = 1 ∨ wr (0 - sg) = -1 := by rcases hg with rfl | rfl <;> decide

theorem p_det (m : List (List Int)) : ∀ (rows : List Int) (n : Nat) (cols : List Int), rows.length < n → rows.length ≤ 1073741824 → cols.length ≤ 1073741824 → Ent m rows cols → e_impl_det_n n (m, rows, cols, ()) = some (wr (detZ m rows cols))
  | [], n + 1, cols, _, _, _, _ => by simp [e_impl_det_n, r_impl_det, detZ]; rfl
  | r :: rows, n + 1, cols, hn, hrl, hl, he => by
    simp only [List.length_cons] at hn hrl
    have hd : decide ((((r :: rows).length : Nat) : Int) = 0) = false := by rw [decide_eq_false_iff_not]; simp; omega
    simp only [e_impl_det_n, r_impl_det, hd, cond_false, detZ]
    have q := iter_fold (R := Int) (body := r_impl_det_L0 e_slices_Clone_int e_slices_Delete_int (e_impl_det_n n) N0) cols (fun (st : Int × Int) i => (m, r :: rows, cols, st.1, st.2, cols, (cols.length : Int), i, ()))
      (fun _ st => st.2 = 1 ∨ st.2 = -1) (stepD m r (fun j => detZ m rows (cols.eraseIdx j)))
      (fun st i x kc ke hp hx hi => by
        refine ⟨?_, sgn_next hp⟩
        have hxm := List.mem_of_getElem? hx
        obtain ⟨row, e1, e2⟩ := he.at List.mem_cons_self hxm
        have g0 : getI (r :: rows) 0 = some r := rfl
        have w1 : wr ((i : Int) + 1) = ((i + 1 : Nat) : Int) := wr_succ hi (by omega)
        simp only [r_impl_det_L0, lt_len, hi, decide_true, cond_true, getI_nat, hx, Option.bind_some, g0, e1, e2, w1]
        by_cases hz : at2 m r x = 0
        · simp only [hz, decide_true, Bool.not_true, cond_false, stepD, if_true]
        · have d1 : decide ((1 : Int) ≤ (((r :: rows).length : Nat) : Int)) = true := by rw [decide_eq_true_eq]; simp; omega
          have hdel : e_slices_Delete_int cols ((i : Int), (((i + 1 : Nat) : Int), ())) = some (cols, cols.eraseIdx i) := by
            have hc : decide ((0 : Int) ≤ (i : Int) ∧ (i : Int) ≤ ((i + 1 : Nat) : Int) ∧ ((i + 1 : Nat) : Int) ≤ (cols.length : Int)) = true := by rw [decide_eq_true_eq]; omega
            simp only [e_slices_Delete_int, delFn, hc, cond_true, Int.toNat_natCast, List.eraseIdx_eq_take_drop_succ]
          have hrows : List.take ((((r :: rows).length : Nat) : Int).toNat - Int.toNat 1) (List.drop (Int.toNat 1) (r :: rows)) = rows := by
            show List.take ((((r :: rows).length : Nat) : Int).toNat - 1) (List.drop 1 (r :: rows)) = rows
            rw [Int.toNat_natCast]; simp
          have hrec := p_det m rows n (cols.eraseIdx i) (by omega) (by omega) (by rw [List.length_eraseIdx]; split <;> omega) (fun r' hr' => by
            obtain ⟨row', a1, a2⟩ := he r' (List.mem_cons_of_mem _ hr')
            exact ⟨row', a1, fun c hc => a2 c (List.mem_of_mem_eraseIdx hc)⟩)
          simp only [hz, decide_false, Bool.not_false, cond_true, d1, Int.le_refl, decide_true, p_Clone cols (by omega), Option.bind_some, hdel, hrows, hrec, stepD, if_false])
      (fun st kc ke _ => by simp only [r_impl_det_L0, not_lt_self, cond_false]) (N := N0) (by have := N0_big; omega) (0, 1) (.inl rfl) (fun s1 => some s1.2.2.2.1)
    rw [q.1, fold_det m r _ cols 0 0 1 (.inl rfl) rfl, Int.zero_add]

theorem s_det (m : List (List Int)) : ∀ (rows : List Int) (n : Nat) (cols : List Int), rows.length < n → rows.length ≤ 1073741824 → cols.length ≤ 1073741824 → Ent m rows cols → e_spec_l04Det_n n (m, rows, cols, ()) = some (wr (detZ m rows cols))
  | [], n + 1, cols, _, _, _, _ => by simp [e_spec_l04Det_n, r_spec_l04Det, detZ]; rfl
  | r :: rows, n + 1, cols, hn, hrl, hl, he => by
    simp only [List.length_cons] at hn hrl
    have hd : decide ((((r :: rows).length : Nat) : Int) = 0) = false := by rw [decide_eq_false_iff_not]; simp; omega
    simp only [e_spec_l04Det_n, r_spec_l04Det, hd, cond_false, detZ]
    have q := iter_fold (R := Int) (body := r_spec_l04Det_L0 (e_spec_l04Det_n n) N0) cols (fun (st : Int × Int) i => (m, r :: rows, cols, st.1, st.2, cols, (cols.length : Int), i, ()))
      (fun _ st => st.2 = 1 ∨ st.2 = -1) (stepD m r (fun j => detZ m rows (cols.eraseIdx j)))
      (fun st i x kc ke hp hx hi => by
        refine ⟨?_, sgn_next hp⟩
        have hxm := List.mem_of_getElem? hx
        obtain ⟨row, e1, e2⟩ := he.at List.mem_cons_self hxm
        have g0 : getI (r :: rows) 0 = some r := rfl
        have w1 : wr ((i : Int) + 1) = ((i + 1 : Nat) : Int) := wr_succ hi (by omega)
        simp only [r_spec_l04Det_L0, lt_len, hi, decide_true, cond_true, getI_nat, hx, Option.bind_some, g0, e1, e2, w1]
        by_cases hz : at2 m r x = 0
        · simp only [hz, decide_true, Bool.not_true, cond_false, stepD, if_true]
        · have d1 : decide ((1 : Int) ≤ (((r :: rows).length : Nat) : Int)) = true := by rw [decide_eq_true_eq]; simp; omega
          have d2 : decide ((0 : Int) ≤ (i : Int)) = true := by rw [decide_eq_true_eq]; omega
          have d3 : decide ((i : Int) ≤ (cols.length : Int)) = true := by rw [decide_eq_true_eq]; omega
          have d4 : decide ((0 : Int) ≤ ((i + 1 : Nat) : Int)) = true := by rw [decide_eq_true_eq]; omega
          have d5 : decide (((i + 1 : Nat) : Int) ≤ (cols.length : Int)) = true := by rw [decide_eq_true_eq]; omega
          have t1 : List.take ((i : Int).toNat - Int.toNat 0) (List.drop (Int.toNat 0) cols) = cols.take i := by
            show List.take ((i : Int).toNat - 0) (List.drop 0 cols) = _
            rw [Int.toNat_natCast]; simp
          have t2 : List.take ((cols.length : Int).toNat - (((i + 1 : Nat) : Int)).toNat) (List.drop (((i + 1 : Nat) : Int)).toNat cols) = cols.drop (i + 1) := by
            rw [Int.toNat_natCast, Int.toNat_natCast]
            exact List.take_of_length_le (by simp)
          have b1 : Nat.ble (List.length ([] : List Int) + (cols.take i).length) 17179869184 = true := ble_true (by simp; omega)
          have b2 : Nat.ble ((([] : List Int) ++ cols.take i).length + (cols.drop (i + 1)).length) 17179869184 = true := ble_true (by simp; omega)
          have t3 : ([] : List Int) ++ cols.take i ++ cols.drop (i + 1) = cols.eraseIdx i := by rw [List.eraseIdx_eq_take_drop_succ]; rfl
          have hrows : List.take ((((r :: rows).length : Nat) : Int).toNat - Int.toNat 1) (List.drop (Int.toNat 1) (r :: rows)) = rows := by
            show List.take ((((r :: rows).length : Nat) : Int).toNat - 1) (List.drop 1 (r :: rows)) = rows
            rw [Int.toNat_natCast]; simp
          have hrec := s_det m rows n (cols.eraseIdx i) (by omega) (by omega) (by rw [List.length_eraseIdx]; split <;> omega) (fun r' hr' => by
            obtain ⟨row', a1, a2⟩ := he r' (List.mem_cons_of_mem _ hr')
            exact ⟨row', a1, fun c hc => a2 c (List.mem_of_mem_eraseIdx hc)⟩)
          simp only [hz, decide_false, Bool.not_false, cond_true, d1, d2, d3, d4, d5, t1, t2, b1, b2, t3, Int.le_refl, decide_true, Option.bind_some, hrows, hrec, stepD, if_false])
      (fun st kc ke _ => by simp only [r_spec_l04Det_L0, not_lt_self, cond_false]) (N := N0) (by have := N0_big; omega) (0, 1) (.inl rfl) (fun s1 => some s1.2.2.2.1)
    rw [q.1, fold_det m r _ cols 0 0 1 (.inl rfl) rfl, Int.zero_add]

theorem p_det0 (m : List (List Int)) (rows cols : List Int) (h1 : rows.length ≤ 1073741824) (h2 : cols.length ≤ 1073741824) (he : Ent m rows cols) : e_impl_det (m, rows, cols, ()) = some (wr (detZ m rows cols)) :=
  p_det m rows N0 cols (by have := N0_big; omega) h1 h2 he
theorem s_det0 (m : List (List Int)) (rows cols : List Int) (h1 : rows.length ≤ 1073741824) (h2 : cols.length ≤ 1073741824) (he : Ent m rows cols) : e_spec_l04Det (m, rows, cols, ()) = some (wr (detZ m rows cols)) :=
  s_det m rows N0 cols (by have := N0_big; omega) h1 h2 he

end Go.Sx.R

/- A circular minor of a matrix: the law. Conditions: none. -/
namespace Go.Sx.R
open Go Go.Sx

theorem foldI_map {β γ : Type} (f : β → γ) : ∀ (l : List β) (i : Nat) (st : List γ), foldI (fun st _ x => st ++ [f x]) l i st = st ++ l.map f
  | [], _, st => by simp [foldI]
  | x :: l, i, st => by simp only [foldI, foldI_map f l (i + 1), List.map_cons, List.append_assoc, List.singleton_append]

theorem foldI_idx {β : Type} : ∀ (l : List β) (i : Nat) (st : List Int), foldI (fun st i _ => st ++ [(i : Int)]) l i st = st ++ (List.range' i l.length).map Int.ofNat
  | [], _, st => by simp [foldI]
  | x :: l, i, st => by
    simp only [foldI, foldI_idx l (i + 1), List.length_cons, List.range'_succ, List.map_cons, List.append_assoc, List.singleton_append]
    rfl

theorem getI_some_of {α : Type} {l : List α} {r : Int} (h0 : 0 ≤ r) (h1 : r < l.length) : ∃ x, getI l r = some x ∧ x ∈ l := by
  obtain ⟨i, rfl⟩ : ∃ i : Nat, r = i := ⟨r.toNat, by omega⟩
  have hi : i < l.length := by omega
  exact ⟨l[i], by rw [getI_nat, List.getElem?_eq_getElem hi], List.getElem_mem hi⟩

theorem dsum_neg {B m : List (List Int)} {r : Int} {P Q : Int → Int} {D D' : Nat → Int} : ∀ (cs : List Int) (j : Nat) (s : Int), (∀ c ∈ cs, at2 B r c = - at2 m (P r) (Q c)) →
    ((∀ i, D i = D' i) → dsum B r D cs j s = - dsum m (P r) D' (cs.map Q) j s) ∧ ((∀ i, D i = - D' i) → dsum B r D cs j s = dsum m (P r) D' (cs.map Q) j s)
  | [], _, _, _ => by simp [dsum]
  | c :: cs, j, s, h => by
    have ih := dsum_neg (B := B) (m := m) (r := r) (P := P) (Q := Q) (D := D) (D' := D') cs (j + 1) (-s) fun c hc => h c (List.mem_cons_of_mem _ hc)
    have hc := h c List.mem_cons_self
    simp only [dsum, List.map_cons, hc]
    refine ⟨fun e => ?_, fun e => ?_⟩
    · rw [ih.1 e, e j, Int.mul_neg, Int.neg_mul, Int.neg_add]
    · rw [ih.2 e, e j, Int.mul_neg, Int.mul_neg, Int.neg_mul, Int.neg_neg]

theorem detZ_neg {B m : List (List Int)} {P Q : Int → Int} : ∀ (rows cols : List Int), (∀ r ∈ rows, ∀ c ∈ cols, at2 B r c = - at2 m (P r) (Q c)) →
    (rows.length % 2 = 0 → detZ B rows cols = detZ m (rows.map P) (cols.map Q)) ∧ (rows.length % 2 = 1 → detZ B rows cols = - detZ m (rows.map P) (cols.map Q))
  | [], cols, _ => by simp [detZ]
  | r :: rows, cols, h => by
    have ih : ∀ i, _ := fun i => detZ_neg (B := B) (m := m) (P := P) (Q := Q) rows (cols.eraseIdx i) fun r hr c hc => h r (List.mem_cons_of_mem _ hr) c (List.mem_of_mem_eraseIdx hc)
    have key := dsum_neg (B := B) (m := m) (r := r) (P := P) (Q := Q) (D := fun j => detZ B rows (cols.eraseIdx j)) (D' := fun j => detZ m (rows.map P) ((cols.map Q).eraseIdx j)) cols 0 1 (fun c hc => h r List.mem_cons_self c hc)
    simp only [detZ, List.map_cons, List.length_cons]
    refine ⟨fun e => key.2 fun i => ?_, fun e => key.1 fun i => ?_⟩
    · simp only [map_eraseIdx']; exact (ih i).2 (by omega)
    · simp only [map_eraseIdx']; exact (ih i).1 (by omega)

def negM (m : List (List Int)) (p q : List Int) : List (List Int) := p.map fun r => q.map fun c => wr (0 - at2 m r c)

theorem s_Negative (m : List (List Int)) (p q : List Int) (hp : p.length ≤ 1048576) (hq : q.length ≤ 1048576) (he : Ent m p q) : e_spec_l09Negative (m, p, q, ()) = some (negM m p q) := by
  simp only [e_spec_l09Negative, r_spec_l09Negative]
  have a := iter_fold (R := List (List Int)) (body := r_spec_l09Negative_L0 N0) p (fun (st : List (List Int)) i => (m, q, st, p, (p.length : Int), i, ())) (fun i st => st.length = i) (fun st _ r => st ++ [q.map fun c => wr (0 - at2 m r c)])
    (fun st i r kc ke hs hr hi => by
      refine ⟨?_, by simp [hs]⟩
      have hrm := List.mem_of_getElem? hr
      have b := iter_fold (R := List (List Int)) (body := r_spec_l09Negative_L2 N0) q (fun (row : List Int) j => (m, q, st, r, row, p, (p.length : Int), (i : Int), q, (q.length : Int), j, ())) (fun j row => row.length = j) (fun row _ c => row ++ [wr (0 - at2 m r c)])
        (fun row j c kc ke hl hc hj => by
          refine ⟨?_, by simp [hl]⟩
          obtain ⟨x, e1, e2⟩ := he.at hrm (List.mem_of_getElem? hc)
          have bl : Nat.ble (row.length + List.length (wr (0 - at2 m r c) :: ([] : List Int))) 17179869184 = true := ble_true (by simp; omega)
          simp only [r_spec_l09Negative_L2, lt_len, hj, decide_true, cond_true, getI_nat, hc, Option.bind_some, e1, e2, bl, wr_succ hj (show q.length ≤ 9223372036854775807 by omega)])
        (fun row kc ke _ => by simp only [r_spec_l09Negative_L2, not_lt_self, cond_false]) (N := N0) (by have := N0_big; omega) []  rfl
      have bl : Nat.ble (st.length + List.length ((q.map fun c => wr (0 - at2 m r c)) :: ([] : List (List Int)))) 17179869184 = true := ble_true (by simp; omega)
      simp only [r_spec_l09Negative_L0, lt_len, hi, decide_true, cond_true, getI_nat, hr, Option.bind_some]
      rw [(b _).1]
      simp only [foldI_map (fun c => wr (0 - at2 m r c)), List.nil_append, bl, cond_true, wr_succ hi (show p.length ≤ 9223372036854775807 by omega)])
    (fun st kc ke _ => by simp only [r_spec_l09Negative_L0, not_lt_self, cond_false]) (N := N0) (by have := N0_big; omega) [] rfl (fun s1 => some s1.2.2.1)
  rw [a.1]
  simp only [foldI_map (fun r => q.map fun c => wr (0 - at2 m r c)), List.nil_append, negM]

theorem s_l09Det (B : List (List Int)) (hl : B.length ≤ 1048576) (he : Ent B (ints B.length) (ints B.length)) : e_spec_l09Det (B, ()) = some (wr (detZ B (ints B.length) (ints B.length))) := by
  simp only [e_spec_l09Det, r_spec_l09Det]
  have a := iter_fold (R := Int) (body := r_spec_l09Det_L0 e_spec_l04Det N0) B (fun (st : List Int) i => (B, st, (B.length : Int), i, ())) (fun i st => st.length = i) (fun st i _ => st ++ [(i : Int)])
    (fun st i x kc ke hs hx hi => by
      refine ⟨?_, by simp [hs]⟩
      have bl : Nat.ble (st.length + List.length ((i : Int) :: ([] : List Int))) 17179869184 = true := ble_true (by simp; omega)
      simp only [r_spec_l09Det_L0, lt_len, hi, decide_true, cond_true, bl, wr_succ hi (show B.length ≤ 9223372036854775807 by omega)])
    (fun st kc ke _ => by simp only [r_spec_l09Det_L0, not_lt_self, cond_false]) (N := N0) (by have := N0_big; omega) [] rfl (fun s1 => Option.bind (e_spec_l04Det (s1.1, (s1.2.1, (s1.2.1, ())))) fun (x2 : Int) => some x2)
  rw [a.1]
  have e : foldI (fun st i _ => st ++ [(i : Int)]) B 0 [] = ints B.length := by rw [foldI_idx, List.nil_append, ints, List.range_eq_range']
  simp only [e]
  rw [s_det0 B _ _ (by rw [len_ints]; omega) (by rw [len_ints]; omega) he]
  rfl

theorem ints_map (p : List Int) : (ints p.length).map (fun i => (getI p i).getD 0) = p := by
  apply List.ext_getElem?; intro i
  simp only [ints, List.map_map, List.getElem?_map]
  by_cases h : i < p.length
  · rw [List.getElem?_range h]
    simp only [Option.map_some, Function.comp]
    show some ((getI p (i : Int)).getD 0) = _
    rw [getI_nat, List.getElem?_eq_getElem h]; rfl
  · rw [List.getElem?_eq_none (by simp; omega), List.getElem?_eq_none (by omega)]; rfl

theorem wm_sq (a : List (List Int)) (ha : Sm.sm B1 a) (h : e_spec_IsWeightMatrix (a, ()) = some true) : n_sq a = true := by
  simp only [e_spec_IsWeightMatrix, r_spec_IsWeightMatrix, p_l01In, p_l04Matrix a ha, Option.bind_some] at h
  cases hs : n_sq a with
  | true => rfl
  | false =>
    rw [hs] at h
    cases n_l01In ((a.length : Int), 1, 5, ()) <;> simp at h

end Go.Sx.R

/- Marks of lists of rows, found again. Conditions: none. -/
namespace Go.Sx.R
open Go Go.Sx

def gmBody {α R : Type} (mk : α → Int × Unit → Option (α × Int)) (s : List α × (Int × (Int × Unit))) (kc ke : List α × (Int × (Int × Unit)) → Option R) : Option R :=
  (cond (decide (s.2.2.1 < (((List.length s.1) : Nat) : Int)))
    (Option.bind (getI s.1 s.2.2.1) fun (x1 : α) =>
    (Option.bind (mk x1 (s.2.1, ())) fun (x2 : α × Int) =>
    (kc ((List.set s.1 (Int.toNat s.2.2.1) x2.1), (x2.2, ((wr (s.2.2.1 + (1 : Int))), ()))))))
    (ke (s.1, (s.2.1, (s.2.2.1, ())))))

def ghBody {α : Type} (hd : α × Int × Unit → Option Int) (s : List α × (Int × (Int × Unit))) (kc ke : List α × (Int × (Int × Unit)) → Option Int) : Option Int :=
  (cond (decide (s.2.2.1 < (((List.length s.1) : Nat) : Int)))
    (Option.bind (getI s.1 s.2.2.1) fun (x1 : α) =>
    (Option.bind (hd (x1, (s.2.1, ()))) fun (x2 : Int) =>
    (cond (decide (x2 < (0 : Int)))
      (some (-(1 : Int)))
      (kc (s.1, (x2, ((wr (s.2.2.1 + (1 : Int))), ())))))))
    (ke (s.1, (s.2.1, (s.2.2.1, ())))))

theorem mh_rows {α : Type} (d : α) (mk : α → Int × Unit → Option (α × Int)) (hd : α × Int × Unit → Option Int) (B : Nat) (x : List α) (hl : x.length ≤ 1073741824) (k : Int) (h0 : 0 ≤ k) (h1 : k + B * x.length ≤ 4611686018427387904)
    (row : ∀ y ∈ x, ∀ c : Int, 0 ≤ c → c + B ≤ k + B * x.length → ∃ y' c', mk y (c, ()) = some (y', c') ∧ hd (y', c, ()) = some c' ∧ c ≤ c' ∧ c' ≤ c + B) :
    ∃ x' k', iterK (gmBody mk) N0 (x, (k, ((0 : Int), ()))) (fun s => some (s.1, s.2.1)) = some (x', k') ∧ iterK (ghBody hd) N0 (x', (k, ((0 : Int), ()))) (fun s => some s.2.1) = some k' ∧ k ≤ k' ∧ k' ≤ k + B * x.length ∧ x'.length = x.length := by
  have mul : ∀ i : Nat, i < x.length → (B : Int) * i + B ≤ B * x.length := fun i hi => by
    have : (B : Int) * ((i : Int) + 1) ≤ B * x.length := Int.mul_le_mul_of_nonneg_left (by omega) (by omega)
    rw [Int.mul_add, Int.mul_one] at this
    exact this
  have m := iter_fold (R := List α × Int) (body := gmBody mk) x (fun (st : List α × Int) i => (st.1, (st.2, (i, ()))))
    (fun i st => k ≤ st.2 ∧ st.2 ≤ k + B * i ∧ st.1.length = x.length ∧ (∀ j, i ≤ j → st.1[j]? = x[j]?) ∧ ∃ ks : Nat → Int, ks 0 = k ∧ ks i = st.2 ∧ ∀ j, j < i → 0 ≤ ks j ∧ ks j ≤ ks (j + 1) ∧ ∃ y, st.1[j]? = some y ∧ hd (y, ks j, ()) = some (ks (j + 1)))
    (fun st i y => ((st.1.set i (((mk y (st.2, ())).getD (d, 0)).1)), ((mk y (st.2, ())).getD (d, 0)).2))
    (fun st i y kc ke ⟨p1, p2, p3, p4, ks, p5, p6, p7⟩ hy hi => by
      have hym := List.mem_of_getElem? hy
      have hmu := mul i hi
      obtain ⟨y', k2, q1, q2, q3, q4⟩ := row y hym st.2 (by omega) (by omega)
      have hlt : decide ((i : Int) < (st.1.length : Int)) = true := by rw [decide_eq_true_eq, p3]; exact Int.ofNat_lt.2 hi
      have hg : getI st.1 (i : Int) = some y := by rw [getI_nat, p4 i (Nat.le_refl _), hy]
      simp only [q1, Option.getD_some]
      refine ⟨?_, by omega, ?_, by simpa using p3, fun j hj => ?_, fun j => if j = i + 1 then k2 else ks j, ?_, by simp, fun j hj => ?_⟩
      · simp only [gmBody, hlt, cond_true, hg, Option.bind_some, q1, Int.toNat_natCast]
        rw [wr_succ hi (by omega)]
      · have : (B : Int) * ((i + 1 : Nat) : Int) = B * i + B := by rw [Int.natCast_add, Int.mul_add]; simp
        rw [this]; omega
      · rw [List.getElem?_set_ne (by omega)]; exact p4 j (by omega)
      · simp [p5]
      · dsimp only
        by_cases e : j = i
        · subst e
          rw [if_neg (by omega), if_pos rfl]
          exact ⟨by omega, by omega, y', by rw [List.getElem?_set_self (by omega)], by rw [p6]; exact q2⟩
        · obtain ⟨r1, r2, y2, r3, r4⟩ := p7 j (by omega)
          rw [if_neg (by omega), if_neg (by omega)]
          exact ⟨r1, r2, y2, by rw [List.getElem?_set_ne (by omega)]; exact r3, r4⟩)
    (fun st kc ke ⟨p1, p2, p3, _⟩ => by
      have hlt : decide ((x.length : Int) < (st.1.length : Int)) = false := by rw [decide_eq_false_iff_not, p3]; omega
      simp only [gmBody, hlt, cond_false]) (N := N0) (by have := N0_big; omega) (x, k) ⟨by simp, by simp, rfl, fun _ _ => rfl, fun _ => k, rfl, rfl, fun j hj => absurd hj (Nat.not_lt_zero _)⟩ (fun s1 => some (s1.1, s1.2.1))
  obtain ⟨e1, p1, p2, p3, _, ks, p5, p6, p7⟩ := m
  generalize hst : (foldI (fun (st : List α × Int) (i : Nat) (y : α) => ((st.1.set i (((mk y (st.2, ())).getD (d, 0)).1)), ((mk y (st.2, ())).getD (d, 0)).2)) x 0 (x, k)) = st at *
  refine ⟨st.1, st.2, e1, ?_, p1, p2, p3⟩
  have hh := iter_fold (R := Int) (body := ghBody hd) st.1 (fun (c : Int) i => (st.1, (c, (i, ())))) (fun i c => c = ks i) (fun _ i _ => ks (i + 1))
    (fun c i y kc ke pc hy hi => by
      obtain ⟨r1, r2, y2, r3, r4⟩ := p7 i (by omega)
      rw [hy] at r3; simp only [Option.some.injEq] at r3; subst r3
      refine ⟨?_, rfl⟩
      have d : decide (ks (i + 1) < 0) = false := by rw [decide_eq_false_iff_not]; omega
      simp only [ghBody, lt_len, hi, decide_true, cond_true, getI_nat, hy, Option.bind_some, pc, r4, d, cond_false]
      rw [wr_succ hi (by omega)])
    (fun c kc ke _ => by simp only [ghBody, not_lt_self, cond_false]) (N := N0) (by have := N0_big; omega) k p5.symm (fun s1 => some s1.2.1)
  rw [hh.1, hh.2, p3, p6]

theorem mh_IntSS (B : Nat) (hB : B ≤ 1073741824) (x : List (List Int)) (k : Int) (hx : Sm.sm B1 x) (hr : ∀ y ∈ x, y.length ≤ B) (h0 : 0 ≤ k) (h1 : k + B * x.length ≤ 1099511627776 + B) :
    ∃ x' k', e_laws_markIntSS x (k, ()) = some (x', k') ∧ e_laws_heldIntSS (x', k, ()) = some k' ∧ k ≤ k' ∧ k' ≤ k + B * x.length ∧ x'.length = x.length := by
  refine mh_rows ([] : List Int) e_laws_markIntS e_laws_heldIntS B x hx.1 k h0 (by omega) fun y hy c c0 c1 => ?_
  obtain ⟨y', c', q1, q2, q3, q4, _⟩ := mh_IntS y c (hx.2 y hy) c0 (by omega)
  have := hr y hy
  exact ⟨y', c', q1, q2, q3, by omega⟩

end Go.Sx.R

/- All circular pairs: both sides. Conditions: none. -/
namespace Go.Sx.R
open Go Go.Sx

def chG (l : List Int) (st : List (List Int)) (_ : Nat) (x : Nat) : List (List Int) := if (x : Int) ∈ l then st else st ++ [l ++ [(x : Int)]]
def chStep (k : Nat) (st : List (List Int)) (_ : Nat) (l : List Int) : List (List Int) := foldI (chG l) (List.range k) 0 st
def chNext (k : Nat) (out : List (List Int)) (_ _ : Nat) : List (List Int) := foldI (chStep k) out 0 []
def chs (k m : Nat) : List (List Int) := foldI (chNext k) (List.range m) 0 [[]]

/-- So many numbers below 5. -/
def Few (n : Nat) (y : List Int) : Prop := y.length ≤ n ∧ ∀ z ∈ y, 0 ≤ z ∧ z < 5

theorem idx_get {k i x : Nat} (h : (List.range k)[i]? = some x) : x = i := by
  have hi : i < k := by have := (List.getElem?_eq_some_iff.1 h).1; simpa using this
  rw [List.getElem?_range hi] at h
  exact (Option.some.inj h).symm

def I4 (l : List Int) (n A : Nat) (i : Nat) (st : List (List Int)) : Prop := st.length ≤ A + i ∧ ∀ y ∈ st, Few (n + 1) y

theorem I4.step {l : List Int} {n A i k : Nat} {st : List (List Int)} (h : I4 l n A i st) (hl : Few n l) (hi : i < k) (hk : k ≤ 5) : I4 l n A (i + 1) (chG l st i i) := by
  unfold chG
  split
  · exact ⟨by have := h.1; omega, h.2⟩
  · refine ⟨by have := h.1; simp; omega, fun y hy => ?_⟩
    rcases List.mem_append.1 hy with hy | hy
    · exact h.2 y hy
    · simp only [List.mem_singleton] at hy
      subst hy
      refine ⟨by have := hl.1; simp; omega, fun z hz => ?_⟩
      rcases List.mem_append.1 hz with hz | hz
      · exact hl.2 z hz
      · simp only [List.mem_singleton] at hz
        subst hz; omega

theorem ch4_impl (k : Nat) (hk : k ≤ 5) (l : List Int) (n : Nat) (hn : n ≤ 2) (hl : Few n l) (cnt ci : Int) (out : List (List Int)) (len i : Int) (A : Nat) (hA : A ≤ 1000) (st : List (List Int)) (hst : I4 l n A 0 st) (K : _ → Option (List (List Int))) :
    iterK (r_impl_choices_L4 e_slices_Contains_int e_slices_Clone_int N0) N0 ((k : Int), st, l, cnt, ci, out, len, i, (k : Int), 0, ()) K = K ((k : Int), chStep k st 0 l, l, cnt, ci, out, len, i, (k : Int), (k : Int), ()) ∧ I4 l n A k (chStep k st 0 l) := by
  have hll := hl.1
  have m := iter_fold (R := List (List Int)) (body := r_impl_choices_L4 e_slices_Contains_int e_slices_Clone_int N0) (List.range k) (fun (st : List (List Int)) x => ((k : Int), st, l, cnt, ci, out, len, i, (k : Int), x, ())) (I4 l n A) (chG l)
    (fun st j x kc ke hp hx hj => by
      have e := idx_get hx
      subst e
      have hj' : x < k := by simpa using hj
      refine ⟨?_, hp.step hl hj' hk⟩
      have d : decide ((x : Int) < (k : Int)) = true := by rw [decide_eq_true_eq]; omega
      have w : wr ((x : Int) + 1) = ((x + 1 : Nat) : Int) := wr_succ (n := 6) (by omega) (by omega)
      have b1 : Nat.ble (l.length + List.length ((x : Int) :: ([] : List Int))) 17179869184 = true := ble_true (by simp; omega)
      have b2 : Nat.ble (st.length + List.length ((l ++ (x : Int) :: ([] : List Int)) :: ([] : List (List Int)))) 17179869184 = true := ble_true (by have := hp.1; simp; omega)
      simp only [r_impl_choices_L4, d, cond_true, p_ContainsI l _ (show l.length ≤ 9223372036854775807 by omega), Option.bind_some, p_Clone l (by omega), b1, b2, w, chG]
      by_cases c : (x : Int) ∈ l
      · simp only [c, decide_true, Bool.not_true, cond_false, if_true]
      · simp only [c, decide_false, Bool.not_false, cond_true, if_false])
    (fun st kc ke _ => by simp only [r_impl_choices_L4, List.length_range, not_lt_self, cond_false]) (N := N0) (by have := N0_big; simp; omega) st hst K
  simpa [chStep] using m

theorem ch4_spec (k : Nat) (hk : k ≤ 5) (l : List Int) (n : Nat) (hn : n ≤ 2) (hl : Few n l) (cnt ci : Int) (out : List (List Int)) (len i : Int) (A : Nat) (hA : A ≤ 1000) (st : List (List Int)) (hst : I4 l n A 0 st) (K : _ → Option (List (List Int))) :
    iterK (r_spec_l09Lists_L4 e_spec_l03Has N0) N0 ((k : Int), cnt, ci, st, l, 0, out, len, i, ()) K = K ((k : Int), cnt, ci, chStep k st 0 l, l, (k : Int), out, len, i, ()) := by
  have hll := hl.1
  have m := iter_fold (R := List (List Int)) (body := r_spec_l09Lists_L4 e_spec_l03Has N0) (List.range k) (fun (st : List (List Int)) x => ((k : Int), cnt, ci, st, l, x, out, len, i, ())) (I4 l n A) (chG l)
    (fun st j x kc ke hp hx hj => by
      have e := idx_get hx
      subst e
      have hj' : x < k := by simpa using hj
      refine ⟨?_, hp.step hl hj' hk⟩
      have d : decide ((x : Int) < (k : Int)) = true := by rw [decide_eq_true_eq]; omega
      have w : wr ((x : Int) + 1) = ((x + 1 : Nat) : Int) := wr_succ (n := 6) (by omega) (by omega)
      have b0 : Nat.ble (List.length ([] : List Int) + l.length) 17179869184 = true := ble_true (by simp; omega)
      have b1 : Nat.ble (l.length + List.length ((x : Int) :: ([] : List Int))) 17179869184 = true := ble_true (by simp; omega)
      have b2 : Nat.ble (st.length + List.length ((l ++ (x : Int) :: ([] : List Int)) :: ([] : List (List Int)))) 17179869184 = true := ble_true (by have := hp.1; simp; omega)
      simp only [r_spec_l09Lists_L4, d, cond_true, p_Has l _ (show l.length ≤ 9223372036854775807 by omega), Option.bind_some, b0, List.nil_append, b1, b2, w, chG]
      by_cases c : (x : Int) ∈ l
      · simp only [c, decide_true, Bool.not_true, cond_false, if_true]
      · simp only [c, decide_false, Bool.not_false, cond_true, if_false])
    (fun st kc ke _ => by simp only [r_spec_l09Lists_L4, List.length_range, not_lt_self, cond_false]) (N := N0) (by have := N0_big; simp; omega) st hst K
  simpa [chStep] using m.1

theorem few_up {n : Nat} {y : List Int} (h : Few n y) : Few (n + 1) y := ⟨by have := h.1; omega, h.2⟩

theorem ch2_both (k : Nat) (hk : k ≤ 5) (n : Nat) (hn : n ≤ 2) (out : List (List Int)) (ho : out.length ≤ 25) (hf : ∀ y ∈ out, Few n y) :
    (∀ (cnt ci : Int) (K : _ → Option (List (List Int))), iterK (r_impl_choices_L2 e_slices_Contains_int e_slices_Clone_int N0) N0 ((k : Int), [], cnt, ci, out, (out.length : Int), 0, ()) K = K ((k : Int), foldI (chStep k) out 0 [], cnt, ci, out, (out.length : Int), (out.length : Int), ())) ∧
    (∀ (cnt ci : Int) (K : _ → Option (List (List Int))), iterK (r_spec_l09Lists_L2 e_spec_l03Has N0) N0 ((k : Int), cnt, ci, [], out, (out.length : Int), 0, ()) K = K ((k : Int), cnt, ci, foldI (chStep k) out 0 [], out, (out.length : Int), (out.length : Int), ())) ∧
    (foldI (chStep k) out 0 []).length ≤ 5 * out.length ∧ ∀ y ∈ foldI (chStep k) out 0 [], Few (n + 1) y := by
  have a := fun (cnt ci : Int) (K : _ → Option (List (List Int))) => iter_fold (R := List (List Int)) (body := r_impl_choices_L2 e_slices_Contains_int e_slices_Clone_int N0) out (fun (st : List (List Int)) i => ((k : Int), st, cnt, ci, out, (out.length : Int), i, ())) (fun i st => I4 [] n (5 * i) 0 st) (chStep k)
    (fun st i l kc ke hp hx hi => by
      have hl := hf l (List.mem_of_getElem? hx)
      have q := ch4_impl k hk l n hn hl cnt ci out (out.length : Int) (i : Int) (5 * i) (by omega) st hp
      refine ⟨?_, by have := (q fun _ => none).2; exact ⟨by have := this.1; show (chStep k st i l).length ≤ _; change (chStep k st 0 l).length ≤ _; omega, this.2⟩⟩
      simp only [r_impl_choices_L2, lt_len, hi, decide_true, cond_true, getI_nat, hx, Option.bind_some]
      rw [(q _).1, wr_succ hi (show out.length ≤ 9223372036854775807 by omega)]
      rfl)
    (fun st kc ke _ => by simp only [r_impl_choices_L2, not_lt_self, cond_false]) (N := N0) (by have := N0_big; omega) [] ⟨by simp, by simp⟩ K
  have b := fun (cnt ci : Int) (K : _ → Option (List (List Int))) => iter_fold (R := List (List Int)) (body := r_spec_l09Lists_L2 e_spec_l03Has N0) out (fun (st : List (List Int)) i => ((k : Int), cnt, ci, st, out, (out.length : Int), i, ())) (fun i st => I4 [] n (5 * i) 0 st) (chStep k)
    (fun st i l kc ke hp hx hi => by
      have hl := hf l (List.mem_of_getElem? hx)
      have q := ch4_impl k hk l n hn hl cnt ci out (out.length : Int) (i : Int) (5 * i) (by omega) st hp
      have q2 := ch4_spec k hk l n hn hl cnt ci out (out.length : Int) (i : Int) (5 * i) (by omega) st hp
      refine ⟨?_, by have := (q fun _ => none).2; exact ⟨by have := this.1; show (chStep k st i l).length ≤ _; change (chStep k st 0 l).length ≤ _; omega, this.2⟩⟩
      simp only [r_spec_l09Lists_L2, lt_len, hi, decide_true, cond_true, getI_nat, hx, Option.bind_some]
      rw [q2 _, wr_succ hi (show out.length ≤ 9223372036854775807 by omega)]
      rfl)
    (fun st kc ke _ => by simp only [r_spec_l09Lists_L2, not_lt_self, cond_false]) (N := N0) (by have := N0_big; omega) [] ⟨by simp, by simp⟩ K
  have p := (a 0 0 fun _ => none).2
  exact ⟨fun cnt ci K => (a cnt ci K).1, fun cnt ci K => (b cnt ci K).1, by have := p.1; omega, p.2⟩

def bnd : Nat → Nat
  | 0 => 1
  | n + 1 => 5 * bnd n

theorem bnd_le {i : Nat} (h : i ≤ 2) : bnd i ≤ 25 := by
  rcases i with _ | _ | _ | i
  · decide
  · decide
  · decide
  · omega

theorem choices_both (k m : Nat) (hk : k ≤ 5) (hm : m ≤ 2) : e_impl_choices ((k : Int), (m : Int), ()) = some (chs k m) ∧ e_spec_l09Lists ((k : Int), (m : Int), ()) = some (chs k m) ∧ (chs k m).length ≤ 25 ∧ ∀ y ∈ chs k m, Few m y := by
  have a := iter_fold (R := List (List Int)) (body := r_impl_choices_L0 e_slices_Contains_int e_slices_Clone_int N0) (List.range m) (fun (out : List (List Int)) i => ((k : Int), out, (m : Int), i, ())) (fun i out => out.length ≤ bnd i ∧ ∀ y ∈ out, Few i y) (chNext k)
    (fun out i x kc ke ⟨p1, p2⟩ hx hi => by
      have hi' : i < m := by simpa using hi
      have hb := bnd_le (i := i) (by omega)
      obtain ⟨q1, _, q3, q4⟩ := ch2_both k hk i (by omega) out (by omega) p2
      refine ⟨?_, by show (foldI (chStep k) out 0 []).length ≤ 5 * bnd i; omega, q4⟩
      have d : decide ((i : Int) < (m : Int)) = true := by rw [decide_eq_true_eq]; omega
      simp only [r_impl_choices_L0, d, cond_true]
      rw [q1, wr_succ hi' (by omega)]
      rfl)
    (fun st kc ke _ => by simp only [r_impl_choices_L0, List.length_range, not_lt_self, cond_false]) (N := N0) (by have := N0_big; simp; omega) [[]] ⟨by simp [bnd], by simp [Few]⟩ (fun s1 => some s1.2.1)
  have b := iter_fold (R := List (List Int)) (body := r_spec_l09Lists_L0 e_spec_l03Has N0) (List.range m) (fun (out : List (List Int)) i => ((k : Int), (m : Int), out, i, ())) (fun i out => out.length ≤ bnd i ∧ ∀ y ∈ out, Few i y) (chNext k)
    (fun out i x kc ke ⟨p1, p2⟩ hx hi => by
      have hi' : i < m := by simpa using hi
      have hb := bnd_le (i := i) (by omega)
      obtain ⟨_, q1, q3, q4⟩ := ch2_both k hk i (by omega) out (by omega) p2
      refine ⟨?_, by show (foldI (chStep k) out 0 []).length ≤ 5 * bnd i; omega, q4⟩
      have d : decide ((i : Int) < (m : Int)) = true := by rw [decide_eq_true_eq]; omega
      simp only [r_spec_l09Lists_L0, d, cond_true]
      rw [q1, wr_succ hi' (by omega)]
      rfl)
    (fun st kc ke _ => by simp only [r_spec_l09Lists_L0, List.length_range, not_lt_self, cond_false]) (N := N0) (by have := N0_big; simp; omega) [[]] ⟨by simp [bnd], by simp [Few]⟩ (fun s1 => some s1.2.2.1)
  have p := a.2
  simp only [List.length_range] at p
  have hb := bnd_le hm
  exact ⟨a.1, b.1, by have := p.1; show (chs k m).length ≤ 25; change (foldI (chNext k) (List.range m) 0 [[]]).length ≤ 25; omega, p.2⟩

-- the pairs

theorem few_len {p : List Int} (h : Few 2 p) : p.length ≤ 1048576 := by have := h.1; omega

theorem circB_both (k : Nat) (hk : k ≤ 5) {p q : List Int} (hp : Few 2 p) (hq : Few 2 q) : e_impl_IsCircular ((k : Int), p, q, ()) = some (circB k p q) ∧ e_spec_IsCircular ((k : Int), p, q, ()) = some (circB k p q) ∧ (circB k p q = true → p.length = q.length ∧ (∀ x ∈ p, 0 ≤ x ∧ x < k) ∧ ∀ x ∈ q, 0 ≤ x ∧ x < k) := by
  obtain ⟨r, r1, r2, r3⟩ := circular_both (k : Int) p q ⟨by omega, by omega⟩ (few_len hp) (few_len hq)
  have : circB (k : Int) p q = r := by simp only [circB, r1, Option.getD_some]
  rw [this]
  exact ⟨r1, r2, r3⟩

theorem few2 {m : Nat} (hm : m ≤ 2) {y : List Int} (h : Few m y) : Few 2 y := ⟨by have := h.1; omega, h.2⟩

theorem cpL_eq (k m : Nat) (hk : k ≤ 5) (hm : m ≤ 2) : cpL (k : Int) m = chs k m := by
  simp only [cpL, (choices_both k m hk hm).1, Option.getD_some]

theorem cpOk_all (k : Nat) (hk : k ≤ 5) : cpOk (k : Int) (k / 2) := by
  intro i hi
  have hm : i + 1 ≤ 2 := by omega
  obtain ⟨c1, _, c3, c4⟩ := choices_both k (i + 1) hk hm
  rw [cpL_eq k (i + 1) hk hm]
  refine ⟨c1, by omega, fun p hp => ⟨p_Clone p (by have := few_len (few2 hm (c4 p hp)); omega), fun q hq => (circB_both k hk (few2 hm (c4 p hp)) (few2 hm (c4 q hq))).1⟩⟩

theorem cpRow_fold (k : Int) (p : List Int) : ∀ (Q : List (List Int)) (i : Nat) (st : List (List (List Int))), foldI (fun st _ q => if circB k p q then st ++ [[p, q]] else st) Q i st = st ++ cpRow k p Q
  | [], i, st => by simp [foldI, cpRow]
  | q :: Q, i, st => by
    simp only [foldI, cpRow_fold k p Q]
    cases h : circB k p q <;> simp [cpRow, h]

theorem cpSize_fold (k : Int) (Q : List (List Int)) : ∀ (P : List (List Int)) (i : Nat) (st : List (List (List Int))), foldI (fun st _ p => st ++ cpRow k p Q) P i st = st ++ cpSize k P Q
  | [], i, st => by simp [foldI, cpSize]
  | p :: P, i, st => by
    simp only [foldI, cpSize_fold k Q P]
    simp [cpSize]

theorem cpAll_fold (k : Int) (n : Nat) : foldI (fun st _ (i : Nat) => st ++ cpSize k (cpL k (i + 1)) (cpL k (i + 1))) (List.range n) 0 [] = cpAll k n := by
  have gen : ∀ (l : List Nat) (i : Nat) (st : List (List (List Int))), foldI (fun st _ (i : Nat) => st ++ cpSize k (cpL k (i + 1)) (cpL k (i + 1))) l i st = st ++ l.flatMap fun i => cpSize k (cpL k (i + 1)) (cpL k (i + 1)) := by
    intro l
    induction l with
    | nil => intro i st; simp [foldI]
    | cons x l ih => intro i st; simp only [foldI, ih]; simp
  rw [gen, List.nil_append, cpAll]

theorem row_len (k : Int) (p : List Int) (Q : List (List Int)) : (cpRow k p Q).length ≤ Q.length := by
  simp only [cpRow, List.length_map]; exact List.length_filter_le _ _

theorem size_len (k : Int) (P Q : List (List Int)) : (cpSize k P Q).length ≤ P.length * Q.length := by
  induction P with
  | nil => simp [cpSize]
  | cons p P ih =>
    have e : cpSize k (p :: P) Q = cpRow k p Q ++ cpSize k P Q := by simp [cpSize]
    have := row_len k p Q
    rw [e, List.length_append, List.length_cons, Nat.add_mul, Nat.one_mul]
    omega

theorem pairs4 (k : Nat) (hk : k ≤ 5) (size : Int) (L : List (List Int)) (hL : L.length ≤ 25) (hf : ∀ y ∈ L, Few 2 y) (p : List Int) (hp : Few 2 p) (i : Int) (st : List (List (List Int))) (hst : st.length ≤ 10000) (K : _ → Option (List (List (List Int)))) :
    iterK (r_spec_CircularPairs_L4 e_spec_l01In e_spec_l09Lists e_spec_IsCircular N0) N0 ((k : Int), st, size, L, p, L, (L.length : Int), i, L, (L.length : Int), 0, ()) K = K ((k : Int), st ++ cpRow k p L, size, L, p, L, (L.length : Int), i, L, (L.length : Int), (L.length : Int), ()) := by
  have a := iter_fold (R := List (List (List Int))) (body := r_spec_CircularPairs_L4 e_spec_l01In e_spec_l09Lists e_spec_IsCircular N0) L (fun (st : List (List (List Int))) j => ((k : Int), st, size, L, p, L, (L.length : Int), i, L, (L.length : Int), j, ())) (fun j st => st.length ≤ 10000 + j) (fun st _ q => if circB k p q then st ++ [[p, q]] else st)
    (fun st j q kc ke hl hq hj => by
      have hqf := hf q (List.mem_of_getElem? hq)
      obtain ⟨_, c2, _⟩ := circB_both k hk hp hqf
      refine ⟨?_, by split; · simp; omega
                     · omega⟩
      have b1 : Nat.ble (List.length ([] : List Int) + p.length) 17179869184 = true := ble_true (by have := few_len hp; simp; omega)
      have b2 : Nat.ble (List.length ([] : List Int) + q.length) 17179869184 = true := ble_true (by have := few_len hqf; simp; omega)
      have b3 : Nat.ble (st.length + List.length ((p :: q :: ([] : List (List Int))) :: ([] : List (List (List Int))))) 17179869184 = true := ble_true (by simp; omega)
      simp only [r_spec_CircularPairs_L4, lt_len, hj, decide_true, cond_true, getI_nat, hq, Option.bind_some, c2, b1, b2, List.nil_append, b3, wr_succ hj (show L.length ≤ 9223372036854775807 by omega)]
      cases circB (k : Int) p q <;> rfl)
    (fun st kc ke _ => by simp only [r_spec_CircularPairs_L4, not_lt_self, cond_false]) (N := N0) (by have := N0_big; omega) st (by omega) K
  rw [a.1, cpRow_fold]

theorem pairs2 (k : Nat) (hk : k ≤ 5) (size : Int) (L : List (List Int)) (hL : L.length ≤ 25) (hf : ∀ y ∈ L, Few 2 y) (st : List (List (List Int))) (hst : st.length ≤ 1000) (K : _ → Option (List (List (List Int)))) :
    iterK (r_spec_CircularPairs_L2 e_spec_l01In e_spec_l09Lists e_spec_IsCircular N0) N0 ((k : Int), st, size, L, L, (L.length : Int), 0, ()) K = K ((k : Int), st ++ cpSize k L L, size, L, L, (L.length : Int), (L.length : Int), ()) := by
  have a := iter_fold (R := List (List (List Int))) (body := r_spec_CircularPairs_L2 e_spec_l01In e_spec_l09Lists e_spec_IsCircular N0) L (fun (st : List (List (List Int))) i => ((k : Int), st, size, L, L, (L.length : Int), i, ())) (fun i st => st.length ≤ 1000 + 25 * i) (fun st _ p => st ++ cpRow k p L)
    (fun st i p kc ke hl hp hi => by
      refine ⟨?_, by have := row_len k p L; rw [List.length_append]; omega⟩
      simp only [r_spec_CircularPairs_L2, lt_len, hi, decide_true, cond_true, getI_nat, hp, Option.bind_some]
      rw [pairs4 k hk size L hL hf p (hf p (List.mem_of_getElem? hp)) (i : Int) st (by omega), wr_succ hi (show L.length ≤ 9223372036854775807 by omega)])
    (fun st kc ke _ => by simp only [r_spec_CircularPairs_L2, not_lt_self, cond_false]) (N := N0) (by have := N0_big; omega) st (by omega) K
  rw [a.1, cpSize_fold]

/-- A pair of lists of the same length, numbers below k. -/
def IsPair (k : Nat) (x : List (List Int)) : Prop := ∃ p q, x = [p, q] ∧ Few 2 p ∧ Few 2 q ∧ circB k p q = true

theorem mem_cpAll {k n : Nat} (hk : k ≤ 5) (hn : n ≤ 2) {x : List (List Int)} (h : x ∈ cpAll (k : Int) n) : IsPair k x := by
  simp only [cpAll, List.mem_flatMap, List.mem_range] at h
  obtain ⟨i, hi, h⟩ := h
  rw [cpL_eq k (i + 1) hk (by omega)] at h
  simp only [cpSize, List.mem_flatMap] at h
  obtain ⟨p, hp, h⟩ := h
  simp only [cpRow, List.mem_map, List.mem_filter] at h
  obtain ⟨q, ⟨hq, hc⟩, rfl⟩ := h
  have c4 := (choices_both k (i + 1) hk (by omega)).2.2.2
  exact ⟨p, q, rfl, few2 (by omega) (c4 p hp), few2 (by omega) (c4 q hq), hc⟩

theorem pairs_both (k : Int) (hk : Sm.sm B1 k) : ∃ r, e_impl_CircularPairs (k, ()) = some r ∧ e_spec_CircularPairs (k, ()) = some r ∧ r.length ≤ 2000 ∧ (1 ≤ k ∧ k ≤ 5 → ∀ x ∈ r, IsPair k.toNat x) ∧ (¬ (1 ≤ k ∧ k ≤ 5) → r = []) := by
  simp only [e_spec_CircularPairs, r_spec_CircularPairs, p_l01In, n_l01In, Option.bind_some]
  unfold e_impl_CircularPairs
  by_cases h : k < 1 ∨ 5 < k
  · have d : (decide (1 ≤ k) && decide (k ≤ 5)) = false := by simp only [Bool.and_eq_false_iff, decide_eq_false_iff_not]; omega
    rw [if_pos h]
    refine ⟨[], rfl, by rw [d]; rfl, by simp, by simp, fun _ => rfl⟩
  · have d : (decide (1 ≤ k) && decide (k ≤ 5)) = true := by simp only [Bool.and_eq_true, decide_eq_true_eq]; omega
    obtain ⟨K, rfl⟩ : ∃ K : Nat, k = K := ⟨k.toNat, by omega⟩
    have hK : K ≤ 5 := by omega
    have hok := cpOk_all K hK
    rw [if_neg h]
    simp only [Int.toNat_natCast]
    rw [if_pos hok, d]
    simp only [Bool.not_true, cond_false]
    have a := iter_fold (R := List (List (List Int))) (body := r_spec_CircularPairs_L0 e_spec_l01In e_spec_l09Lists e_spec_IsCircular N0) (List.range (K / 2)) (fun (st : List (List (List Int))) i => ((K : Int), st, i + 1, ())) (fun i st => st.length ≤ 625 * i) (fun st _ (i : Nat) => st ++ cpSize K (cpL K (i + 1)) (cpL K (i + 1)))
      (fun st j x kc ke hl hx hj => by
        have e := idx_get hx
        subst e
        have hj' : x < K / 2 := by simpa using hj
        obtain ⟨_, c2, c3, c4⟩ := choices_both K (x + 1) hK (by omega)
        have c2 : e_spec_l09Lists ((K : Int), (x : Int) + 1, ()) = some (chs K (x + 1)) := c2
        have e := cpL_eq K (x + 1) hK (by omega)
        have hsz := size_len (K : Int) (chs K (x + 1)) (chs K (x + 1))
        have hm : (chs K (x + 1)).length * (chs K (x + 1)).length ≤ 25 * 25 := Nat.mul_le_mul c3 c3
        refine ⟨?_, by rw [e, List.length_append]; omega⟩
        have w2 : wr (2 * ((x : Int) + 1)) = 2 * ((x : Int) + 1) := wr_id (by omega) (by omega)
        have w3 : wr ((x : Int) + 1 + 1) = ((x + 1 : Nat) : Int) + 1 := wr_id (by omega) (by omega)
        have d : decide (2 * ((x : Int) + 1) ≤ (K : Int)) = true := by rw [decide_eq_true_eq]; omega
        simp only [r_spec_CircularPairs_L0, w2, d, cond_true, c2, Option.bind_some]
        rw [pairs2 K hK ((x : Int) + 1) (chs K (x + 1)) c3 (fun y hy => few2 (by omega) (c4 y hy)) st (by omega), w3, e])
      (fun st kc ke _ => by
        have w2 : wr (2 * (((List.range (K / 2)).length : Int) + 1)) = 2 * (((List.range (K / 2)).length : Int) + 1) := wr_id (by simp; omega) (by simp; omega)
        have d : decide (2 * (((List.range (K / 2)).length : Int) + 1) ≤ (K : Int)) = false := by rw [decide_eq_false_iff_not]; simp; omega
        simp only [r_spec_CircularPairs_L0, w2, d, cond_false]) (N := N0) (by have := N0_big; simp; omega) [] (by simp) (fun s2 => some s2.2.1)
    rw [cpAll_fold] at a
    refine ⟨cpAll K (K / 2), rfl, a.1, by have := a.2; simp only [List.length_range] at this; omega, fun _ x hx => mem_cpAll hK (by omega) hx, fun hn => absurd ⟨by omega, by omega⟩ hn⟩

end Go.Sx.R

/- Why a matrix is not planar: the laws. Conditions: none. -/
namespace Go.Sx.R
open Go Go.Sx

theorem minor_core (m : List (List Int)) (p q : List Int) (hm : Sm.sm B1 m) (hp : p.length ≤ 1048576) (hq : q.length ≤ 1048576) (hb : e_spec_IsWeightMatrix (m, ()) = some true) (c1 : e_impl_IsCircular ((m.length : Int), p, q, ()) = some true) (hpq : p.length = q.length) (hpi : ∀ x ∈ p, 0 ≤ x ∧ x < m.length) (hqi : ∀ x ∈ q, 0 ≤ x ∧ x < m.length) :
    ∃ (x : Int) (B : List (List Int)), e_impl_MinorMatrix (m, p, q, ()) = some (x, true) ∧ e_spec_l09Negative (m, p, q, ()) = some B ∧ e_spec_l09Det (B, ()) = some x := by
  simp only [e_impl_MinorMatrix, r_impl_MinorMatrix, e_IsWeightMatrix m hm, hb, Option.bind_some, c1, Bool.not_true, cond_false]
  have hsq := wm_sq m hm hb
  have he : Ent m p q := fun r hr => by
    obtain ⟨row, e1, e2⟩ := getI_some_of (hpi r hr).1 (hpi r hr).2
    obtain ⟨rl, _⟩ := sq_row hsq e2
    refine ⟨row, e1, fun c hc => ?_⟩
    obtain ⟨x, x1, _⟩ := getI_some_of (l := row) (hqi c hc).1 (by rw [rl]; exact (hqi c hc).2)
    exact ⟨x, x1⟩
  have hsm : ∀ r ∈ p, ∀ c ∈ q, -1000 ≤ at2 m r c ∧ at2 m r c ≤ 1000 := fun r hr c hc => by
    obtain ⟨row, e1, e2⟩ := getI_some_of (hpi r hr).1 (hpi r hr).2
    obtain ⟨rl, rb⟩ := sq_row hsq e2
    obtain ⟨x, x1, x2⟩ := getI_some_of (l := row) (hqi c hc).1 (by rw [rl]; exact (hqi c hc).2)
    have : at2 m r c = x := by simp only [at2, e1, Option.getD_some, x1]
    rw [this]; exact rb x x2
  have hBl : (negM m p q).length = p.length := by simp [negM]
  have hB : ∀ (i j : Int), i ∈ ints p.length → j ∈ ints q.length → ∃ row, getI (negM m p q) i = some row ∧ getI row j = some (- at2 m ((getI p i).getD 0) ((getI q j).getD 0)) := by
    intro i j hi hj
    rw [mem_ints] at hi hj
    obtain ⟨I, rfl⟩ : ∃ I : Nat, i = I := ⟨i.toNat, by omega⟩
    obtain ⟨J, rfl⟩ : ∃ J : Nat, j = J := ⟨j.toNat, by omega⟩
    have hI : I < p.length := by omega
    have hJ : J < q.length := by omega
    have g := hsm p[I] (List.getElem_mem hI) q[J] (List.getElem_mem hJ)
    refine ⟨q.map fun c => wr (0 - at2 m p[I] c), ?_, ?_⟩
    · rw [getI_nat, negM, List.getElem?_map, List.getElem?_eq_getElem hI]; rfl
    · rw [getI_nat, getI_nat, getI_nat, List.getElem?_map, List.getElem?_eq_getElem hJ, List.getElem?_eq_getElem hI]
      simp only [Option.map_some, Option.getD_some]
      rw [wr_id (by omega) (by omega)]
      congr 1; omega
  have hEnt : Ent (negM m p q) (ints (negM m p q).length) (ints (negM m p q).length) := by
    rw [hBl]
    intro i hi
    have hq0 : ∀ j, j ∈ ints p.length → j ∈ ints q.length := fun j hj => by rw [← hpq]; exact hj
    obtain ⟨row, r1, _⟩ := hB i i hi (hq0 i hi)
    refine ⟨row, r1, fun j hj => ?_⟩
    obtain ⟨row', r2, r3⟩ := hB i j hi (hq0 j hj)
    rw [r1] at r2; simp only [Option.some.injEq] at r2; subst r2
    exact ⟨_, r3⟩
  have hneg := detZ_neg (B := negM m p q) (m := m) (P := fun i => (getI p i).getD 0) (Q := fun i => (getI q i).getD 0) (ints p.length) (ints q.length) (fun r hr c hc => by
    obtain ⟨row, r1, r2⟩ := hB r c hr hc
    simp only [at2, r1, Option.getD_some, r2])
  rw [ints_map, ints_map, len_ints] at hneg
  have sd := s_l09Det (negM m p q) (by rw [hBl]; omega) hEnt
  rw [hBl] at sd
  rw [show ints q.length = ints p.length by rw [hpq]] at hneg
  refine ⟨wr (detZ (negM m p q) (ints p.length) (ints p.length)), negM m p q, ?_, s_Negative m p q hp hq he, sd⟩
  simp only [e_impl_circular, r_impl_circular, p_det0 m p q (by omega) (by omega) he, Option.bind_some]
  have tm : Int.tmod (p.length : Int) 2 = ((p.length % 2 : Nat) : Int) := by rw [Int.tmod_eq_emod_of_nonneg (by omega)]; simp
  rw [tm]
  rcases Nat.mod_two_eq_zero_or_one p.length with e | e
  · rw [hneg.1 e, e]; rfl
  · rw [hneg.2 e, e]
    simp only [Int.natCast_one, decide_true, cond_true, Option.bind_some]
    have : wr (0 - wr (detZ m p q)) = wr (-detZ m p q) := by
      obtain ⟨k, hk⟩ := wr_off (detZ m p q)
      exact wr_congr (by rw [hk]; omega)
    rw [this]

/-- A minor's number. -/
noncomputable def pv (m : List (List Int)) (x : List (List Int)) : Int := ((e_impl_MinorMatrix (m, (x[0]?).getD [], (x[1]?).getD [], ())).getD (0, false)).1

/-- The first pair with a negative minor. -/
noncomputable def fV (m : List (List Int)) : List (List (List Int)) → List (List Int)
  | [] => []
  | x :: l => if pv m x < 0 then x else fV m l

theorem fV_mem (m : List (List Int)) : ∀ (l : List (List (List Int))), fV m l = [] ∨ fV m l ∈ l
  | [] => .inl rfl
  | x :: l => by
    simp only [fV]
    split
    · exact .inr (by simp)
    · exact (fV_mem m l).imp id fun h => List.mem_cons_of_mem _ h

theorem fV_drop (m : List (List Int)) : ∀ (l : List (List (List Int))) (i : Nat), (∀ x ∈ l.take i, ¬ pv m x < 0) → fV m (l.drop i) = fV m l
  | [], i, _ => by simp
  | x :: l, 0, _ => rfl
  | x :: l, i + 1, h => by
    have hx := h x (by simp)
    rw [List.drop_succ_cons, fV_drop m l i fun y hy => h y (by simp [hy])]
    simp only [fV, hx, if_false]

theorem pair_core (m : List (List Int)) (hm : Sm.sm B1 m) (hb : e_spec_IsWeightMatrix (m, ()) = some true) (hk : m.length ≤ 5) {x : List (List Int)} (hx : IsPair m.length x) :
    ∃ p q d B, x = [p, q] ∧ e_impl_MinorMatrix (m, p, q, ()) = some d ∧ d.1 = pv m x ∧ e_spec_l09Negative (m, p, q, ()) = some B ∧ e_spec_l09Det (B, ()) = some (pv m x) := by
  obtain ⟨p, q, rfl, hp, hq, hc⟩ := hx
  obtain ⟨c1, _, c3⟩ := circB_both m.length hk hp hq
  rw [hc] at c1
  obtain ⟨hpq, hpi, hqi⟩ := c3 hc
  obtain ⟨y, B, e1, e2, e3⟩ := minor_core m p q hm (few_len hp) (few_len hq) hb c1 hpq hpi hqi
  have hpv : pv m [p, q] = y := by
    have a0 : ([p, q] : List (List Int))[0]? = some p := rfl
    have a1 : ([p, q] : List (List Int))[1]? = some q := rfl
    simp only [pv, a0, a1, Option.getD_some, e1]
  exact ⟨p, q, (y, true), B, rfl, e1, hpv.symm, e2, by rw [hpv]; exact e3⟩

theorem prFind_eq (m : List (List Int)) (hm : Sm.sm B1 m) (hb : e_spec_IsWeightMatrix (m, ()) = some true) (hk : m.length ≤ 5) : ∀ (l : List (List (List Int))), (∀ x ∈ l, IsPair m.length x) → prFind m l = some (fV m l)
  | [], _ => rfl
  | x :: l, h => by
    obtain ⟨p, q, d, B, hx, e1, e2, _⟩ := pair_core m hm hb hk (h x (by simp))
    have ih := prFind_eq m hm hb hk l fun y hy => h y (by simp [hy])
    have a0 : x[0]? = some p := by rw [hx]; rfl
    have a1 : x[1]? = some q := by rw [hx]; rfl
    simp only [prFind, a0, a1, Option.bind_some, e1, e2, fV, ih]
    split <;> rfl

theorem reason_both (m : List (List Int)) (hm : Sm.sm B1 m) : ∃ r : List (List Int), e_impl_PlanarReason (m, ()) = some r ∧ e_spec_PlanarReason (m, ()) = some r ∧ r.length ≤ 2 ∧ (∀ y ∈ r, Few 2 y) := by
  obtain ⟨b, hb⟩ := Option.isSome_iff_exists.1 (some_IsWeightMatrix m hm)
  have hml : m.length ≤ 1073741824 := hm.1
  unfold e_impl_PlanarReason
  simp only [e_spec_PlanarReason, r_spec_PlanarReason, e_IsWeightMatrix m hm, hb, Option.bind_some]
  cases b with
  | false => exact ⟨[], rfl, rfl, by simp, by simp⟩
  | true =>
    obtain ⟨l, l1, l2, l3, l4, l5⟩ := pairs_both (m.length : Int) ⟨by omega, by omega⟩
    simp only [Bool.not_true, cond_false, cond_true, l1, l2, Option.bind_some]
    have key : ∀ x ∈ l, m.length ≤ 5 ∧ IsPair m.length x := by
      intro x hx
      by_cases hk : 1 ≤ (m.length : Int) ∧ (m.length : Int) ≤ 5
      · have := l4 hk x hx
        simp only [Int.toNat_natCast] at this
        exact ⟨by omega, this⟩
      · rw [l5 hk] at hx; simp at hx
    have himp : prFind m l = some (fV m l) := by
      cases l with
      | nil => rfl
      | cons x l => exact prFind_eq m hm hb (key x (by simp)).1 (x :: l) fun y hy => (key y hy).2
    refine ⟨fV m l, himp, ?_, ?_⟩
    · refine iter_rule (R := List (List Int)) (fun o => o = some (fV m l)) l (fun (_ : Unit) i => (m, l, (l.length : Int), i, ())) (fun i _ => ∀ x ∈ l.take i, ¬ pv m x < 0) (fun st i x kc hp hx hi hk => ?_) (fun st kc hp => ?_) (N := N0) (by have := N0_big; omega) () (by simp)
      · obtain ⟨k5, hpair⟩ := key x (List.mem_of_getElem? hx)
        obtain ⟨p, q, d, B, he, _, _, e3, e4⟩ := pair_core m hm hb k5 hpair
        have a0 : getI x (0 : Int) = some p := by rw [he]; rfl
        have a1 : getI x (1 : Int) = some q := by rw [he]; rfl
        simp only [r_spec_PlanarReason_L0, lt_len, hi, decide_true, cond_true, getI_nat, hx, Option.bind_some, a0, a1, e3, e4, wr_succ hi (show l.length ≤ 9223372036854775807 by omega)]
        by_cases c : pv m x < 0
        · simp only [c, decide_true, cond_true]
          rw [← fV_drop m l i hp, List.drop_eq_getElem_cons hi]
          have : l[i] = x := by rw [List.getElem?_eq_getElem hi] at hx; simpa using hx
          simp only [this, fV, c, if_true]
        · simp only [c, decide_false, cond_false]
          refine hk () fun y hy => ?_
          rw [List.take_add_one, hx] at hy
          rcases List.mem_append.1 hy with hy | hy
          · exact hp y hy
          · simp only [Option.toList_some, List.mem_singleton] at hy
            rw [hy]; exact c
      · rw [List.take_length] at hp
        simp only [r_spec_PlanarReason_L0, not_lt_self, cond_false]
        rw [← fV_drop m l l.length (by rw [List.take_length]; exact hp), List.drop_length]
        rfl
    · rcases fV_mem m l with h | h
      · rw [h]; simp
      · obtain ⟨_, p, q, he, h1, h2, _⟩ := key _ h
        rw [he]
        refine ⟨by simp, fun y hy => ?_⟩
        simp only [List.mem_cons, List.not_mem_nil, or_false] at hy
        rcases hy with rfl | rfl
        · exact h1
        · exact h2

theorem few_sm {y : List Int} (h : Few 2 y) : Sm.sm B1 y := ⟨by have := h.1; show y.length ≤ 1073741824; omega, fun z hz => by have := h.2 z hz; exact ⟨by omega, by omega⟩⟩

theorem planar_both (m : List (List Int)) (hm : Sm.sm B1 m) : ∃ r : Bool, e_impl_IsPlanarMatrix (m, ()) = some r ∧ e_spec_IsPlanarMatrix (m, ()) = some r := by
  obtain ⟨b, hb⟩ := Option.isSome_iff_exists.1 (some_IsWeightMatrix m hm)
  obtain ⟨r, r1, r2, _⟩ := reason_both m hm
  unfold e_impl_IsPlanarMatrix
  simp only [e_spec_IsPlanarMatrix, r_spec_IsPlanarMatrix, e_IsWeightMatrix m hm, hb, Option.bind_some]
  cases b with
  | false => exact ⟨false, rfl, rfl⟩
  | true =>
    simp only [cond_true, r1, r2, Option.bind_some]
    refine ⟨r.isEmpty, rfl, ?_⟩
    cases r with
    | nil => rfl
    | cons y l =>
      have d : decide ((((y :: l).length : Nat) : Int) = 0) = false := by rw [decide_eq_false_iff_not]; simp; omega
      rw [d]; rfl

theorem law_PlanarReason (m : List (List Int)) (hm : Sm.sm BB m) : e_laws_FnExactPlanarReason (m, ()) = some true := by
  simp only [e_laws_FnExactPlanarReason, r_laws_FnExactPlanarReason]
  obtain ⟨r, e1, e2, e3⟩ := sz_IntSS m 1048576 hm (by omega) (by omega)
  simp only [e1, Option.bind_some]
  by_cases hr : r < 0
  · simp [hr]
  · have hd : decide (r < 0) = false := by simp; omega
    have m0 : Sm.sm B0 m := e3 (by omega)
    have hb : Sm.sm B1 m := up_intSS B01 m0
    obtain ⟨q, q1, q2, q3, q4⟩ := reason_both m hb
    have hq : Sm.sm B1 q := ⟨by show q.length ≤ 1073741824; omega, fun y hy => few_sm (q4 y hy)⟩
    have hml : m.length ≤ 1048576 := m0.1
    obtain ⟨m', k', g1, _, g3, _⟩ := mh_IntSS 1048576 (by omega) m 1 hb (fun y hy => (m0.2 y hy).1) (by omega) (by omega)
    obtain ⟨n2, k2, h1, h2, h3, _⟩ := mh_IntSS 2 (by omega) q 1 hq (fun y hy => (q4 y hy).1) (by omega) (by omega)
    have d1 : decide (k' < 0) = false := by rw [decide_eq_false_iff_not]; omega
    have d2 : decide (k2 < 0) = false := by rw [decide_eq_false_iff_not]; omega
    simp only [hd, cond_false, to_IntSS m hb, Option.bind_some, q1, q2, eq_IntSS q hq, eq_IntSS m hb, Bool.not_true, g1, d1, h1, h2, d2, decide_true]

theorem law_IsPlanarMatrix (m : List (List Int)) (hm : Sm.sm BB m) : e_laws_FnExactIsPlanarMatrix (m, ()) = some true := by
  simp only [e_laws_FnExactIsPlanarMatrix, r_laws_FnExactIsPlanarMatrix]
  obtain ⟨r, e1, e2, e3⟩ := sz_IntSS m 1048576 hm (by omega) (by omega)
  simp only [e1, Option.bind_some]
  by_cases hr : r < 0
  · simp [hr]
  · have hd : decide (r < 0) = false := by simp; omega
    have hb : Sm.sm B1 m := up_intSS B01 (e3 (by omega))
    obtain ⟨q, q1, q2⟩ := planar_both m hb
    simp only [hd, cond_false, to_IntSS m hb, Option.bind_some, q1, q2, eq_IntSS m hb, Bool.not_true, beqB_self]

end Go.Sx.R
