/- The laws in plain words. Conditions: none. -/
import Derived.Test.YtabamjmhpgjnjaaRes
/- Rules for loops. Conditions: none. -/
namespace Go.Sx

/-- The rule of loops, with a measure. -/
theorem iter_while {S R : Type} {body : S → (S → Option R) → (S → Option R) → Option R} {ke : S → Option R} (Q : Option R → Prop) (p : S → Prop) (mu : S → Nat)
    (h : ∀ s kc, p s → (∀ s', p s' → mu s' < mu s → Q (kc s')) → Q (body s kc ke)) : ∀ (N : Nat) (s : S), p s → mu s < N → Q (iterK body N s ke)
  | 0, _, _, hN => absurd hN (Nat.not_lt_zero _)
  | N + 1, s, hp, hN => by
    simp only [iterK]
    exact h s _ hp fun s' hp' hlt => iter_while Q p mu h N s' hp' (by omega)

/-- A loop over a list that ends with a fold's state. -/
theorem iter_fold {β σ S R : Type} {body : S → (S → Option R) → (S → Option R) → Option R} (l : List β) (mk : σ → Int → S) (p : Nat → σ → Prop) (g : σ → Nat → β → σ)
    (h : ∀ st (i : Nat) x kc ke, p i st → l[i]? = some x → i < l.length → body (mk st i) kc ke = kc (mk (g st i x) ((i + 1 : Nat) : Int)) ∧ p (i + 1) (g st i x))
    (h2 : ∀ st kc ke, p l.length st → body (mk st l.length) kc ke = ke (mk st l.length)) {N : Nat} (hN : l.length < N) (st : σ) (hp : p 0 st) (ke : S → Option R) :
    iterK body N (mk st 0) ke = ke (mk (foldI g l 0 st) l.length) ∧ p l.length (foldI g l 0 st) := by
  have gen : ∀ (r : List β) (i N : Nat) (st : σ), i + r.length = l.length → l.drop i = r → r.length < N → p i st → iterK body N (mk st i) ke = ke (mk (foldI g r i st) l.length) ∧ p l.length (foldI g r i st) := by
    intro r
    induction r with
    | nil =>
      intro i N st hi hd hN hp
      obtain ⟨m, rfl⟩ : ∃ m, N = m + 1 := ⟨N - 1, by omega⟩
      simp only [iterK, foldI]
      have e : i = l.length := by simpa using hi
      subst e
      exact ⟨h2 _ _ _ hp, hp⟩
    | cons x r ih =>
      intro i N st hi hd hN hp
      obtain ⟨m, rfl⟩ : ∃ m, N = m + 1 := ⟨N - 1, by omega⟩
      simp only [List.length_cons] at hi hN
      have hx : l[i]? = some x := by
        have := congrArg (fun l => l[0]?) hd
        simpa using this
      have q := h st i x (fun s' => iterK body m s' ke) ke hp hx (by omega)
      simp only [iterK, foldI]
      rw [q.1]
      exact ih (i + 1) m _ (by omega) (by rw [← List.drop_drop, hd]; simp) (by omega) q.2
  exact gen l 0 N st (by simp) (by simp) hN hp

/-- A loop over a list: the rule. -/
theorem iter_rule {β σ S R : Type} {body : S → (S → Option R) → (S → Option R) → Option R} {ke : S → Option R} (Q : Option R → Prop) (l : List β) (mk : σ → Int → S) (p : Nat → σ → Prop)
    (h : ∀ st (i : Nat) x kc, p i st → l[i]? = some x → i < l.length → (∀ st', p (i + 1) st' → Q (kc (mk st' ((i + 1 : Nat) : Int)))) → Q (body (mk st i) kc ke))
    (h2 : ∀ st kc, p l.length st → Q (body (mk st l.length) kc ke)) {N : Nat} (hN : l.length < N) (st : σ) (hp : p 0 st) : Q (iterK body N (mk st 0) ke) := by
  have gen : ∀ (d i N : Nat) (st : σ), i + d = l.length → d < N → p i st → Q (iterK body N (mk st i) ke) := by
    intro d
    induction d with
    | zero =>
      intro i N st hi hN hp
      obtain ⟨m, rfl⟩ : ∃ m, N = m + 1 := ⟨N - 1, by omega⟩
      have e : i = l.length := by omega
      subst e
      exact h2 _ _ hp
    | succ d ih =>
      intro i N st hi hN hp
      obtain ⟨m, rfl⟩ : ∃ m, N = m + 1 := ⟨N - 1, by omega⟩
      have hlt : i < l.length := by omega
      exact h st i l[i] _ hp (List.getElem?_eq_getElem hlt) hlt fun st' hp' => ih (i + 1) m st' (by omega) (by omega) hp'
  exact gen l.length 0 N st (by omega) hN hp

end Go.Sx

/- The laws' helpers: sizes, copies, comparisons. Conditions: none. -/
namespace Go.Sx.R
open Go Go.Sx

theorem wr_sub_len {n : Int} {len : Nat} (h0 : 0 ≤ n) (h1 : n ≤ 1048576) (hl : len ≤ 9223372036854775807) : wr (n - (len : Int)) = n - len := wr_id (by omega) (by omega)

theorem beqB_self (b : Bool) : beqB b b = true := by cases b <;> rfl

theorem sm_up {α : Type} [Sm α] (up : ∀ {B B' : Nat} {x : α}, B ≤ B' → Sm.sm B x → Sm.sm B' x) {B B' : Nat} {x : List α} (h : B ≤ B') (hx : Sm.sm B x) : Sm.sm B' x := ⟨Nat.le_trans hx.1 h, fun y hy => up h (hx.2 y hy)⟩
theorem up_int {B B' : Nat} {x : Int} (h : B ≤ B') (hx : Sm.sm B x) : Sm.sm B' x := hx
theorem up_intS {B B' : Nat} {x : List Int} (h : B ≤ B') (hx : Sm.sm B x) : Sm.sm B' x := sm_up up_int h hx
theorem up_intSS {B B' : Nat} {x : List (List Int)} (h : B ≤ B') (hx : Sm.sm B x) : Sm.sm B' x := sm_up up_intS h hx
theorem up_pair {B B' : Nat} {x : Int × Int} (h : B ≤ B') (hx : Sm.sm B x) : Sm.sm B' x := hx
theorem up_wire {B B' : Nat} {x : Int × Int × Int} (h : B ≤ B') (hx : Sm.sm B x) : Sm.sm B' x := hx
theorem up_wireS {B B' : Nat} {x : List (Int × Int × Int)} (h : B ≤ B') (hx : Sm.sm B x) : Sm.sm B' x := sm_up up_wire h hx
theorem up_pairS {B B' : Nat} {x : List (Int × Int)} (h : B ≤ B') (hx : Sm.sm B x) : Sm.sm B' x := sm_up up_pair h hx
theorem up_pairSS {B B' : Nat} {x : List (List (Int × Int))} (h : B ≤ B') (hx : Sm.sm B x) : Sm.sm B' x := sm_up up_pairS h hx
abbrev TNet := Int × Int × Int × List (Int × Int × Int)
theorem up_net {B B' : Nat} {x : TNet} (h : B ≤ B') (hx : Sm.sm B x) : Sm.sm B' x := ⟨hx.1, hx.2.1, hx.2.2.1, up_wireS h hx.2.2.2⟩
abbrev B0 : Nat := 1048576
theorem B01 : B0 ≤ B1 := by decide

theorem to_IntS (a : List Int) (ha : Sm.sm B1 a) : e_laws_toIntS (a, ()) = some a := by
  simp only [e_laws_toIntS, r_laws_toIntS, Int.toNat_natCast]
  rw [ble_true (by have := ha.1; simp only [B1] at this; omega), cond_true]
  rw [iter_range (R := List Int) a (fun (st : List Int) i => (a, st, i, ())) (fun st i x k => Option.bind (st[i]?) fun _ => k (st.set i x)) ?_ ?_ (len_lt ha N0_gt)]
  · rw [rangeK_copy (fun x => x) (0 : Int)]
    · simp
    · intro st j x k hs hx
      have : st[j]? = some (st[j]'(by rw [hs]; exact get_lt hx)) := List.getElem?_eq_getElem _
      rw [this]; rfl
  · intro st i x kc ke hx hi
    simp only [r_laws_toIntS_L0, lt_len, hi, decide_true, cond_true, getI_nat, hx, Option.bind_some]
    rw [wr_len hi ha, Int.toNat_natCast]
  · intro st kc ke
    simp only [r_laws_toIntS_L0, not_lt_self, cond_false]

theorem eq_IntS (a : List Int) (ha : Sm.sm B1 a) : e_laws_eqIntS (a, a, ()) = some true := by
  simp only [e_laws_eqIntS, r_laws_eqIntS, decide_true, Bool.not_true, cond_false]
  rw [iter_range (R := Bool) a (fun (_ : Unit) i => (a, a, i, ())) (fun st i x k => k ()) ?_ ?_ (len_lt ha N0_gt) ()]
  · rw [rangeK_fold (fun _ _ _ => ()) _ _ _ _ (fun _ _ _ _ _ => rfl)]
  · intro st i x kc ke hx hi
    simp only [r_laws_eqIntS_L0, lt_len, hi, decide_true, cond_true, getI_nat, hx, Option.bind_some, decide_true, Bool.not_true, cond_false]
    rw [wr_len hi ha]
  · intro st kc ke
    simp only [r_laws_eqIntS_L0, not_lt_self, cond_false]

theorem sz_IntS (a : List Int) (n : Int) (ha : Sm.sm BB a) (h0 : 0 ≤ n) (h1 : n ≤ 1048576) : ∃ r, e_laws_szIntS (a, n, ()) = some r ∧ r ≤ n ∧ (0 ≤ r → Sm.sm B0 a) := by
  simp only [e_laws_szIntS, r_laws_szIntS]
  rw [wr_sub_len h0 h1 ha.1]
  by_cases h : n - (a.length : Int) < 0
  · refine ⟨-1, ?_, by omega, by omega⟩
    simp [h]
  · refine ⟨n - a.length, ?_, by omega, fun _ => ⟨by simp only [B0]; omega, ha.2⟩⟩
    simp [h]

theorem to_IntSS (a : List (List Int)) (ha : Sm.sm B1 a) : e_laws_toIntSS (a, ()) = some a := by
  simp only [e_laws_toIntSS, r_laws_toIntSS, Int.toNat_natCast]
  rw [ble_true (by have := ha.1; simp only [B1] at this; omega), cond_true]
  rw [iter_range (R := List (List Int)) a (fun (st : List (List Int)) i => (a, st, i, ())) (fun st i x k => Option.bind (st[i]?) fun _ => k (st.set i x)) ?_ ?_ (len_lt ha N0_gt)]
  · rw [rangeK_copy (fun x => x) ([] : List Int)]
    · simp
    · intro st j x k hs hx
      have : st[j]? = some (st[j]'(by rw [hs]; exact get_lt hx)) := List.getElem?_eq_getElem _
      rw [this]; rfl
  · intro st i x kc ke hx hi
    simp only [r_laws_toIntSS_L0, lt_len, hi, decide_true, cond_true, getI_nat, hx, Option.bind_some, to_IntS _ (sm_get ha hx)]
    rw [wr_len hi ha, Int.toNat_natCast]
  · intro st kc ke
    simp only [r_laws_toIntSS_L0, not_lt_self, cond_false]

theorem eq_IntSS (a : List (List Int)) (ha : Sm.sm B1 a) : e_laws_eqIntSS (a, a, ()) = some true := by
  simp only [e_laws_eqIntSS, r_laws_eqIntSS, decide_true, Bool.not_true, cond_false]
  rw [iter_range (R := Bool) a (fun (_ : Unit) i => (a, a, i, ())) (fun st i x k => k ()) ?_ ?_ (len_lt ha N0_gt) ()]
  · rw [rangeK_fold (fun _ _ _ => ()) _ _ _ _ (fun _ _ _ _ _ => rfl)]
  · intro st i x kc ke hx hi
    simp only [r_laws_eqIntSS_L0, lt_len, hi, decide_true, cond_true, getI_nat, hx, Option.bind_some, eq_IntS _ (sm_get ha hx), Option.bind_some, Bool.not_true, cond_false]
    rw [wr_len hi ha]
  · intro st kc ke
    simp only [r_laws_eqIntSS_L0, not_lt_self, cond_false]

theorem sz_IntSS (a : List (List Int)) (n : Int) (ha : Sm.sm BB a) (h0 : 0 ≤ n) (h1 : n ≤ 1048576) : ∃ r, e_laws_szIntSS (a, n, ()) = some r ∧ r ≤ n ∧ (0 ≤ r → Sm.sm B0 a) := by
  simp only [e_laws_szIntSS, r_laws_szIntSS]
  rw [wr_sub_len h0 h1 ha.1]
  by_cases h : n - (a.length : Int) < 0
  · refine ⟨-1, ?_, by omega, by omega⟩
    simp [h]
  · have hd : decide (n - (a.length : Int) < 0) = false := by simp; omega
    rw [hd, cond_false]
    rw [iter_range (R := Int) a (fun (st : Int) i => (a, st, i, ())) (fun st i x k => Option.bind (e_laws_szIntS (x, st, ())) fun x2 => cond (decide (x2 < 0)) (some (-1)) (k x2)) ?_ ?_ (len_ltB ha N0_gt)]
    · refine rangeK_rule (fun o => ∃ r, o = some r ∧ r ≤ n ∧ (0 ≤ r → Sm.sm B0 a)) (fun i st => 0 ≤ st ∧ st ≤ n ∧ ∀ j x, j < i → a[j]? = some x → Sm.sm B0 x) a 0 _ ⟨by omega, by omega, by simp⟩ ?_ ?_
      · intro st j x k ⟨q0, q1, q2⟩ hx hk
        simp only [Nat.zero_add] at *
        obtain ⟨r, e1, e2, e3⟩ := sz_IntS x st (sm_get ha hx) q0 (by omega)
        simp only [e1, Option.bind_some]
        by_cases hr : r < 0
        · refine ⟨-1, by simp [hr], by omega, by omega⟩
        · have hd : decide (r < 0) = false := by simp; omega
          simp only [hd, cond_false]
          refine hk r ⟨by omega, by omega, fun i y hi hy => ?_⟩
          by_cases e : i = j
          · subst e; rw [hx] at hy; simp only [Option.some.injEq] at hy; subst hy; exact e3 (by omega)
          · exact q2 i y (by omega) hy
      · intro st ⟨q0, q1, q2⟩
        refine ⟨st, rfl, q1, fun _ => ⟨by simp only [B0]; omega, fun y hy => ?_⟩⟩
        obtain ⟨j, hj⟩ := List.getElem?_of_mem hy
        exact q2 j y (by have := get_lt hj; omega) hj
    · intro st i x kc ke hx hi
      simp only [r_laws_szIntSS_L0, lt_len, hi, decide_true, cond_true, getI_nat, hx, Option.bind_some]
      rw [wr_lenB hi ha]
    · intro st kc ke
      simp only [r_laws_szIntSS_L0, not_lt_self, cond_false]

theorem to_Wire (a : Int × Int × Int) (ha : Sm.sm B1 a) : e_laws_toWire (a, ()) = some a := rfl
theorem eq_Wire (a : Int × Int × Int) (ha : Sm.sm B1 a) : e_laws_eqWire (a, a, ()) = some true := by
  simp only [e_laws_eqWire, r_laws_eqWire, decide_true, Bool.not_true, cond_false]

theorem to_WireS (a : List (Int × Int × Int)) (ha : Sm.sm B1 a) : e_laws_toWireS (a, ()) = some a := by
  simp only [e_laws_toWireS, r_laws_toWireS, Int.toNat_natCast]
  rw [ble_true (by have := ha.1; simp only [B1] at this; omega), cond_true]
  rw [iter_range (R := List (Int × Int × Int)) a (fun (st : List (Int × Int × Int)) i => (a, st, i, ())) (fun st i x k => Option.bind (st[i]?) fun _ => k (st.set i x)) ?_ ?_ (len_lt ha N0_gt)]
  · rw [rangeK_copy (fun x => x) ((0 : Int), ((0 : Int), (0 : Int)))]
    · simp
    · intro st j x k hs hx
      have : st[j]? = some (st[j]'(by rw [hs]; exact get_lt hx)) := List.getElem?_eq_getElem _
      rw [this]; rfl
  · intro st i x kc ke hx hi
    simp only [r_laws_toWireS_L0, lt_len, hi, decide_true, cond_true, getI_nat, hx, Option.bind_some, to_Wire _ (sm_get ha hx)]
    rw [wr_len hi ha, Int.toNat_natCast]
  · intro st kc ke
    simp only [r_laws_toWireS_L0, not_lt_self, cond_false]

theorem eq_WireS (a : List (Int × Int × Int)) (ha : Sm.sm B1 a) : e_laws_eqWireS (a, a, ()) = some true := by
  simp only [e_laws_eqWireS, r_laws_eqWireS, decide_true, Bool.not_true, cond_false]
  rw [iter_range (R := Bool) a (fun (_ : Unit) i => (a, a, i, ())) (fun st i x k => k ()) ?_ ?_ (len_lt ha N0_gt) ()]
  · rw [rangeK_fold (fun _ _ _ => ()) _ _ _ _ (fun _ _ _ _ _ => rfl)]
  · intro st i x kc ke hx hi
    simp only [r_laws_eqWireS_L0, lt_len, hi, decide_true, cond_true, getI_nat, hx, Option.bind_some, eq_Wire _ (sm_get ha hx), Option.bind_some, Bool.not_true, cond_false]
    rw [wr_len hi ha]
  · intro st kc ke
    simp only [r_laws_eqWireS_L0, not_lt_self, cond_false]

theorem sz_WireS (a : List (Int × Int × Int)) (n : Int) (ha : Sm.sm BB a) (h0 : 0 ≤ n) (h1 : n ≤ 1048576) : ∃ r, e_laws_szWireS (a, n, ()) = some r ∧ r ≤ n ∧ (0 ≤ r → Sm.sm B0 a) := by
  simp only [e_laws_szWireS, r_laws_szWireS]
  rw [wr_sub_len h0 h1 ha.1]
  by_cases h : n - (a.length : Int) < 0
  · refine ⟨-1, ?_, by omega, by omega⟩
    simp [h]
  · refine ⟨n - a.length, ?_, by omega, fun _ => ⟨by simp only [B0]; omega, ha.2⟩⟩
    simp [h]

theorem to_Net (a : TNet) (ha : Sm.sm B1 a) : e_laws_toNet (a, ()) = some a := by
  obtain ⟨x, y, z, l⟩ := a
  simp only [e_laws_toNet, r_laws_toNet]
  rw [to_WireS l ha.2.2.2]; rfl
theorem eq_Net (a : TNet) (ha : Sm.sm B1 a) : e_laws_eqNet (a, a, ()) = some true := by
  simp only [e_laws_eqNet, r_laws_eqNet, decide_true, Bool.not_true, cond_false, eq_WireS _ ha.2.2.2, Option.bind_some]
theorem sz_Net (a : TNet) (n : Int) (ha : Sm.sm BB a) (h0 : 0 ≤ n) (h1 : n ≤ 1048576) : ∃ r, e_laws_szNet (a, n, ()) = some r ∧ r ≤ n ∧ (0 ≤ r → Sm.sm B0 a) := by
  simp only [e_laws_szNet, r_laws_szNet]
  obtain ⟨r, e1, e2, e3⟩ := sz_WireS a.2.2.2 n ha.2.2.2 h0 h1
  simp only [e1, Option.bind_some]
  by_cases hr : r < 0
  · exact ⟨-1, by simp [hr], by omega, by omega⟩
  · exact ⟨r, by simp [hr], e2, fun h => ⟨ha.1, ha.2.1, ha.2.2.1, e3 h⟩⟩

end Go.Sx.R

/- Matrices of weights: the program's test and the reference's are one. Conditions: none. -/
namespace Go.Sx.R
open Go Go.Sx

def n_l01In (a : Int × Int × Int × Unit) : Bool := decide (a.2.1 ≤ a.1) && decide (a.1 ≤ a.2.2.1)

theorem p_l01In (a : Int × Int × Int × Unit) : e_spec_l01In a = some (n_l01In a) := by
  obtain ⟨a0, a1, a2, _⟩ := a
  simp only [e_spec_l01In, r_spec_l01In, n_l01In]
  by_cases h : a1 ≤ a0 <;> simp [h]

theorem e_l01In : e_spec_l01In = fun a => some (n_l01In a) := funext p_l01In

/-- Square, of numbers up to a bound, not too large. -/
def n_sq (a : List (List Int)) : Bool := !decide (a.length > 5) && !(a.any fun x => !decide (x.length = a.length) || x.any fun v => decide (v < -1000) || decide (v > 1000))

theorem p_l04Matrix (a : List (List Int)) (ha : Sm.sm B1 a) : e_spec_l04Matrix (a, ()) = some (n_sq a) := by
  simp only [e_spec_l04Matrix, e_l01In, r_spec_l04Matrix, n_sq]
  by_cases h5 : a.length > 5
  · have : decide ((a.length : Int) > 5) = true := by simp; omega
    rw [this]; simp [h5]
  have h5' : decide ((a.length : Int) > 5) = false := by simp; omega
  rw [h5']
  simp only [cond_false]
  rw [iter_range (R := Bool) a (fun (_ : Unit) i => (a, a, (a.length : Int), i, ()))
    (fun _ i x k => cond (!decide (x.length = a.length)) (some false) (rangeK x 0 () (fun _ _ v k => cond (decide (v < -1000) || decide (v > 1000)) (some false) (k ())) (fun _ => k ()))) ?_ ?_ (len_lt ha N0_gt)]
  · rw [rangeK_stop' (fun x => !decide (x.length = a.length) || x.any fun v => decide (v < -1000) || decide (v > 1000)) (some false)]
    · simp only [h5, decide_false, Bool.not_false, Bool.true_and]
      cases (a.any _) <;> rfl
    · intro j x k hx
      rw [rangeK_stop' (fun v => decide (v < -1000) || decide (v > 1000)) (some false) _ _ _ (fun _ _ _ _ => rfl)]
      cases decide (x.length = a.length) <;> simp
  · intro st i x kc ke hx hi
    simp only [r_spec_l04Matrix_L0, lt_len, hi, decide_true, cond_true, getI_nat, hx, Option.bind_some]
    rw [dec_eq]
    congr 1
    have hxs : Sm.sm B1 x := sm_get ha hx
    rw [iter_range (R := Bool) x (fun (_ : Unit) j => (a, a, (a.length : Int), (i : Int), x, (x.length : Int), j, ()))
      (fun _ _ v k => cond (decide (v < -1000) || decide (v > 1000)) (some false) (k ())) ?_ ?_ (len_lt hxs N0_gt)]
    · rw [wr_len hi ha]
    · intro st j v kc ke hv hj
      simp only [r_spec_l04Matrix_L2, lt_len, hj, decide_true, cond_true, getI_nat, hv, Option.bind_some]
      rw [wr_len hj hxs]
      simp only [n_l01In]
      have : (!(decide (-1000 ≤ v) && decide (v ≤ 1000))) = (decide (v < -1000) || decide (v > 1000)) := by
        rw [Bool.eq_iff_iff]; simp only [Bool.not_eq_true', Bool.and_eq_false_iff, decide_eq_false_iff_not, Bool.or_eq_true, decide_eq_true_eq]; omega
      rw [this]
    · intro st kc ke
      simp [r_spec_l04Matrix_L2]
  · intro st kc ke
    simp [r_spec_l04Matrix_L0]

theorem squareOk_L2 (N : Nat) : r_impl_squareOk_L2 N = r_spec_l04Matrix_L2 (fun a => some (n_l01In a)) N := by
  funext s kc ke
  simp only [r_impl_squareOk_L2, r_spec_l04Matrix_L2]
  congr 1; congr 1; funext x
  simp only [n_l01In, Option.bind_some]
  by_cases h1 : x < -1000
  · have : ¬ (-1000 ≤ x) := by omega
    simp [h1, this]
  · by_cases h2 : x > 1000
    · have : ¬ (x ≤ 1000) := by omega
      have : -1000 ≤ x := by omega
      simp [h1, h2, *]
    · have a1 : (x ≤ 1000) := by omega
      have a2 : -1000 ≤ x := by omega
      simp [h1, h2, a1, a2]

theorem e_squareOk : e_impl_squareOk = e_spec_l04Matrix := by
  funext a
  simp only [e_impl_squareOk, e_spec_l04Matrix, e_l01In, r_impl_squareOk, r_spec_l04Matrix]
  have : r_impl_squareOk_L0 N0 = r_spec_l04Matrix_L0 (fun a => some (n_l01In a)) N0 := by
    funext s kc ke
    simp only [r_impl_squareOk_L0, r_spec_l04Matrix_L0, squareOk_L2]
  rw [this]

theorem len_range (a : List (List Int)) (h : a.length ≤ 5) : n_l01In ((a.length : Int), 1, 5, ()) = !decide ((a.length : Int) < 1) := by
  rw [Bool.eq_iff_iff]
  simp [n_l01In]; omega

theorem e_IsWeightMatrix (a : List (List Int)) (ha : Sm.sm B1 a) : e_impl_IsWeightMatrix (a, ()) = e_spec_IsWeightMatrix (a, ()) := by
  simp only [e_impl_IsWeightMatrix, e_spec_IsWeightMatrix, r_impl_IsWeightMatrix, r_spec_IsWeightMatrix, e_squareOk, p_l01In, p_l04Matrix a ha, Option.bind_some]
  have : r_impl_IsWeightMatrix_L0 e_spec_l04Matrix N0 = r_spec_IsWeightMatrix_L0 e_spec_l01In e_spec_l04Matrix N0 := rfl
  rw [this]
  by_cases h : n_sq a = true
  · have h5 : a.length ≤ 5 := by
      simp only [n_sq, Bool.and_eq_true, Bool.not_eq_true', decide_eq_false_iff_not] at h; omega
    rw [len_range a h5, h]
    cases decide ((a.length : Int) < 1) <;> rfl
  · simp only [Bool.not_eq_true] at h
    rw [h]
    simp

theorem sq_row {a : List (List Int)} (h : n_sq a = true) {x : List Int} (hx : x ∈ a) : x.length = a.length ∧ ∀ v ∈ x, -1000 ≤ v ∧ v ≤ 1000 := by
  simp only [n_sq, Bool.and_eq_true, Bool.not_eq_true', List.any_eq_false, Bool.or_eq_true, not_or, decide_eq_false_iff_not, Bool.not_eq_true, decide_eq_true_eq] at h
  have := h.2 x hx
  refine ⟨by simpa using this.1, fun v hv => ?_⟩
  have := this.2 v hv
  omega

theorem some_IsWeightMatrix (a : List (List Int)) (ha : Sm.sm B1 a) : (e_spec_IsWeightMatrix (a, ())).isSome = true := by
  simp only [e_spec_IsWeightMatrix, r_spec_IsWeightMatrix, p_l01In, p_l04Matrix a ha, Option.bind_some]
  cases n_l01In ((a.length : Int), 1, 5, ()) with
  | false => rfl
  | true =>
    simp only [Bool.not_true, cond_false]
    cases h : n_sq a with
    | false => rfl
    | true =>
      simp only [Bool.not_true, cond_false]
      rw [iter_range (R := Bool) a (fun (_ : Unit) i => (a, a, (a.length : Int), i, ()))
        (fun _ i x k => rangeK x 0 (0 : Int) (fun sum j v k => Option.bind (a[j]?) fun x2 => Option.bind (x2[i]?) fun x3 => cond (!(decide (v = x3))) (some false) (cond (!(decide ((i : Int) = (j : Int)))) (cond (decide (v > 0)) (some false) (k (wr (sum + v)))) (k (wr (sum + v)))))
          fun sum => cond (!decide (sum = 0)) (some false) (k ())) ?_ ?_ (len_lt ha N0_gt)]
      · refine rangeK_isSome (fun _ _ => True) a 0 () trivial (fun st i x k _ hx hk => ?_) fun _ _ => rfl
        refine rangeK_isSome (fun _ _ => True) x 0 _ trivial (fun sum j v k _ hv hk => ?_) fun sum _ => ?_
        · simp only [Nat.zero_add]
          obtain ⟨hxl, _⟩ := sq_row h (List.mem_of_getElem? hx)
          have hj := get_lt hv
          have hi := get_lt hx
          have e1 : a[j]? = some a[j] := List.getElem?_eq_getElem (by omega)
          obtain ⟨hl2, _⟩ := sq_row h (List.getElem_mem (l := a) (n := j) (by omega))
          have e2 : a[j][i]? = some a[j][i] := List.getElem?_eq_getElem (by omega)
          rw [e1, Option.bind_some, e2, Option.bind_some]
          cases (!(decide (v = a[j][i]))) with
          | true => rfl
          | false =>
            simp only [cond_false]
            cases (!(decide ((i : Int) = (j : Int)))) with
            | true =>
              simp only [cond_true]
              cases decide (v > 0) with
              | true => rfl
              | false => exact hk _ trivial
            | false => exact hk _ trivial
        · cases (!decide (sum = 0)) with
          | true => rfl
          | false => exact hk _ trivial
      · intro st i x kc ke hx hi
        simp only [r_spec_IsWeightMatrix_L0, lt_len, hi, decide_true, cond_true, getI_nat, hx, Option.bind_some]
        have hxs : Sm.sm B1 x := sm_get ha hx
        rw [iter_range (R := Bool) x (fun (sum : Int) j => (a, (i : Int), sum, a, (a.length : Int), (i : Int), x, (x.length : Int), j, ()))
          (fun sum j v k => Option.bind (a[j]?) fun x2 => Option.bind (x2[i]?) fun x3 => cond (!(decide (v = x3))) (some false) (cond (!(decide ((i : Int) = (j : Int)))) (cond (decide (v > 0)) (some false) (k (wr (sum + v)))) (k (wr (sum + v))))) ?_ ?_ (len_lt hxs N0_gt)]
        · simp only [wr_len hi ha]
        · intro st j v kc ke hv hj
          simp only [r_spec_IsWeightMatrix_L2, lt_len, hj, decide_true, cond_true, getI_nat, hv, Option.bind_some]
          rw [wr_len hj hxs]
        · intro st kc ke
          simp only [r_spec_IsWeightMatrix_L2, not_lt_self, cond_false]
      · intro st kc ke
        simp only [r_spec_IsWeightMatrix_L0, not_lt_self, cond_false]

theorem law_IsWeightMatrix (a : List (List Int)) (ha : Sm.sm BB a) : e_laws_FnExactIsWeightMatrix (a, ()) = some true := by
  simp only [e_laws_FnExactIsWeightMatrix, r_laws_FnExactIsWeightMatrix]
  obtain ⟨r, e1, e2, e3⟩ := sz_IntSS a 1048576 ha (by omega) (by omega)
  rw [e1, Option.bind_some]
  by_cases hr : r < 0
  · simp [hr]
  · have hd : decide (r < 0) = false := by simp; omega
    have hb : Sm.sm B1 a := up_intSS B01 (e3 (by omega))
    rw [hd, cond_false, to_IntSS a hb]
    simp only [Option.bind_some]
    rw [e_IsWeightMatrix a hb]
    obtain ⟨v, hv⟩ := Option.isSome_iff_exists.1 (some_IsWeightMatrix a hb)
    rw [hv]
    simp only [Option.bind_some, beqB_self, Bool.not_true, cond_false, eq_IntSS a hb]
end Go.Sx.R

/- Networks: the program's test and the reference's are one. Conditions: none. -/
namespace Go.Sx.R
open Go Go.Sx

-- lists without doubles
theorem nodup_len {α : Type} [DecidableEq α] : ∀ {l m : List α}, l.Nodup → (∀ x ∈ l, x ∈ m) → l.length ≤ m.length
  | [], m, _, _ => Nat.zero_le _
  | x :: l, m, h, hs => by
    have hx : x ∈ m := hs x (by simp)
    have hd := List.nodup_cons.1 h
    have := nodup_len (l := l) (m := m.erase x) hd.2 fun y hy => (List.mem_erase_of_ne (by rintro rfl; exact hd.1 hy)).2 (hs y (by simp [hy]))
    rw [List.length_erase_of_mem hx] at this
    have hp : 0 < m.length := List.length_pos_of_mem hx
    simp only [List.length_cons]; omega

theorem nodup_all {α : Type} [DecidableEq α] {l m : List α} (h : l.Nodup) (hs : ∀ x ∈ l, x ∈ m) (hl : m.length ≤ l.length) : ∀ x ∈ m, x ∈ l := by
  intro x hx
  by_cases hxl : x ∈ l
  · exact hxl
  · have := nodup_len (l := x :: l) (m := m) (List.nodup_cons.2 ⟨hxl, h⟩) (by
      intro y hy
      rcases List.mem_cons.1 hy with rfl | hy
      · exact hx
      · exact hs y hy)
    simp at this; omega

/-- The numbers below n. -/
def ints (n : Nat) : List Int := (List.range n).map Int.ofNat
theorem mem_ints {n : Nat} {x : Int} : x ∈ ints n ↔ 0 ≤ x ∧ x < n := by
  simp only [ints, List.mem_map, List.mem_range]
  constructor
  · rintro ⟨i, hi, rfl⟩
    simp only [Int.ofNat_eq_natCast]; omega
  · intro h; exact ⟨x.toNat, by omega, by simp only [Int.ofNat_eq_natCast]; omega⟩
theorem len_ints {n : Nat} : (ints n).length = n := by simp [ints]
theorem nodup_ints {n : Nat} : (ints n).Nodup := by
  refine List.Pairwise.map Int.ofNat (fun (a b : Nat) (h : a ≠ b) => ?_) (List.nodup_range (n := n))
  intro e
  simp only [Int.ofNat_eq_natCast] at e
  exact h (by omega)

abbrev W3 := Int × Int × Int

-- looking in lists
theorem p_Has (xs : List Int) (v : Int) (hl : xs.length ≤ BB) : e_spec_l03Has (xs, v, ()) = some (decide (v ∈ xs)) := by
  simp only [e_spec_l03Has, r_spec_l03Has]
  rw [iter_range (R := Bool) xs (fun (_ : Unit) i => (v, xs, (xs.length : Int), i, ())) (fun _ i x k => cond (decide (x = v)) (some true) (k ())) ?_ ?_ (by have := N0_gt; omega) ()]
  · rw [rangeK_stop' (fun x => decide (x = v)) (some true) _ _ _ (fun _ _ _ _ => rfl)]
    have : xs.any (fun x => decide (x = v)) = decide (v ∈ xs) := by
      rw [Bool.eq_iff_iff]; simp
    rw [this]; cases decide (v ∈ xs) <;> rfl
  · intro st i x kc ke hx hi
    simp only [r_spec_l03Has_L0, lt_len, hi, decide_true, cond_true, getI_nat, hx, Option.bind_some]
    rw [wr_succ hi hl]
  · intro st kc ke
    simp only [r_spec_l03Has_L0, not_lt_self, cond_false]

theorem p_ContainsB (xs : List Bool) (v : Bool) (hl : xs.length ≤ BB) : e_slices_Contains_bool (xs, v, ()) = some (decide (v ∈ xs)) := by
  simp only [e_slices_Contains_bool, r_slices_Contains_bool, e_slices_Index_bool, r_slices_Index_bool]
  rw [iter_range (R := Int) xs (fun (_ : Unit) i => (xs, v, (xs.length : Int), i, ())) (fun _ i x k => cond (beqB v x) (some (i : Int)) (k ())) ?_ ?_ (by have := N0_gt; omega) ()]
  · have key : ∀ (l : List Bool) (i : Nat), (rangeK l i () (fun _ i x k => cond (beqB v x) (some (i : Int)) (k ())) fun _ => some (-1 : Int)).bind (fun r => some (decide (r ≥ 0))) = some (decide (v ∈ l)) := by
      intro l
      induction l with
      | nil => intro i; simp [rangeK]
      | cons x l ih =>
        intro i
        simp only [rangeK]
        by_cases e : v = x
        · subst e; rw [beqB_self]; simp
        · have : beqB v x = false := by revert e; cases v <;> cases x <;> simp [beqB]
          rw [this, cond_false, ih (i + 1)]
          simp [e]
    exact key xs 0
  · intro st i x kc ke hx hi
    simp only [r_slices_Index_bool_L0, lt_len, hi, decide_true, cond_true, getI_nat, hx, Option.bind_some]
    rw [wr_succ hi hl]
  · intro st kc ke
    simp only [r_slices_Index_bool_L0, not_lt_self, cond_false]

-- the order of wires
def n_cmp (x y : Int) : Int := if x < y then -1 else if x > y then 1 else 0
theorem p_Compare (x y : Int) : e_cmp_Compare_int (x, y, ()) = some (n_cmp x y) := by
  simp only [e_cmp_Compare_int, r_cmp_Compare_int, e_cmp_isNaN_int, r_cmp_isNaN_int, Option.bind_some, decide_true, Bool.not_true, cond_false, n_cmp]
  by_cases h1 : x < y
  · simp [h1]
  · by_cases h2 : x > y <;> simp [h1, h2]

theorem N0_big : 9223372036854775807 < N0 := N0_gt
theorem N0_succ : ∃ m, N0 = m + 5 := ⟨N0 - 5, by have := N0_big; omega⟩

def n_byEnds (x y : W3) : Int := if n_cmp x.1 y.1 = 0 then n_cmp x.2.1 y.2.1 else n_cmp x.1 y.1
theorem p_byEnds (x y : W3) : e_impl_byEnds (x, y, ()) = some (n_byEnds x y) := by
  simp only [e_impl_byEnds, r_impl_byEnds, p_Compare, Option.bind_some, e_cmp_Or_int, r_cmp_Or_int, n_byEnds]
  obtain ⟨m, hm⟩ := N0_succ
  rw [hm]
  by_cases h1 : n_cmp x.1 y.1 = 0
  · by_cases h2 : n_cmp x.2.1 y.2.1 = 0
    · simp [iterK, r_cmp_Or_int_L0, h1, h2, getI_zero, wr_id, getI]
    · simp [iterK, r_cmp_Or_int_L0, h1, h2, getI_zero, wr_id, getI]
  · simp [iterK, r_cmp_Or_int_L0, h1, getI_zero]

/-- Strictly before. -/
def lex (x y : W3) : Bool := decide (x.1 < y.1) || (decide (x.1 = y.1) && decide (x.2.1 < y.2.1))
theorem byEnds_lex (x y : W3) : decide (n_byEnds x y ≥ 0) = !lex x y := by
  rw [Bool.eq_iff_iff]
  by_cases a : x.1 < y.1
  · have a2 : ¬ x.1 > y.1 := by omega
    simp [n_byEnds, n_cmp, lex, a]
  · by_cases b : x.1 > y.1
    · have e : ¬ x.1 = y.1 := by omega
      simp [n_byEnds, n_cmp, lex, a, b, e]
    · have e : x.1 = y.1 := by omega
      by_cases c : x.2.1 < y.2.1
      · simp [n_byEnds, n_cmp, lex, e, c]
      · by_cases d : x.2.1 > y.2.1 <;> simp [n_byEnds, n_cmp, lex, e, c, d]

/-- A wire at place i that does not fit. -/
def badW (nodes : Int) (ws : List W3) (i : Nat) (x : W3) : Bool :=
  !(decide (0 ≤ x.1) && decide (x.1 < x.2.1) && decide (x.2.1 < nodes) && decide (1 ≤ x.2.2) && decide (x.2.2 ≤ 200)) || (match i with | 0 => false | j + 1 => match ws[j]? with | some y => !lex y x | none => false)

def wiresBad (n : TNet) : Bool := (n.2.2.2.zipIdx 0).any fun p => badW n.1 n.2.2.2 p.2 p.1
def hdrOk (n : TNet) : Bool := decide (1 ≤ n.1) && decide (n.1 ≤ 5) && decide (1 ≤ n.2.1) && decide (n.2.1 ≤ n.1) && decide (1 ≤ n.2.2.1) && decide (n.2.2.1 ≤ 1000)

theorem netL0_impl (n : TNet) (hn : Sm.sm B1 n) (k : _ → Option Bool) :
    iterK (r_impl_NetOk_L0 e_slices_Contains_bool e_impl_byEnds N0) N0 (n, n.2.2.2, (n.2.2.2.length : Int), 0, ()) k = cond (wiresBad n) (some false) (k (n, n.2.2.2, (n.2.2.2.length : Int), (n.2.2.2.length : Int), ())) := by
  have hw : Sm.sm B1 n.2.2.2 := hn.2.2.2
  rw [iter_range (R := Bool) n.2.2.2 (fun (_ : Unit) i => (n, n.2.2.2, (n.2.2.2.length : Int), i, ())) (fun _ i x k => cond (badW n.1 n.2.2.2 i x) (some false) (k ())) ?_ ?_ (len_lt hw N0_gt) ()]
  · rw [rangeK_stop (fun i x => badW n.1 n.2.2.2 i x) (some false) _ _ _ (fun j x k _ => rfl)]
    rfl
  · intro st i x kc ke hx hi
    simp only [r_impl_NetOk_L0, lt_len, hi, decide_true, cond_true, getI_nat, hx, Option.bind_some, wr_len hi hw]
    have hb : ∀ b : Bool, (decide (x.1 < 0) = true → b = true) → True := fun _ _ => trivial
    by_cases h1 : x.1 < 0
    · have : badW n.1 n.2.2.2 i x = true := by simp only [badW, Bool.or_eq_true, Bool.not_eq_true', Bool.and_eq_false_iff, decide_eq_false_iff_not]; left; omega
      simp [h1, this]
    by_cases h2 : x.1 ≥ x.2.1
    · have : badW n.1 n.2.2.2 i x = true := by simp only [badW, Bool.or_eq_true, Bool.not_eq_true', Bool.and_eq_false_iff, decide_eq_false_iff_not]; left; omega
      simp [h1, h2, this]
    by_cases h3 : x.2.1 ≥ n.1
    · have : badW n.1 n.2.2.2 i x = true := by simp only [badW, Bool.or_eq_true, Bool.not_eq_true', Bool.and_eq_false_iff, decide_eq_false_iff_not]; left; omega
      simp [h1, h2, h3, this]
    by_cases h4 : x.2.2 < 1
    · have : badW n.1 n.2.2.2 i x = true := by simp only [badW, Bool.or_eq_true, Bool.not_eq_true', Bool.and_eq_false_iff, decide_eq_false_iff_not]; left; omega
      simp [h1, h2, h3, h4, this]
    by_cases h5 : x.2.2 > 200
    · have : badW n.1 n.2.2.2 i x = true := by simp only [badW, Bool.or_eq_true, Bool.not_eq_true', Bool.and_eq_false_iff, decide_eq_false_iff_not]; left; omega
      simp [h1, h2, h3, h4, h5, this]
    have hg : (!(decide (0 ≤ x.1) && decide (x.1 < x.2.1) && decide (x.2.1 < n.1) && decide (1 ≤ x.2.2) && decide (x.2.2 ≤ 200))) = false := by
      simp only [Bool.not_eq_false', Bool.and_eq_true, decide_eq_true_eq]; omega
    cases i with
    | zero =>
      have hbad : badW n.1 n.2.2.2 0 x = false := by simp only [badW, hg, Bool.or_false]
      simp [h1, h2, h3, h4, h5, hbad]
    | succ j =>
      have hj : n.2.2.2[j]? = some n.2.2.2[j] := List.getElem?_eq_getElem (by omega)
      have hbad : badW n.1 n.2.2.2 (j + 1) x = !lex n.2.2.2[j] x := by simp only [badW, hg, Bool.false_or, hj]
      have hwr : wr (((j + 1 : Nat) : Int) - 1) = (j : Int) := by
        rw [wr_id (by omega) (by have := hw.1; simp only [B1] at this; omega)]; omega
      have hpos : decide (((j + 1 : Nat) : Int) > 0) = true := by rw [decide_eq_true_eq]; omega
      rw [hbad, hpos, hwr, getI_nat, hj]
      simp only [cond_true, Option.bind_some, p_byEnds, byEnds_lex]
      simp [h1, h2, h3, h4, h5]
  · intro st kc ke
    simp only [r_impl_NetOk_L0, not_lt_self, cond_false]

theorem netL0_spec (n : TNet) (hn : Sm.sm B1 n) (k : _ → Option Bool) (hn1 : 1 ≤ n.1) (hn5 : n.1 ≤ 5) :
    iterK (r_spec_NetOk_L0 e_spec_l01In e_spec_l03Reach N0) N0 (n, n.2.2.2, (n.2.2.2.length : Int), 0, ()) k = cond (wiresBad n) (some false) (k (n, n.2.2.2, (n.2.2.2.length : Int), (n.2.2.2.length : Int), ())) := by
  have hw : Sm.sm B1 n.2.2.2 := hn.2.2.2
  rw [iter_range (R := Bool) n.2.2.2 (fun (_ : Unit) i => (n, n.2.2.2, (n.2.2.2.length : Int), i, ())) (fun _ i x k => cond (badW n.1 n.2.2.2 i x) (some false) (k ())) ?_ ?_ (len_lt hw N0_gt) ()]
  · rw [rangeK_stop (fun i x => badW n.1 n.2.2.2 i x) (some false) _ _ _ (fun j x k _ => rfl)]
    rfl
  · intro st i x kc ke hx hi
    simp only [r_spec_NetOk_L0, lt_len, hi, decide_true, cond_true, getI_nat, hx, Option.bind_some, wr_len hi hw, p_l01In, n_l01In]
    have hw1 : wr (n.1 - 1) = n.1 - 1 := wr_id (by omega) (by omega)
    rw [hw1]
    by_cases h1 : 0 ≤ x.1 ∧ x.1 ≤ n.1 - 1
    · have hw2 : wr (x.1 + 1) = x.1 + 1 := wr_id (by omega) (by omega)
      rw [hw2]
      by_cases h2 : x.1 + 1 ≤ x.2.1 ∧ x.2.1 ≤ n.1 - 1
      · by_cases h3 : 1 ≤ x.2.2 ∧ x.2.2 ≤ 200
        · have hg : (!(decide (0 ≤ x.1) && decide (x.1 < x.2.1) && decide (x.2.1 < n.1) && decide (1 ≤ x.2.2) && decide (x.2.2 ≤ 200))) = false := by
            simp only [Bool.not_eq_false', Bool.and_eq_true, decide_eq_true_eq]; omega
          cases i with
          | zero =>
            have hbad : badW n.1 n.2.2.2 0 x = false := by simp only [badW, hg, Bool.or_false]
            simp [h1, h2, h3, hbad]
          | succ j =>
            have hj : n.2.2.2[j]? = some n.2.2.2[j] := List.getElem?_eq_getElem (by omega)
            have hbad : badW n.1 n.2.2.2 (j + 1) x = !lex n.2.2.2[j] x := by simp only [badW, hg, Bool.false_or, hj]
            have hwr : wr (((j + 1 : Nat) : Int) - 1) = (j : Int) := by
              rw [wr_id (by omega) (by have := hw.1; simp only [B1] at this; omega)]; omega
            have hpos : decide (((j + 1 : Nat) : Int) > 0) = true := by rw [decide_eq_true_eq]; omega
            rw [hbad, hpos, hwr, getI_nat, hj]
            simp only [cond_true, Option.bind_some, h1, h2, h3, decide_true, Bool.and_self, Bool.not_true, cond_false, lex]
            by_cases e1 : x.1 < n.2.2.2[j].1
            · have a1 : ¬ n.2.2.2[j].1 < x.1 := by omega
              have a2 : ¬ n.2.2.2[j].1 = x.1 := by omega
              simp [e1, a1, a2]
            · by_cases e2 : x.1 = n.2.2.2[j].1
              · by_cases e3 : x.2.1 ≤ n.2.2.2[j].2.1
                · have a3 : ¬ n.2.2.2[j].2.1 < x.2.1 := by omega
                  simp [e2, e3, a3]
                · have a3 : n.2.2.2[j].2.1 < x.2.1 := by omega
                  simp [e2, e3, a3]
              · have a1 : n.2.2.2[j].1 < x.1 := by omega
                simp [e1, e2, a1]
        · have : badW n.1 n.2.2.2 i x = true := by simp only [badW, Bool.or_eq_true, Bool.not_eq_true', Bool.and_eq_false_iff, decide_eq_false_iff_not]; left; omega
          have h3' : (decide (1 ≤ x.2.2) && decide (x.2.2 ≤ 200)) = false := by simp only [Bool.and_eq_false_iff, decide_eq_false_iff_not]; omega
          simp [h1, h2, h3', this]
      · have : badW n.1 n.2.2.2 i x = true := by simp only [badW, Bool.or_eq_true, Bool.not_eq_true', Bool.and_eq_false_iff, decide_eq_false_iff_not]; left; omega
        have h2' : (decide (x.1 + 1 ≤ x.2.1) && decide (x.2.1 ≤ n.1 - 1)) = false := by simp only [Bool.and_eq_false_iff, decide_eq_false_iff_not]; omega
        simp [h1, h2', this]
    · have : badW n.1 n.2.2.2 i x = true := by simp only [badW, Bool.or_eq_true, Bool.not_eq_true', Bool.and_eq_false_iff, decide_eq_false_iff_not]; left; omega
      have h1' : (decide (0 ≤ x.1) && decide (x.1 ≤ n.1 - 1)) = false := by simp only [Bool.and_eq_false_iff, decide_eq_false_iff_not]; omega
      simp [h1', this]
  · intro st kc ke
    simp only [r_spec_NetOk_L0, not_lt_self, cond_false]
-- what can be reached
inductive Rc (ws : List W3) : Int → Prop
  | zero : Rc ws 0
  | ab {e : W3} : e ∈ ws → Rc ws e.1 → Rc ws e.2.1
  | ba {e : W3} : e ∈ ws → Rc ws e.2.1 → Rc ws e.1

/-- The wires lie among the nodes. -/
def InW (nodes : Nat) (ws : List W3) : Prop := ∀ e ∈ ws, 0 ≤ e.1 ∧ e.1 < e.2.1 ∧ e.2.1 < nodes

theorem Rc.inn {nodes : Nat} {ws : List W3} (h0 : 0 < nodes) (hw : InW nodes ws) {v : Int} (h : Rc ws v) : 0 ≤ v ∧ v < nodes := by
  cases h with
  | zero => omega
  | ab he _ => have := hw _ he; omega
  | ba he _ => have := hw _ he; omega

-- the program's marks
def gt (st : List Bool) (v : Int) : Bool := (st[v.toNat]?).getD false
def upd (st : List Bool) (e : W3) : List Bool := if gt st e.1 = true ∨ gt st e.2.1 = true then (st.set e.1.toNat true).set e.2.1.toNat true else st
def cnt (st : List Bool) : Nat := (st.filter id).length

theorem cnt_le (st : List Bool) : cnt st ≤ st.length := List.length_filter_le _ _

theorem cnt_set : ∀ (st : List Bool) (i : Nat), cnt st ≤ cnt (st.set i true) ∧ (st[i]? = some false → cnt st + 1 ≤ cnt (st.set i true))
  | [], i => by simp [cnt]
  | b :: st, 0 => by cases b <;> simp [cnt]
  | b :: st, i + 1 => by
    have := cnt_set st i
    cases b <;> simp_all [cnt]

theorem gt_set (st : List Bool) (i : Nat) (v : Int) : gt (st.set i true) v = (gt st v || (decide (i = v.toNat) && decide (i < st.length))) := by
  simp only [gt, List.getElem?_set]
  by_cases e : i = v.toNat
  · subst e
    by_cases h : v.toNat < st.length
    · simp [h]
    · simp [h]
  · simp [e]

theorem upd_len (st : List Bool) (e : W3) : (upd st e).length = st.length := by
  unfold upd; split <;> simp

theorem upd_mono {st : List Bool} {e : W3} {v : Int} (h : gt st v = true) : gt (upd st e) v = true := by
  unfold upd; split
  · simp [gt_set, h]
  · exact h

theorem upd_sound {ws : List W3} {st : List Bool} {e : W3} {nodes : Nat} (hl : st.length = nodes) (hw : InW nodes ws) (he : e ∈ ws) (h : ∀ v, 0 ≤ v → gt st v = true → Rc ws v) : ∀ v, 0 ≤ v → gt (upd st e) v = true → Rc ws v := by
  intro v hv hg
  obtain ⟨h1, h2, h3⟩ := hw e he
  unfold upd at hg
  split at hg
  · rename_i hor
    have ha : Rc ws e.1 ∧ Rc ws e.2.1 := by
      rcases hor with hor | hor
      · have := h _ h1 hor; exact ⟨this, .ab he this⟩
      · have := h _ (by omega) hor; exact ⟨.ba he this, this⟩
    simp only [gt_set, Bool.or_eq_true, Bool.and_eq_true, decide_eq_true_eq] at hg
    rcases hg with (hg | hg) | hg
    · exact h v hv hg
    · have : e.1 = v := by omega
      rw [← this]; exact ha.1
    · have : e.2.1 = v := by omega
      rw [← this]; exact ha.2
  · exact h v hv hg

theorem gt_false {st : List Bool} {v : Int} (h : gt st v = false) (hl : v.toNat < st.length) : st[v.toNat]? = some false := by
  have : st[v.toNat]? = some st[v.toNat] := List.getElem?_eq_getElem hl
  unfold gt at h
  rw [this] at h ⊢
  simpa using h

theorem upd_cnt (st : List Bool) (e : W3) : cnt st ≤ cnt (upd st e) := by
  unfold upd; split
  · exact Nat.le_trans (cnt_set st _).1 (cnt_set _ _).1
  · exact Nat.le_refl _

theorem upd_grow {st : List Bool} {e : W3} {nodes : Nat} (hl : st.length = nodes) (hi : 0 ≤ e.1 ∧ e.1 < e.2.1 ∧ e.2.1 < nodes) (h : gt st e.1 ≠ gt st e.2.1) : cnt st + 1 ≤ cnt (upd st e) := by
  have hor : gt st e.1 = true ∨ gt st e.2.1 = true := by
    revert h; cases gt st e.1 <;> cases gt st e.2.1 <;> simp
  unfold upd
  rw [if_pos hor]
  by_cases h1 : gt st e.1 = true
  · have h2 : gt st e.2.1 = false := by
      revert h; rw [h1]; cases gt st e.2.1 <;> simp
    have : gt (st.set e.1.toNat true) e.2.1 = false := by
      rw [gt_set, h2]; simp; omega
    have hs := gt_false this (by simp; omega)
    exact Nat.le_trans (Nat.add_le_add_right (cnt_set st _).1 1) ((cnt_set _ _).2 hs)
  · have h1' : gt st e.1 = false := by simpa using h1
    have hs := gt_false h1' (by omega)
    exact Nat.le_trans ((cnt_set st _).2 hs) (cnt_set _ _).1

theorem upd_fix {st : List Bool} {e : W3} {nodes : Nat} (hl : st.length = nodes) (hi : 0 ≤ e.1 ∧ e.1 < e.2.1 ∧ e.2.1 < nodes) (h : gt st e.1 = gt st e.2.1) : upd st e = st := by
  unfold upd
  split
  · rename_i hor
    have hb : gt st e.1 = true ∧ gt st e.2.1 = true := by
      rw [h] at hor ⊢; rcases hor with hor | hor <;> exact ⟨hor, hor⟩
    have one : ∀ (v : Int), gt st v = true → st.set v.toNat true = st := by
      intro v hv
      apply List.ext_getElem?; intro j
      rw [List.getElem?_set]
      split
      · rename_i ej; subst ej
        unfold gt at hv
        split
        · rename_i hlt
          rw [List.getElem?_eq_getElem hlt] at hv ⊢
          simp at hv; rw [hv]
        · rename_i hlt
          rw [List.getElem?_eq_none (by omega)]
      · rfl
    rw [one _ hb.1, one _ hb.2]
  · rfl

def Closed (ws : List W3) (st : List Bool) : Prop := ∀ e ∈ ws, gt st e.1 = gt st e.2.1

theorem round_fix {nodes : Nat} : ∀ {ws : List W3} {st : List Bool}, st.length = nodes → InW nodes ws → Closed ws st → ws.foldl upd st = st
  | [], _, _, _, _ => rfl
  | e :: ws, st, hl, hw, hc => by
    simp only [List.foldl_cons]
    rw [upd_fix hl (hw e (by simp)) (hc e (by simp))]
    exact round_fix hl (fun x hx => hw x (by simp [hx])) fun x hx => hc x (by simp [hx])

theorem round_mono {nodes : Nat} : ∀ {ws : List W3} {st : List Bool}, cnt st ≤ cnt (ws.foldl upd st)
  | [], _ => Nat.le_refl _
  | e :: ws, st => Nat.le_trans (upd_cnt st e) (round_mono (nodes := nodes) (ws := ws))

theorem round_grow {nodes : Nat} : ∀ {ws : List W3} {st : List Bool}, st.length = nodes → InW nodes ws → Closed ws st ∨ cnt st + 1 ≤ cnt (ws.foldl upd st)
  | [], _, _, _ => .inl fun _ h => by simp at h
  | e :: ws, st, hl, hw => by
    by_cases h : gt st e.1 = gt st e.2.1
    · simp only [List.foldl_cons, upd_fix hl (hw e (by simp)) h]
      rcases round_grow (ws := ws) hl (fun x hx => hw x (by simp [hx])) with hc | hg
      · refine .inl fun x hx => ?_
        rcases List.mem_cons.1 hx with rfl | hx
        · exact h
        · exact hc x hx
      · exact .inr hg
    · refine .inr ?_
      simp only [List.foldl_cons]
      exact Nat.le_trans (upd_grow hl (hw e (by simp)) h) (round_mono (nodes := nodes))

theorem round_len : ∀ {ws : List W3} {st : List Bool}, (ws.foldl upd st).length = st.length
  | [], _ => rfl
  | e :: ws, st => by simp only [List.foldl_cons]; rw [round_len, upd_len]

theorem round_keep {v : Int} : ∀ {ws : List W3} {st : List Bool}, gt st v = true → gt (ws.foldl upd st) v = true
  | [], _, h => h
  | e :: ws, st, h => by simp only [List.foldl_cons]; exact round_keep (upd_mono h)

theorem round_sound {ws0 : List W3} {nodes : Nat} (hw : InW nodes ws0) : ∀ {ws : List W3} {st : List Bool}, (∀ e ∈ ws, e ∈ ws0) → st.length = nodes → (∀ v, 0 ≤ v → gt st v = true → Rc ws0 v) → ∀ v, 0 ≤ v → gt (ws.foldl upd st) v = true → Rc ws0 v
  | [], _, _, _, h => h
  | e :: ws, st, hs, hl, h => by
    simp only [List.foldl_cons]
    exact round_sound hw (fun x hx => hs x (by simp [hx])) ((upd_len st e).trans hl) (upd_sound hl hw (hs e (by simp)) h)

/-- All nodes can be reached. -/
noncomputable def conn (n : TNet) : Bool := open Classical in decide (∀ v : Int, 0 ≤ v → v < n.1 → Rc n.2.2.2 v)

theorem closed_all {ws : List W3} {st : List Bool} (hc : Closed ws st) (h0 : gt st 0 = true) : ∀ v, Rc ws v → gt st v = true := by
  intro v h
  induction h with
  | zero => exact h0
  | ab he _ ih => rw [← hc _ he]; exact ih
  | ba he _ ih => rw [hc _ he]; exact ih

theorem all_true {st : List Bool} {nodes : Nat} (hl : st.length = nodes) : decide (false ∈ st) = false ↔ ∀ v : Int, 0 ≤ v → v < nodes → gt st v = true := by
  constructor
  · intro h v h0 h1
    simp only [decide_eq_false_iff_not] at h
    cases hg : gt st v with
    | true => rfl
    | false => exact absurd (List.mem_of_getElem? (gt_false hg (by omega))) h
  · intro h
    simp only [decide_eq_false_iff_not]
    intro hm
    obtain ⟨i, hi⟩ := List.getElem?_of_mem hm
    have := h (i : Int) (by omega) (by have := get_lt hi; omega)
    simp [gt, hi] at this

end Go.Sx.R

/- Circular pairs of lists: the law. Conditions: none. -/
namespace Go.Sx.R
open Go Go.Sx

theorem p_ContainsI (xs : List Int) (v : Int) (hl : xs.length ≤ BB) : e_slices_Contains_int (xs, v, ()) = some (decide (v ∈ xs)) := by
  simp only [e_slices_Contains_int, r_slices_Contains_int, e_slices_Index_int, r_slices_Index_int]
  rw [iter_range (R := Int) xs (fun (_ : Unit) i => (xs, v, (xs.length : Int), i, ())) (fun _ i x k => cond (decide (v = x)) (some (i : Int)) (k ())) ?_ ?_ (by have := N0_gt; omega) ()]
  · have key : ∀ (l : List Int) (i : Nat), (rangeK l i () (fun _ i x k => cond (decide (v = x)) (some (i : Int)) (k ())) fun _ => some (-1 : Int)).bind (fun r => some (decide (r ≥ 0))) = some (decide (v ∈ l)) := by
      intro l
      induction l with
      | nil => intro i; simp [rangeK]
      | cons x l ih =>
        intro i
        simp only [rangeK]
        by_cases e : v = x
        · subst e; simp
        · simp only [e, decide_false, cond_false, ih (i + 1)]
          simp [e]
    exact key xs 0
  · intro st i x kc ke hx hi
    simp only [r_slices_Index_int_L0, lt_len, hi, decide_true, cond_true, getI_nat, hx, Option.bind_some]
    rw [wr_succ hi hl]
  · intro st kc ke
    simp only [r_slices_Index_int_L0, not_lt_self, cond_false]


theorem p_Clone (x : List Int) (hl : x.length ≤ 17179869184) : e_slices_Clone_int (x, ()) = some x := by
  have h : Nat.ble (List.length ([] : List Int) + x.length) 17179869184 = true := ble_true (by simp; omega)
  simp only [e_slices_Clone_int, r_slices_Clone_int, h, cond_true, List.nil_append]
  cases x with
  | nil => exact agree_same
  | cons a l => rfl

theorem p_Reverse (x : List Int) (hl : x.length ≤ 9223372036854775807) : e_slices_Reverse_int x () = some (x.reverse, ()) := by
  simp [e_slices_Reverse_int, revFn, hl]

def badR (k : Int) (rim : List Int) (i : Nat) (x : Int) : Bool := decide (x < 0) || decide (x ≥ k) || decide (x ∈ rim.take i)

theorem p_indicesOk (rim : List Int) (k : Int) (hl : rim.length ≤ BB) : e_impl_indicesOk (rim, k, ()) = some (!(rim.zipIdx 0).any fun p => badR k rim p.2 p.1) := by
  simp only [e_impl_indicesOk, r_impl_indicesOk]
  rw [iter_range (R := Bool) rim (fun (_ : Unit) i => (rim, k, rim, (rim.length : Int), i, ())) (fun _ i x kk => cond (badR k rim i x) (some false) (kk ())) ?_ ?_ (by have := N0_gt; omega) ()]
  · rw [rangeK_stop (fun i x => badR k rim i x) (some false) _ _ _ (fun j x k _ => rfl)]
    cases (rim.zipIdx 0).any _ <;> rfl
  · intro st i x kc ke hx hi
    have d1 : decide ((0 : Int) ≤ (i : Int)) = true := by simp
    have d2 : decide ((i : Int) ≤ (rim.length : Int)) = true := by rw [decide_eq_true_eq]; omega
    simp only [r_impl_indicesOk_L0, lt_len, hi, decide_true, cond_true, getI_nat, hx, Option.bind_some, wr_succ hi hl, d1, d2, Int.toNat_natCast, Int.toNat_zero, Nat.sub_zero, List.drop_zero, badR]
    rw [p_ContainsI (rim.take i) x (by have : (rim.take i).length ≤ rim.length := by simp; omega
                                       omega)]
    by_cases h1 : x < 0
    · simp [h1]
    · by_cases h2 : x ≥ k
      · simp [h1, h2]
      · simp only [h1, h2, decide_false, cond_false, Bool.false_or, Option.bind_some]
  · intro st kc ke
    simp only [r_impl_indicesOk_L0, not_lt_self, cond_false]

def dn (rim : List Int) (i : Nat) (x : Int) : Int := if (rim[(i + 1) % rim.length]?).getD 0 < x then 1 else 0
def falls (rim : List Int) : Int := foldI (fun s i x => s + dn rim i x) rim 0 0

theorem next_get {rim : List Int} {i : Nat} (hi : i < rim.length) (hl : rim.length ≤ 9223372036854775807) : getI rim (Int.tmod (wr ((i : Int) + 1)) (rim.length : Int)) = some ((rim[(i + 1) % rim.length]?).getD 0) := by
  rw [wr_succ hi hl, Int.tmod_eq_emod_of_nonneg (by omega)]
  have e : ((i + 1 : Nat) : Int) % (rim.length : Int) = (((i + 1) % rim.length : Nat) : Int) := by simp
  have hlt : (i + 1) % rim.length < rim.length := Nat.mod_lt _ (by omega)
  rw [e, getI_nat, List.getElem?_eq_getElem hlt]; rfl

theorem impl_falls (rim : List Int) (hl : rim.length ≤ 9223372036854775807) (k : _ → Option Bool) : ∃ j, iterK (r_impl_IsCircular_L0 e_slices_Clone_int e_slices_Reverse_int e_impl_indicesOk N0) N0 (rim, 0, rim, (rim.length : Int), 0, ()) k = k (rim, falls rim, rim, (rim.length : Int), j, ()) := by
  have m := iter_fold (R := Bool) (body := r_impl_IsCircular_L0 e_slices_Clone_int e_slices_Reverse_int e_impl_indicesOk N0) rim (fun (s : Int) i => (rim, s, rim, (rim.length : Int), i, ())) (fun i s => 0 ≤ s ∧ s ≤ i) (fun s i x => s + dn rim i x)
    (fun s i x kc ke ⟨h0, h1⟩ hx hi => by
      refine ⟨?_, ?_⟩
      · have d : decide ((rim.length : Int) = 0) = false := by rw [decide_eq_false_iff_not]; omega
        simp only [r_impl_IsCircular_L0, lt_len, hi, decide_true, cond_true, getI_nat, hx, Option.bind_some, d, cond_false, next_get hi hl]
        have w1 : wr (s + 1) = s + 1 := wr_id (by omega) (by omega)
        by_cases c : (rim[(i + 1) % rim.length]?).getD 0 < x
        · simp only [c, decide_true, cond_true, w1, dn, if_true, wr_succ hi hl]
        · simp only [c, decide_false, cond_false, dn, if_false, wr_succ hi hl, Int.add_zero]
      · simp only [dn]; split <;> omega)
    (fun s kc ke _ => by simp only [r_impl_IsCircular_L0, not_lt_self, cond_false]) (N := N0) (by have := N0_big; omega) 0 (by simp) k
  exact ⟨_, m.1⟩

theorem foldI_snoc {β σ : Type} (g : σ → Nat → β → σ) : ∀ (l : List β) (x : β) (i : Nat) (s : σ), foldI g (l ++ [x]) i s = g (foldI g l i s) (i + l.length) x
  | [], x, i, s => rfl
  | y :: l, x, i, s => by
    simp only [List.cons_append, foldI, foldI_snoc g l x (i + 1), List.length_cons]
    congr 1; omega

theorem dn_bounds (rim : List Int) : ∀ (l : List Int) (i : Nat) (s : Int), s ≤ foldI (fun s i x => s + dn rim i x) l i s ∧ foldI (fun s i x => s + dn rim i x) l i s ≤ s + l.length
  | [], i, s => by simp [foldI]
  | x :: l, i, s => by
    have h := dn_bounds rim l (i + 1) (s + dn rim i x)
    have : 0 ≤ dn rim i x ∧ dn rim i x ≤ 1 := by simp only [dn]; split <;> omega
    simp only [foldI, List.length_cons]; omega

theorem spec_falls (k : Int) (hk1 : 1 ≤ k) (hk5 : k ≤ 5) (rim : List Int) (hl : rim.length ≤ 9223372036854775807) :
    (iterK (r_spec_IsCircular_L0 e_spec_l01In e_spec_l09Rim e_spec_l03Has N0) N0 (k, rim, 0, rim, (rim.length : Int), 0, ()) fun s => some (decide (s.2.2.1 = 1))) =
      cond ((rim.zipIdx 0).any fun p => badR k rim p.2 p.1) (some false) (some (decide (falls rim = 1))) := by
  refine iter_rule (R := Bool) (fun o => o = cond ((rim.zipIdx 0).any fun p => badR k rim p.2 p.1) (some false) (some (decide (falls rim = 1)))) rim (fun (s : Int) i => (k, rim, s, rim, (rim.length : Int), i, ()))
    (fun i s => s = foldI (fun s i x => s + dn rim i x) (rim.take i) 0 0 ∧ ∀ (j : Nat) (y : Int), j < i → rim[j]? = some y → badR k rim j y = false) (fun s i x kc ⟨hs, hp⟩ hx hi hk => ?_) (fun s kc ⟨hs, hp⟩ => ?_) (by have := N0_big; omega) 0 ⟨by simp [foldI], by simp⟩
  · have d : decide ((rim.length : Int) = 0) = false := by rw [decide_eq_false_iff_not]; omega
    have d1 : decide ((0 : Int) ≤ (i : Int)) = true := by simp
    have d2 : decide ((i : Int) ≤ (rim.length : Int)) = true := by rw [decide_eq_true_eq]; omega
    have wk : wr (k - 1) = k - 1 := wr_id (by omega) (by omega)
    have tl : (rim.take i).length ≤ 9223372036854775807 := by simp; omega
    simp only [r_spec_IsCircular_L0, lt_len, hi, decide_true, cond_true, getI_nat, hx, Option.bind_some, d, d1, d2, cond_false, next_get hi hl, wk, p_l01In, n_l01In, Int.toNat_natCast, Int.toNat_zero, Nat.sub_zero, List.drop_zero, p_Has (rim.take i) x tl]
    cases hb : badR k rim i x with
    | true =>
      have hany : ((rim.zipIdx 0).any fun p => badR k rim p.2 p.1) = true := by
        rw [List.any_eq_true]
        exact ⟨(x, i), by rw [List.mem_zipIdx_iff_getElem?]; exact hx, hb⟩
      rw [hany, cond_true]
      by_cases hr : 0 ≤ x ∧ x ≤ k - 1
      · have hm : decide (x ∈ rim.take i) = true := by
          simp only [badR, Bool.or_eq_true, decide_eq_true_eq] at hb
          rw [decide_eq_true_eq]
          rcases hb with (hb | hb) | hb
          · omega
          · omega
          · exact hb
        have r1 : (decide (0 ≤ x) && decide (x ≤ k - 1)) = true := by simp only [Bool.and_eq_true, decide_eq_true_eq]; exact hr
        simp only [r1, hm, Bool.not_true, cond_false, cond_true]
      · have r1 : (decide (0 ≤ x) && decide (x ≤ k - 1)) = false := by simp only [Bool.and_eq_false_iff, decide_eq_false_iff_not]; omega
        simp only [r1, Bool.not_false, cond_true]
    | false =>
      have hb' := hb
      simp only [badR, Bool.or_eq_false_iff, decide_eq_false_iff_not] at hb'
      have r1 : (decide (0 ≤ x) && decide (x ≤ k - 1)) = true := by simp only [Bool.and_eq_true, decide_eq_true_eq]; omega
      have hm : decide (x ∈ rim.take i) = false := by rw [decide_eq_false_iff_not]; exact hb'.2
      simp only [r1, hm, Bool.not_true, cond_false]
      have bd := dn_bounds rim (rim.take i) 0 0
      have tll : ((rim.take i).length : Int) ≤ i := by simp; omega
      have w1 : wr (s + 1) = s + 1 := wr_id (by omega) (by omega)
      have htake : rim.take (i + 1) = rim.take i ++ [x] := by rw [List.take_add_one, hx]; rfl
      have hlen : (rim.take i).length = i := by simp; omega
      have nx : foldI (fun s i x => s + dn rim i x) (rim.take (i + 1)) 0 0 = s + dn rim i x := by
        rw [htake, foldI_snoc, ← hs, hlen, Nat.zero_add]
      have nb : ∀ (j : Nat) (y : Int), j < i + 1 → rim[j]? = some y → badR k rim j y = false := fun j y hj hy => by
        by_cases e : j = i
        · subst e; rw [hx] at hy; simp only [Option.some.injEq] at hy; subst hy; exact hb
        · exact hp j y (by omega) hy
      by_cases c : (rim[(i + 1) % rim.length]?).getD 0 < x
      · simp only [c, decide_true, cond_true, w1, wr_succ hi hl]
        exact hk (s + 1) ⟨by rw [nx]; simp [dn, c], nb⟩
      · simp only [c, decide_false, cond_false, wr_succ hi hl]
        exact hk s ⟨by rw [nx]; simp [dn, c], nb⟩
  · simp only [r_spec_IsCircular_L0, not_lt_self, cond_false]
    have hany : ((rim.zipIdx 0).any fun p => badR k rim p.2 p.1) = false := by
      rw [List.any_eq_false]
      rintro ⟨x, i⟩ hm
      have := hp i x (get_lt (List.mem_zipIdx_iff_getElem?.1 hm)) (List.mem_zipIdx_iff_getElem?.1 hm)
      simp [this]
    rw [hany, cond_false, hs, List.take_length]; rfl

theorem s_Rim (p q : List Int) (hp : p.length ≤ 1048576) (hq : q.length ≤ 1048576) : e_spec_l09Rim (p, q, ()) = some (p ++ q.reverse) := by
  simp only [e_spec_l09Rim, r_spec_l09Rim, List.nil_append]
  rw [ble_true (by simp; omega), cond_true]
  have w0 : wr ((q.length : Int) - 1) = (q.length : Int) - 1 := wr_id (by omega) (by omega)
  rw [w0]
  refine iter_while (fun o => o = some (p ++ q.reverse)) (fun s : List Int × List Int × Int × Unit => ∃ m : Nat, m ≤ q.length ∧ s = (q, p ++ (q.drop m).reverse, (m : Int) - 1, ())) (fun s => (s.2.2.1 + 1).toNat) ?_ N0 _ ⟨q.length, Nat.le_refl _, by simp⟩ (by have := N0_big; simp only; omega)
  rintro _ kc ⟨m, hm, rfl⟩ hk
  simp only [r_spec_l09Rim_L0]
  cases m with
  | zero =>
    have d : decide (((0 : Nat) : Int) - 1 ≥ 0) = false := by simp
    simp only [d, cond_false, List.drop_zero]
  | succ m =>
    have d : decide (((m + 1 : Nat) : Int) - 1 ≥ 0) = true := by rw [decide_eq_true_eq]; omega
    have e : ((m + 1 : Nat) : Int) - 1 = (m : Int) := by omega
    have hx : q[m]? = some q[m] := List.getElem?_eq_getElem (by omega)
    have wm : wr ((m : Int) - 1) = (m : Int) - 1 := wr_id (by omega) (by omega)
    have hdrop : q.drop m = q[m] :: q.drop (m + 1) := List.drop_eq_getElem_cons (by omega)
    have hroom : (p ++ (q.drop (m + 1)).reverse).length + 1 ≤ 17179869184 := by simp; omega
    rw [d, e, getI_nat, hx]
    simp only [cond_true, Option.bind_some, List.length_cons, List.length_nil, Nat.zero_add, ble_true hroom, wm]
    refine hk _ ⟨m, by omega, ?_⟩ (by simp only; omega)
    rw [hdrop, List.reverse_cons, List.append_assoc]

theorem circular_both (k : Int) (p q : List Int) (hk : Sm.sm B1 k) (hp : p.length ≤ 1048576) (hq : q.length ≤ 1048576) : ∃ r, e_impl_IsCircular (k, p, q, ()) = some r ∧ e_spec_IsCircular (k, p, q, ()) = some r := by
  simp only [e_impl_IsCircular, r_impl_IsCircular, e_spec_IsCircular, r_spec_IsCircular, p_l01In, n_l01In, Option.bind_some, dec_eq]
  by_cases h1 : k < 1
  · have d : (decide (1 ≤ k) && decide (k ≤ 5)) = false := by simp only [Bool.and_eq_false_iff, decide_eq_false_iff_not]; omega
    exact ⟨false, by simp [h1], by simp [d]⟩
  by_cases h2 : k > 5
  · have d : (decide (1 ≤ k) && decide (k ≤ 5)) = false := by simp only [Bool.and_eq_false_iff, decide_eq_false_iff_not]; omega
    exact ⟨false, by simp [h1, h2], by simp [d]⟩
  have d : (decide (1 ≤ k) && decide (k ≤ 5)) = true := by simp only [Bool.and_eq_true, decide_eq_true_eq]; omega
  simp only [h1, h2, decide_false, cond_false, d, Bool.not_true]
  by_cases h3 : p.length = q.length
  · simp only [h3, decide_true, Bool.not_true, cond_false]
    by_cases h4 : q.length = 0
    · have d4 : decide ((q.length : Int) < 1) = true := by rw [decide_eq_true_eq]; omega
      have d5 : decide ((q.length : Int) = 0) = true := by rw [decide_eq_true_eq]; omega
      exact ⟨false, by rw [d4]; rfl, by rw [d5]; rfl⟩
    · have d4 : decide ((q.length : Int) < 1) = false := by rw [decide_eq_false_iff_not]; omega
      have d5 : decide ((q.length : Int) = 0) = false := by rw [decide_eq_false_iff_not]; omega
      have hroom : p.length + q.reverse.length ≤ 17179869184 := by simp; omega
      have hrl : (p ++ q.reverse).length ≤ 9223372036854775807 := by simp; omega
      simp only [d4, d5, cond_false, p_Clone q (by omega), p_Clone p (by omega), p_Reverse q (by omega), Option.bind_some, ble_true hroom, cond_true, p_indicesOk (p ++ q.reverse) k hrl, s_Rim p q hp hq]
      rw [spec_falls k (by omega) (by omega) (p ++ q.reverse) hrl]
      cases hb : ((p ++ q.reverse).zipIdx 0).any fun x => badR k (p ++ q.reverse) x.2 x.1 with
      | true => exact ⟨false, rfl, rfl⟩
      | false =>
        obtain ⟨j, hj⟩ := impl_falls (p ++ q.reverse) hrl (fun s5 => some (decide (s5.2.1 = 1)))
        refine ⟨decide (falls (p ++ q.reverse) = 1), ?_, rfl⟩
        simp only [Bool.not_false, Bool.not_true, cond_false]
        exact hj
  · exact ⟨false, by simp [h3], by simp [h3]⟩

theorem law_IsCircular (k : Int) (p q : List Int) (hk : Sm.sm BB k) (hp : Sm.sm BB p) (hq : Sm.sm BB q) : e_laws_FnExactIsCircular (k, p, q, ()) = some true := by
  simp only [e_laws_FnExactIsCircular, r_laws_FnExactIsCircular]
  cases d1 : decide ((p.length : Int) > 1048576) with
  | true => rfl
  | false =>
    cases d2 : decide ((q.length : Int) > 1048576) with
    | true => rfl
    | false =>
      rw [decide_eq_false_iff_not] at d1 d2
      have hl : Sm.sm B1 p := ⟨by simp only [B1]; omega, fun y hy => hp.2 y hy⟩
      have hh : Sm.sm B1 q := ⟨by simp only [B1]; omega, fun y hy => hq.2 y hy⟩
      obtain ⟨r, r1, r2⟩ := circular_both k p q hk (by omega) (by omega)
      simp only [cond_false, to_IntS p hl, to_IntS q hh, Option.bind_some, r1, r2, beqB_self, Bool.not_true, eq_IntS p hl, eq_IntS q hh]
end Go.Sx.R
