/- The laws in plain words. Conditions: none. -/
import Derived.Test.YtabamjmhpgjnjaaRes
/- Rules for loops. Conditions: none. -/
namespace Go.Sx

/-- The rule of loops, with a measure. -/
theorem iter_while {S R : Type} {body : S → (S → Option R) → (S → Option R) → Option R} {ke : S → Option R} (Q : Option R → Prop) (p : S → Prop) (mu : S → Nat)
    (h : ∀ s kc, p s → (∀ s', p s' → mu s' < mu s → Q (kc s')) → Q (body s kc ke)) : ∀ (N : Nat) (s : S), p s → mu s < N → Q (iterK body N s ke)
  | 0, _, _, hN => absurd hN (Nat.not_lt_zero _)
  | N + 1, s, hp, hN => by
    simp only [iterK]
    exact h s _ hp fun s' hp' hlt => iter_while Q p mu h N s' hp' (by omega)

/-- A loop over a list that ends with a fold's state. -/
theorem iter_fold {β σ S R : Type} {body : S → (S → Option R) → (S → Option R) → Option R} (l : List β) (mk : σ → Int → S) (p : Nat → σ → Prop) (g : σ → Nat → β → σ)
    (h : ∀ st (i : Nat) x kc ke, p i st → l[i]? = some x → i < l.length → body (mk st i) kc ke = kc (mk (g st i x) ((i + 1 : Nat) : Int)) ∧ p (i + 1) (g st i x))
    (h2 : ∀ st kc ke, p l.length st → body (mk st l.length) kc ke = ke (mk st l.length)) {N : Nat} (hN : l.length < N) (st : σ) (hp : p 0 st) (ke : S → Option R) :
    iterK body N (mk st 0) ke = ke (mk (foldI g l 0 st) l.length) ∧ p l.length (foldI g l 0 st) := by
  have gen : ∀ (r : List β) (i N : Nat) (st : σ), i + r.length = l.length → l.drop i = r → r.length < N → p i st → iterK body N (mk st i) ke = ke (mk (foldI g r i st) l.length) ∧ p l.length (foldI g r i st) := by
    intro r
    induction r with
    | nil =>
      intro i N st hi hd hN hp
      obtain ⟨m, rfl⟩ : ∃ m, N = m + 1 := ⟨N - 1, by omega⟩
      simp only [iterK, foldI]
      have e : i = l.length := by simpa using hi
      subst e
      exact ⟨h2 _ _ _ hp, hp⟩
    | cons x r ih =>
      intro i N st hi hd hN hp
      obtain ⟨m, rfl⟩ : ∃ m, N = m + 1 := ⟨N - 1, by omega⟩
      simp only [List.length_cons] at hi hN
      have hx : l[i]? = some x := by
        have := congrArg (fun l => l[0]?) hd
        simpa using this
      have q := h st i x (fun s' => iterK body m s' ke) ke hp hx (by omega)
      simp only [iterK, foldI]
      rw [q.1]
      exact ih (i + 1) m _ (by omega) (by rw [← List.drop_drop, hd]; simp) (by omega) q.2
  exact gen l 0 N st (by simp) (by simp) hN hp

/-- A loop over a list: the rule. -/
theorem iter_rule {β σ S R : Type} {body : S → (S → Option R) → (S → Option R) → Option R} {ke : S → Option R} (Q : Option R → Prop) (l : List β) (mk : σ → Int → S) (p : Nat → σ → Prop)
    (h : ∀ st (i : Nat) x kc, p i st → l[i]? = some x → i < l.length → (∀ st', p (i + 1) st' → Q (kc (mk st' ((i + 1 : Nat) : Int)))) → Q (body (mk st i) kc ke))
    (h2 : ∀ st kc, p l.length st → Q (body (mk st l.length) kc ke)) {N : Nat} (hN : l.length < N) (st : σ) (hp : p 0 st) : Q (iterK body N (mk st 0) ke) := by
  have gen : ∀ (d i N : Nat) (st : σ), i + d = l.length → d < N → p i st → Q (iterK body N (mk st i) ke) := by
    intro d
    induction d with
    | zero =>
      intro i N st hi hN hp
      obtain ⟨m, rfl⟩ : ∃ m, N = m + 1 := ⟨N - 1, by omega⟩
      have e : i = l.length := by omega
      subst e
      exact h2 _ _ hp
    | succ d ih =>
      intro i N st hi hN hp
      obtain ⟨m, rfl⟩ : ∃ m, N = m + 1 := ⟨N - 1, by omega⟩
      have hlt : i < l.length := by omega
      exact h st i l[i] _ hp (List.getElem?_eq_getElem hlt) hlt fun st' hp' => ih (i + 1) m st' (by omega) (by omega) hp'
  exact gen l.length 0 N st (by omega) hN hp

end Go.Sx

/- The laws' helpers: sizes, copies, comparisons. Conditions: none. -/
namespace Go.Sx.R
open Go Go.Sx

theorem wr_sub_len {n : Int} {len : Nat} (h0 : 0 ≤ n) (h1 : n ≤ 1048576) (hl : len ≤ 9223372036854775807) : wr (n - (len : Int)) = n - len := wr_id (by omega) (by omega)

theorem beqB_self (b : Bool) : beqB b b = true := by cases b <;> rfl

theorem sm_up {α : Type} [Sm α] (up : ∀ {B B' : Nat} {x : α}, B ≤ B' → Sm.sm B x → Sm.sm B' x) {B B' : Nat} {x : List α} (h : B ≤ B') (hx : Sm.sm B x) : Sm.sm B' x := ⟨Nat.le_trans hx.1 h, fun y hy => up h (hx.2 y hy)⟩
theorem up_int {B B' : Nat} {x : Int} (h : B ≤ B') (hx : Sm.sm B x) : Sm.sm B' x := hx
theorem up_intS {B B' : Nat} {x : List Int} (h : B ≤ B') (hx : Sm.sm B x) : Sm.sm B' x := sm_up up_int h hx
theorem up_intSS {B B' : Nat} {x : List (List Int)} (h : B ≤ B') (hx : Sm.sm B x) : Sm.sm B' x := sm_up up_intS h hx
theorem up_pair {B B' : Nat} {x : Int × Int} (h : B ≤ B') (hx : Sm.sm B x) : Sm.sm B' x := hx
theorem up_wire {B B' : Nat} {x : Int × Int × Int} (h : B ≤ B') (hx : Sm.sm B x) : Sm.sm B' x := hx
theorem up_wireS {B B' : Nat} {x : List (Int × Int × Int)} (h : B ≤ B') (hx : Sm.sm B x) : Sm.sm B' x := sm_up up_wire h hx
theorem up_pairS {B B' : Nat} {x : List (Int × Int)} (h : B ≤ B') (hx : Sm.sm B x) : Sm.sm B' x := sm_up up_pair h hx
theorem up_pairSS {B B' : Nat} {x : List (List (Int × Int))} (h : B ≤ B') (hx : Sm.sm B x) : Sm.sm B' x := sm_up up_pairS h hx
abbrev TNet := Int × Int × Int × List (Int × Int × Int)
theorem up_net {B B' : Nat} {x : TNet} (h : B ≤ B') (hx : Sm.sm B x) : Sm.sm B' x := ⟨hx.1, hx.2.1, hx.2.2.1, up_wireS h hx.2.2.2⟩
abbrev B0 : Nat := 1048576
theorem B01 : B0 ≤ B1 := by decide

theorem to_IntS (a : List Int) (ha : Sm.sm B1 a) : e_laws_toIntS (a, ()) = some a := by
  simp only [e_laws_toIntS, r_laws_toIntS, Int.toNat_natCast]
  rw [ble_true (by have := ha.1; simp only [B1] at this; omega), cond_true]
  rw [iter_range (R := List Int) a (fun (st : List Int) i => (a, st, i, ())) (fun st i x k => Option.bind (st[i]?) fun _ => k (st.set i x)) ?_ ?_ (len_lt ha N0_gt)]
  · rw [rangeK_copy (fun x => x) (0 : Int)]
    · simp
    · intro st j x k hs hx
      have : st[j]? = some (st[j]'(by rw [hs]; exact get_lt hx)) := List.getElem?_eq_getElem _
      rw [this]; rfl
  · intro st i x kc ke hx hi
    simp only [r_laws_toIntS_L0, lt_len, hi, decide_true, cond_true, getI_nat, hx, Option.bind_some]
    rw [wr_len hi ha, Int.toNat_natCast]
  · intro st kc ke
    simp only [r_laws_toIntS_L0, not_lt_self, cond_false]

theorem eq_IntS (a : List Int) (ha : Sm.sm B1 a) : e_laws_eqIntS (a, a, ()) = some true := by
  simp only [e_laws_eqIntS, r_laws_eqIntS, decide_true, Bool.not_true, cond_false]
  rw [iter_range (R := Bool) a (fun (_ : Unit) i => (a, a, i, ())) (fun st i x k => k ()) ?_ ?_ (len_lt ha N0_gt) ()]
  · rw [rangeK_fold (fun _ _ _ => ()) _ _ _ _ (fun _ _ _ _ _ => rfl)]
  · intro st i x kc ke hx hi
    simp only [r_laws_eqIntS_L0, lt_len, hi, decide_true, cond_true, getI_nat, hx, Option.bind_some, decide_true, Bool.not_true, cond_false]
    rw [wr_len hi ha]
  · intro st kc ke
    simp only [r_laws_eqIntS_L0, not_lt_self, cond_false]

theorem sz_IntS (a : List Int) (n : Int) (ha : Sm.sm BB a) (h0 : 0 ≤ n) (h1 : n ≤ 1048576) : ∃ r, e_laws_szIntS (a, n, ()) = some r ∧ r ≤ n ∧ (0 ≤ r → Sm.sm B0 a) := by
  simp only [e_laws_szIntS, r_laws_szIntS]
  rw [wr_sub_len h0 h1 ha.1]
  by_cases h : n - (a.length : Int) < 0
  · refine ⟨-1, ?_, by omega, by omega⟩
    simp [h]
  · refine ⟨n - a.length, ?_, by omega, fun _ => ⟨by simp only [B0]; omega, ha.2⟩⟩
    simp [h]

theorem to_IntSS (a : List (List Int)) (ha : Sm.sm B1 a) : e_laws_toIntSS (a, ()) = some a := by
  simp only [e_laws_toIntSS, r_laws_toIntSS, Int.toNat_natCast]
  rw [ble_true (by have := ha.1; simp only [B1] at this; omega), cond_true]
  rw [iter_range (R := List (List Int)) a (fun (st : List (List Int)) i => (a, st, i, ())) (fun st i x k => Option.bind (st[i]?) fun _ => k (st.set i x)) ?_ ?_ (len_lt ha N0_gt)]
  · rw [rangeK_copy (fun x => x) ([] : List Int)]
    · simp
    · intro st j x k hs hx
      have : st[j]? = some (st[j]'(by rw [hs]; exact get_lt hx)) := List.getElem?_eq_getElem _
      rw [this]; rfl
  · intro st i x kc ke hx hi
    simp only [r_laws_toIntSS_L0, lt_len, hi, decide_true, cond_true, getI_nat, hx, Option.bind_some, to_IntS _ (sm_get ha hx)]
    rw [wr_len hi ha, Int.toNat_natCast]
  · intro st kc ke
    simp only [r_laws_toIntSS_L0, not_lt_self, cond_false]

theorem eq_IntSS (a : List (List Int)) (ha : Sm.sm B1 a) : e_laws_eqIntSS (a, a, ()) = some true := by
  simp only [e_laws_eqIntSS, r_laws_eqIntSS, decide_true, Bool.not_true, cond_false]
  rw [iter_range (R := Bool) a (fun (_ : Unit) i => (a, a, i, ())) (fun st i x k => k ()) ?_ ?_ (len_lt ha N0_gt) ()]
  · rw [rangeK_fold (fun _ _ _ => ()) _ _ _ _ (fun _ _ _ _ _ => rfl)]
  · intro st i x kc ke hx hi
    simp only [r_laws_eqIntSS_L0, lt_len, hi, decide_true, cond_true, getI_nat, hx, Option.bind_some, eq_IntS _ (sm_get ha hx), Option.bind_some, Bool.not_true, cond_false]
    rw [wr_len hi ha]
  · intro st kc ke
    simp only [r_laws_eqIntSS_L0, not_lt_self, cond_false]

theorem sz_IntSS (a : List (List Int)) (n : Int) (ha : Sm.sm BB a) (h0 : 0 ≤ n) (h1 : n ≤ 1048576) : ∃ r, e_laws_szIntSS (a, n, ()) = some r ∧ r ≤ n ∧ (0 ≤ r → Sm.sm B0 a) := by
  simp only [e_laws_szIntSS, r_laws_szIntSS]
  rw [wr_sub_len h0 h1 ha.1]
  by_cases h : n - (a.length : Int) < 0
  · refine ⟨-1, ?_, by omega, by omega⟩
    simp [h]
  · have hd : decide (n - (a.length : Int) < 0) = false := by simp; omega
    rw [hd, cond_false]
    rw [iter_range (R := Int) a (fun (st : Int) i => (a, st, i, ())) (fun st i x k => Option.bind (e_laws_szIntS (x, st, ())) fun x2 => cond (decide (x2 < 0)) (some (-1)) (k x2)) ?_ ?_ (len_ltB ha N0_gt)]
    · refine rangeK_rule (fun o => ∃ r, o = some r ∧ r ≤ n ∧ (0 ≤ r → Sm.sm B0 a)) (fun i st => 0 ≤ st ∧ st ≤ n ∧ ∀ j x, j < i → a[j]? = some x → Sm.sm B0 x) a 0 _ ⟨by omega, by omega, by simp⟩ ?_ ?_
      · intro st j x k ⟨q0, q1, q2⟩ hx hk
        simp only [Nat.zero_add] at *
        obtain ⟨r, e1, e2, e3⟩ := sz_IntS x st (sm_get ha hx) q0 (by omega)
        simp only [e1, Option.bind_some]
        by_cases hr : r < 0
        · refine ⟨-1, by simp [hr], by omega, by omega⟩
        · have hd : decide (r < 0) = false := by simp; omega
          simp only [hd, cond_false]
          refine hk r ⟨by omega, by omega, fun i y hi hy => ?_⟩
          by_cases e : i = j
          · subst e; rw [hx] at hy; simp only [Option.some.injEq] at hy; subst hy; exact e3 (by omega)
          · exact q2 i y (by omega) hy
      · intro st ⟨q0, q1, q2⟩
        refine ⟨st, rfl, q1, fun _ => ⟨by simp only [B0]; omega, fun y hy => ?_⟩⟩
        obtain ⟨j, hj⟩ := List.getElem?_of_mem hy
        exact q2 j y (by have := get_lt hj; omega) hj
    · intro st i x kc ke hx hi
      simp only [r_laws_szIntSS_L0, lt_len, hi, decide_true, cond_true, getI_nat, hx, Option.bind_some]
      rw [wr_lenB hi ha]
    · intro st kc ke
      simp only [r_laws_szIntSS_L0, not_lt_self, cond_false]

theorem to_Wire (a : Int × Int × Int) (ha : Sm.sm B1 a) : e_laws_toWire (a, ()) = some a := rfl
theorem eq_Wire (a : Int × Int × Int) (ha : Sm.sm B1 a) : e_laws_eqWire (a, a, ()) = some true := by
  simp only [e_laws_eqWire, r_laws_eqWire, decide_true, Bool.not_true, cond_false]

theorem to_WireS (a : List (Int × Int × Int)) (ha : Sm.sm B1 a) : e_laws_toWireS (a, ()) = some a := by
  simp only [e_laws_toWireS, r_laws_toWireS, Int.toNat_natCast]
  rw [ble_true (by have := ha.1; simp only [B1] at this; omega), cond_true]
  rw [iter_range (R := List (Int × Int × Int)) a (fun (st : List (Int × Int × Int)) i => (a, st, i, ())) (fun st i x k => Option.bind (st[i]?) fun _ => k (st.set i x)) ?_ ?_ (len_lt ha N0_gt)]
  · rw [rangeK_copy (fun x => x) ((0 : Int), ((0 : Int), (0 : Int)))]
    · simp
    · intro st j x k hs hx
      have : st[j]? = some (st[j]'(by rw [hs]; exact get_lt hx)) := List.getElem?_eq_getElem _
      rw [this]; rfl
  · intro st i x kc ke hx hi
    simp only [r_laws_toWireS_L0, lt_len, hi, decide_true, cond_true, getI_nat, hx, Option.bind_some, to_Wire _ (sm_get ha hx)]
    rw [wr_len hi ha, Int.toNat_natCast]
  · intro st kc ke
    simp only [r_laws_toWireS_L0, not_lt_self, cond_false]

theorem eq_WireS (a : List (Int × Int × Int)) (ha : Sm.sm B1 a) : e_laws_eqWireS (a, a, ()) = some true := by
  simp only [e_laws_eqWireS, r_laws_eqWireS, decide_true, Bool.not_true, cond_false]
  rw [iter_range (R := Bool) a (fun (_ : Unit) i => (a, a, i, ())) (fun st i x k => k ()) ?_ ?_ (len_lt ha N0_gt) ()]
  · rw [rangeK_fold (fun _ _ _ => ()) _ _ _ _ (fun _ _ _ _ _ => rfl)]
  · intro st i x kc ke hx hi
    simp only [r_laws_eqWireS_L0, lt_len, hi, decide_true, cond_true, getI_nat, hx, Option.bind_some, eq_Wire _ (sm_get ha hx), Option.bind_some, Bool.not_true, cond_false]
    rw [wr_len hi ha]
  · intro st kc ke
    simp only [r_laws_eqWireS_L0, not_lt_self, cond_false]

theorem sz_WireS (a : List (Int × Int × Int)) (n : Int) (ha : Sm.sm BB a) (h0 : 0 ≤ n) (h1 : n ≤ 1048576) : ∃ r, e_laws_szWireS (a, n, ()) = some r ∧ r ≤ n ∧ (0 ≤ r → Sm.sm B0 a) := by
  simp only [e_laws_szWireS, r_laws_szWireS]
  rw [wr_sub_len h0 h1 ha.1]
  by_cases h : n - (a.length : Int) < 0
  · refine ⟨-1, ?_, by omega, by omega⟩
    simp [h]
  · refine ⟨n - a.length, ?_, by omega, fun _ => ⟨by simp only [B0]; omega, ha.2⟩⟩
    simp [h]

theorem to_Net (a : TNet) (ha : Sm.sm B1 a) : e_laws_toNet (a, ()) = some a := by
  obtain ⟨x, y, z, l⟩ := a
  simp only [e_laws_toNet, r_laws_toNet]
  rw [to_WireS l ha.2.2.2]; rfl
theorem eq_Net (a : TNet) (ha : Sm.sm B1 a) : e_laws_eqNet (a, a, ()) = some true := by
  simp only [e_laws_eqNet, r_laws_eqNet, decide_true, Bool.not_true, cond_false, eq_WireS _ ha.2.2.2, Option.bind_some]
theorem sz_Net (a : TNet) (n : Int) (ha : Sm.sm BB a) (h0 : 0 ≤ n) (h1 : n ≤ 1048576) : ∃ r, e_laws_szNet (a, n, ()) = some r ∧ r ≤ n ∧ (0 ≤ r → Sm.sm B0 a) := by
  simp only [e_laws_szNet, r_laws_szNet]
  obtain ⟨r, e1, e2, e3⟩ := sz_WireS a.2.2.2 n ha.2.2.2 h0 h1
  simp only [e1, Option.bind_some]
  by_cases hr : r < 0
  · exact ⟨-1, by simp [hr], by omega, by omega⟩
  · exact ⟨r, by simp [hr], e2, fun h => ⟨ha.1, ha.2.1, ha.2.2.1, e3 h⟩⟩

end Go.Sx.R

/- Matrices of weights: the program's test and the reference's are one. Conditions: none. -/
namespace Go.Sx.R
open Go Go.Sx

def n_l01In (a : Int × Int × Int × Unit) : Bool := decide (a.2.1 ≤ a.1) && decide (a.1 ≤ a.2.2.1)

theorem p_l01In (a : Int × Int × Int × Unit) : e_spec_l01In a = some (n_l01In a) := by
  obtain ⟨a0, a1, a2, _⟩ := a
  simp only [e_spec_l01In, r_spec_l01In, n_l01In]
  by_cases h : a1 ≤ a0 <;> simp [h]

theorem e_l01In : e_spec_l01In = fun a => some (n_l01In a) := funext p_l01In

/-- Square, of numbers up to a bound, not too large. -/
def n_sq (a : List (List Int)) : Bool := !decide (a.length > 5) && !(a.any fun x => !decide (x.length = a.length) || x.any fun v => decide (v < -1000) || decide (v > 1000))

theorem p_l04Matrix (a : List (List Int)) (ha : Sm.sm B1 a) : e_spec_l04Matrix (a, ()) = some (n_sq a) := by
  simp only [e_spec_l04Matrix, e_l01In, r_spec_l04Matrix, n_sq]
  by_cases h5 : a.length > 5
  · have : decide ((a.length : Int) > 5) = true := by simp; omega
    rw [this]; simp [h5]
  have h5' : decide ((a.length : Int) > 5) = false := by simp; omega
  rw [h5']
  simp only [cond_false]
  rw [iter_range (R := Bool) a (fun (_ : Unit) i => (a, a, (a.length : Int), i, ()))
    (fun _ i x k => cond (!decide (x.length = a.length)) (some false) (rangeK x 0 () (fun _ _ v k => cond (decide (v < -1000) || decide (v > 1000)) (some false) (k ())) (fun _ => k ()))) ?_ ?_ (len_lt ha N0_gt)]
  · rw [rangeK_stop' (fun x => !decide (x.length = a.length) || x.any fun v => decide (v < -1000) || decide (v > 1000)) (some false)]
    · simp only [h5, decide_false, Bool.not_false, Bool.true_and]
      cases (a.any _) <;> rfl
    · intro j x k hx
      rw [rangeK_stop' (fun v => decide (v < -1000) || decide (v > 1000)) (some false) _ _ _ (fun _ _ _ _ => rfl)]
      cases decide (x.length = a.length) <;> simp
  · intro st i x kc ke hx hi
    simp only [r_spec_l04Matrix_L0, lt_len, hi, decide_true, cond_true, getI_nat, hx, Option.bind_some]
    rw [dec_eq]
    congr 1
    have hxs : Sm.sm B1 x := sm_get ha hx
    rw [iter_range (R := Bool) x (fun (_ : Unit) j => (a, a, (a.length : Int), (i : Int), x, (x.length : Int), j, ()))
      (fun _ _ v k => cond (decide (v < -1000) || decide (v > 1000)) (some false) (k ())) ?_ ?_ (len_lt hxs N0_gt)]
    · rw [wr_len hi ha]
    · intro st j v kc ke hv hj
      simp only [r_spec_l04Matrix_L2, lt_len, hj, decide_true, cond_true, getI_nat, hv, Option.bind_some]
      rw [wr_len hj hxs]
      simp only [n_l01In]
      have : (!(decide (-1000 ≤ v) && decide (v ≤ 1000))) = (decide (v < -1000) || decide (v > 1000)) := by
        rw [Bool.eq_iff_iff]; simp only [Bool.not_eq_true', Bool.and_eq_false_iff, decide_eq_false_iff_not, Bool.or_eq_true, decide_eq_true_eq]; omega
      rw [this]
    · intro st kc ke
      simp [r_spec_l04Matrix_L2]
  · intro st kc ke
    simp [r_spec_l04Matrix_L0]

theorem squareOk_L2 (N : Nat) : r_impl_squareOk_L2 N = r_spec_l04Matrix_L2 (fun a => some (n_l01In a)) N := by
  funext s kc ke
  simp only [r_impl_squareOk_L2, r_spec_l04Matrix_L2]
  congr 1; congr 1; funext x
  simp only [n_l01In, Option.bind_some]
  by_cases h1 : x < -1000
  · have : ¬ (-1000 ≤ x) := by omega
    simp [h1, this]
  · by_cases h2 : x > 1000
    · have : ¬ (x ≤ 1000) := by omega
      have : -1000 ≤ x := by omega
      simp [h1, h2, *]
    · have a1 : (x ≤ 1000) := by omega
      have a2 : -1000 ≤ x := by omega
      simp [h1, h2, a1, a2]

theorem e_squareOk : e_impl_squareOk = e_spec_l04Matrix := by
  funext a
  simp only [e_impl_squareOk, e_spec_l04Matrix, e_l01In, r_impl_squareOk, r_spec_l04Matrix]
  have : r_impl_squareOk_L0 N0 = r_spec_l04Matrix_L0 (fun a => some (n_l01In a)) N0 := by
    funext s kc ke
    simp only [r_impl_squareOk_L0, r_spec_l04Matrix_L0, squareOk_L2]
  rw [this]

theorem len_range (a : List (List Int)) (h : a.length ≤ 5) : n_l01In ((a.length : Int), 1, 5, ()) = !decide ((a.length : Int) < 1) := by
  rw [Bool.eq_iff_iff]
  simp [n_l01In]; omega

theorem e_IsWeightMatrix (a : List (List Int)) (ha : Sm.sm B1 a) : e_impl_IsWeightMatrix (a, ()) = e_spec_IsWeightMatrix (a, ()) := by
  simp only [e_impl_IsWeightMatrix, e_spec_IsWeightMatrix, r_impl_IsWeightMatrix, r_spec_IsWeightMatrix, e_squareOk, p_l01In, p_l04Matrix a ha, Option.bind_some]
  have : r_impl_IsWeightMatrix_L0 e_spec_l04Matrix N0 = r_spec_IsWeightMatrix_L0 e_spec_l01In e_spec_l04Matrix N0 := rfl
  rw [this]
  by_cases h : n_sq a = true
  · have h5 : a.length ≤ 5 := by
      simp only [n_sq, Bool.and_eq_true, Bool.not_eq_true', decide_eq_false_iff_not] at h; omega
    rw [len_range a h5, h]
    cases decide ((a.length : Int) < 1) <;> rfl
  · simp only [Bool.not_eq_true] at h
    rw [h]
    simp

theorem sq_row {a : List (List Int)} (h : n_sq a = true) {x : List Int} (hx : x ∈ a) : x.length = a.length ∧ ∀ v ∈ x, -1000 ≤ v ∧ v ≤ 1000 := by
  simp only [n_sq, Bool.and_eq_true, Bool.not_eq_true', List.any_eq_false, Bool.or_eq_true, not_or, decide_eq_false_iff_not, Bool.not_eq_true, decide_eq_true_eq] at h
  have := h.2 x hx
  refine ⟨by simpa using this.1, fun v hv => ?_⟩
  have := this.2 v hv
  omega

theorem some_IsWeightMatrix (a : List (List Int)) (ha : Sm.sm B1 a) : (e_spec_IsWeightMatrix (a, ())).isSome = true := by
  simp only [e_spec_IsWeightMatrix, r_spec_IsWeightMatrix, p_l01In, p_l04Matrix a ha, Option.bind_some]
  cases n_l01In ((a.length : Int), 1, 5, ()) with
  | false => rfl
  | true =>
    simp only [Bool.not_true, cond_false]
    cases h : n_sq a with
    | false => rfl
    | true =>
      simp only [Bool.not_true, cond_false]
      rw [iter_range (R := Bool) a (fun (_ : Unit) i => (a, a, (a.length : Int), i, ()))
        (fun _ i x k => rangeK x 0 (0 : Int) (fun sum j v k => Option.bind (a[j]?) fun x2 => Option.bind (x2[i]?) fun x3 => cond (!(decide (v = x3))) (some false) (cond (!(decide ((i : Int) = (j : Int)))) (cond (decide (v > 0)) (some false) (k (wr (sum + v)))) (k (wr (sum + v)))))
          fun sum => cond (!decide (sum = 0)) (some false) (k ())) ?_ ?_ (len_lt ha N0_gt)]
      · refine rangeK_isSome (fun _ _ => True) a 0 () trivial (fun st i x k _ hx hk => ?_) fun _ _ => rfl
        refine rangeK_isSome (fun _ _ => True) x 0 _ trivial (fun sum j v k _ hv hk => ?_) fun sum _ => ?_
        · simp only [Nat.zero_add]
          obtain ⟨hxl, _⟩ := sq_row h (List.mem_of_getElem? hx)
          have hj := get_lt hv
          have hi := get_lt hx
          have e1 : a[j]? = some a[j] := List.getElem?_eq_getElem (by omega)
          obtain ⟨hl2, _⟩ := sq_row h (List.getElem_mem (l := a) (n := j) (by omega))
          have e2 : a[j][i]? = some a[j][i] := List.getElem?_eq_getElem (by omega)
          rw [e1, Option.bind_some, e2, Option.bind_some]
          cases (!(decide (v = a[j][i]))) with
          | true => rfl
          | false =>
            simp only [cond_false]
            cases (!(decide ((i : Int) = (j : Int)))) with
            | true =>
              simp only [cond_true]
              cases decide (v > 0) with
              | true => rfl
              | false => exact hk _ trivial
            | false => exact hk _ trivial
        · cases (!decide (sum = 0)) with
          | true => rfl
          | false => exact hk _ trivial
      · intro st i x kc ke hx hi
        simp only [r_spec_IsWeightMatrix_L0, lt_len, hi, decide_true, cond_true, getI_nat, hx, Option.bind_some]
        have hxs : Sm.sm B1 x := sm_get ha hx
        rw [iter_range (R := Bool) x (fun (sum : Int) j => (a, (i : Int), sum, a, (a.length : Int), (i : Int), x, (x.length : Int), j, ()))
          (fun sum j v k => Option.bind (a[j]?) fun x2 => Option.bind (x2[i]?) fun x3 => cond (!(decide (v = x3))) (some false) (cond (!(decide ((i : Int) = (j : Int)))) (cond (decide (v > 0)) (some false) (k (wr (sum + v)))) (k (wr (sum + v))))) ?_ ?_ (len_lt hxs N0_gt)]
        · simp only [wr_len hi ha]
        · intro st j v kc ke hv hj
          simp only [r_spec_IsWeightMatrix_L2, lt_len, hj, decide_true, cond_true, getI_nat, hv, Option.bind_some]
          rw [wr_len hj hxs]
        · intro st kc ke
          simp only [r_spec_IsWeightMatrix_L2, not_lt_self, cond_false]
      · intro st kc ke
        simp only [r_spec_IsWeightMatrix_L0, not_lt_self, cond_false]

theorem law_IsWeightMatrix (a : List (List Int)) (ha : Sm.sm BB a) : e_laws_FnExactIsWeightMatrix (a, ()) = some true := by
  simp only [e_laws_FnExactIsWeightMatrix, r_laws_FnExactIsWeightMatrix]
  obtain ⟨r, e1, e2, e3⟩ := sz_IntSS a 1048576 ha (by omega) (by omega)
  rw [e1, Option.bind_some]
  by_cases hr : r < 0
  · simp [hr]
  · have hd : decide (r < 0) = false := by simp; omega
    have hb : Sm.sm B1 a := up_intSS B01 (e3 (by omega))
    rw [hd, cond_false, to_IntSS a hb]
    simp only [Option.bind_some]
    rw [e_IsWeightMatrix a hb]
    obtain ⟨v, hv⟩ := Option.isSome_iff_exists.1 (some_IsWeightMatrix a hb)
    rw [hv]
    simp only [Option.bind_some, beqB_self, Bool.not_true, cond_false, eq_IntSS a hb]
end Go.Sx.R

/- Networks: the program's test and the reference's are one. Conditions: none. -/
namespace Go.Sx.R
open Go Go.Sx

-- lists without doubles
theorem nodup_len {α : Type} [DecidableEq α] : ∀ {l m : List α}, l.Nodup → (∀ x ∈ l, x ∈ m) → l.length ≤ m.length
  | [], m, _, _ => Nat.zero_le _
  | x :: l, m, h, hs => by
    have hx : x ∈ m := hs x (by simp)
    have hd := List.nodup_cons.1 h
    have := nodup_len (l := l) (m := m.erase x) hd.2 fun y hy => (List.mem_erase_of_ne (by rintro rfl; exact hd.1 hy)).2 (hs y (by simp [hy]))
    rw [List.length_erase_of_mem hx] at this
    have hp : 0 < m.length := List.length_pos_of_mem hx
    simp only [List.length_cons]; omega

theorem nodup_all {α : Type} [DecidableEq α] {l m : List α} (h : l.Nodup) (hs : ∀ x ∈ l, x ∈ m) (hl : m.length ≤ l.length) : ∀ x ∈ m, x ∈ l := by
  intro x hx
  by_cases hxl : x ∈ l
  · exact hxl
  · have := nodup_len (l := x :: l) (m := m) (List.nodup_cons.2 ⟨hxl, h⟩) (by
      intro y hy
      rcases List.mem_cons.1 hy with rfl | hy
      · exact hx
      · exact hs y hy)
    simp at this; omega

/-- The numbers below n. -/
def ints (n : Nat) : List Int := (List.range n).map Int.ofNat
theorem mem_ints {n : Nat} {x : Int} : x ∈ ints n ↔ 0 ≤ x ∧ x < n := by
  simp only [ints, List.mem_map, List.mem_range]
  constructor
  · rintro ⟨i, hi, rfl⟩
    simp only [Int.ofNat_eq_natCast]; omega
  · intro h; exact ⟨x.toNat, by omega, by simp only [Int.ofNat_eq_natCast]; omega⟩
theorem len_ints {n : Nat} : (ints n).length = n := by simp [ints]
theorem nodup_ints {n : Nat} : (ints n).Nodup := by
  refine List.Pairwise.map Int.ofNat (fun (a b : Nat) (h : a ≠ b) => ?_) (List.nodup_range (n := n))
  intro e
  simp only [Int.ofNat_eq_natCast] at e
  exact h (by omega)

abbrev W3 := Int × Int × Int

-- looking in lists
theorem p_Has (xs : List Int) (v : Int) (hl : xs.length ≤ BB) : e_spec_l03Has (xs, v, ()) = some (decide (v ∈ xs)) := by
  simp only [e_spec_l03Has, r_spec_l03Has]
  rw [iter_range (R := Bool) xs (fun (_ : Unit) i => (v, xs, (xs.length : Int), i, ())) (fun _ i x k => cond (decide (x = v)) (some true) (k ())) ?_ ?_ (by have := N0_gt; omega) ()]
  · rw [rangeK_stop' (fun x => decide (x = v)) (some true) _ _ _ (fun _ _ _ _ => rfl)]
    have : xs.any (fun x => decide (x = v)) = decide (v ∈ xs) := by
      rw [Bool.eq_iff_iff]; simp
    rw [this]; cases decide (v ∈ xs) <;> rfl
  · intro st i x kc ke hx hi
    simp only [r_spec_l03Has_L0, lt_len, hi, decide_true, cond_true, getI_nat, hx, Option.bind_some]
    rw [wr_succ hi hl]
  · intro st kc ke
    simp only [r_spec_l03Has_L0, not_lt_self, cond_false]

theorem p_ContainsB (xs : List Bool) (v : Bool) (hl : xs.length ≤ BB) : e_slices_Contains_bool (xs, v, ()) = some (decide (v ∈ xs)) := by
  simp only [e_slices_Contains_bool, r_slices_Contains_bool, e_slices_Index_bool, r_slices_Index_bool]
  rw [iter_range (R := Int) xs (fun (_ : Unit) i => (xs, v, (xs.length : Int), i, ())) (fun _ i x k => cond (beqB v x) (some (i : Int)) (k ())) ?_ ?_ (by have := N0_gt; omega) ()]
  · have key : ∀ (l : List Bool) (i : Nat), (rangeK l i () (fun _ i x k => cond (beqB v x) (some (i : Int)) (k ())) fun _ => some (-1 : Int)).bind (fun r => some (decide (r ≥ 0))) = some (decide (v ∈ l)) := by
      intro l
      induction l with
      | nil => intro i; simp [rangeK]
      | cons x l ih =>
        intro i
        simp only [rangeK]
        by_cases e : v = x
        · subst e; rw [beqB_self]; simp
        · have : beqB v x = false := by revert e; cases v <;> cases x <;> simp [beqB]
          rw [this, cond_false, ih (i + 1)]
          simp [e]
    exact key xs 0
  · intro st i x kc ke hx hi
    simp only [r_slices_Index_bool_L0, lt_len, hi, decide_true, cond_true, getI_nat, hx, Option.bind_some]
    rw [wr_succ hi hl]
  · intro st kc ke
    simp only [r_slices_Index_bool_L0, not_lt_self, cond_false]

-- the order of wires
def n_cmp (x y : Int) : Int := if x < y then -1 else if x > y then 1 else 0
theorem p_Compare (x y : Int) : e_cmp_Compare_int (x, y, ()) = some (n_cmp x y) := by
  simp only [e_cmp_Compare_int, r_cmp_Compare_int, e_cmp_isNaN_int, r_cmp_isNaN_int, Option.bind_some, decide_true, Bool.not_true, cond_false, n_cmp]
  by_cases h1 : x < y
  · simp [h1]
  · by_cases h2 : x > y <;> simp [h1, h2]

theorem N0_big : 9223372036854775807 < N0 := N0_gt
theorem N0_succ : ∃ m, N0 = m + 5 := ⟨N0 - 5, by have := N0_big; omega⟩

def n_byEnds (x y : W3) : Int := if n_cmp x.1 y.1 = 0 then n_cmp x.2.1 y.2.1 else n_cmp x.1 y.1
theorem p_byEnds (x y : W3) : e_impl_byEnds (x, y, ()) = some (n_byEnds x y) := by
  simp only [e_impl_byEnds, r_impl_byEnds, p_Compare, Option.bind_some, e_cmp_Or_int, r_cmp_Or_int, n_byEnds]
  obtain ⟨m, hm⟩ := N0_succ
  rw [hm]
  by_cases h1 : n_cmp x.1 y.1 = 0
  · by_cases h2 : n_cmp x.2.1 y.2.1 = 0
    · simp [iterK, r_cmp_Or_int_L0, h1, h2, getI_zero, wr_id, getI]
    · simp [iterK, r_cmp_Or_int_L0, h1, h2, getI_zero, wr_id, getI]
  · simp [iterK, r_cmp_Or_int_L0, h1, getI_zero]

/-- Strictly before. -/
def lex (x y : W3) : Bool := decide (x.1 < y.1) || (decide (x.1 = y.1) && decide (x.2.1 < y.2.1))
theorem byEnds_lex (x y : W3) : decide (n_byEnds x y ≥ 0) = !lex x y := by
  rw [Bool.eq_iff_iff]
  by_cases a : x.1 < y.1
  · have a2 : ¬ x.1 > y.1 := by omega
    simp [n_byEnds, n_cmp, lex, a]
  · by_cases b : x.1 > y.1
    · have e : ¬ x.1 = y.1 := by omega
      simp [n_byEnds, n_cmp, lex, a, b, e]
    · have e : x.1 = y.1 := by omega
      by_cases c : x.2.1 < y.2.1
      · simp [n_byEnds, n_cmp, lex, e, c]
      · by_cases d : x.2.1 > y.2.1 <;> simp [n_byEnds, n_cmp, lex, e, c, d]

/-- A wire at place i that does not fit. -/
def badW (nodes : Int) (ws : List W3) (i : Nat) (x : W3) : Bool :=
  !(decide (0 ≤ x.1) && decide (x.1 < x.2.1) && decide (x.2.1 < nodes) && decide (1 ≤ x.2.2) && decide (x.2.2 ≤ 200)) || (match i with | 0 => false | j + 1 => match ws[j]? with | some y => !lex y x | none => false)

def wiresBad (n : TNet) : Bool := (n.2.2.2.zipIdx 0).any fun p => badW n.1 n.2.2.2 p.2 p.1
def hdrOk (n : TNet) : Bool := decide (1 ≤ n.1) && decide (n.1 ≤ 5) && decide (1 ≤ n.2.1) && decide (n.2.1 ≤ n.1) && decide (1 ≤ n.2.2.1) && decide (n.2.2.1 ≤ 1000)

theorem netL0_impl (n : TNet) (hn : Sm.sm B1 n) (k : _ → Option Bool) :
    iterK (r_impl_NetOk_L0 e_slices_Contains_bool e_impl_byEnds N0) N0 (n, n.2.2.2, (n.2.2.2.length : Int), 0, ()) k = cond (wiresBad n) (some false) (k (n, n.2.2.2, (n.2.2.2.length : Int), (n.2.2.2.length : Int), ())) := by
  have hw : Sm.sm B1 n.2.2.2 := hn.2.2.2
  rw [iter_range (R := Bool) n.2.2.2 (fun (_ : Unit) i => (n, n.2.2.2, (n.2.2.2.length : Int), i, ())) (fun _ i x k => cond (badW n.1 n.2.2.2 i x) (some false) (k ())) ?_ ?_ (len_lt hw N0_gt) ()]
  · rw [rangeK_stop (fun i x => badW n.1 n.2.2.2 i x) (some false) _ _ _ (fun j x k _ => rfl)]
    rfl
  · intro st i x kc ke hx hi
    simp only [r_impl_NetOk_L0, lt_len, hi, decide_true, cond_true, getI_nat, hx, Option.bind_some, wr_len hi hw]
    have hb : ∀ b : Bool, (decide (x.1 < 0) = true → b = true) → True := fun _ _ => trivial
    by_cases h1 : x.1 < 0
    · have : badW n.1 n.2.2.2 i x = true := by simp only [badW, Bool.or_eq_true, Bool.not_eq_true', Bool.and_eq_false_iff, decide_eq_false_iff_not]; left; omega
      simp [h1, this]
    by_cases h2 : x.1 ≥ x.2.1
    · have : badW n.1 n.2.2.2 i x = true := by simp only [badW, Bool.or_eq_true, Bool.not_eq_true', Bool.and_eq_false_iff, decide_eq_false_iff_not]; left; omega
      simp [h1, h2, this]
    by_cases h3 : x.2.1 ≥ n.1
    · have : badW n.1 n.2.2.2 i x = true := by simp only [badW, Bool.or_eq_true, Bool.not_eq_true', Bool.and_eq_false_iff, decide_eq_false_iff_not]; left; omega
      simp [h1, h2, h3, this]
    by_cases h4 : x.2.2 < 1
    · have : badW n.1 n.2.2.2 i x = true := by simp only [badW, Bool.or_eq_true, Bool.not_eq_true', Bool.and_eq_false_iff, decide_eq_false_iff_not]; left; omega
      simp [h1, h2, h3, h4, this]
    by_cases h5 : x.2.2 > 200
    · have : badW n.1 n.2.2.2 i x = true := by simp only [badW, Bool.or_eq_true, Bool.not_eq_true', Bool.and_eq_false_iff, decide_eq_false_iff_not]; left; omega
      simp [h1, h2, h3, h4, h5, this]
    have hg : (!(decide (0 ≤ x.1) && decide (x.1 < x.2.1) && decide (x.2.1 < n.1) && decide (1 ≤ x.2.2) && decide (x.2.2 ≤ 200))) = false := by
      simp only [Bool.not_eq_false', Bool.and_eq_true, decide_eq_true_eq]; omega
    cases i with
    | zero =>
      have hbad : badW n.1 n.2.2.2 0 x = false := by simp only [badW, hg, Bool.or_false]
      simp [h1, h2, h3, h4, h5, hbad]
    | succ j =>
      have hj : n.2.2.2[j]? = some n.2.2.2[j] := List.getElem?_eq_getElem (by omega)
      have hbad : badW n.1 n.2.2.2 (j + 1) x = !lex n.2.2.2[j] x := by simp only [badW, hg, Bool.false_or, hj]
      have hwr : wr (((j + 1 : Nat) : Int) - 1) = (j : Int) := by
        rw [wr_id (by omega) (by have := hw.1; simp only [B1] at this; omega)]; omega
      have hpos : decide (((j + 1 : Nat) : Int) > 0) = true := by rw [decide_eq_true_eq]; omega
      rw [hbad, hpos, hwr, getI_nat, hj]
      simp only [cond_true, Option.bind_some, p_byEnds, byEnds_lex]
      simp [h1, h2, h3, h4, h5]
  · intro st kc ke
    simp only [r_impl_NetOk_L0, not_lt_self, cond_false]

theorem netL0_spec (n : TNet) (hn : Sm.sm B1 n) (k : _ → Option Bool) (hn1 : 1 ≤ n.1) (hn5 : n.1 ≤ 5) :
    iterK (r_spec_NetOk_L0 e_spec_l01In e_spec_l03Reach N0) N0 (n, n.2.2.2, (n.2.2.2.length : Int), 0, ()) k = cond (wiresBad n) (some false) (k (n, n.2.2.2, (n.2.2.2.length : Int), (n.2.2.2.length : Int), ())) := by
  have hw : Sm.sm B1 n.2.2.2 := hn.2.2.2
  rw [iter_range (R := Bool) n.2.2.2 (fun (_ : Unit) i => (n, n.2.2.2, (n.2.2.2.length : Int), i, ())) (fun _ i x k => cond (badW n.1 n.2.2.2 i x) (some false) (k ())) ?_ ?_ (len_lt hw N0_gt) ()]
  · rw [rangeK_stop (fun i x => badW n.1 n.2.2.2 i x) (some false) _ _ _ (fun j x k _ => rfl)]
    rfl
  · intro st i x kc ke hx hi
    simp only [r_spec_NetOk_L0, lt_len, hi, decide_true, cond_true, getI_nat, hx, Option.bind_some, wr_len hi hw, p_l01In, n_l01In]
    have hw1 : wr (n.1 - 1) = n.1 - 1 := wr_id (by omega) (by omega)
    rw [hw1]
    by_cases h1 : 0 ≤ x.1 ∧ x.1 ≤ n.1 - 1
    · have hw2 : wr (x.1 + 1) = x.1 + 1 := wr_id (by omega) (by omega)
      rw [hw2]
      by_cases h2 : x.1 + 1 ≤ x.2.1 ∧ x.2.1 ≤ n.1 - 1
      · by_cases h3 : 1 ≤ x.2.2 ∧ x.2.2 ≤ 200
        · have hg : (!(decide (0 ≤ x.1) && decide (x.1 < x.2.1) && decide (x.2.1 < n.1) && decide (1 ≤ x.2.2) && decide (x.2.2 ≤ 200))) = false := by
            simp only [Bool.not_eq_false', Bool.and_eq_true, decide_eq_true_eq]; omega
          cases i with
          | zero =>
            have hbad : badW n.1 n.2.2.2 0 x = false := by simp only [badW, hg, Bool.or_false]
            simp [h1, h2, h3, hbad]
          | succ j =>
            have hj : n.2.2.2[j]? = some n.2.2.2[j] := List.getElem?_eq_getElem (by omega)
            have hbad : badW n.1 n.2.2.2 (j + 1) x = !lex n.2.2.2[j] x := by simp only [badW, hg, Bool.false_or, hj]
            have hwr : wr (((j + 1 : Nat) : Int) - 1) = (j : Int) := by
              rw [wr_id (by omega) (by have := hw.1; simp only [B1] at this; omega)]; omega
            have hpos : decide (((j + 1 : Nat) : Int) > 0) = true := by rw [decide_eq_true_eq]; omega
            rw [hbad, hpos, hwr, getI_nat, hj]
            simp only [cond_true, Option.bind_some, h1, h2, h3, decide_true, Bool.and_self, Bool.not_true, cond_false, lex]
            by_cases e1 : x.1 < n.2.2.2[j].1
            · have a1 : ¬ n.2.2.2[j].1 < x.1 := by omega
              have a2 : ¬ n.2.2.2[j].1 = x.1 := by omega
              simp [e1, a1, a2]
            · by_cases e2 : x.1 = n.2.2.2[j].1
              · by_cases e3 : x.2.1 ≤ n.2.2.2[j].2.1
                · have a3 : ¬ n.2.2.2[j].2.1 < x.2.1 := by omega
                  simp [e2, e3, a3]
                · have a3 : n.2.2.2[j].2.1 < x.2.1 := by omega
                  simp [e2, e3, a3]
              · have a1 : n.2.2.2[j].1 < x.1 := by omega
                simp [e1, e2, a1]
        · have : badW n.1 n.2.2.2 i x = true := by simp only [badW, Bool.or_eq_true, Bool.not_eq_true', Bool.and_eq_false_iff, decide_eq_false_iff_not]; left; omega
          have h3' : (decide (1 ≤ x.2.2) && decide (x.2.2 ≤ 200)) = false := by simp only [Bool.and_eq_false_iff, decide_eq_false_iff_not]; omega
          simp [h1, h2, h3', this]
      · have : badW n.1 n.2.2.2 i x = true := by simp only [badW, Bool.or_eq_true, Bool.not_eq_true', Bool.and_eq_false_iff, decide_eq_false_iff_not]; left; omega
        have h2' : (decide (x.1 + 1 ≤ x.2.1) && decide (x.2.1 ≤ n.1 - 1)) = false := by simp only [Bool.and_eq_false_iff, decide_eq_false_iff_not]; omega
        simp [h1, h2', this]
    · have : badW n.1 n.2.2.2 i x = true := by simp only [badW, Bool.or_eq_true, Bool.not_eq_true', Bool.and_eq_false_iff, decide_eq_false_iff_not]; left; omega
      have h1' : (decide (0 ≤ x.1) && decide (x.1 ≤ n.1 - 1)) = false := by simp only [Bool.and_eq_false_iff, decide_eq_false_iff_not]; omega
      simp [h1', this]
  · intro st kc ke
    simp only [r_spec_NetOk_L0, not_lt_self, cond_false]
-- what can be reached
inductive Rc (ws : List W3) : Int → Prop
  | zero : Rc ws 0
  | ab {e : W3} : e ∈ ws → Rc ws e.1 → Rc ws e.2.1
  | ba {e : W3} : e ∈ ws → Rc ws e.2.1 → Rc ws e.1

/-- The wires lie among the nodes. -/
def InW (nodes : Nat) (ws : List W3) : Prop := ∀ e ∈ ws, 0 ≤ e.1 ∧ e.1 < e.2.1 ∧ e.2.1 < nodes

theorem Rc.inn {nodes : Nat} {ws : List W3} (h0 : 0 < nodes) (hw : InW nodes ws) {v : Int} (h : Rc ws v) : 0 ≤ v ∧ v < nodes := by
  cases h with
  | zero => omega
  | ab he _ => have := hw _ he; omega
  | ba he _ => have := hw _ he; omega

-- the program's marks
def gt (st : List Bool) (v : Int) : Bool := (st[v.toNat]?).getD false
def upd (st : List Bool) (e : W3) : List Bool := if gt st e.1 = true ∨ gt st e.2.1 = true then (st.set e.1.toNat true).set e.2.1.toNat true else st
def cnt (st : List Bool) : Nat := (st.filter id).length

theorem cnt_le (st : List Bool) : cnt st ≤ st.length := List.length_filter_le _ _

theorem cnt_set : ∀ (st : List Bool) (i : Nat), cnt st ≤ cnt (st.set i true) ∧ (st[i]? = some false → cnt st + 1 ≤ cnt (st.set i true))
  | [], i => by simp [cnt]
  | b :: st, 0 => by cases b <;> simp [cnt]
  | b :: st, i + 1 => by
    have := cnt_set st i
    cases b <;> simp_all [cnt]

theorem gt_set (st : List Bool) (i : Nat) (v : Int) : gt (st.set i true) v = (gt st v || (decide (i = v.toNat) && decide (i < st.length))) := by
  simp only [gt, List.getElem?_set]
  by_cases e : i = v.toNat
  · subst e
    by_cases h : v.toNat < st.length
    · simp [h]
    · simp [h]
  · simp [e]

theorem upd_len (st : List Bool) (e : W3) : (upd st e).length = st.length := by
  unfold upd; split <;> simp

theorem upd_mono {st : List Bool} {e : W3} {v : Int} (h : gt st v = true) : gt (upd st e) v = true := by
  unfold upd; split
  · simp [gt_set, h]
  · exact h

theorem upd_sound {ws : List W3} {st : List Bool} {e : W3} {nodes : Nat} (hl : st.length = nodes) (hw : InW nodes ws) (he : e ∈ ws) (h : ∀ v, 0 ≤ v → gt st v = true → Rc ws v) : ∀ v, 0 ≤ v → gt (upd st e) v = true → Rc ws v := by
  intro v hv hg
  obtain ⟨h1, h2, h3⟩ := hw e he
  unfold upd at hg
  split at hg
  · rename_i hor
    have ha : Rc ws e.1 ∧ Rc ws e.2.1 := by
      rcases hor with hor | hor
      · have := h _ h1 hor; exact ⟨this, .ab he this⟩
      · have := h _ (by omega) hor; exact ⟨.ba he this, this⟩
    simp only [gt_set, Bool.or_eq_true, Bool.and_eq_true, decide_eq_true_eq] at hg
    rcases hg with (hg | hg) | hg
    · exact h v hv hg
    · have : e.1 = v := by omega
      rw [← this]; exact ha.1
    · have : e.2.1 = v := by omega
      rw [← this]; exact ha.2
  · exact h v hv hg

theorem gt_false {st : List Bool} {v : Int} (h : gt st v = false) (hl : v.toNat < st.length) : st[v.toNat]? = some false := by
  have : st[v.toNat]? = some st[v.toNat] := List.getElem?_eq_getElem hl
  unfold gt at h
  rw [this] at h ⊢
  simpa using h

theorem upd_cnt (st : List Bool) (e : W3) : cnt st ≤ cnt (upd st e) := by
  unfold upd; split
  · exact Nat.le_trans (cnt_set st _).1 (cnt_set _ _).1
  · exact Nat.le_refl _

theorem upd_grow {st : List Bool} {e : W3} {nodes : Nat} (hl : st.length = nodes) (hi : 0 ≤ e.1 ∧ e.1 < e.2.1 ∧ e.2.1 < nodes) (h : gt st e.1 ≠ gt st e.2.1) : cnt st + 1 ≤ cnt (upd st e) := by
  have hor : gt st e.1 = true ∨ gt st e.2.1 = true := by
    revert h; cases gt st e.1 <;> cases gt st e.2.1 <;> simp
  unfold upd
  rw [if_pos hor]
  by_cases h1 : gt st e.1 = true
  · have h2 : gt st e.2.1 = false := by
      revert h; rw [h1]; cases gt st e.2.1 <;> simp
    have : gt (st.set e.1.toNat true) e.2.1 = false := by
      rw [gt_set, h2]; simp; omega
    have hs := gt_false this (by simp; omega)
    exact Nat.le_trans (Nat.add_le_add_right (cnt_set st _).1 1) ((cnt_set _ _).2 hs)
  · have h1' : gt st e.1 = false := by simpa using h1
    have hs := gt_false h1' (by omega)
    exact Nat.le_trans ((cnt_set st _).2 hs) (cnt_set _ _).1

theorem upd_fix {st : List Bool} {e : W3} {nodes : Nat} (hl : st.length = nodes) (hi : 0 ≤ e.1 ∧ e.1 < e.2.1 ∧ e.2.1 < nodes) (h : gt st e.1 = gt st e.2.1) : upd st e = st := by
  unfold upd
  split
  · rename_i hor
    have hb : gt st e.1 = true ∧ gt st e.2.1 = true := by
      rw [h] at hor ⊢; rcases hor with hor | hor <;> exact ⟨hor, hor⟩
    have one : ∀ (v : Int), gt st v = true → st.set v.toNat true = st := by
      intro v hv
      apply List.ext_getElem?; intro j
      rw [List.getElem?_set]
      split
      · rename_i ej; subst ej
        unfold gt at hv
        split
        · rename_i hlt
          rw [List.getElem?_eq_getElem hlt] at hv ⊢
          simp at hv; rw [hv]
        · rename_i hlt
          rw [List.getElem?_eq_none (by omega)]
      · rfl
    rw [one _ hb.1, one _ hb.2]
  · rfl

def Closed (ws : List W3) (st : List Bool) : Prop := ∀ e ∈ ws, gt st e.1 = gt st e.2.1

theorem round_fix {nodes : Nat} : ∀ {ws : List W3} {st : List Bool}, st.length = nodes → InW nodes ws → Closed ws st → ws.foldl upd st = st
  | [], _, _, _, _ => rfl
  | e :: ws, st, hl, hw, hc => by
    simp only [List.foldl_cons]
    rw [upd_fix hl (hw e (by simp)) (hc e (by simp))]
    exact round_fix hl (fun x hx => hw x (by simp [hx])) fun x hx => hc x (by simp [hx])

theorem round_mono {nodes : Nat} : ∀ {ws : List W3} {st : List Bool}, cnt st ≤ cnt (ws.foldl upd st)
  | [], _ => Nat.le_refl _
  | e :: ws, st => Nat.le_trans (upd_cnt st e) (round_mono (nodes := nodes) (ws := ws))

theorem round_grow {nodes : Nat} : ∀ {ws : List W3} {st : List Bool}, st.length = nodes → InW nodes ws → Closed ws st ∨ cnt st + 1 ≤ cnt (ws.foldl upd st)
  | [], _, _, _ => .inl fun _ h => by simp at h
  | e :: ws, st, hl, hw => by
    by_cases h : gt st e.1 = gt st e.2.1
    · simp only [List.foldl_cons, upd_fix hl (hw e (by simp)) h]
      rcases round_grow (ws := ws) hl (fun x hx => hw x (by simp [hx])) with hc | hg
      · refine .inl fun x hx => ?_
        rcases List.mem_cons.1 hx with rfl | hx
        · exact h
        · exact hc x hx
      · exact .inr hg
    · refine .inr ?_
      simp only [List.foldl_cons]
      exact Nat.le_trans (upd_grow hl (hw e (by simp)) h) (round_mono (nodes := nodes))

theorem round_len : ∀ {ws : List W3} {st : List Bool}, (ws.foldl upd st).length = st.length
  | [], _ => rfl
  | e :: ws, st => by simp only [List.foldl_cons]; rw [round_len, upd_len]

theorem round_keep {v : Int} : ∀ {ws : List W3} {st : List Bool}, gt st v = true → gt (ws.foldl upd st) v = true
  | [], _, h => h
  | e :: ws, st, h => by simp only [List.foldl_cons]; exact round_keep (upd_mono h)

theorem round_sound {ws0 : List W3} {nodes : Nat} (hw : InW nodes ws0) : ∀ {ws : List W3} {st : List Bool}, (∀ e ∈ ws, e ∈ ws0) → st.length = nodes → (∀ v, 0 ≤ v → gt st v = true → Rc ws0 v) → ∀ v, 0 ≤ v → gt (ws.foldl upd st) v = true → Rc ws0 v
  | [], _, _, _, h => h
  | e :: ws, st, hs, hl, h => by
    simp only [List.foldl_cons]
    exact round_sound hw (fun x hx => hs x (by simp [hx])) ((upd_len st e).trans hl) (upd_sound hl hw (hs e (by simp)) h)

/-- All nodes can be reached. -/
noncomputable def conn (n : TNet) : Bool := open Classical in decide (∀ v : Int, 0 ≤ v → v < n.1 → Rc n.2.2.2 v)

theorem closed_all {ws : List W3} {st : List Bool} (hc : Closed ws st) (h0 : gt st 0 = true) : ∀ v, Rc ws v → gt st v = true := by
  intro v h
  induction h with
  | zero => exact h0
  | ab he _ ih => rw [← hc _ he]; exact ih
  | ba he _ ih => rw [hc _ he]; exact ih

theorem all_true {st : List Bool} {nodes : Nat} (hl : st.length = nodes) : decide (false ∈ st) = false ↔ ∀ v : Int, 0 ≤ v → v < nodes → gt st v = true := by
  constructor
  · intro h v h0 h1
    simp only [decide_eq_false_iff_not] at h
    cases hg : gt st v with
    | true => rfl
    | false => exact absurd (List.mem_of_getElem? (gt_false hg (by omega))) h
  · intro h
    simp only [decide_eq_false_iff_not]
    intro hm
    obtain ⟨i, hi⟩ := List.getElem?_of_mem hm
    have := h (i : Int) (by omega) (by have := get_lt hi; omega)
    simp [gt, hi] at this

end Go.Sx.R

/- Networks: connected or not, by the program's marks and by the reference's queue. Conditions: none. -/
namespace Go.Sx.R
open Go Go.Sx

theorem getI_gt {st : List Bool} {v : Int} (h0 : 0 ≤ v) (h1 : v < st.length) : getI st v = some (gt st v) := by
  have e : v = ((v.toNat : Nat) : Int) := by omega
  have hl : v.toNat < st.length := by omega
  rw [e, getI_nat, gt, Int.toNat_natCast, List.getElem?_eq_getElem hl]; rfl

def met4 (st : List Bool) (_ : Nat) (x : W3) (k : List Bool → Option Bool) : Option Bool :=
  Option.bind (getI st x.1) fun b => cond b (Option.bind (getI st x.1) fun _ => Option.bind (getI (st.set x.1.toNat true) x.2.1) fun _ => k ((st.set x.1.toNat true).set x.2.1.toNat true))
    (Option.bind (getI st x.2.1) fun b2 => cond b2 (Option.bind (getI st x.1) fun _ => Option.bind (getI (st.set x.1.toNat true) x.2.1) fun _ => k ((st.set x.1.toNat true).set x.2.1.toNat true)) (k st))

theorem met4_upd {st : List Bool} {j : Nat} {x : W3} {k : List Bool → Option Bool} (hi : 0 ≤ x.1 ∧ x.1 < x.2.1 ∧ x.2.1 < st.length) : met4 st j x k = k (upd st x) := by
  have g1 := getI_gt (st := st) (v := x.1) (by omega) (by omega)
  have g2 := getI_gt (st := st) (v := x.2.1) (by omega) (by omega)
  have g3 := getI_gt (st := st.set x.1.toNat true) (v := x.2.1) (by omega) (by simp; omega)
  simp only [met4, g1, g2, g3, Option.bind_some, upd]
  cases h1 : gt st x.1 <;> cases h2 : gt st x.2.1 <;> simp

theorem met_inner (n : TNet) (hn : Sm.sm B1 n) (i : Int) (st : List Bool) (hl : InW st.length n.2.2.2) (k : _ → Option Bool) :
    iterK (r_impl_NetOk_L4 e_slices_Contains_bool e_impl_byEnds N0) N0 (n, st, n.1, i, n.2.2.2, (n.2.2.2.length : Int), 0, ()) k =
      k (n, n.2.2.2.foldl upd st, n.1, i, n.2.2.2, (n.2.2.2.length : Int), (n.2.2.2.length : Int), ()) := by
  have hw : Sm.sm B1 n.2.2.2 := hn.2.2.2
  rw [iter_range (R := Bool) n.2.2.2 (fun (st : List Bool) j => (n, st, n.1, i, n.2.2.2, (n.2.2.2.length : Int), j, ())) met4 ?_ ?_ (len_lt hw N0_gt)]
  · have := (rangeK_foldP (step := met4) (fun _ s => s.length = st.length) (fun s _ x => upd s x) (fun st' => k (n, st', n.1, i, n.2.2.2, (n.2.2.2.length : Int), (n.2.2.2.length : Int), ())) n.2.2.2 0 st rfl
      (fun s j x k hs hx => ⟨met4_upd (by rw [hs]; exact hl x (List.mem_of_getElem? hx)), by rw [upd_len, hs]⟩)).1
    rw [this]
    have key : ∀ (l : List W3) (i : Nat) (s : List Bool), foldI (fun s _ x => upd s x) l i s = l.foldl upd s := by
      intro l
      induction l with
      | nil => intros; rfl
      | cons x l ih => intro i s; simp only [foldI, List.foldl_cons, ih]
    rw [key]
  · intro st j x kc ke hx hj
    simp only [r_impl_NetOk_L4, lt_len, hj, decide_true, cond_true, getI_nat, hx, Option.bind_some, wr_len hj hw, met4]
  · intro st kc ke
    simp only [r_impl_NetOk_L4, not_lt_self, cond_false]

/-- The marks at the end. -/
theorem met_outer (n : TNet) (hn : Sm.sm B1 n) (m : Nat) (hm : n.1 = m) (h1 : 1 ≤ m) (hw : InW m n.2.2.2) (st : List Bool) (hl : st.length = m) (hs : ∀ v, 0 ≤ v → gt st v = true → Rc n.2.2.2 v) (h0 : gt st 0 = true) (hc : 1 ≤ cnt st) (k : _ → Option Bool) :
    ∃ st', st'.length = m ∧ Closed n.2.2.2 st' ∧ (∀ v, 0 ≤ v → gt st' v = true → Rc n.2.2.2 v) ∧ gt st' 0 = true ∧
      iterK (r_impl_NetOk_L2 e_slices_Contains_bool e_impl_byEnds N0) N0 (n, st, n.1, 0, ()) k = k (n, st', n.1, n.1, ()) := by
  have hb : m ≤ 9223372036854775807 := by have := hn.1.2; omega
  have hlen : (List.range m).length = m := by simp
  have hnm : n.1 = ((List.range m).length : Int) := by simp [hm]
  have fp := iter_fold (R := Bool) (body := r_impl_NetOk_L2 e_slices_Contains_bool e_impl_byEnds N0) (List.range m) (fun (st : List Bool) i => (n, st, n.1, i, ()))
    (fun i st => st.length = m ∧ (∀ v, 0 ≤ v → gt st v = true → Rc n.2.2.2 v) ∧ gt st 0 = true ∧ (Closed n.2.2.2 st ∨ i + 1 ≤ cnt st)) (fun st _ _ => n.2.2.2.foldl upd st)
    (fun st j x kc ke ⟨p1, p2, p3, p4⟩ hx hj => by
      refine ⟨?_, round_len.trans p1, round_sound hw (fun e he => he) p1 p2, round_keep p3, ?_⟩
      · have hlt : decide ((j : Int) < n.1) = true := by rw [decide_eq_true_eq, hnm]; exact Int.ofNat_lt.2 hj
        simp only [r_impl_NetOk_L2, hlt, cond_true]
        rw [met_inner n hn _ st (by rw [p1]; exact hw)]
        rw [wr_succ hj (by omega)]
      · rcases p4 with p4 | p4
        · left; rw [round_fix p1 hw p4]; exact p4
        · rcases round_grow p1 hw with q | q
          · left; rw [round_fix p1 hw q]; exact q
          · right; omega)
    (fun st kc ke _ => by
      have hlt : decide ((((List.range m).length : Nat) : Int) < n.1) = false := by rw [decide_eq_false_iff_not, hnm]; omega
      simp only [r_impl_NetOk_L2, hlt, cond_false]) (N := N0) (by have := N0_big; omega) st ⟨hl, hs, h0, .inr hc⟩ k
  refine ⟨foldI (fun st _ _ => n.2.2.2.foldl upd st) (List.range m) 0 st, fp.2.1, ?_, fp.2.2.1, fp.2.2.2.1, ?_⟩
  · rcases fp.2.2.2.2 with q | q
    · exact q
    · have := cnt_le (foldI (fun st _ _ => n.2.2.2.foldl upd st) (List.range m) 0 st)
      rw [fp.2.1] at this
      simp only [hlen] at q; omega
  · rw [fp.1, hlen, hm]

theorem wiresOk {n : TNet} {m : Nat} (hm : n.1 = m) (h : wiresBad n = false) : InW m n.2.2.2 := by
  intro e he
  obtain ⟨i, hi⟩ := List.getElem?_of_mem he
  simp only [wiresBad, List.any_eq_false] at h
  have := h (e, i) (by rw [List.mem_zipIdx_iff_getElem?]; exact hi)
  simp only [badW, Bool.not_eq_true, Bool.or_eq_false_iff, Bool.not_eq_false', Bool.and_eq_true, decide_eq_true_eq] at this
  omega

noncomputable def netok (n : TNet) : Bool := hdrOk n && !wiresBad n && conn n

theorem p_NetOk (n : TNet) (hn : Sm.sm B1 n) : e_impl_NetOk (n, ()) = some (netok n) := by
  simp only [e_impl_NetOk, r_impl_NetOk, netL0_impl n hn]
  by_cases hh : hdrOk n = true
  · have hh' := hh
    simp only [hdrOk, Bool.and_eq_true, decide_eq_true_eq] at hh'
    obtain ⟨⟨⟨⟨⟨q1, q2⟩, q3⟩, q4⟩, q5⟩, q6⟩ := hh'
    have d1 : decide (n.1 < 1) = false := by rw [decide_eq_false_iff_not]; omega
    have d2 : decide (n.1 > 5) = false := by rw [decide_eq_false_iff_not]; omega
    have d3 : decide (n.2.1 < 1) = false := by rw [decide_eq_false_iff_not]; omega
    have d4 : decide (n.2.1 > n.1) = false := by rw [decide_eq_false_iff_not]; omega
    have d5 : decide (n.2.2.1 < 1) = false := by rw [decide_eq_false_iff_not]; omega
    have d6 : decide (n.2.2.1 > 1000) = false := by rw [decide_eq_false_iff_not]; omega
    simp only [d1, d2, d3, d4, d5, d6, cond_false]
    cases hb : wiresBad n with
    | true => simp [netok, hh, hb]
    | false =>
      simp only [cond_false]
      obtain ⟨m, hm⟩ : ∃ m : Nat, n.1 = m := ⟨n.1.toNat, by omega⟩
      have hw := wiresOk hm hb
      have d7 : decide (0 ≤ n.1) = true := by rw [decide_eq_true_eq]; omega
      have hm' : n.1.toNat = m := by omega
      simp only [d7, cond_true, hm', ble_true (show m ≤ 17179869184 by omega)]
      have g0 : getI (List.replicate m false) 0 = some false := by
        rw [getI_zero, List.getElem?_replicate, if_pos (by omega)]
      simp only [g0, Option.bind_some, Int.toNat_zero]
      obtain ⟨st', p1, p2, p3, p4, p5⟩ := met_outer n hn m hm (by omega) hw ((List.replicate m false).set 0 true) (by simp)
        (fun v hv hg => by
          rw [gt_set] at hg
          have hz : gt (List.replicate m false) v = false := by
            simp only [gt, List.getElem?_replicate]; split <;> rfl
          rw [hz] at hg
          simp at hg
          have : v = 0 := by omega
          subst this; exact .zero)
        (by rw [gt_set]; simp; omega)
        (by have := (cnt_set (List.replicate m false) 0).2 (by rw [List.getElem?_replicate, if_pos (by omega)]); omega)
        (fun s3 => Option.bind (e_slices_Contains_bool (s3.2.1, false, ())) fun x4 => some (!x4))
      rw [p5]
      simp only [p_ContainsB st' false (show st'.length ≤ BB by rw [p1]; exact Nat.le_trans (show m ≤ 5 by omega) (by decide)), Option.bind_some, netok, hh, hb, Bool.not_false, Bool.true_and, Option.some.injEq]
      have hall := all_true p1
      by_cases hc : ∀ v : Int, 0 ≤ v → v < n.1 → Rc n.2.2.2 v
      · have e1 : conn n = true := by simp only [conn, decide_eq_true_eq]; exact hc
        rw [e1, hall.2 fun v h0 h1 => closed_all p2 p4 v (hc v h0 (by omega))]; rfl
      · have e1 : conn n = false := by simp only [conn, decide_eq_false_iff_not]; exact hc
        have : decide (false ∈ st') = true := by
          cases hd : decide (false ∈ st') with
          | true => rfl
          | false => exact absurd (fun v h0 h1 => p3 v h0 (hall.1 hd v h0 (by omega))) hc
        rw [e1, this]; rfl
  · simp only [Bool.not_eq_true] at hh
    have e : netok n = false := by simp [netok, hh]
    rw [e]
    have hh' := hh
    simp only [hdrOk, Bool.and_eq_false_iff, decide_eq_false_iff_not] at hh'
    by_cases d1 : n.1 < 1
    · simp [d1]
    by_cases d2 : n.1 > 5
    · simp [d1, d2]
    by_cases d3 : n.2.1 < 1
    · simp [d1, d2, d3]
    by_cases d4 : n.2.1 > n.1
    · simp [d1, d2, d3, d4]
    by_cases d5 : n.2.2.1 < 1
    · simp [d1, d2, d3, d4, d5]
    by_cases d6 : n.2.2.1 > 1000
    · simp [d1, d2, d3, d4, d5, d6]
    omega

end Go.Sx.R

/- Networks: the reference's queue. Conditions: none. -/
namespace Go.Sx.R
open Go Go.Sx

def addIf (c : Bool) (v : Int) (q : List Int) : List Int := if c = true ∧ v ∉ q then q ++ [v] else q

theorem addIf_mem {c : Bool} {v u : Int} {q : List Int} (h : u ∈ q) : u ∈ addIf c v q := by
  unfold addIf; split
  · simp [h]
  · exact h
theorem addIf_in {v : Int} {q : List Int} : v ∈ addIf true v q := by
  unfold addIf; split
  · simp
  · rename_i h; simpa using h
theorem addIf_get {c : Bool} {v u : Int} {q : List Int} {i : Nat} (h : q[i]? = some u) : (addIf c v q)[i]? = some u := by
  unfold addIf; split
  · rw [List.getElem?_append_left (get_lt h)]; exact h
  · exact h
theorem addIf_len {c : Bool} {v : Int} {q : List Int} : q.length ≤ (addIf c v q).length := by
  unfold addIf; split <;> simp

/-- What holds of the queue. -/
structure QOk (ws : List W3) (q : List Int) : Prop where
  nodup : q.Nodup
  rc : ∀ v ∈ q, Rc ws v
  zero : (0 : Int) ∈ q

theorem QOk.add {ws : List W3} {q : List Int} (h : QOk ws q) {c : Bool} {v : Int} (hv : c = true → Rc ws v) : QOk ws (addIf c v q) := by
  unfold addIf; split
  · rename_i hc
    refine ⟨?_, fun u hu => ?_, by simp [h.zero]⟩
    · rw [List.nodup_append]
      refine ⟨h.nodup, by simp, fun a ha b hb e => ?_⟩
      simp at hb; subst hb; subst e; exact hc.2 ha
    · rcases List.mem_append.1 hu with hu | hu
      · exact h.rc u hu
      · simp at hu; subst hu; exact hv hc.1
  · exact h

theorem QOk.len {ws : List W3} {q : List Int} {m : Nat} (h : QOk ws q) (h0 : 0 < m) (hw : InW m ws) : q.length ≤ m := by
  have := nodup_len (m := ints m) h.nodup fun v hv => mem_ints.2 ((h.rc v hv).inn h0 hw)
  rwa [len_ints] at this

def Done (ws : List W3) (v : Int) (q : List Int) : Prop := ∀ e ∈ ws, (e.1 = v → e.2.1 ∈ q) ∧ (e.2.1 = v → e.1 ∈ q)

def reachG (x : Int) (q : List Int) (_ : Nat) (e : W3) : List Int := addIf (decide (e.2.1 = x)) e.1 (addIf (decide (e.1 = x)) e.2.1 q)

theorem addT {v : Int} {q : List Int} (h : v ∉ q) : addIf true v q = q ++ [v] := by simp [addIf, h]
theorem addN {c : Bool} {v : Int} {q : List Int} (h : v ∈ q) : addIf c v q = q := by simp [addIf, h]
theorem addF {v : Int} {q : List Int} : addIf false v q = q := by simp [addIf]

theorem reach_step (ws : List W3) (hws : Sm.sm B1 ws) (m : Nat) (h0 : 0 < m) (h5 : m ≤ 5) (hw : InW m ws) (i : Nat) (x : Int) (q : List Int) (hq : QOk ws q) (hx : q[i]? = some x) (j : Nat) (e : W3) (he : ws[j]? = some e) (hj : j < ws.length) (kc ke : _ → Option (List Int)) :
    r_spec_l03Reach_L2 e_spec_l03Has N0 (ws, q, (i : Int), ws, (ws.length : Int), (j : Int), ()) kc ke = kc (ws, reachG x q j e, (i : Int), ws, (ws.length : Int), ((j + 1 : Nat) : Int), ()) := by
  have hxq : x ∈ q := List.mem_of_getElem? hx
  have hl := hq.len h0 hw
  have hbb : ∀ k : Nat, k ≤ 7 → k ≤ BB := fun k hk => Nat.le_trans hk (by decide)
  simp only [r_spec_l03Reach_L2, lt_len, hj, decide_true, cond_true, getI_nat, he, hx, Option.bind_some, wr_len hj hws]
  rw [p_Has q e.2.1 (hbb _ (by omega)), p_Has q e.1 (hbb _ (by omega))]
  have hx2 : ∀ v : Int, (q ++ [v])[i]? = some x := fun v => by rw [List.getElem?_append_left (get_lt hx)]; exact hx
  have room : Nat.ble (q.length + 1) 17179869184 = true := ble_true (by omega)
  have room2 : Nat.ble (q.length + 1 + 1) 17179869184 = true := ble_true (by omega)
  rw [p_Has (q ++ [e.2.1]) e.1 (hbb _ (by simp; omega))]
  simp only [List.length_cons, List.length_nil, List.length_append, Nat.zero_add, room, room2, hx2, Option.bind_some, cond_true, reachG]
  by_cases a1 : e.1 = x
  · rw [a1]
    simp only [decide_true, cond_true]
    by_cases a2 : e.2.1 ∈ q
    · simp only [a2, decide_true, Bool.not_true, cond_false, addN a2]
      by_cases a3 : e.2.1 = x
      · simp only [a3, decide_true, cond_true, hxq, Bool.not_true, cond_false, addN hxq]
      · simp only [a3, decide_false, cond_false, addF]
    · simp only [a2, decide_false, Bool.not_false, cond_true, addT a2]
      by_cases a3 : e.2.1 = x
      · exact absurd (a3 ▸ hxq) a2
      · simp only [a3, decide_false, cond_false, addF]
  · simp only [a1, decide_false, cond_false, addF]
    by_cases a3 : e.2.1 = x
    · simp only [a3, decide_true, cond_true]
      by_cases a4 : e.1 ∈ q
      · simp only [a4, decide_true, Bool.not_true, cond_false, addN a4]
      · simp only [a4, decide_false, Bool.not_false, cond_true, addT a4]
    · simp only [a3, decide_false, cond_false, addF]

theorem reach_inner (ws : List W3) (hws : Sm.sm B1 ws) (m : Nat) (h0 : 0 < m) (h5 : m ≤ 5) (hw : InW m ws) (i : Nat) (x : Int) (q : List Int) (hq : QOk ws q) (hx : q[i]? = some x) (ke : _ → Option (List Int)) :
    ∃ q', iterK (r_spec_l03Reach_L2 e_spec_l03Has N0) N0 (ws, q, (i : Int), ws, (ws.length : Int), 0, ()) ke = ke (ws, q', (i : Int), ws, (ws.length : Int), (ws.length : Int), ()) ∧
      QOk ws q' ∧ q'[i]? = some x ∧ (∀ u ∈ q, u ∈ q') ∧ q.length ≤ q'.length ∧ Done ws x q' ∧ ∀ (j : Nat) (u : Int), q[j]? = some u → q'[j]? = some u := by
  have hxr : Rc ws x := hq.rc x (List.mem_of_getElem? hx)
  have := iter_fold (R := List Int) (body := r_spec_l03Reach_L2 e_spec_l03Has N0) ws (fun (q : List Int) j => (ws, q, (i : Int), ws, (ws.length : Int), j, ()))
    (fun j q' => QOk ws q' ∧ q'[i]? = some x ∧ (∀ u ∈ q, u ∈ q') ∧ q.length ≤ q'.length ∧ (∀ (k : Nat) (e : W3), k < j → ws[k]? = some e → (e.1 = x → e.2.1 ∈ q') ∧ (e.2.1 = x → e.1 ∈ q')) ∧ ∀ (k : Nat) (u : Int), q[k]? = some u → q'[k]? = some u) (reachG x)
    (fun q' j e kc ke ⟨p1, p2, p3, p4, p5, p6⟩ he hj => by
      refine ⟨reach_step ws hws m h0 h5 hw i x q' p1 p2 j e he hj kc ke, ?_, ?_, ?_, ?_, ?_, ?_⟩
      · have hem := List.mem_of_getElem? he
        refine (p1.add fun hc => ?_).add fun hc => ?_
        · have : e.1 = x := by simpa using hc
          exact .ab hem (this ▸ hxr)
        · have : e.2.1 = x := by simpa using hc
          exact .ba hem (this ▸ hxr)
      · exact addIf_get (addIf_get p2)
      · exact fun u hu => addIf_mem (addIf_mem (p3 u hu))
      · exact Nat.le_trans p4 (Nat.le_trans addIf_len addIf_len)
      · intro k e' hk hek
        by_cases ek : k = j
        · subst ek
          rw [he] at hek; simp only [Option.some.injEq] at hek; subst hek
          refine ⟨fun h1 => ?_, fun h2 => ?_⟩
          · refine addIf_mem ?_
            rw [decide_eq_true h1]; exact addIf_in
          · simp only [reachG]
            rw [decide_eq_true h2]; exact addIf_in
        · have := p5 k e' (by omega) hek
          exact ⟨fun h => addIf_mem (addIf_mem (this.1 h)), fun h => addIf_mem (addIf_mem (this.2 h))⟩
      · exact fun k u hk => addIf_get (addIf_get (p6 k u hk)))
    (fun q' kc ke _ => by simp only [r_spec_l03Reach_L2, not_lt_self, cond_false]) (N := N0) (len_lt hws N0_gt) q ⟨hq, hx, fun _ h => h, Nat.le_refl _, by simp, fun _ _ h => h⟩ ke
  obtain ⟨e1, p1, p2, p3, p4, p5, p6⟩ := this
  refine ⟨_, e1, p1, p2, p3, p4, fun e he => ?_, p6⟩
  obtain ⟨k, hk⟩ := List.getElem?_of_mem he
  exact p5 k e (get_lt hk) hk

theorem p_Reach (ws : List W3) (hws : Sm.sm B1 ws) (m : Nat) (h0 : 0 < m) (h5 : m ≤ 5) (hw : InW m ws) :
    ∃ q, e_spec_l03Reach (ws, 0, ()) = some q ∧ QOk ws q ∧ ∀ v ∈ q, Done ws v q := by
  simp only [e_spec_l03Reach, r_spec_l03Reach]
  refine iter_while (fun o => ∃ q, o = some q ∧ QOk ws q ∧ ∀ v ∈ q, Done ws v q)
    (fun s : List W3 × List Int × Int × Unit => s.1 = ws ∧ QOk ws s.2.1 ∧ ∃ i : Nat, s.2.2.1 = i ∧ i ≤ s.2.1.length ∧ ∀ (j : Nat) (u : Int), j < i → s.2.1[j]? = some u → Done ws u s.2.1) (fun s => m - s.2.2.1.toNat) ?_ N0 _ ⟨rfl, ⟨by simp, fun v hv => ?_, by simp⟩, 0, rfl, by simp, by simp⟩ (by have := N0_big; simp only [Int.toNat_zero]; omega)
  · rintro ⟨ws', q, at', u⟩ kc ⟨rfl, hq, i, rfl, hi, hd⟩ hk
    simp only [r_spec_l03Reach_L0]
    simp only at hq hi hd
    by_cases hlt : i < q.length
    · simp only [lt_len, hlt, decide_true, cond_true]
      have hx : q[i]? = some q[i] := List.getElem?_eq_getElem hlt
      obtain ⟨q', e1, p1, p2, p3, p4, p5, p6⟩ := reach_inner ws' hws m h0 h5 hw i q[i] q hq hx (fun s1 => kc (s1.1, s1.2.1, wr (s1.2.2.1 + 1), ()))
      rw [e1]
      have hl := hq.len h0 hw
      simp only [wr_succ hlt (by omega)]
      refine hk _ ⟨rfl, p1, i + 1, rfl, by simp only; omega, fun j u hj hu => ?_⟩ (by simp only [Int.toNat_natCast]; omega)
      simp only at hu ⊢
      by_cases ej : j = i
      · subst ej; rw [p2] at hu; simp only [Option.some.injEq] at hu; rw [← hu]; exact p5
      · have hj' : j < q.length := by omega
        have h1 : q[j]? = some q[j] := List.getElem?_eq_getElem hj'
        have h2 := p6 j _ h1
        rw [hu] at h2; simp only [Option.some.injEq] at h2; subst h2
        intro e he
        exact ⟨fun h => p3 _ ((hd j _ (by omega) h1 e he).1 h), fun h => p3 _ ((hd j _ (by omega) h1 e he).2 h)⟩
    · have hd' : decide ((i : Int) < (q.length : Int)) = false := by simp; omega
      simp only [hd', cond_false]
      refine ⟨q, rfl, hq, fun v hv => ?_⟩
      obtain ⟨j, hj⟩ := List.getElem?_of_mem hv
      exact hd j v (by have := get_lt hj; omega) hj
  · simp at hv; subst hv; exact .zero

theorem reach_all {ws : List W3} {q : List Int} (hq : QOk ws q) (hd : ∀ v ∈ q, Done ws v q) : ∀ v, Rc ws v → v ∈ q := by
  intro v h
  induction h with
  | zero => exact hq.zero
  | ab he _ ih => exact (hd _ ih _ he).1 rfl
  | ba he _ ih => exact (hd _ ih _ he).2 rfl

theorem s_NetOk (n : TNet) (hn : Sm.sm B1 n) : e_spec_NetOk (n, ()) = some (netok n) := by
  simp only [e_spec_NetOk, r_spec_NetOk, p_l01In, n_l01In, Option.bind_some]
  by_cases hh : hdrOk n = true
  · have hh' := hh
    simp only [hdrOk, Bool.and_eq_true, decide_eq_true_eq] at hh'
    obtain ⟨⟨⟨⟨⟨q1, q2⟩, q3⟩, q4⟩, q5⟩, q6⟩ := hh'
    simp only [q1, q2, q3, q4, q5, q6, decide_true, Bool.and_self, Bool.not_true, cond_false]
    rw [netL0_spec n hn _ q1 q2]
    cases hb : wiresBad n with
    | true => simp [netok, hh, hb]
    | false =>
      simp only [cond_false]
      obtain ⟨m, hm⟩ : ∃ m : Nat, n.1 = m := ⟨n.1.toNat, by omega⟩
      have hw := wiresOk hm hb
      obtain ⟨q, e1, hq, hd⟩ := p_Reach n.2.2.2 hn.2.2.2 m (by omega) (by omega) hw
      rw [e1]
      simp only [Option.bind_some, netok, hh, hb, Bool.not_false, Bool.true_and, Option.some.injEq]
      have hl := hq.len (by omega) hw
      by_cases hc : ∀ v : Int, 0 ≤ v → v < n.1 → Rc n.2.2.2 v
      · have e2 : conn n = true := by simp only [conn, decide_eq_true_eq]; exact hc
        rw [e2, decide_eq_true_eq]
        have := nodup_len (l := ints m) (m := q) nodup_ints fun v hv => reach_all hq hd v (hc v (mem_ints.1 hv).1 (by have := (mem_ints.1 hv).2; omega))
        rw [len_ints] at this; omega
      · have e2 : conn n = false := by simp only [conn, decide_eq_false_iff_not]; exact hc
        rw [e2, decide_eq_false_iff_not]
        intro hlen
        have hall := nodup_all (m := ints m) hq.nodup (fun v hv => mem_ints.2 ((hq.rc v hv).inn (by omega) hw)) (by rw [len_ints]; omega)
        exact hc fun v h0 h1 => hq.rc v (hall v (mem_ints.2 ⟨h0, by omega⟩))
  · simp only [Bool.not_eq_true] at hh
    have e : netok n = false := by simp [netok, hh]
    rw [e]
    have hh' := hh
    simp only [hdrOk, Bool.and_eq_false_iff, decide_eq_false_iff_not] at hh'
    by_cases d1 : 1 ≤ n.1 ∧ n.1 ≤ 5
    · by_cases d3 : 1 ≤ n.2.1 ∧ n.2.1 ≤ n.1
      · have d5 : (decide (1 ≤ n.2.2.1) && decide (n.2.2.1 ≤ 1000)) = false := by simp only [Bool.and_eq_false_iff, decide_eq_false_iff_not]; omega
        simp [d1, d3, d5]
      · have d3' : (decide (1 ≤ n.2.1) && decide (n.2.1 ≤ n.1)) = false := by simp only [Bool.and_eq_false_iff, decide_eq_false_iff_not]; omega
        simp [d1, d3']
    · have d1' : (decide (1 ≤ n.1) && decide (n.1 ≤ 5)) = false := by simp only [Bool.and_eq_false_iff, decide_eq_false_iff_not]; omega
      simp [d1']
end Go.Sx.R

/- Bounds; weights between nodes, neighbours, leaves and series. Conditions: none. -/
namespace Go.Sx.R
open Go Go.Sx

-- bounds
def badB (low high : List Int) (i : Nat) (x : W3) : Bool := match low[i]?, high[i]? with
  | some l, some h => !(decide (1 ≤ l) && decide (l ≤ x.2.2) && (decide (x.2.2 ≤ h) && decide (h ≤ 200)))
  | _, _ => false

theorem bounds_impl (ws : List W3) (low high : List Int) (hws : Sm.sm B1 ws) (hl : low.length = ws.length) (hh : high.length = ws.length) :
    iterK (r_impl_BoundsOk_L0 e_impl_NetOk N0) N0 (low, high, ws, (ws.length : Int), 0, ()) (fun _ => some true) = some (!(ws.zipIdx 0).any fun p => badB low high p.2 p.1) := by
  rw [iter_range (R := Bool) ws (fun (_ : Unit) i => (low, high, ws, (ws.length : Int), i, ())) (fun _ i x k => cond (badB low high i x) (some false) (k ())) ?_ ?_ (len_lt hws N0_gt) ()]
  · rw [rangeK_stop (fun i x => badB low high i x) (some false) _ _ _ (fun j x k _ => rfl)]
    cases (ws.zipIdx 0).any _ <;> rfl
  · intro st i x kc ke hx hi
    have h1 : low[i]? = some low[i] := List.getElem?_eq_getElem (by omega)
    have h2 : high[i]? = some high[i] := List.getElem?_eq_getElem (by omega)
    simp only [r_impl_BoundsOk_L0, lt_len, hi, decide_true, cond_true, getI_nat, hx, Option.bind_some, h1, h2, wr_len hi hws, badB]
    by_cases a1 : low[i] < 1
    · have : ¬ 1 ≤ low[i] := by omega
      simp [a1, this]
    · have b1 : 1 ≤ low[i] := by omega
      by_cases a2 : low[i] > x.2.2
      · have : ¬ low[i] ≤ x.2.2 := by omega
        simp [a1, a2, this]
      · have b2 : low[i] ≤ x.2.2 := by omega
        by_cases a3 : x.2.2 > high[i]
        · have : ¬ x.2.2 ≤ high[i] := by omega
          simp [a1, a2, a3, this]
        · have b3 : x.2.2 ≤ high[i] := by omega
          by_cases a4 : high[i] > 200
          · have : ¬ high[i] ≤ 200 := by omega
            simp [a1, a2, a3, a4, this]
          · have b4 : high[i] ≤ 200 := by omega
            simp [a1, a2, a3, a4, b1, b2, b3, b4]
  · intro st kc ke
    simp only [r_impl_BoundsOk_L0, not_lt_self, cond_false]

theorem bounds_spec (ws : List W3) (low high : List Int) (hws : Sm.sm B1 ws) (hl : low.length = ws.length) (hh : high.length = ws.length) :
    iterK (r_spec_BoundsOk_L0 e_spec_NetOk e_spec_l01In N0) N0 (low, high, ws, (ws.length : Int), 0, ()) (fun _ => some true) = some (!(ws.zipIdx 0).any fun p => badB low high p.2 p.1) := by
  rw [iter_range (R := Bool) ws (fun (_ : Unit) i => (low, high, ws, (ws.length : Int), i, ())) (fun _ i x k => cond (badB low high i x) (some false) (k ())) ?_ ?_ (len_lt hws N0_gt) ()]
  · rw [rangeK_stop (fun i x => badB low high i x) (some false) _ _ _ (fun j x k _ => rfl)]
    cases (ws.zipIdx 0).any _ <;> rfl
  · intro st i x kc ke hx hi
    have h1 : low[i]? = some low[i] := List.getElem?_eq_getElem (by omega)
    have h2 : high[i]? = some high[i] := List.getElem?_eq_getElem (by omega)
    simp only [r_spec_BoundsOk_L0, lt_len, hi, decide_true, cond_true, getI_nat, hx, Option.bind_some, h1, h2, wr_len hi hws, badB, p_l01In, n_l01In]
    cases (decide (1 ≤ low[i]) && decide (low[i] ≤ x.2.2)) <;> cases (decide (x.2.2 ≤ high[i]) && decide (high[i] ≤ 200)) <;> rfl
  · intro st kc ke
    simp only [r_spec_BoundsOk_L0, not_lt_self, cond_false]

noncomputable def n_BoundsOk (n : TNet) (low high : List Int) : Bool := netok n && decide (low.length = n.2.2.2.length) && decide (high.length = n.2.2.2.length) && !(n.2.2.2.zipIdx 0).any fun p => badB low high p.2 p.1

theorem p_BoundsOk (n : TNet) (low high : List Int) (hn : Sm.sm B1 n) : e_impl_BoundsOk (n, low, high, ()) = some (n_BoundsOk n low high) := by
  simp only [e_impl_BoundsOk, r_impl_BoundsOk, p_NetOk n hn, Option.bind_some, n_BoundsOk, dec_eq]
  cases netok n with
  | false => rfl
  | true =>
    by_cases h1 : low.length = n.2.2.2.length
    · by_cases h2 : high.length = n.2.2.2.length
      · simp only [h1, h2, decide_true, Bool.not_true, cond_false, Bool.true_and]
        exact bounds_impl n.2.2.2 low high hn.2.2.2 h1 h2
      · simp [h1, h2]
    · simp [h1]

theorem s_BoundsOk (n : TNet) (low high : List Int) (hn : Sm.sm B1 n) : e_spec_BoundsOk (n, low, high, ()) = some (n_BoundsOk n low high) := by
  simp only [e_spec_BoundsOk, r_spec_BoundsOk, s_NetOk n hn, Option.bind_some, n_BoundsOk, dec_eq]
  cases netok n with
  | false => rfl
  | true =>
    by_cases h1 : low.length = n.2.2.2.length
    · by_cases h2 : high.length = n.2.2.2.length
      · simp only [h1, h2, decide_true, Bool.not_true, cond_false, Bool.true_and]
        exact bounds_spec n.2.2.2 low high hn.2.2.2 h1 h2
      · simp [h1, h2]
    · simp [h1]

theorem sm_intS {B : Nat} {l : List Int} (h : Sm.sm BB l) (hl : l.length ≤ B) : Sm.sm B l := ⟨hl, fun y hy => h.2 y hy⟩

theorem law_BoundsOk (n : TNet) (low high : List Int) (hn : Sm.sm BB n) (h1 : Sm.sm BB low) (h2 : Sm.sm BB high) : e_laws_FnExactBoundsOk (n, low, high, ()) = some true := by
  simp only [e_laws_FnExactBoundsOk, r_laws_FnExactBoundsOk]
  cases d1 : decide ((low.length : Int) > 1048576) with
  | true => rfl
  | false =>
    cases d2 : decide ((high.length : Int) > 1048576) with
    | true => rfl
    | false =>
      rw [decide_eq_false_iff_not] at d1 d2
      have hl : Sm.sm B1 low := sm_intS h1 (by simp only [B1]; omega)
      have hh : Sm.sm B1 high := sm_intS h2 (by simp only [B1]; omega)
      obtain ⟨r, e1, e2, e3⟩ := sz_Net n 1048576 hn (by omega) (by omega)
      simp only [cond_false, e1, Option.bind_some]
      by_cases hr : r < 0
      · simp [hr]
      · have hd : decide (r < 0) = false := by simp; omega
        have hb : Sm.sm B1 n := up_net B01 (e3 (by omega))
        simp only [hd, cond_false, to_Net n hb, to_IntS low hl, to_IntS high hh, Option.bind_some, p_BoundsOk n low high hb, s_BoundsOk n low high hb, beqB_self, Bool.not_true, eq_Net n hb, eq_IntS low hl, eq_IntS high hh]

end Go.Sx.R

/- Weights between nodes, neighbours, leaves and series. Conditions: none. -/
namespace Go.Sx.R
open Go Go.Sx

theorem find_first {β : Type} (p : β → Bool) : ∀ (l : List β) (i : Nat) (x : β), (∀ (j : Nat) (y : β), j < i → l[j]? = some y → p y = false) → l[i]? = some x → p x = true → l.find? p = some x
  | [], i, x, _, hx, _ => by simp at hx
  | y :: l, 0, x, _, hx, hp => by
    simp at hx; subst hx; simp [hp]
  | y :: l, i + 1, x, h, hx, hp => by
    have h0 := h 0 y (by omega) (by simp)
    simp only [List.find?_cons, h0]
    exact find_first p l i x (fun j z hj hz => h (j + 1) z (by omega) (by simpa using hz)) (by simpa using hx) hp

theorem find_none {β : Type} (p : β → Bool) (l : List β) (h : ∀ (j : Nat) (y : β), l[j]? = some y → p y = false) : l.find? p = none := by
  rw [List.find?_eq_none]
  intro x hx
  obtain ⟨j, hj⟩ := List.getElem?_of_mem hx
  simp [h j x hj]

/-- A wire between two nodes. -/
def isW (a b : Int) (x : W3) : Bool := decide (x.1 = if b < a then b else a) && decide (x.2.1 = if b > a then b else a)
def wbt (ws : List W3) (a b : Int) : Int := if a = b then 0 else match ws.find? (isW a b) with
  | some x => x.2.2
  | none => 0

theorem p_WB (n : TNet) (m : Nat) (hn : Sm.sm B1 n) (hw : InW m n.2.2.2) (a b : Int) : e_impl_WeightBetween (n, a, b, ()) = some (wbt n.2.2.2 a b) := by
  have hws : Sm.sm B1 n.2.2.2 := hn.2.2.2
  simp only [e_impl_WeightBetween, r_impl_WeightBetween]
  refine iter_rule (fun o => o = some (wbt n.2.2.2 a b)) n.2.2.2 (fun (_ : Unit) i => (a, b, n.2.2.2, (n.2.2.2.length : Int), i, ())) (fun i _ => a = b ∨ ∀ (j : Nat) (y : W3), j < i → n.2.2.2[j]? = some y → isW a b y = false)
    (fun st i x kc hp hx hi hk => ?_) (fun st kc hp => ?_) (len_lt hws N0_gt) () (.inr (by simp))
  · simp only [r_impl_WeightBetween_L0, lt_len, hi, decide_true, cond_true, getI_nat, hx, Option.bind_some, wr_len hi hws]
    have hk' := hk ()
    by_cases hab : a = b
    · simp only [hab, decide_true, Bool.not_true, cond_false] at hk' ⊢
      exact hk' (.inl trivial)
    · have hp := hp.resolve_left hab
      simp only [hab, decide_false, Bool.not_false, cond_true]
      have hx3 := hw x (List.mem_of_getElem? hx)
      have next : isW a b x = false → some (wbt n.2.2.2 a b) = some (wbt n.2.2.2 a b) → kc (a, b, n.2.2.2, (n.2.2.2.length : Int), ((i + 1 : Nat) : Int), ()) = some (wbt n.2.2.2 a b) := fun hf _ => hk' (.inr fun j y hj hy => by
        by_cases e : j = i
        · subst e; rw [hx] at hy; simp only [Option.some.injEq] at hy; subst hy; exact hf
        · exact hp j y (by omega) hy)
      have hit : isW a b x = true → some x.2.2 = some (wbt n.2.2.2 a b) := fun ht => by
        rw [wbt, if_neg hab, find_first (isW a b) _ i x hp hx ht]
      by_cases a1 : x.1 = a
      · by_cases a2 : x.2.1 = b
        · simp only [a1, a2, decide_true, cond_true]
          refine hit ?_
          simp only [isW, Bool.and_eq_true, decide_eq_true_eq]
          rw [if_neg (by omega), if_pos (by omega)]; exact ⟨a1, a2⟩
        · have hf : isW a b x = false := by
            simp only [isW, Bool.and_eq_false_iff, decide_eq_false_iff_not]
            by_cases c : b < a
            · left; rw [if_pos c]; omega
            · right; rw [if_pos (by omega)]; exact a2
          have a3 : ¬ (x.1 = b) := by omega
          have a3' : ¬ (a = b) := by omega
          simp only [a1, a2, decide_true, cond_true, decide_false, cond_false, a3']
          exact next hf rfl
      · by_cases a3 : x.1 = b
        · by_cases a4 : x.2.1 = a
          · simp only [a1, a3, a4, decide_true, cond_true, decide_false, cond_false]
            have : ¬ b = a := by omega
            simp only [this, decide_false, cond_false]
            refine hit ?_
            simp only [isW, Bool.and_eq_true, decide_eq_true_eq]
            rw [if_pos (by omega), if_neg (by omega)]; exact ⟨a3, a4⟩
          · have hf : isW a b x = false := by
              simp only [isW, Bool.and_eq_false_iff, decide_eq_false_iff_not]
              by_cases c : b < a
              · right; rw [if_neg (by omega)]; exact a4
              · left; rw [if_neg c]; exact a1
            have : ¬ b = a := by omega
            simp only [a3, a4, decide_true, cond_true, decide_false, cond_false, this]
            exact next hf rfl
        · have hf : isW a b x = false := by
            simp only [isW, Bool.and_eq_false_iff, decide_eq_false_iff_not]
            left; split <;> assumption
          simp only [a1, a3, decide_false, cond_false]
          exact next hf rfl
  · simp only [r_impl_WeightBetween_L0, not_lt_self, cond_false]
    by_cases hab : a = b
    · simp [wbt, hab]
    · rw [wbt, if_neg hab, find_none (isW a b) _ fun j y hy => (hp.resolve_left hab) j y (get_lt hy) hy]

theorem s_Find (ws : List W3) (hws : Sm.sm B1 ws) (a b : Int) : ∃ r, e_spec_l03Find (ws, a, b, ()) = some r ∧ ((r = -1 ∧ ws.find? (isW a b) = none) ∨ ∃ (j : Nat) (x : W3), r = j ∧ ws[j]? = some x ∧ ws.find? (isW a b) = some x) := by
  simp only [e_spec_l03Find, r_spec_l03Find]
  refine iter_rule (fun o => ∃ r : Int, o = some r ∧ ((r = -1 ∧ ws.find? (isW a b) = none) ∨ ∃ (j : Nat) (x : W3), r = j ∧ ws[j]? = some x ∧ ws.find? (isW a b) = some x)) ws (fun (_ : Unit) i => (a, b, ws, (ws.length : Int), i, ())) (fun i _ => ∀ (j : Nat) (y : W3), j < i → ws[j]? = some y → isW a b y = false)
    (fun st i x kc hp hx hi hk => ?_) (fun st kc hp => ?_) (len_lt hws N0_gt) () (by simp)
  · simp only [r_spec_l03Find_L0, lt_len, hi, decide_true, cond_true, getI_nat, hx, Option.bind_some, wr_len hi hws]
    have next : isW a b x = false → _ := fun hf => hk () fun j y hj hy => by
        by_cases e : j = i
        · subst e; rw [hx] at hy; simp only [Option.some.injEq] at hy; subst hy; exact hf
        · exact hp j y (by omega) hy
    by_cases c1 : x.1 = if b < a then b else a
    · by_cases c2 : x.2.1 = if b > a then b else a
      · have d1 := decide_eq_true c1
        have d2 := decide_eq_true c2
        refine ⟨i, ?_, .inr ⟨i, x, rfl, hx, find_first (isW a b) _ i x hp hx (by simp only [isW, d1, d2, Bool.and_self])⟩⟩
        rw [d1, cond_true, d2, cond_true]
      · have d1 := decide_eq_true c1
        have d2 := decide_eq_false c2
        rw [d1, cond_true, d2, cond_false]
        exact next (by simp only [isW, d2, Bool.and_false])
    · have d1 := decide_eq_false c1
      rw [d1, cond_false]
      exact next (by simp only [isW, d1, Bool.false_and])
  · simp only [r_spec_l03Find_L0, not_lt_self, cond_false]
    exact ⟨-1, rfl, .inl ⟨rfl, find_none (isW a b) _ fun j y hy => hp j y (get_lt hy) hy⟩⟩

theorem s_WB (n : TNet) (hn : Sm.sm B1 n) (a b : Int) : e_spec_WeightBetween (n, a, b, ()) = some (wbt n.2.2.2 a b) := by
  simp only [e_spec_WeightBetween, r_spec_WeightBetween]
  obtain ⟨r, e1, h⟩ := s_Find n.2.2.2 hn.2.2.2 a b
  rw [e1, Option.bind_some]
  rcases h with ⟨rfl, h⟩ | ⟨j, x, rfl, hx, h⟩
  · simp [wbt, h]
  · have : decide ((j : Int) < 0) = false := by simp
    rw [this, cond_false, getI_nat, hx]
    by_cases hab : a = b
    · simp [hab, wbt]
    · simp [hab, wbt, h]

-- neighbours
def nearG (ws : List W3) (v : Int) (q : List Int) (j : Nat) (_ : Nat) : List Int := if wbt ws v j > 0 then q ++ [(j : Int)] else q
def near (ws : List W3) (v : Int) (m : Nat) : List Int := foldI (nearG ws v) (List.range m) 0 []

theorem range_get {m i x : Nat} (h : (List.range m)[i]? = some x) : x = i ∧ i < m := by
  have := get_lt h
  simp at this
  rw [List.getElem?_range this] at h
  simp at h; exact ⟨h.symm, this⟩

theorem near_len (ws : List W3) (v : Int) (m : Nat) : (near ws v m).length ≤ m := by
  have key : ∀ (l : List Nat) (i : Nat) (q : List Int), (foldI (nearG ws v) l i q).length ≤ q.length + l.length := by
    intro l
    induction l with
    | nil => intros; simp [foldI]
    | cons x l ih =>
      intro i q
      simp only [foldI]
      have := ih (i + 1) (nearG ws v q i x)
      have h2 : (nearG ws v q i x).length ≤ q.length + 1 := by unfold nearG; split <;> simp
      simp only [List.length_cons]; omega
  have := key (List.range m) 0 []
  simpa [near] using this

theorem near_mem {ws : List W3} {v : Int} {m : Nat} : ∀ u ∈ near ws v m, 0 ≤ u ∧ u < m := by
  have key : ∀ (l : List Nat) (i : Nat) (q : List Int), (∀ u ∈ q, 0 ≤ u ∧ u < ((i + l.length : Nat) : Int)) → ∀ u ∈ foldI (nearG ws v) l i q, 0 ≤ u ∧ u < ((i + l.length : Nat) : Int) := by
    intro l
    induction l with
    | nil => intro i q h; simpa [foldI] using h
    | cons x l ih =>
      intro i q h
      simp only [foldI]
      have e : i + (x :: l).length = i + 1 + l.length := by simp; omega
      rw [e] at h ⊢
      refine ih (i + 1) _ fun u hu => ?_
      unfold nearG at hu
      split at hu
      · rcases List.mem_append.1 hu with hu | hu
        · exact h u hu
        · simp at hu; subst hu; omega
      · exact h u hu
  have := key (List.range m) 0 [] (by simp)
  simpa [near] using this

theorem p_WiresAt (n : TNet) (m : Nat) (hn : Sm.sm B1 n) (hm : n.1 = m) (hok : netok n = true) (v : Int) (h0 : 0 ≤ v) (h1 : v < m) : e_impl_WiresAt (n, v, ()) = some (near n.2.2.2 v m) := by
  have hw : InW m n.2.2.2 := wiresOk hm (by revert hok; simp only [netok]; cases wiresBad n <;> simp)
  have hmB : m ≤ 5 := by
    have : hdrOk n = true := by revert hok; simp only [netok]; cases hdrOk n <;> simp
    simp only [hdrOk, Bool.and_eq_true, decide_eq_true_eq] at this; omega
  simp only [e_impl_WiresAt, r_impl_WiresAt, p_NetOk n hn, hok, Option.bind_some, Bool.not_true, cond_false, e_impl_isNode, r_impl_isNode]
  have d1 : decide (v ≥ 0) = true := by rw [decide_eq_true_eq]; omega
  have d2 : decide (v < n.1) = true := by rw [decide_eq_true_eq]; omega
  simp only [d1, d2, cond_true, Option.bind_some, Bool.not_true, cond_false]
  have := (iter_fold (R := List Int) (body := r_impl_WiresAt_L0 e_impl_NetOk (fun a => r_impl_isNode N0 a.1 a.2.1) e_impl_WeightBetween N0) (List.range m) (fun (q : List Int) i => (v, n, q, n.1, i, ())) (fun i q => q.length ≤ i) (nearG n.2.2.2 v)
    (fun q i x kc ke hq hx hi => by
      obtain ⟨rfl, hxm⟩ := range_get hx
      have hlt : decide ((x : Int) < n.1) = true := by rw [decide_eq_true_eq, hm]; exact Int.ofNat_lt.2 hxm
      simp only [r_impl_WiresAt_L0, hlt, cond_true, p_WB n m hn hw, Option.bind_some, wr_succ hxm (by omega : m ≤ 9223372036854775807), nearG, List.length_cons, List.length_nil, Nat.zero_add, ble_true (show q.length + 1 ≤ 17179869184 by omega)]
      by_cases c : wbt n.2.2.2 v x > 0
      · simp only [c, decide_true, cond_true, if_true]
        exact ⟨trivial, by simp; omega⟩
      · simp only [c, decide_false, cond_false, if_false]
        exact ⟨trivial, by omega⟩)
    (fun q kc ke _ => by
      have hlt : decide ((((List.range m).length : Nat) : Int) < n.1) = false := by rw [decide_eq_false_iff_not, hm]; simp
      simp only [r_impl_WiresAt_L0, hlt, cond_false]) (N := N0) (by have := N0_big; simp; omega) [] (by simp) (fun s3 => some s3.2.2.1)).1
  exact this

theorem s_Near (n : TNet) (m : Nat) (hn : Sm.sm B1 n) (hm : n.1 = m) (hmB : m ≤ 5) (v : Int) : e_spec_l07Near (n, v, ()) = some (near n.2.2.2 v m) := by
  simp only [e_spec_l07Near, r_spec_l07Near]
  have := (iter_fold (R := List Int) (body := r_spec_l07Near_L0 e_spec_WeightBetween N0) (List.range m) (fun (q : List Int) i => (v, n, q, i, ())) (fun i q => q.length ≤ i) (nearG n.2.2.2 v)
    (fun q i x kc ke hq hx hi => by
      obtain ⟨rfl, hxm⟩ := range_get hx
      have hlt : decide ((x : Int) < n.1) = true := by rw [decide_eq_true_eq, hm]; exact Int.ofNat_lt.2 hxm
      simp only [r_spec_l07Near_L0, hlt, cond_true, s_WB n hn, Option.bind_some, wr_succ hxm (by omega : m ≤ 9223372036854775807), nearG, List.length_cons, List.length_nil, Nat.zero_add, ble_true (show q.length + 1 ≤ 17179869184 by omega)]
      by_cases c : wbt n.2.2.2 v x > 0
      · simp only [c, decide_true, cond_true, if_true]
        exact ⟨trivial, by simp; omega⟩
      · simp only [c, decide_false, cond_false, if_false]
        exact ⟨trivial, by omega⟩)
    (fun q kc ke _ => by
      have hlt : decide ((((List.range m).length : Nat) : Int) < n.1) = false := by rw [decide_eq_false_iff_not, hm]; simp
      simp only [r_spec_l07Near_L0, hlt, cond_false]) (N := N0) (by have := N0_big; simp; omega) [] (by simp) (fun s3 => some s3.2.2.1)).1
  exact this

/-- What a good network is. -/
theorem netok_facts {n : TNet} (h : netok n = true) : ∃ m : Nat, n.1 = m ∧ 1 ≤ m ∧ m ≤ 5 ∧ InW m n.2.2.2 ∧ 1 ≤ n.2.1 ∧ n.2.1 ≤ m := by
  have hh : hdrOk n = true := by revert h; simp only [netok]; cases hdrOk n <;> simp
  have hb : wiresBad n = false := by revert h; simp only [netok]; cases wiresBad n <;> simp
  simp only [hdrOk, Bool.and_eq_true, decide_eq_true_eq] at hh
  obtain ⟨m, hm⟩ : ∃ m : Nat, n.1 = m := ⟨n.1.toNat, by omega⟩
  exact ⟨m, hm, by omega, by omega, wiresOk hm hb, by omega, by omega⟩

end Go.Sx.R

/- Leaves and series. Conditions: none. -/
namespace Go.Sx.R
open Go Go.Sx

/-- The nodes that are no terminals. -/
def rng (lo : Int) (d : Nat) : List Int := (List.range d).map fun i => lo + Int.ofNat i

theorem rng_get {lo : Int} {d i : Nat} {v : Int} (h : (rng lo d)[i]? = some v) : v = lo + i ∧ i < d := by
  have hlt := get_lt h
  simp [rng] at hlt
  simp only [rng, List.getElem?_map, List.getElem?_range hlt, Option.map_some, Option.some.injEq] at h
  exact ⟨h.symm, hlt⟩

theorem rng_len {lo : Int} {d : Nat} : (rng lo d).length = d := by simp [rng]

theorem rng_succ (lo : Int) (d : Nat) : rng lo (d + 1) = rng lo d ++ [lo + d] := by
  simp [rng, List.range_succ]

theorem p_inner (n : TNet) (m : Nat) (hm : n.1 = m) (hmB : m ≤ 5) (h1 : 1 ≤ n.2.1) (h2 : n.2.1 ≤ m) : e_impl_inner (n, ()) = some (rng n.2.1 (m - n.2.1.toNat)) := by
  simp only [e_impl_inner, r_impl_inner]
  have hd : (List.range (m - n.2.1.toNat)).length = m - n.2.1.toNat := by simp
  have := iter_fold (R := List Int) (body := r_impl_inner_L0 N0) (List.range (m - n.2.1.toNat)) (fun (q : List Int) i => (n, q, n.2.1 + i, ())) (fun i q => q = rng n.2.1 i) (fun q i _ => q ++ [n.2.1 + (i : Int)])
    (fun q i x kc ke hq hx hi => by
      rw [hd] at hi
      have hlt : decide (n.2.1 + (i : Int) < n.1) = true := by rw [decide_eq_true_eq]; omega
      subst hq
      have hw : wr (n.2.1 + (i : Int) + 1) = n.2.1 + ((i + 1 : Nat) : Int) := by rw [wr_id (by omega) (by omega)]; omega
      simp only [r_impl_inner_L0, hlt, cond_true, List.length_cons, List.length_nil, Nat.zero_add, rng_len, ble_true (show i + 1 ≤ 17179869184 by omega), hw]
      exact ⟨trivial, (rng_succ _ _).symm⟩)
    (fun q kc ke _ => by
      have hlt : decide (n.2.1 + (((List.range (m - n.2.1.toNat)).length : Nat) : Int) < n.1) = false := by rw [decide_eq_false_iff_not, hd]; omega
      simp only [r_impl_inner_L0, hlt, cond_false]) (N := N0) (by have := N0_big; omega) [] (by simp [rng]) (fun s1 => some s1.2.1)
  have e0 : n.2.1 + (0 : Int) = n.2.1 := by omega
  simp only [e0] at this
  rw [this.1, this.2, hd]

def firstWith (n : TNet) (m : Nat) (count : Int) : Int := match (rng n.2.1 (m - n.2.1.toNat)).find? fun v => decide (((near n.2.2.2 v m).length : Int) = count) with
  | some v => v
  | none => -1

theorem p_nodeWith (n : TNet) (hn : Sm.sm B1 n) (count : Int) : ∃ r, e_impl_nodeWith (n, count, ()) = some r ∧ e_spec_l07First (n, count, ()) = some r := by
  simp only [e_impl_nodeWith, r_impl_nodeWith, e_spec_l07First, r_spec_l07First, p_NetOk n hn, s_NetOk n hn, Option.bind_some]
  cases hok : netok n with
  | false => exact ⟨-1, rfl, rfl⟩
  | true =>
    obtain ⟨m, hm, hm1, hm5, hw, he1, he2⟩ := netok_facts hok
    simp only [Bool.not_true, cond_false, p_inner n m hm hm5 he1 he2, Option.bind_some]
    refine ⟨firstWith n m count, ?_, ?_⟩
    · refine iter_rule (fun o => o = some (firstWith n m count)) (rng n.2.1 (m - n.2.1.toNat)) (fun (_ : Unit) i => (count, n, rng n.2.1 (m - n.2.1.toNat), (((rng n.2.1 (m - n.2.1.toNat)).length : Nat) : Int), i, ()))
        (fun i _ => ∀ (j : Nat) (y : Int), j < i → (rng n.2.1 (m - n.2.1.toNat))[j]? = some y → decide (((near n.2.2.2 y m).length : Int) = count) = false) (fun st i x kc hp hx hi hk => ?_) (fun st kc hp => ?_) (by rw [rng_len]; have := N0_big; omega) () (by simp)
      · have hxr := rng_get hx
        simp only [r_impl_nodeWith_L0, lt_len, hi, decide_true, cond_true, getI_nat, hx, Option.bind_some, wr_succ hi (by rw [rng_len]; omega), p_WiresAt n m hn hm hok x (by omega) (by omega)]
        cases hc : decide (((near n.2.2.2 x m).length : Int) = count) with
        | true => simp only [cond_true, firstWith, find_first _ _ i x hp hx hc]
        | false =>
          simp only [cond_false]
          refine hk () fun j y hj hy => ?_
          by_cases e : j = i
          · subst e; rw [hx] at hy; simp only [Option.some.injEq] at hy; subst hy; exact hc
          · exact hp j y (by omega) hy
      · simp only [r_impl_nodeWith_L0, not_lt_self, cond_false, firstWith, find_none _ _ fun j y hy => hp j y (get_lt hy) hy]
    · have hd : (rng n.2.1 (m - n.2.1.toNat)).length = m - n.2.1.toNat := rng_len
      have := iter_rule (R := Int) (body := r_spec_l07First_L0 e_spec_NetOk e_spec_l07Near N0) (ke := fun _ => some (-1)) (fun o => o = some (firstWith n m count)) (rng n.2.1 (m - n.2.1.toNat)) (fun (_ : Unit) i => (count, n, n.2.1 + i, ()))
        (fun i _ => ∀ (j : Nat) (y : Int), j < i → (rng n.2.1 (m - n.2.1.toNat))[j]? = some y → decide (((near n.2.2.2 y m).length : Int) = count) = false) (fun st i x kc hp hx hi hk => ?_) (fun st kc hp => ?_) (N := N0) (by rw [rng_len]; have := N0_big; omega) () (by simp)
      · have e0 : n.2.1 + (0 : Int) = n.2.1 := by omega
        simp only [e0] at this
        exact this
      · have hxr := rng_get hx
        have hlt : decide (n.2.1 + (i : Int) < n.1) = true := by rw [decide_eq_true_eq]; omega
        have hw : wr (n.2.1 + (i : Int) + 1) = n.2.1 + ((i + 1 : Nat) : Int) := by rw [wr_id (by omega) (by omega)]; omega
        simp only [r_spec_l07First_L0, hlt, cond_true, hw, s_Near n m hn hm hm5, Option.bind_some]
        rw [← hxr.1]
        cases hc : decide (((near n.2.2.2 x m).length : Int) = count) with
        | true => simp only [cond_true, firstWith, find_first _ _ i x hp hx hc]
        | false =>
          simp only [cond_false]
          refine hk () fun j y hj hy => ?_
          by_cases e : j = i
          · subst e; rw [hx] at hy; simp only [Option.some.injEq] at hy; subst hy; exact hc
          · exact hp j y (by omega) hy
      · have hlt : decide (n.2.1 + (((rng n.2.1 (m - n.2.1.toNat)).length : Nat) : Int) < n.1) = false := by rw [decide_eq_false_iff_not, hd]; omega
        simp only [r_spec_l07First_L0, hlt, cond_false, firstWith, find_none _ _ fun j y hy => hp j y (get_lt hy) hy]

theorem law_LeafOf (n : TNet) (hn : Sm.sm BB n) : e_laws_FnExactLeafOf (n, ()) = some true := by
  simp only [e_laws_FnExactLeafOf, r_laws_FnExactLeafOf]
  obtain ⟨r, e1, e2, e3⟩ := sz_Net n 1048576 hn (by omega) (by omega)
  simp only [e1, Option.bind_some]
  by_cases hr : r < 0
  · simp [hr]
  · have hd : decide (r < 0) = false := by simp; omega
    have hb : Sm.sm B1 n := up_net B01 (e3 (by omega))
    obtain ⟨v, h1, h2⟩ := p_nodeWith n hb 1
    simp only [hd, cond_false, to_Net n hb, Option.bind_some, e_spec_LeafOf, r_spec_LeafOf, e_impl_LeafOf, r_impl_LeafOf, h1, h2, decide_true, Bool.not_true, eq_Net n hb]

theorem law_SeriesOf (n : TNet) (hn : Sm.sm BB n) : e_laws_FnExactSeriesOf (n, ()) = some true := by
  simp only [e_laws_FnExactSeriesOf, r_laws_FnExactSeriesOf]
  obtain ⟨r, e1, e2, e3⟩ := sz_Net n 1048576 hn (by omega) (by omega)
  simp only [e1, Option.bind_some]
  by_cases hr : r < 0
  · simp [hr]
  · have hd : decide (r < 0) = false := by simp; omega
    have hb : Sm.sm B1 n := up_net B01 (e3 (by omega))
    obtain ⟨v, h1, h2⟩ := p_nodeWith n hb 2
    simp only [hd, cond_false, to_Net n hb, Option.bind_some, e_spec_SeriesOf, r_spec_SeriesOf, e_impl_SeriesOf, r_impl_SeriesOf, h1, h2, decide_true, Bool.not_true, eq_Net n hb]
end Go.Sx.R

/- Marks, and marks found again. Conditions: none. -/
namespace Go.Sx.R
open Go Go.Sx

theorem getI_ok {β : Type} {l : List β} {n i : Nat} (h : l.length = n) (hi : i < n) : ∃ y, getI l (i : Int) = some y := getI_has h hi

theorem mh_IntS (x : List Int) (k : Int) (hx : Sm.sm B1 x) (h0 : 0 ≤ k) (h1 : k ≤ 1099511627776) : ∃ x' k', e_laws_markIntS x (k, ()) = some (x', k') ∧ e_laws_heldIntS (x', k, ()) = some k' ∧ k ≤ k' ∧ k' ≤ k + x.length ∧ x'.length = x.length := by
  have hlen : x.length ≤ 1073741824 := hx.1
  have m := iter_fold (R := List Int × Int) (body := r_laws_markIntS_L0 N0) x (fun (st : List Int × Int) i => (st.1, st.2, i, ()))
    (fun i st => st.2 = k + i ∧ st.1.length = x.length ∧ ∀ (j : Nat), j < i → st.1[j]? = some (k + j)) (fun st i _ => (st.1.set i st.2, st.2 + 1))
    (fun st i y kc ke ⟨p1, p2, p3⟩ hy hi => by
      refine ⟨?_, ?_, by simpa using p2, fun j hj => ?_⟩
      · obtain ⟨z, hz⟩ := getI_ok p2 hi
        have hlt : decide ((i : Int) < (st.1.length : Int)) = true := by rw [decide_eq_true_eq, p2]; exact Int.ofNat_lt.2 hi
        simp only [r_laws_markIntS_L0, hlt, cond_true, hz, Option.bind_some, Int.toNat_natCast]
        rw [wr_id (x := st.2 + 1) (by omega) (by omega), wr_len hi hx]
      · simp only; omega
      · simp only
        rw [List.getElem?_set]
        by_cases e : i = j
        · subst e; rw [if_pos rfl, if_pos (by omega), p1]
        · rw [if_neg e]; exact p3 j (by omega))
    (fun st kc ke ⟨p1, p2, p3⟩ => by
      have hlt : decide ((x.length : Int) < (st.1.length : Int)) = false := by rw [decide_eq_false_iff_not, p2]; omega
      simp only [r_laws_markIntS_L0, hlt, cond_false]) (N := N0) (len_lt hx N0_gt) (x, k) ⟨by simp, rfl, by simp⟩ (fun s1 => some (s1.1, s1.2.1))
  obtain ⟨e1, p1, p2, p3⟩ := m
  generalize (foldI (fun (st : List Int × Int) (i : Nat) (_ : Int) => (st.1.set i st.2, st.2 + 1)) x 0 (x, k)) = st at e1 p1 p2 p3
  refine ⟨st.1, st.2, e1, ?_, by omega, by omega, p2⟩
  have hh := iter_fold (R := Int) (body := r_laws_heldIntS_L0 N0) st.1 (fun (c : Int) i => (st.1, c, i, ())) (fun i c => c = k + i) (fun c _ _ => c + 1)
    (fun c i y kc ke pc hy hi => by
      have h2 := p3 i (by omega)
      rw [hy] at h2; simp only [Option.some.injEq] at h2
      refine ⟨?_, by omega⟩
      simp only [r_laws_heldIntS_L0, lt_len, hi, decide_true, cond_true, getI_nat, hy, Option.bind_some]
      have d : decide (y = c) = true := by rw [decide_eq_true_eq]; omega
      rw [d]
      simp only [Bool.not_true, cond_false]
      rw [wr_id (x := c + 1) (by omega) (by omega), wr_succ hi (by omega)])
    (fun c kc ke _ => by simp only [r_laws_heldIntS_L0, not_lt_self, cond_false]) (N := N0) (by have := N0_big; omega) k (by simp) (fun s1 => some s1.2.1)
  simp only [e_laws_heldIntS, r_laws_heldIntS]
  rw [hh.1, hh.2, p1, p2]

theorem mh_WireS (x : List W3) (k : Int) (hx : Sm.sm B1 x) (h0 : 0 ≤ k) (h1 : k ≤ 1099511627776) : ∃ x' k', e_laws_markWireS x (k, ()) = some (x', k') ∧ e_laws_heldWireS (x', k, ()) = some k' ∧ k ≤ k' ∧ k' ≤ k + 3 * x.length ∧ x'.length = x.length := by
  have hlen : x.length ≤ 1073741824 := hx.1
  have m := iter_fold (R := List W3 × Int) (body := r_laws_markWireS_L0 N0) x (fun (st : List W3 × Int) i => (st.1, st.2, i, ()))
    (fun i st => st.2 = k + 3 * i ∧ st.1.length = x.length ∧ ∀ (j : Nat), j < i → st.1[j]? = some (k + 3 * j, k + 3 * j + 1, k + 3 * j + 2)) (fun st i _ => (st.1.set i (st.2, st.2 + 1, st.2 + 2), st.2 + 3))
    (fun st i y kc ke ⟨p1, p2, p3⟩ hy hi => by
      refine ⟨?_, ?_, by simpa using p2, fun j hj => ?_⟩
      · have hlt : decide ((i : Int) < (st.1.length : Int)) = true := by rw [decide_eq_true_eq, p2]; exact Int.ofNat_lt.2 hi
        have g1 : st.1[i]? = some (st.1[i]'(by omega)) := List.getElem?_eq_getElem _
        have w1 : wr (st.2 + 1) = st.2 + 1 := wr_id (by omega) (by omega)
        have w2 : wr (st.2 + 1 + 1) = st.2 + 1 + 1 := wr_id (by omega) (by omega)
        have w3 : wr (st.2 + 1 + 1 + 1) = st.2 + 1 + 1 + 1 := wr_id (by omega) (by omega)
        have e1 : st.2 + 1 + 1 = st.2 + 2 := by omega
        have e2 : st.2 + 2 + 1 = st.2 + 3 := by omega
        have hl : i < st.1.length := by omega
        have w2' : wr (st.2 + 2) = st.2 + 2 := wr_id (by omega) (by omega)
        have w3' : wr (st.2 + 3) = st.2 + 3 := wr_id (by omega) (by omega)
        simp only [r_laws_markWireS_L0, hlt, cond_true, getI_nat, g1, Option.bind_some, Int.toNat_natCast, w1, w2, w3, w2', w3', List.getElem?_set_self, List.length_set, hl, List.set_set, wr_len hi hx, e1, e2]
      · simp only; omega
      · simp only
        rw [List.getElem?_set]
        by_cases e : i = j
        · subst e; rw [if_pos rfl, if_pos (by omega), p1]
        · rw [if_neg e]; exact p3 j (by omega))
    (fun st kc ke ⟨p1, p2, p3⟩ => by
      have hlt : decide ((x.length : Int) < (st.1.length : Int)) = false := by rw [decide_eq_false_iff_not, p2]; omega
      simp only [r_laws_markWireS_L0, hlt, cond_false]) (N := N0) (len_lt hx N0_gt) (x, k) ⟨by simp, rfl, by simp⟩ (fun s1 => some (s1.1, s1.2.1))
  obtain ⟨e1, p1, p2, p3⟩ := m
  generalize (foldI (fun (st : List W3 × Int) (i : Nat) (_ : W3) => (st.1.set i (st.2, st.2 + 1, st.2 + 2), st.2 + 3)) x 0 (x, k)) = st at e1 p1 p2 p3
  refine ⟨st.1, st.2, e1, ?_, by omega, by omega, p2⟩
  have hh := iter_fold (R := Int) (body := r_laws_heldWireS_L0 N0) st.1 (fun (c : Int) i => (st.1, c, i, ())) (fun i c => c = k + 3 * i) (fun c _ _ => c + 3)
    (fun c i y kc ke pc hy hi => by
      have h2 := p3 i (by omega)
      rw [hy] at h2; simp only [Option.some.injEq] at h2
      refine ⟨?_, by omega⟩
      have w1 : wr (c + 1) = c + 1 := wr_id (by omega) (by omega)
      have w2 : wr (c + 1 + 1) = c + 1 + 1 := wr_id (by omega) (by omega)
      have w3 : wr (c + 1 + 1 + 1) = c + 1 + 1 + 1 := wr_id (by omega) (by omega)
      have d1 : decide (y.1 = c) = true := by rw [decide_eq_true_eq, h2]; simp only; omega
      have d2 : decide (y.2.1 = c + 1) = true := by rw [decide_eq_true_eq, h2]; simp only; omega
      have d3 : decide (y.2.2 = c + 1 + 1) = true := by rw [decide_eq_true_eq, h2]; simp only; omega
      have e2 : c + 1 + 1 + 1 = c + 3 := by omega
      have w4 : wr (c + 3) = c + 3 := wr_id (by omega) (by omega)
      simp only [r_laws_heldWireS_L0, lt_len, hi, decide_true, cond_true, getI_nat, hy, Option.bind_some, d1, Bool.not_true, cond_false, w1, w2, w3, w4, d2, d3, wr_succ hi (show st.1.length ≤ 9223372036854775807 by omega), e2])
    (fun c kc ke _ => by simp only [r_laws_heldWireS_L0, not_lt_self, cond_false]) (N := N0) (by have := N0_big; omega) k (by simp) (fun s1 => some s1.2.1)
  simp only [e_laws_heldWireS, r_laws_heldWireS]
  rw [hh.1, hh.2, p1, p2]

/-- What the neighbours are, of any network and number. -/
theorem wa_both (n : TNet) (hn : Sm.sm B1 n) (v : Int) (hv : Sm.sm B1 v) : ∃ q, e_impl_WiresAt (n, v, ()) = some q ∧ e_spec_WiresAt (n, v, ()) = some q ∧ Sm.sm B1 q := by
  cases hok : netok n with
  | false =>
    refine ⟨[], ?_, ?_, by simp [sm_list]⟩
    · simp only [e_impl_WiresAt, r_impl_WiresAt, p_NetOk n hn, hok, Option.bind_some, Bool.not_false, cond_true]
    · simp only [e_spec_WiresAt, r_spec_WiresAt, s_NetOk n hn, hok, Option.bind_some, Bool.not_false, cond_true]
  | true =>
    obtain ⟨m, hm, hm1, hm5, hw, he1, he2⟩ := netok_facts hok
    have hw1 : wr (n.1 - 1) = n.1 - 1 := wr_id (by omega) (by omega)
    by_cases hr : 0 ≤ v ∧ v < m
    · refine ⟨near n.2.2.2 v m, p_WiresAt n m hn hm hok v hr.1 hr.2, ?_, ?_⟩
      · have d : (decide (0 ≤ v) && decide (v ≤ n.1 - 1)) = true := by simp only [Bool.and_eq_true, decide_eq_true_eq]; omega
        simp only [e_spec_WiresAt, r_spec_WiresAt, s_NetOk n hn, hok, Option.bind_some, Bool.not_true, cond_false, hw1, p_l01In, n_l01In, d, s_Near n m hn hm hm5]
      · refine ⟨Nat.le_trans (near_len _ _ _) (Nat.le_trans hm5 (by decide)), fun u hu => ?_⟩
        have := near_mem u hu
        exact ⟨by omega, by omega⟩
    · refine ⟨[], ?_, ?_, by simp [sm_list]⟩
      · simp only [e_impl_WiresAt, r_impl_WiresAt, p_NetOk n hn, hok, Option.bind_some, Bool.not_true, cond_false, e_impl_isNode, r_impl_isNode]
        by_cases h0 : v ≥ 0
        · have d2 : decide (v < n.1) = false := by rw [decide_eq_false_iff_not]; omega
          simp [h0, d2]
        · simp [h0]
      · have d : (decide (0 ≤ v) && decide (v ≤ n.1 - 1)) = false := by simp only [Bool.and_eq_false_iff, decide_eq_false_iff_not]; omega
        simp only [e_spec_WiresAt, r_spec_WiresAt, s_NetOk n hn, hok, Option.bind_some, Bool.not_true, cond_false, hw1, p_l01In, n_l01In, d, Bool.not_false, cond_true]
end Go.Sx.R

/- The wires at a node: the law. Conditions: none. -/
namespace Go.Sx.R
open Go Go.Sx

theorem mh_Net (n : TNet) (k : Int) (hn : Sm.sm B1 n) (h0 : 0 ≤ k) (h1 : k ≤ 1099511627776) : ∃ n' k', e_laws_markNet n (k, ()) = some (n', k') ∧ k ≤ k' ∧ k' ≤ k + 3 * n.2.2.2.length ∧ ∃ w', e_laws_heldWireS (w', k, ()) = some k' ∧ n' = (n.1, n.2.1, n.2.2.1, w') := by
  obtain ⟨w', k', e1, e2, e3, e4, _⟩ := mh_WireS n.2.2.2 k hn.2.2.2 h0 h1
  exact ⟨_, k', by simp only [e_laws_markNet, e1, Option.map_some], e3, e4, w', e2, rfl⟩

theorem law_WiresAt (n : TNet) (v : Int) (hn : Sm.sm BB n) (hv : Sm.sm BB v) : e_laws_FnExactWiresAt (n, v, ()) = some true := by
  simp only [e_laws_FnExactWiresAt, r_laws_FnExactWiresAt]
  obtain ⟨r, e1, e2, e3⟩ := sz_Net n 1048576 hn (by omega) (by omega)
  simp only [e1, Option.bind_some]
  by_cases hr : r < 0
  · simp [hr]
  · have hd : decide (r < 0) = false := by simp; omega
    have hb : Sm.sm B1 n := up_net B01 (e3 (by omega))
    obtain ⟨q, q1, q2, q3⟩ := wa_both n hb v hv
    obtain ⟨n', k', m1, m2, m3, _⟩ := mh_Net n 1 hb (by omega) (by omega)
    obtain ⟨q', k2, h1, h2, h3, h4, _⟩ := mh_IntS q 1 q3 (by omega) (by omega)
    have d1 : decide (k' < 0) = false := by rw [decide_eq_false_iff_not]; omega
    have d2 : decide (k2 < 0) = false := by rw [decide_eq_false_iff_not]; omega
    simp only [hd, cond_false, to_Net n hb, Option.bind_some, q1, q2, eq_IntS q q3, eq_Net n hb, Bool.not_true, m1, d1, h1, h2, d2, decide_true]
end Go.Sx.R
