/- The law in plain words, part 2. Conditions: none. -/
import Derived.Test.YtjjhhgieolobjaaLawa
namespace Go.Sx.R
open Go Go.Sx

/-- The products of two pairs of entries agree. -/
def Crs (m : Mat) (i j k l : Nat) : Prop := rOk (timV (en m i j) (en m k l)) = true ∧ timV (en m i j) (en m k l) = timV (en m i l) (en m k j)
def Dst (m : Mat) (i j k l : Nat) : Prop := i ≠ j → i ≠ k → i ≠ l → j ≠ k → j ≠ l → k ≠ l → Crs m i j k l
def IsS (m : Mat) : Prop := IsR m ∧ 3 ≤ m.length ∧ (∀ i j, i < m.length → j < m.length → (en m i j).1 ≠ 0) ∧ ∀ i j k l, i < m.length → j < m.length → k < m.length → l < m.length → Dst m i j k l
noncomputable def isSB (m : Mat) : Bool := open Classical in decide (IsS m)
theorem isSB_false {m : Mat} (h : ¬ IsS m) : isSB m = false := by simp only [isSB, decide_eq_false_iff_not]; exact h
theorem isSB_true {m : Mat} (h : IsS m) : isSB m = true := by simp only [isSB, decide_eq_true_eq]; exact h
theorem isRB_iff {m : Mat} : isRB m = true ↔ IsR m := by simp only [isRB, decide_eq_true_eq]
theorem isSB_iff {m : Mat} : isSB m = true ↔ IsS m := by simp only [isSB, decide_eq_true_eq]

theorem p_IsS (m : Mat) : e_impl_IsStarMatrix (m, ()) = some (isSB m) := by
  simp only [e_impl_IsStarMatrix, r_impl_IsStarMatrix, p_IsR, Option.bind_some]
  cases hR : isRB m with
  | false =>
    simp only [Bool.not_false, cond_true]
    rw [isSB_false fun h => by have := isRB_iff.2 h.1; rw [hR] at this; cases this]
  | true =>
    have h := isRB_iff.1 hR
    obtain ⟨k1, k5, hSq, _⟩ := h
    simp only [Bool.not_true, cond_false]
    by_cases h3 : m.length < 3
    · have d : decide (((m.length : Nat) : Int) < 3) = true := by rw [decide_eq_true_eq]; omega
      simp only [d, cond_true]
      rw [isSB_false fun h => by have := h.2.1; omega]
    have d : decide (((m.length : Nat) : Int) < 3) = false := by rw [decide_eq_false_iff_not]; omega
    simp only [d, cond_false]
    have hB : m.length ≤ 9223372036854775807 := by omega
    have hN := N0_big
    have hd : (List.range m.length).length = m.length := by simp
    refine iter_rule (R := Bool) (fun o => o = some (isSB m)) m (fun (_ : Unit) i => (m, m, (m.length : Int), i, ())) (fun i _ => ∀ i' j, i' < i → j < m.length → (en m i' j).1 ≠ 0) (fun st i row kc hp hr hi hk => ?_) (fun st kc hp => ?_) (N := N0) (by omega) () (fun _ _ h => absurd h (Nat.not_lt_zero _))
    · have hrl := hSq row (List.mem_of_getElem? hr)
      simp only [r_impl_IsStarMatrix_L0, lt_len, hi, decide_true, cond_true, getI_nat, hr, Option.bind_some]
      refine iter_rule (R := Bool) (fun o => o = some (isSB m)) row (fun (_ : Unit) j => (m, m, (m.length : Int), (i : Int), row, (row.length : Int), j, ())) (fun j _ => ∀ j', j' < j → (en m i j').1 ≠ 0) (fun st j x kc2 hq hx hj hk2 => ?_) (fun st kc2 hq => ?_) (N := N0) (by omega) () (fun _ h => absurd h (Nat.not_lt_zero _))
      · have hex := en_row hr hx
        simp only [r_impl_IsStarMatrix_L2, lt_len, hj, decide_true, cond_true, getI_nat, hx, Option.bind_some, wr_succ hj (show row.length ≤ 9223372036854775807 by omega)]
        by_cases e : x.1 = 0
        · simp only [e, decide_true, cond_true]
          rw [isSB_false fun h => h.2.2.1 i j hi (by omega) (by rw [hex]; exact e)]
        · simp only [e, decide_false, cond_false]
          refine hk2 () fun j' hj' => ?_
          by_cases e2 : j' = j
          · subst e2; rw [hex]; exact e
          · exact hq j' (by omega)
      · simp only [r_impl_IsStarMatrix_L2, not_lt_self, cond_false, wr_succ hi hB]
        refine hk () fun i' j hi' hj => ?_
        by_cases e2 : i' = i
        · subst e2; exact hq j (by omega)
        · exact hp i' j (by omega) hj
    · simp only [r_impl_IsStarMatrix_L0, not_lt_self, cond_false]
      refine iter_rule (R := Bool) (fun o => o = some (isSB m)) (List.range m.length) (fun (_ : Unit) i => (m, (m.length : Int), i, ())) (fun i _ => ∀ i' j k l, i' < i → j < m.length → k < m.length → l < m.length → Dst m i' j k l) (fun st i _ kc hq _ hi hk => ?_) (fun st kc hq => ?_) (N := N0) (by omega) () (fun _ _ _ _ h => absurd h (Nat.not_lt_zero _))
      · rw [hd] at hi
        simp only [r_impl_IsStarMatrix_L4, lt_len, hi, decide_true, cond_true]
        refine iter_rule (R := Bool) (fun o => o = some (isSB m)) (List.range m.length) (fun (_ : Unit) j => (m, (i : Int), (m.length : Int), (i : Int), (m.length : Int), j, ())) (fun j _ => ∀ j' k l, j' < j → k < m.length → l < m.length → Dst m i j' k l) (fun st j _ kc2 hq2 _ hj hk2 => ?_) (fun st kc2 hq2 => ?_) (N := N0) (by omega) () (fun _ _ _ h => absurd h (Nat.not_lt_zero _))
        · rw [hd] at hj
          simp only [r_impl_IsStarMatrix_L6, lt_len, hj, decide_true, cond_true]
          refine iter_rule (R := Bool) (fun o => o = some (isSB m)) (List.range m.length) (fun (_ : Unit) k => (m, (i : Int), (j : Int), (m.length : Int), (i : Int), (m.length : Int), (j : Int), (m.length : Int), k, ())) (fun k _ => ∀ k' l, k' < k → l < m.length → Dst m i j k' l) (fun st k _ kc3 hq3 _ hkk hk3 => ?_) (fun st kc3 hq3 => ?_) (N := N0) (by omega) () (fun _ _ h => absurd h (Nat.not_lt_zero _))
          · rw [hd] at hkk
            simp only [r_impl_IsStarMatrix_L8, lt_len, hkk, decide_true, cond_true]
            refine iter_rule (R := Bool) (fun o => o = some (isSB m)) (List.range m.length) (fun (_ : Unit) l => (m, (i : Int), (j : Int), (k : Int), (m.length : Int), (i : Int), (m.length : Int), (j : Int), (m.length : Int), (k : Int), (m.length : Int), l, ())) (fun l _ => ∀ l', l' < l → Dst m i j k l') (fun st l _ kc4 hq4 _ hl hk4 => ?_) (fun st kc4 hq4 => ?_) (N := N0) (by omega) () (fun _ h => absurd h (Nat.not_lt_zero _))
            · rw [hd] at hl
              have skip : (i = j ∨ i = k ∨ i = l ∨ j = k ∨ j = l ∨ k = l) → (fun o => o = some (isSB m)) (kc4 (m, (i : Int), (j : Int), (k : Int), (m.length : Int), (i : Int), (m.length : Int), (j : Int), (m.length : Int), (k : Int), (m.length : Int), ((l + 1 : Nat) : Int), ())) := fun hc => hk4 () fun l' hl' => by
                by_cases e : l' = l
                · subst e; intro h1 h2 h3 h4 h5 h6; omega
                · exact hq4 l' (by omega)
              simp only [r_impl_IsStarMatrix_L10, lt_len, hl, decide_true, cond_true, wr_succ hl hB]
              by_cases c1 : i = j
              · have d : decide ((i : Int) = (j : Int)) = true := by rw [decide_eq_true_eq]; omega
                simp only [d, cond_true]; exact skip (by omega)
              · have d1 : decide ((i : Int) = (j : Int)) = false := by rw [decide_eq_false_iff_not]; omega
                simp only [d1, cond_false]
                by_cases c2 : i = k
                · have d : decide ((i : Int) = (k : Int)) = true := by rw [decide_eq_true_eq]; omega
                  simp only [d, cond_true]; exact skip (by omega)
                · have d2 : decide ((i : Int) = (k : Int)) = false := by rw [decide_eq_false_iff_not]; omega
                  simp only [d2, cond_false]
                  by_cases c3 : i = l
                  · have d : decide ((i : Int) = (l : Int)) = true := by rw [decide_eq_true_eq]; omega
                    simp only [d, cond_true]; exact skip (by omega)
                  · have d3 : decide ((i : Int) = (l : Int)) = false := by rw [decide_eq_false_iff_not]; omega
                    simp only [d3, cond_false]
                    by_cases c4 : j = k
                    · have d : decide ((j : Int) = (k : Int)) = true := by rw [decide_eq_true_eq]; omega
                      simp only [d, cond_true]; exact skip (by omega)
                    · have d4 : decide ((j : Int) = (k : Int)) = false := by rw [decide_eq_false_iff_not]; omega
                      simp only [d4, cond_false]
                      by_cases c5 : j = l
                      · have d : decide ((j : Int) = (l : Int)) = true := by rw [decide_eq_true_eq]; omega
                        simp only [d, cond_true]; exact skip (by omega)
                      · have d5 : decide ((j : Int) = (l : Int)) = false := by rw [decide_eq_false_iff_not]; omega
                        simp only [d5, cond_false]
                        by_cases c6 : k = l
                        · have d : decide ((k : Int) = (l : Int)) = true := by rw [decide_eq_true_eq]; omega
                          simp only [d, cond_true]; exact skip (by omega)
                        · have d6 : decide ((k : Int) = (l : Int)) = false := by rw [decide_eq_false_iff_not]; omega
                          obtain ⟨ri, a1, a2, a3⟩ := hSq.get hi hj
                          obtain ⟨rk, b1, b2, b3⟩ := hSq.get hkk hl
                          obtain ⟨ri', a1', _, a4⟩ := hSq.get hi hl
                          obtain ⟨rk', b1', _, b4⟩ := hSq.get hkk hj
                          have er : ri' = ri := by rw [a1] at a1'; simpa using a1'.symm
                          have ek : rk' = rk := by rw [b1] at b1'; simpa using b1'.symm
                          subst er; subst ek
                          have bad : ¬ Crs m i j k l → isSB m = false := fun hc => isSB_false fun h => hc (h.2.2.2 i j k l hi hj hkk hl c1 c2 c3 c4 c5 c6)
                          simp only [d6, cond_false, getI_nat, a1, a3, a4, b1, b3, b4, Option.bind_some, (times_both _ _).1, p_rOk, intEq2]
                          cases hok : rOk (timV (en m i j) (en m k l)) with
                          | false =>
                            simp only [Bool.not_false, cond_true]
                            rw [bad fun hc => by have := hc.1; rw [hok] at this; cases this]
                          | true =>
                            simp only [Bool.not_true, cond_false]
                            by_cases e : timV (en m i j) (en m k l) = timV (en m i l) (en m k j)
                            · simp only [e, decide_true, Bool.not_true, cond_false]
                              refine hk4 () fun l' hl' => ?_
                              by_cases e2 : l' = l
                              · subst e2; exact fun _ _ _ _ _ _ => ⟨hok, e⟩
                              · exact hq4 l' (by omega)
                            · simp only [e, decide_false, Bool.not_false, cond_true]
                              rw [bad fun hc => e hc.2]
            · rw [hd] at hq4
              have dl : decide ((((List.range m.length).length : Nat) : Int) < ((m.length : Nat) : Int)) = false := by rw [decide_eq_false_iff_not, hd]; omega
              simp only [r_impl_IsStarMatrix_L10, dl, cond_false, wr_succ hkk hB]
              refine hk3 () fun k' l hk' hl => ?_
              by_cases e2 : k' = k
              · subst e2; exact hq4 l hl
              · exact hq3 k' l (by omega) hl
          · rw [hd] at hq3
            have dl : decide ((((List.range m.length).length : Nat) : Int) < ((m.length : Nat) : Int)) = false := by rw [decide_eq_false_iff_not, hd]; omega
            simp only [r_impl_IsStarMatrix_L8, dl, cond_false, wr_succ hj hB]
            refine hk2 () fun j' k l hj' hk' hl => ?_
            by_cases e2 : j' = j
            · subst e2; exact hq3 k l hk' hl
            · exact hq2 j' k l (by omega) hk' hl
        · rw [hd] at hq2
          have dl : decide ((((List.range m.length).length : Nat) : Int) < ((m.length : Nat) : Int)) = false := by rw [decide_eq_false_iff_not, hd]; omega
          simp only [r_impl_IsStarMatrix_L6, dl, cond_false, wr_succ hi hB]
          refine hk () fun i' j k l hi' hj hk' hl => ?_
          by_cases e2 : i' = i
          · subst e2; exact hq2 j k l hj hk' hl
          · exact hq i' j k l (by omega) hj hk' hl
      · rw [hd] at hq
        have dl : decide ((((List.range m.length).length : Nat) : Int) < ((m.length : Nat) : Int)) = false := by rw [decide_eq_false_iff_not, hd]; omega
        simp only [r_impl_IsStarMatrix_L4, dl, cond_false]
        rw [isSB_true ⟨isRB_iff.1 hR, by omega, hp, hq⟩]

theorem s_Cross (m : Mat) (hSq : Sq m) {i j k l : Nat} (hi : i < m.length) (hj : j < m.length) (hk : k < m.length) (hl : l < m.length) : ∃ b : Bool, e_spec_l08Cross (m, (i : Int), (j : Int), (k : Int), (l : Int), ()) = some b ∧ (b = true ↔ Crs m i j k l) := by
  obtain ⟨ri, a1, a2, a3⟩ := hSq.get hi hj
  obtain ⟨rk, b1, b2, b3⟩ := hSq.get hk hl
  obtain ⟨ri', a1', _, a4⟩ := hSq.get hi hl
  obtain ⟨rk', b1', _, b4⟩ := hSq.get hk hj
  have er : ri' = ri := by rw [a1] at a1'; simpa using a1'.symm
  have ek : rk' = rk := by rw [b1] at b1'; simpa using b1'.symm
  subst er; subst ek
  simp only [e_spec_l08Cross, r_spec_l08Cross, getI_nat, a1, a3, a4, b1, b3, b4, Option.bind_some, (times_both _ _).2.1, s_rOk, intEq2]
  by_cases e : timV (en m i j) (en m k l) = timV (en m i l) (en m k j)
  · simp only [e, decide_true, cond_true]
    exact ⟨_, rfl, ⟨fun h => ⟨by rw [e]; exact h, e⟩, fun h => by have := h.1; rw [e] at this; exact this⟩⟩
  · simp only [e, decide_false, cond_false]
    exact ⟨false, rfl, by simp only [Bool.false_eq_true, false_iff]; exact fun h => e h.2⟩

/-- The parts of a number to the base K. -/
theorem parts_lt {K t : Nat} (hK : 0 < K) (ht : t < K * K * K * K) : t / K / K / K < K := by
  rw [Nat.div_lt_iff_lt_mul hK, Nat.div_lt_iff_lt_mul hK, Nat.div_lt_iff_lt_mul hK]; exact ht

theorem parts_of {K a b c d : Nat} (ha : a < K) (hb : b < K) (hc : c < K) (hd : d < K) : ∃ t, t < K * K * K * K ∧ t % K = a ∧ t / K % K = b ∧ t / K / K % K = c ∧ t / K / K / K = d := by
  have hK : 0 < K := by omega
  have m1 : ∀ x y : Nat, x < K → (x + K * y) % K = x := fun x y hx => by rw [Nat.add_mul_mod_self_left, Nat.mod_eq_of_lt hx]
  have q1 : ∀ x y : Nat, x < K → (x + K * y) / K = y := fun x y hx => by rw [Nat.add_mul_div_left _ _ hK, Nat.div_eq_of_lt hx, Nat.zero_add]
  refine ⟨a + K * (b + K * (c + K * d)), ?_, m1 _ _ ha, ?_, ?_, ?_⟩
  · have h1 : c + K * d < K * K := by
      have : K * (d + 1) ≤ K * K := Nat.mul_le_mul_left K hd
      rw [Nat.mul_add] at this; omega
    have h2 : b + K * (c + K * d) < K * K * K := by
      have : K * (c + K * d + 1) ≤ K * (K * K) := Nat.mul_le_mul_left K h1
      rw [Nat.mul_add, ← Nat.mul_assoc] at this; omega
    have h3 : K * (b + K * (c + K * d) + 1) ≤ K * (K * K * K) := Nat.mul_le_mul_left K h2
    have e : K * (K * K * K) = K * K * K * K := by rw [Nat.mul_comm]
    rw [e, Nat.mul_add] at h3; omega
  · rw [q1 _ _ ha, m1 _ _ hb]
  · rw [q1 _ _ ha, q1 _ _ hb, m1 _ _ hc]
  · rw [q1 _ _ ha, q1 _ _ hb, q1 _ _ hc]

theorem s_IsS (m : Mat) (hm : m.length ≤ 1073741824) : e_spec_IsStarMatrix (m, ()) = some (isSB m) := by
  simp only [e_spec_IsStarMatrix, r_spec_IsStarMatrix, s_IsR m hm, Option.bind_some]
  cases hR : isRB m with
  | false =>
    simp only [Bool.not_false, cond_true]
    rw [isSB_false fun h => by have := isRB_iff.2 h.1; rw [hR] at this; cases this]
  | true =>
    have h := isRB_iff.1 hR
    obtain ⟨k1, k5, hSq, _⟩ := h
    simp only [Bool.not_true, cond_false]
    by_cases h3 : m.length < 3
    · have d : decide (((m.length : Nat) : Int) < 3) = true := by rw [decide_eq_true_eq]; omega
      simp only [d, cond_true]
      rw [isSB_false fun h => by have := h.2.1; omega]
    have d : decide (((m.length : Nat) : Int) < 3) = false := by rw [decide_eq_false_iff_not]; omega
    simp only [d, cond_false]
    have hN := N0_big
    generalize hK : m.length = K at *
    have hK0 : 0 < K := by omega
    have p2 : K * K ≤ 25 := Nat.mul_le_mul k5 k5
    have p3 : K * K * K ≤ 125 := Nat.mul_le_mul p2 k5
    have p4 : K * K * K * K ≤ 625 := Nat.mul_le_mul p3 k5
    have c2 : (K : Int) * (K : Int) = ((K * K : Nat) : Int) := by rw [Int.natCast_mul]
    have c3 : ((K * K : Nat) : Int) * (K : Int) = ((K * K * K : Nat) : Int) := by rw [Int.natCast_mul (K * K)]
    have c4 : ((K * K * K : Nat) : Int) * (K : Int) = ((K * K * K * K : Nat) : Int) := by rw [Int.natCast_mul (K * K * K)]
    have w2 : wr ((K : Int) * (K : Int)) = ((K * K : Nat) : Int) := by rw [c2]; exact wr_id (by omega) (by omega)
    have w3 : wr (((K * K : Nat) : Int) * (K : Int)) = ((K * K * K : Nat) : Int) := by rw [c3]; exact wr_id (by omega) (by omega)
    have w4 : wr (((K * K * K : Nat) : Int) * (K : Int)) = ((K * K * K * K : Nat) : Int) := by rw [c4]; exact wr_id (by omega) (by omega)
    generalize hT : K * K * K * K = T at *
    have hd : (List.range T).length = T := by simp
    have dk : decide ((K : Int) = 0) = false := by rw [decide_eq_false_iff_not]; omega
    refine iter_rule (R := Bool) (fun o => o = some (isSB m)) (List.range T) (fun (_ : Unit) t => (m, (K : Int), t, ())) (fun t _ => ∀ t', t' < t → (en m (t' % K) (t' / K % K)).1 ≠ 0 ∧ Dst m (t' % K) (t' / K % K) (t' / K / K % K) (t' / K / K / K)) (fun st t _ kc hq _ ht hk => ?_) (fun st kc hq => ?_) (N := N0) (by omega) () (fun _ h => absurd h (Nat.not_lt_zero _))
    · rw [hd] at ht
      have dt : decide ((t : Int) < (T : Int)) = true := by rw [decide_eq_true_eq]; omega
      have t1 : ∀ x : Nat, Int.tmod (x : Int) (K : Int) = ((x % K : Nat) : Int) := fun x => by rw [Int.tmod_eq_emod_of_nonneg (by omega)]; simp
      have t2 : ∀ x : Nat, Int.tdiv (x : Int) (K : Int) = ((x / K : Nat) : Int) := fun x => by rw [Int.tdiv_eq_ediv_of_nonneg (by omega)]; simp
      have l1 : t / K ≤ t := Nat.div_le_self _ _
      have l2 : t / K / K ≤ t := Nat.le_trans (Nat.div_le_self _ _) l1
      have l3 : t / K / K / K ≤ t := Nat.le_trans (Nat.div_le_self _ _) l2
      have u1 : wr ((t / K : Nat) : Int) = ((t / K : Nat) : Int) := by generalize t / K = q at *; exact wr_id (by omega) (by omega)
      have u2 : wr ((t / K / K : Nat) : Int) = ((t / K / K : Nat) : Int) := by generalize t / K / K = q at *; exact wr_id (by omega) (by omega)
      have u3 : wr ((t / K / K / K : Nat) : Int) = ((t / K / K / K : Nat) : Int) := by generalize t / K / K / K = q at *; exact wr_id (by omega) (by omega)
      have ha : t % K < K := Nat.mod_lt _ hK0
      have hb : t / K % K < K := Nat.mod_lt _ hK0
      have hc : t / K / K % K < K := Nat.mod_lt _ hK0
      have hdd : t / K / K / K < K := parts_lt hK0 (by omega)
      have ws : wr ((t : Int) + 1) = ((t + 1 : Nat) : Int) := wr_succ ht (by omega)
      simp only [r_spec_IsStarMatrix_L0, w2, w3, w4, dt, cond_true, dk, cond_false, t1, t2, u1, u2, u3, ws]
      have keep : (en m (t % K) (t / K % K)).1 ≠ 0 → Dst m (t % K) (t / K % K) (t / K / K % K) (t / K / K / K) → (fun o => o = some (isSB m)) (kc (m, (K : Int), ((t + 1 : Nat) : Int), ())) := fun z1 z2 => hk () fun t' ht' => by
        by_cases e : t' = t
        · subst e; exact ⟨z1, z2⟩
        · exact hq t' (by omega)
      generalize t % K = a at *
      generalize t / K % K = b at *
      generalize t / K / K % K = c at *
      generalize t / K / K / K = dd at *
      obtain ⟨row, g1, _, g3⟩ := hSq.get (i := a) (j := b) (by omega) (by omega)
      simp only [getI_nat, g1, g3, Option.bind_some]
      by_cases z : (en m a b).1 = 0
      · simp only [z, decide_true, cond_true]
        rw [isSB_false fun h => h.2.2.1 a b (by omega) (by omega) z]
      · simp only [z, decide_false, cond_false]
        have skip : (a = b ∨ a = c ∨ a = dd ∨ b = c ∨ b = dd ∨ c = dd) → (fun o => o = some (isSB m)) (kc (m, (K : Int), ((t + 1 : Nat) : Int), ())) := fun hcs => keep z (by intro h1 h2 h3 h4 h5 h6; omega)
        by_cases c1 : a = b
        · have d : decide ((a : Int) = (b : Int)) = true := by rw [decide_eq_true_eq]; omega
          simp only [d, Bool.not_true, cond_false]; exact skip (by omega)
        · have d1 : decide ((a : Int) = (b : Int)) = false := by rw [decide_eq_false_iff_not]; omega
          simp only [d1, Bool.not_false, cond_true]
          by_cases c2 : a = c
          · have d : decide ((a : Int) = (c : Int)) = true := by rw [decide_eq_true_eq]; omega
            simp only [d, Bool.not_true, cond_false]; exact skip (by omega)
          · have d2 : decide ((a : Int) = (c : Int)) = false := by rw [decide_eq_false_iff_not]; omega
            simp only [d2, Bool.not_false, cond_true]
            by_cases c3 : a = dd
            · have d : decide ((a : Int) = (dd : Int)) = true := by rw [decide_eq_true_eq]; omega
              simp only [d, Bool.not_true, cond_false]; exact skip (by omega)
            · have d3 : decide ((a : Int) = (dd : Int)) = false := by rw [decide_eq_false_iff_not]; omega
              simp only [d3, Bool.not_false, cond_true]
              by_cases c4 : b = c
              · have d : decide ((b : Int) = (c : Int)) = true := by rw [decide_eq_true_eq]; omega
                simp only [d, Bool.not_true, cond_false]; exact skip (by omega)
              · have d4 : decide ((b : Int) = (c : Int)) = false := by rw [decide_eq_false_iff_not]; omega
                simp only [d4, Bool.not_false, cond_true]
                by_cases c5 : b = dd
                · have d : decide ((b : Int) = (dd : Int)) = true := by rw [decide_eq_true_eq]; omega
                  simp only [d, Bool.not_true, cond_false]; exact skip (by omega)
                · have d5 : decide ((b : Int) = (dd : Int)) = false := by rw [decide_eq_false_iff_not]; omega
                  simp only [d5, Bool.not_false, cond_true]
                  by_cases c6 : c = dd
                  · have d : decide ((c : Int) = (dd : Int)) = true := by rw [decide_eq_true_eq]; omega
                    simp only [d, Bool.not_true, cond_false]; exact skip (by omega)
                  · have d6 : decide ((c : Int) = (dd : Int)) = false := by rw [decide_eq_false_iff_not]; omega
                    obtain ⟨bb, e1, e2⟩ := s_Cross m hSq (i := a) (j := b) (k := c) (l := dd) (by omega) (by omega) (by omega) (by omega)
                    simp only [d6, Bool.not_false, cond_true, e1, Option.bind_some]
                    cases hbb : bb with
                    | false =>
                      simp only [Bool.not_false, cond_true]
                      rw [isSB_false fun h => by
                        have := e2.2 (h.2.2.2 a b c dd (by omega) (by omega) (by omega) (by omega) c1 c2 c3 c4 c5 c6)
                        rw [hbb] at this; cases this]
                    | true =>
                      simp only [Bool.not_true, cond_false]
                      exact keep z fun _ _ _ _ _ _ => e2.1 hbb
    · rw [hd] at hq
      have dt : decide ((((List.range T).length : Nat) : Int) < (T : Int)) = false := by rw [decide_eq_false_iff_not, hd]; omega
      simp only [r_spec_IsStarMatrix_L0, w2, w3, w4, dt, cond_false]
      rw [isSB_true ⟨isRB_iff.1 hR, by omega, fun i j hi hj => ?_, fun i j k l hi hj hk hl => ?_⟩]
      · obtain ⟨t, ht, e1, e2, _⟩ := parts_of (K := K) (a := i) (b := j) (c := 0) (d := 0) (by omega) (by omega) hK0 hK0
        have := (hq t (by omega)).1
        rw [e1, e2] at this; exact this
      · obtain ⟨t, ht, e1, e2, e3, e4⟩ := parts_of (K := K) (a := i) (b := j) (c := k) (d := l) (by omega) (by omega) (by omega) (by omega)
        have := (hq t (by omega)).2
        rw [e1, e2, e3, e4] at this; exact this

end Go.Sx.R
namespace Go.Sx.R
open Go Go.Sx

def pairG (i : Nat) (q : List Int) (j : Nat) (_ : Nat) : List Int := if j ≠ i ∧ q.length < 2 then q ++ [(j : Int)] else q
/-- The two nodes beside a node. -/
def fstN (i : Nat) : Nat := if i = 0 then 1 else 0
def sndN (i : Nat) : Nat := if i = 0 then 2 else if i = 1 then 2 else 1

theorem pairs_ok : ∀ K, K < 6 → 3 ≤ K → ∀ i, i < K → foldI (pairG i) (List.range K) 0 [] = [(fstN i : Int), (sndN i : Int)] := by decide

/-- The weight of a wire of a star. -/
noncomputable def wtV (m : Mat) (i : Nat) : Int × Int := sumV (-1) (en m i i) (timV (timV (en m i (fstN i)) (en m i (sndN i))) (invV (en m (fstN i) (sndN i))))

theorem nb {K i : Nat} (hK : 3 ≤ K) (_hi : i < K) : fstN i < K ∧ sndN i < K := by unfold fstN sndN; split <;> (try split) <;> omega

theorem Sq.two {m : Mat} (h : Sq m) {i j k : Nat} (hi : i < m.length) (hj : j < m.length) (hk : k < m.length) : ∃ row, m[i]? = some row ∧ row[j]? = some (en m i j) ∧ row[k]? = some (en m i k) := by
  obtain ⟨r, a1, _, a3⟩ := h.get hi hj
  obtain ⟨r', b1, _, b3⟩ := h.get hi hk
  have : r' = r := by rw [a1] at b1; simpa using b1.symm
  subst this
  exact ⟨_, a1, a3, b3⟩

theorem s_Wt (m : Mat) (hSq : Sq m) (h3 : 3 ≤ m.length) {i : Nat} (hi : i < m.length) (hm : m.length ≤ 5) : e_spec_l08Weight (m, (i : Int), ()) = some (wtV m i) := by
  have hn := nb h3 hi
  obtain ⟨ri, a1, a2, a3⟩ := hSq.two hi hn.1 hn.2
  obtain ⟨ri', a1', a4, _⟩ := hSq.two hi hi hi
  have er : ri' = ri := by rw [a1] at a1'; simpa using a1'.symm
  subst er
  obtain ⟨rj, b1, b2, _⟩ := hSq.two hn.1 hn.2 hn.2
  have w1 : wr (1 + 1) = ((2 : Nat) : Int) := by decide
  have w0 : wr (0 + 1) = ((1 : Nat) : Int) := by decide
  have w2 : wr (((1 : Nat) : Int) + 1) = ((2 : Nat) : Int) := by decide
  simp only [e_spec_l08Weight, r_spec_l08Weight, w0, w1]
  by_cases c0 : i = 0
  · subst c0
    have d : decide (((0 : Nat) : Int) = 0) = true := by decide
    have d2 : decide (((2 : Nat) : Int) = ((0 : Nat) : Int)) = false := by decide
    have f1 : fstN 0 = 1 := rfl
    have f2 : sndN 0 = 2 := rfl
    simp only [f1, f2] at a2 a3 b1 b2
    have g1 : ∀ l : Mat, getI l (1 : Int) = l[1]? := fun l => getI_nat l 1
    have g2 : ∀ l : List (Int × Int), getI l (1 : Int) = l[1]? := fun l => getI_nat l 1
    simp only [d, d2, cond_true, cond_false, getI_nat, g1, g2, a1, a2, a3, a4, b1, b2, Option.bind_some, (times_both _ _).2.1, (inv_both _).2.1, (diff_both _ _).2.1]
    simp only [wtV, f1, f2]
  · have d : decide ((i : Int) = 0) = false := by rw [decide_eq_false_iff_not]; omega
    have g1 : ∀ l : Mat, getI l (0 : Int) = l[0]? := fun l => getI_nat l 0
    have g2 : ∀ l : List (Int × Int), getI l (0 : Int) = l[0]? := fun l => getI_nat l 0
    have f1 : fstN i = 0 := if_neg c0
    by_cases c1 : i = 1
    · subst c1
      have f2 : sndN 1 = 2 := rfl
      simp only [f1, f2] at a2 a3 b1 b2
      have d2 : decide (((1 : Nat) : Int) = ((1 : Nat) : Int)) = true := by decide
      simp only [d, d2, decide_true, cond_true, cond_false, w2, getI_nat, g1, g2, a1, a2, a3, a4, b1, b2, Option.bind_some, (times_both _ _).2.1, (inv_both _).2.1, (diff_both _ _).2.1]
      simp only [wtV, f1, f2]
    · have f2 : sndN i = 1 := by unfold sndN; rw [if_neg c0, if_neg c1]
      simp only [f1, f2] at a2 a3 b1 b2
      have d2 : decide (((1 : Nat) : Int) = (i : Int)) = false := by rw [decide_eq_false_iff_not]; omega
      simp only [d, d2, cond_false, getI_nat, g1, g2, a1, a2, a3, a4, b1, b2, Option.bind_some, (times_both _ _).2.1, (inv_both _).2.1, (diff_both _ _).2.1]
      simp only [wtV, f1, f2]

/-- What both sides answer. -/
noncomputable def wsV (m : Mat) : List (Int × Int) × Bool := if ∀ i, i < m.length → rOk (wtV m i) = true then ((List.range m.length).map (wtV m), true) else ([], false)

theorem wsV_bad {m : Mat} {i : Nat} (hi : i < m.length) (h : rOk (wtV m i) = false) : wsV m = ([], false) := by
  rw [wsV, if_neg]; intro q; have := q i hi; rw [h] at this; cases this

theorem weights_both (m : Mat) (hm : m.length ≤ 1073741824) : ∃ q : List (Int × Int) × Bool, e_impl_StarWeights (m, ()) = some q ∧ e_spec_StarWeights (m, ()) = some q ∧ Sm.sm B1 q.1 ∧ (isSB m = true → q = wsV m) := by
  simp only [e_impl_StarWeights, r_impl_StarWeights, e_spec_StarWeights, r_spec_StarWeights, p_IsS, s_IsS m hm, Option.bind_some]
  cases hS : isSB m with
  | false => exact ⟨([], false), rfl, rfl, by simp [sm_list], fun h => by cases h⟩
  | true =>
    obtain ⟨⟨k1, k5, hSq, _⟩, h3, _⟩ := isSB_iff.1 hS
    have hN := N0_big
    have hB : m.length ≤ 9223372036854775807 := by omega
    have hd : (List.range m.length).length = m.length := by simp
    simp only [Bool.not_true, cond_false]
    have tk : ∀ i, i < m.length → (List.range (i + 1)).map (wtV m) = (List.range i).map (wtV m) ++ [wtV m i] := fun i _ => by rw [List.range_succ, List.map_append]; rfl
    have fin : ∀ q : List (Int × Int), q = (List.range m.length).map (wtV m) → (∀ i, i < m.length → rOk (wtV m i) = true) → (q, true) = wsV m := fun q hq hok => by rw [wsV, if_pos hok, hq]
    refine ⟨wsV m, ?_, ?_, ?_, fun _ => rfl⟩
    · refine iter_rule (R := List (Int × Int) × Bool) (fun o => o = some (wsV m)) (List.range m.length) (fun (q : List (Int × Int)) i => (m, q, (m.length : Int), i, ())) (fun i q => q = (List.range i).map (wtV m) ∧ ∀ j, j < i → rOk (wtV m j) = true) (fun q i _ kc ⟨hq, hok⟩ _ hi hk => ?_) (fun q kc ⟨hq, hok⟩ => ?_) (N := N0) (by omega) [] ⟨rfl, fun _ h => absurd h (Nat.not_lt_zero _)⟩
      · rw [hd] at hi
        have hn := nb h3 hi
        obtain ⟨ri, a1, a2, a3⟩ := hSq.two hi hn.1 hn.2
        obtain ⟨ri', a1', a4, _⟩ := hSq.two hi hi hi
        have er : ri' = ri := by rw [a1] at a1'; simpa using a1'.symm
        subst er
        obtain ⟨rj, b1, b2, _⟩ := hSq.two hn.1 hn.2 hn.2
        have a := iter_fold (R := List (Int × Int) × Bool) (body := r_impl_StarWeights_L2 e_impl_IsStarMatrix e_impl_RatioTimes e_impl_RatioInverse e_impl_RatioDiff e_impl_RatioOk N0) (List.range m.length) (fun (p : List Int) j => (m, q, (i : Int), p, (m.length : Int), (i : Int), (m.length : Int), j, ())) (fun _ p => p.length ≤ 2) (pairG i)
          (fun p j x kc ke hp _ hj => by
            rw [hd] at hj
            have bl : Nat.ble (p.length + List.length ((j : Int) :: ([] : List Int))) 17179869184 = true := ble_true (by simp; omega)
            refine ⟨?_, by simp only [pairG]; split; · simp; omega
                           · omega⟩
            simp only [r_impl_StarWeights_L2, lt_len, hj, decide_true, cond_true, wr_succ hj hB, pairG]
            by_cases c1 : j = i
            · have dd : decide ((j : Int) = (i : Int)) = true := by rw [decide_eq_true_eq]; omega
              rw [if_neg (by omega)]
              simp only [dd, Bool.not_true, cond_false]
            · have dd : decide ((j : Int) = (i : Int)) = false := by rw [decide_eq_false_iff_not]; omega
              simp only [dd, Bool.not_false, cond_true]
              by_cases c2 : p.length < 2
              · have d2 : decide (((p.length : Nat) : Int) < 2) = true := by rw [decide_eq_true_eq]; omega
                rw [if_pos ⟨c1, c2⟩]
                simp only [d2, cond_true, bl]
              · have d2 : decide (((p.length : Nat) : Int) < 2) = false := by rw [decide_eq_false_iff_not]; omega
                rw [if_neg (by omega)]
                simp only [d2, cond_false])
          (fun p kc ke _ => by
            have dl : decide ((((List.range m.length).length : Nat) : Int) < ((m.length : Nat) : Int)) = false := by rw [decide_eq_false_iff_not, hd]; omega
            simp only [r_impl_StarWeights_L2, dl, cond_false]) (N := N0) (by omega) [] (by simp)
        simp only [r_impl_StarWeights_L0, lt_len, hi, decide_true, cond_true]
        rw [(a _).1, pairs_ok m.length (by omega) h3 i hi]
        have g0 : getI [((fstN i : Nat) : Int), ((sndN i : Nat) : Int)] 0 = some ((fstN i : Nat) : Int) := rfl
        have g1 : getI [((fstN i : Nat) : Int), ((sndN i : Nat) : Int)] 1 = some ((sndN i : Nat) : Int) := rfl
        have hql : q.length ≤ 5 := by rw [hq]; simp; omega
        have bl : ∀ v : Int × Int, Nat.ble (q.length + List.length (v :: ([] : List (Int × Int)))) 17179869184 = true := fun v => ble_true (by simp; omega)
        have hw : sumV (-1) (en m i i) (timV (timV (en m i (fstN i)) (en m i (sndN i))) (invV (en m (fstN i) (sndN i)))) = wtV m i := rfl
        simp only [g0, g1, getI_nat, a1, a2, a3, a4, b1, b2, Option.bind_some, (times_both _ _).1, (inv_both _).1, (diff_both _ _).1, p_rOk, bl, cond_true, wr_succ hi hB, hw]
        cases hr : rOk (wtV m i) with
        | false => simp only [Bool.not_false, cond_true, wsV_bad hi hr]
        | true =>
          simp only [Bool.not_true, cond_false]
          refine hk _ ⟨by rw [tk i hi, hq], fun j hj => ?_⟩
          by_cases e : j = i
          · subst e; exact hr
          · exact hok j (by omega)
      · rw [hd] at hq hok
        have dl : decide ((((List.range m.length).length : Nat) : Int) < ((m.length : Nat) : Int)) = false := by rw [decide_eq_false_iff_not, hd]; omega
        simp only [r_impl_StarWeights_L0, dl, cond_false, fin q hq hok]
    · refine iter_rule (R := List (Int × Int) × Bool) (fun o => o = some (wsV m)) (List.range m.length) (fun (q : List (Int × Int)) i => (m, q, (m.length : Int), i, ())) (fun i q => q = (List.range i).map (wtV m) ∧ ∀ j, j < i → rOk (wtV m j) = true) (fun q i _ kc ⟨hq, hok⟩ _ hi hk => ?_) (fun q kc ⟨hq, hok⟩ => ?_) (N := N0) (by omega) [] ⟨rfl, fun _ h => absurd h (Nat.not_lt_zero _)⟩
      · rw [hd] at hi
        have hql : q.length ≤ 5 := by rw [hq]; simp; omega
        have bl : ∀ v : Int × Int, Nat.ble (q.length + List.length (v :: ([] : List (Int × Int)))) 17179869184 = true := fun v => ble_true (by simp; omega)
        simp only [r_spec_StarWeights_L0, lt_len, hi, decide_true, cond_true, s_Wt m hSq h3 hi k5, s_rOk, Option.bind_some, bl, wr_succ hi hB]
        cases hr : rOk (wtV m i) with
        | false => simp only [Bool.not_false, cond_true, wsV_bad hi hr]
        | true =>
          simp only [Bool.not_true, cond_false]
          refine hk _ ⟨by rw [tk i hi, hq], fun j hj => ?_⟩
          by_cases e : j = i
          · subst e; exact hr
          · exact hok j (by omega)
      · rw [hd] at hq hok
        have dl : decide ((((List.range m.length).length : Nat) : Int) < ((m.length : Nat) : Int)) = false := by rw [decide_eq_false_iff_not, hd]; omega
        simp only [r_spec_StarWeights_L0, dl, cond_false, fin q hq hok]
    · rw [wsV]
      split
      · refine ⟨by simp only [List.length_map, List.length_range, B1]; omega, fun x hx => ?_⟩
        obtain ⟨i, _, rfl⟩ := List.mem_map.1 hx
        exact (diff_both _ _).2.2
      · simp [sm_list]

end Go.Sx.R
namespace Go.Sx.R
open Go Go.Sx

theorem s_Ratio {a b : Int} (ha : a.natAbs ≤ 1000000000000000000) (hb : 1 ≤ b) (hb2 : b ≤ 1000000000000000) : e_spec_RatioOf (a, b, ()) = some (ratZ a b) := by
  obtain ⟨r, r1, r2, _⟩ := ratio_all a b (by omega) (by omega) (by omega) (by omega)
  rw [p_Ratio ha hb hb2] at r1
  rw [r2, r1]

theorem s_RatioN {a b : Int} (ha : 0 ≤ a) (ha2 : a ≤ 1000000000000000000) (hb : 1 ≤ b) (hb2 : b ≤ 1000000000000000) : e_spec_RatioOf (a, -b, ()) = some (ratZ (-a) b) := by
  obtain ⟨r, r1, r2, _⟩ := ratio_all a (-b) (by omega) (by omega) (by omega) (by omega)
  rw [r2, ← r1]
  have nb : (-b).natAbs = b.natAbs := Int.natAbs_neg b
  have na : (-a).natAbs = a.natAbs := Int.natAbs_neg a
  simp only [e_impl_RatioOf, r_impl_RatioOf, p_sizeI a (by omega) (by omega), p_sizeI (-b) (by omega) (by omega), nb, p_common a.natAbs b.natAbs (by omega), Option.bind_some]
  have hg : 0 < Nat.gcd a.natAbs b.natAbs := Nat.gcd_pos_of_pos_right _ (by omega)
  have la : a.natAbs / Nat.gcd a.natAbs b.natAbs ≤ a.natAbs := Nat.div_le_self _ _
  have lb : b.natAbs / Nat.gcd a.natAbs b.natAbs ≤ b.natAbs := Nat.div_le_self _ _
  have ta : Int.tdiv (a.natAbs : Int) ((Nat.gcd a.natAbs b.natAbs : Nat) : Int) = ((a.natAbs / Nat.gcd a.natAbs b.natAbs : Nat) : Int) := by rw [Int.tdiv_eq_ediv_of_nonneg (by omega)]; simp
  have tb : Int.tdiv (b.natAbs : Int) ((Nat.gcd a.natAbs b.natAbs : Nat) : Int) = ((b.natAbs / Nat.gcd a.natAbs b.natAbs : Nat) : Int) := by rw [Int.tdiv_eq_ediv_of_nonneg (by omega)]; simp
  have tn : Int.tdiv (-a) ((Nat.gcd a.natAbs b.natAbs : Nat) : Int) = -((a.natAbs / Nat.gcd a.natAbs b.natAbs : Nat) : Int) := by
    rw [Int.neg_tdiv, (tdiv_abs a _).1 ha]
  have td := (tdiv_abs b (Nat.gcd a.natAbs b.natAbs)).1 (by omega)
  unfold ratZ
  rw [na, ta, tb, tn, td]
  generalize Nat.gcd a.natAbs b.natAbs = g at *
  generalize a.natAbs / g = p at *
  generalize b.natAbs / g = q at *
  have d1 : decide (-b = 0) = false := by rw [decide_eq_false_iff_not]; omega
  have d2 : decide ((g : Int) = 0) = false := by rw [decide_eq_false_iff_not]; omega
  have ua : Go.IntKind.wrap Go.IntKind.u64 ((p : Nat) : Int) = ((p : Nat) : Int) := u64_id (by omega) (by omega)
  have ub : Go.IntKind.wrap Go.IntKind.u64 ((q : Nat) : Int) = ((q : Nat) : Int) := u64_id (by omega) (by omega)
  have wa : wr ((p : Nat) : Int) = ((p : Nat) : Int) := wr_id (by omega) (by omega)
  have wb : wr ((q : Nat) : Int) = ((q : Nat) : Int) := wr_id (by omega) (by omega)
  have wn : wr (0 - ((p : Nat) : Int)) = -((p : Nat) : Int) := by rw [wr_id (by omega) (by omega)]; omega
  have k1 : decide ((p : Int) > 1000000000000000000) = false := by rw [decide_eq_false_iff_not]; omega
  have k2 : decide ((q : Int) > 1000000000000000) = false := by rw [decide_eq_false_iff_not]; omega
  have sb : decide (-b < 0) = true := by rw [decide_eq_true_eq]; omega
  have sa : decide (a < 0) = false := by rw [decide_eq_false_iff_not]; omega
  simp only [d1, d2, cond_false, ua, ub, wa, wb, wn, k1, k2, sb, sa, beqB, Bool.not_false, cond_true]
  rfl

theorem rOkZ {a b : Int} (ha : a.natAbs ≤ 1000000) (hb : 1 ≤ b) (hb2 : b ≤ 1000000) : rOk (ratZ a b) = true := by
  obtain ⟨g, hg, e1, e2, e3, e4⟩ := ratZ_spec (a := a) hb
  have l1 := ratZ_le (a := a) hb
  simp only [rOk, e4, Bool.and_eq_true, decide_eq_true_eq]
  omega

theorem fitZ {a b : Int} (ha : a.natAbs ≤ 1000000) (hb : b.natAbs ≤ 1000000) : fitP a b = true := by
  by_cases h : b.natAbs = 0
  · have : b = 0 := by omega
    subst this; simp [fitP]
  · have h1 : 1000000 ≤ 1000000000000000000 / b.natAbs := by
      rw [Nat.le_div_iff_mul_le (by omega)]
      have := Nat.mul_le_mul_left 1000000 hb
      omega
    have : decide (a.natAbs ≤ 1000000000000000000 / b.natAbs) = true := by rw [decide_eq_true_eq]; omega
    simp only [fitP, this, Bool.or_true]

theorem calcZ {a b c d : Int} (ha : a.natAbs ≤ 1000000) (hb : 1 ≤ b) (hb2 : b ≤ 1000000) (hc : c.natAbs ≤ 1000000) (hd : 1 ≤ d) (hd2 : d ≤ 1000000) : calc2 (ratZ a b) (ratZ c d) = true := by
  have l1 := ratZ_le (a := a) hb
  have l2 := ratZ_le (a := c) hd
  simp only [calc2, rOkZ ha hb hb2, rOkZ hc hd hd2, fitZ (a := (ratZ a b).1) (b := (ratZ c d).2) (by omega) (by omega), fitZ (a := (ratZ c d).1) (b := (ratZ a b).2) (by omega) (by omega), fitZ (a := (ratZ a b).2) (b := (ratZ c d).2) (by omega) (by omega), fitZ (a := (ratZ a b).1) (b := (ratZ c d).1) (by omega) (by omega), Bool.and_self]

theorem mul_le6 {x y : Int} {k l : Nat} (hx : x.natAbs ≤ k) (hy : y.natAbs ≤ l) : (x * y).natAbs ≤ k * l := by
  rw [Int.natAbs_mul]; exact Nat.mul_le_mul hx hy

theorem timZ {a b c d : Int} (ha : a.natAbs ≤ 1000000) (hb : 1 ≤ b) (hb2 : b ≤ 1000000) (hc : c.natAbs ≤ 1000000) (hd : 1 ≤ d) (hd2 : d ≤ 1000000) : timV (ratZ a b) (ratZ c d) = ratZ (a * c) (b * d) := by
  have l1 := ratZ_le (a := a) hb
  have l2 := ratZ_le (a := c) hd
  have x1 := ratZ_cross (a := a) hb
  have x2 := ratZ_cross (a := c) hd
  have m1 := mul_le6 (x := (ratZ a b).1) (y := (ratZ c d).1) (k := 1000000) (l := 1000000) (by omega) (by omega)
  have m2 := mul_le6 (x := (ratZ a b).2) (y := (ratZ c d).2) (k := 1000000) (l := 1000000) (by omega) (by omega)
  have p2 : 1 * 1 ≤ (ratZ a b).2 * (ratZ c d).2 := Int.mul_le_mul l1.2.1 l2.2.1 (by omega) (by omega)
  have p3 : 1 * 1 ≤ b * d := Int.mul_le_mul hb hd (by omega) (by omega)
  rw [timV, if_pos (calcZ ha hb hb2 hc hd hd2), s_Ratio (by omega) (by omega) (by omega), Option.getD_some, ratZ_eq (by omega) (by omega)]
  generalize (ratZ a b).1 = p at *
  generalize (ratZ a b).2 = q at *
  generalize (ratZ c d).1 = r at *
  generalize (ratZ c d).2 = s at *
  have e1 : p * r * (b * d) = (p * b) * (r * d) := by grind
  rw [e1, x1, x2]; grind

theorem sumZ {a b c d : Int} (sg : Int) (hs : sg = 1 ∨ sg = -1) (ha : a.natAbs ≤ 1000000) (hb : 1 ≤ b) (hb2 : b ≤ 1000000) (hc : c.natAbs ≤ 1000000) (hd : 1 ≤ d) (hd2 : d ≤ 1000000) : sumV sg (ratZ a b) (ratZ c d) = ratZ (a * d + sg * (c * b)) (b * d) := by
  have l1 := ratZ_le (a := a) hb
  have l2 := ratZ_le (a := c) hd
  have x1 := ratZ_cross (a := a) hb
  have x2 := ratZ_cross (a := c) hd
  have m1 := mul_le6 (x := (ratZ a b).1) (y := (ratZ c d).2) (k := 1000000) (l := 1000000) (by omega) (by omega)
  have m3 := mul_le6 (x := (ratZ c d).1) (y := (ratZ a b).2) (k := 1000000) (l := 1000000) (by omega) (by omega)
  have m2 := mul_le6 (x := (ratZ a b).2) (y := (ratZ c d).2) (k := 1000000) (l := 1000000) (by omega) (by omega)
  have m4 : (sg * ((ratZ c d).1 * (ratZ a b).2)).natAbs ≤ 1000000000000 := by rcases hs with rfl | rfl <;> omega
  have p2 : 1 * 1 ≤ (ratZ a b).2 * (ratZ c d).2 := Int.mul_le_mul l1.2.1 l2.2.1 (by omega) (by omega)
  have p3 : 1 * 1 ≤ b * d := Int.mul_le_mul hb hd (by omega) (by omega)
  rw [sumV, if_pos (calcZ ha hb hb2 hc hd hd2), s_Ratio (by omega) (by omega) (by omega), Option.getD_some, ratZ_eq (by omega) (by omega)]
  clear m4
  generalize (ratZ a b).1 = p at *
  generalize (ratZ a b).2 = q at *
  generalize (ratZ c d).1 = r at *
  generalize (ratZ c d).2 = s at *
  have e1 : (p * s + sg * (r * q)) * (b * d) = (p * b) * s * d + sg * ((r * d) * q * b) := by grind
  rw [e1, x1, x2]; grind

theorem sumZ1 {a c D : Int} (ha : a.natAbs ≤ 1000000) (hc : c.natAbs ≤ 1000000) (hD : 1 ≤ D) (hD2 : D ≤ 1000000) : sumV 1 (ratZ a D) (ratZ c D) = ratZ (a + c) D := by
  have p3 : 1 * 1 ≤ D * D := Int.mul_le_mul hD hD (by omega) (by omega)
  rw [sumZ 1 (.inl rfl) ha hD hD2 hc hD hD2, ratZ_eq (by omega) hD]; grind

theorem invZ {a b : Int} (ha : 1 ≤ a) (ha2 : a ≤ 1000000) (hb : 1 ≤ b) (hb2 : b ≤ 1000000) : invV (ratZ (-a) b) = ratZ (-b) a := by
  have l1 := ratZ_le (a := -a) hb
  have x1 := ratZ_cross (a := -a) hb
  have n1 := (ratZ_neg (a := -a) hb).2 (by omega)
  rw [invV, if_pos (rOkZ (by omega) hb hb2)]
  have e : (ratZ (-a) b).1 = -(-(ratZ (-a) b).1) := by omega
  rw [e, s_RatioN (by omega) (by omega) (by omega) (by omega), Option.getD_some, ratZ_eq (by omega) ha]
  generalize (ratZ (-a) b).1 = p at *
  generalize (ratZ (-a) b).2 = q at *
  grind

theorem rowZ {D : Int} (hD : 1 ≤ D) (hD2 : D ≤ 1000000) : ∀ (l : List Int) (s : Int), s.natAbs + 1000 * l.length ≤ 1000000 → (∀ x ∈ l, x.natAbs ≤ 1000) → (l.map fun x => ratZ x D).foldl (sumV 1) (ratZ s D) = ratZ (s + l.sum) D
  | [], s, _, _ => by simp
  | x :: l, s, hs, hx => by
    have := hx x (by simp)
    simp only [List.length_cons] at hs
    simp only [List.map_cons, List.foldl_cons, List.sum_cons]
    rw [sumZ1 (by omega) (by omega) hD hD2, rowZ hD hD2 l (s + x) (by omega) fun y hy => hx y (by simp [hy])]
    congr 1; omega

end Go.Sx.R
namespace Go.Sx.R
open Go Go.Sx

/-- A star's wires. -/
def starL (w : Nat → Int) (K i : Nat) : List W3 := (List.range' 0 i).map fun (j : Nat) => ((j : Int), (K : Int), w j)

theorem starL_add (w : Nat → Int) (K i : Nat) : starL w K (i + 1) = starL w K i ++ [((i : Int), (K : Int), w i)] := by
  simp only [starL]
  rw [List.range'_concat]; simp

theorem starL_get (w : Nat → Int) (K : Nat) {i j : Nat} (h : j < i) : (starL w K i)[j]? = some ((j : Int), (K : Int), w j) := by
  simp only [starL]
  rw [List.getElem?_map, range'_get0 h]; rfl

theorem starL_mem {w : Nat → Int} {K i : Nat} {e : W3} : e ∈ starL w K i ↔ ∃ j : Nat, j < i ∧ e = ((j : Int), (K : Int), w j) := by
  simp only [starL, List.mem_map, List.mem_range'_1]
  constructor
  · rintro ⟨j, hj, rfl⟩; exact ⟨j, by omega, rfl⟩
  · rintro ⟨j, hj, rfl⟩; exact ⟨j, by omega, rfl⟩

theorem makeStar_ok {A : Option (Nat × Obj)} {v : Value} (hc : CodeOk A v) : ∃ (K : Nat) (s : Int) (w : Nat → Int), (K = 3 ∨ K = 4) ∧ 1 ≤ s ∧ s ≤ 3 ∧ (∀ i, 1 ≤ w i ∧ w i ≤ 6) ∧ e_spec_MakeStar A (v, ()) = some (((K + 1 : Nat) : Int), (K : Int), s, starL w K K) := by
  obtain ⟨y, e, g⟩ := new_ok hc
  obtain ⟨y1, k, e1, g1, k0, k1⟩ := below_ok g (n := 2) (by omega) (by omega)
  obtain ⟨y2, t, e2, g2, t0, t1⟩ := below_ok g1 (n := 3) (by omega) (by omega)
  obtain ⟨K, hK⟩ : ∃ K : Nat, 3 + k = K := ⟨(3 + k).toNat, by omega⟩
  have w1 : wr (3 + k) = (K : Int) := by rw [hK]; exact wr_id (by omega) (by omega)
  have w2 : wr ((K : Int) + 1) = ((K + 1 : Nat) : Int) := by rw [wr_id (by omega) (by omega)]; omega
  have w3 : wr (1 + t) = 1 + t := wr_id (by omega) (by omega)
  simp only [e_spec_MakeStar, r_spec_MakeStar, e, e_spec_l08Star, r_spec_l08Star, e1, e2, w1, w2, w3, Option.bind_some]
  have main : ∃ (s : CurV × TNet) (w : Nat → Int), (iterK (r_spec_l08Star_L0 (e_spec_l01Below A) N0) N0 (y2, (((0 : Int), (0 : Int), (0 : Int), ([] : List W3)) : TNet), (K : Int), ((((K + 1 : Nat) : Int), (K : Int), 1 + t, ([] : List W3)) : TNet), (0 : Int), ()) fun s3 => some (s3.1, s3.2.2.2.1)) = some s ∧ (∀ i, 1 ≤ w i ∧ w i ≤ 6) ∧ s.2 = (((K + 1 : Nat) : Int), (K : Int), 1 + t, starL w K K) := by
    refine iter_while (Q := fun (o : Option (CurV × TNet)) => ∃ (s : CurV × TNet) (w : Nat → Int), o = some s ∧ (∀ i, 1 ≤ w i ∧ w i ≤ 6) ∧ s.2 = (((K + 1 : Nat) : Int), (K : Int), 1 + t, starL w K K))
      (p := fun s : CurV × TNet × Int × TNet × Int × Unit => CurGood A s.1 ∧ s.2.1 = (0, 0, 0, []) ∧ s.2.2.1 = (K : Int) ∧ ∃ (w : Nat → Int) (i : Nat), (∀ i, 1 ≤ w i ∧ w i ≤ 6) ∧ i ≤ K ∧ s.2.2.2.2.1 = (i : Int) ∧ s.2.2.2.1 = (((K + 1 : Nat) : Int), (K : Int), 1 + t, starL w K i)) (mu := fun s => (K - s.2.2.2.2.1.toNat)) ?_ N0 _
      ⟨g2, rfl, rfl, fun _ => 1, 0, fun _ => by show (1 : Int) ≤ 1 ∧ (1 : Int) ≤ 6; omega, by omega, rfl, rfl⟩ (by have := N0_big; show K - _ < N0; omega)
    rintro ⟨y, z, k', q, iz, u⟩ kc ⟨g, h1, h2, w, i, hw, hiK, h3, h4⟩ hk
    simp only at g h1 h2 h3 h4
    subst h1 h2 h3 h4
    simp only [r_spec_l08Star_L0]
    by_cases hi : i < K
    · have l1 : decide ((i : Int) < (K : Int)) = true := by rw [decide_eq_true_eq]; omega
      obtain ⟨y3, x, e3, g3, x0, x1⟩ := below_ok g (n := 6) (by omega) (by omega)
      have v1 : wr (1 + x) = 1 + x := wr_id (by omega) (by omega)
      have v2 : wr ((i : Int) + 1) = ((i + 1 : Nat) : Int) := by rw [wr_id (by omega) (by omega)]; omega
      have hl : (starL w K i).length = i := by simp [starL]
      have bl : Nat.ble ((starL w K i).length + List.length (((i : Int), ((K : Int), 1 + x)) :: ([] : List W3))) 17179869184 = true := ble_true (by simp; omega)
      simp only [l1, cond_true, e3, Option.bind_some, v1, v2, bl]
      refine hk (y3, (0, 0, 0, []), (K : Int), (((K + 1 : Nat) : Int), (K : Int), 1 + t, starL w K i ++ [((i : Int), ((K : Int), 1 + x))]), ((i + 1 : Nat) : Int), ()) ⟨g3, rfl, rfl, fun j => if j = i then 1 + x else w j, i + 1, fun j => ?_, by omega, rfl, ?_⟩ (by show K - ((i + 1 : Nat) : Int).toNat < K - ((i : Nat) : Int).toNat; omega)
      · show 1 ≤ (if j = i then 1 + x else w j) ∧ (if j = i then 1 + x else w j) ≤ 6
        have := hw j
        split <;> omega
      · have e : starL (fun j => if j = i then 1 + x else w j) K (i + 1) = starL w K i ++ [((i : Int), ((K : Int), 1 + x))] := by
          rw [starL_add]
          congr 1
          · simp only [starL]
            refine List.map_congr_left fun j hj => ?_
            rw [List.mem_range'_1] at hj
            rw [if_neg (by omega)]
          · rw [if_pos rfl]
        rw [e]
    · have l1 : decide ((i : Int) < (K : Int)) = false := by rw [decide_eq_false_iff_not]; omega
      have ei : i = K := by omega
      subst ei
      simp only [l1, cond_false]
      exact ⟨_, w, rfl, hw, rfl⟩
  obtain ⟨s, w, m1, m2, m3⟩ := main
  refine ⟨K, 1 + t, w, by omega, by omega, by omega, m2, ?_⟩
  rw [m1]
  simp only [Option.bind_some, m3]

theorem star_wok {w : Nat → Int} (hw : ∀ i, 1 ≤ w i ∧ w i ≤ 6) (K : Nat) : Wok (K + 1) 6 (starL w K K) := by
  refine ⟨?_, fun e he => ?_, fun e he => ?_⟩
  · refine List.pairwise_iff_getElem.2 fun a b ha hb hab => ?_
    have hl : (starL w K K).length = K := by simp [starL]
    have g1 := starL_get w K (i := K) (j := a) (by omega)
    have g2 := starL_get w K (i := K) (j := b) (by omega)
    rw [List.getElem?_eq_getElem ha] at g1
    rw [List.getElem?_eq_getElem hb] at g2
    have g1 := Option.some.inj g1
    have g2 := Option.some.inj g2
    rw [g1, g2, lex_iff]
    simp only; omega
  · obtain ⟨j, hj, rfl⟩ := starL_mem.1 he
    simp only; omega
  · obtain ⟨j, hj, rfl⟩ := starL_mem.1 he
    exact hw j

theorem zsumR {F : Int → Int} : ∀ (l : List Int), (∀ y ∈ l, F y = 0) → (l.map F).sum = 0
  | [], _ => rfl
  | y :: l, h => by simp only [List.map_cons, List.sum_cons, h y (by simp), zsumR l fun z hz => h z (by simp [hz])]; rfl

/-- What is known of a star that is drawn. -/
structure Star (n : TNet) (K : Nat) (s W : Int) (w : Nat → Int) (L : List (List Int)) : Prop where
  nk : Nk n (K + 1) K L [(K : Int)]
  k : K = 3 ∨ K = 4
  s1 : 1 ≤ s ∧ s ≤ 3
  sc : n.2.2.1 = s
  hw : ∀ i, 1 ≤ w i ∧ w i ≤ 6
  ii : ∀ i : Nat, i < K → topF L [(K : Int)] i i = w i * (W - w i)
  ij : ∀ i j : Nat, i < K → j < K → i ≠ j → topF L [(K : Int)] i j = -(w i * w j)
  dn : dOf n L [(K : Int)] = s * W
  bd : ∀ i, i < K → w i < W
  W24 : W ≤ 24

theorem star_of {K : Nat} {s : Int} {w : Nat → Int} (hK : K = 3 ∨ K = 4) (hs : 1 ≤ s ∧ s ≤ 3) (hw : ∀ i, 1 ≤ w i ∧ w i ≤ 6) : ∃ W L, Star (((K + 1 : Nat) : Int), (K : Int), s, starL w K K) K s W w L ∧ netok (((K + 1 : Nat) : Int), (K : Int), s, starL w K K) = true := by
  have wk := star_wok hw K
  have hok : netok (((K + 1 : Nat) : Int), (K : Int), s, starL w K K) = true := by
    refine netok_of (m := K + 1) rfl (by omega) (by omega) (by show (1 : Int) ≤ (K : Int); omega) (by show (K : Int) ≤ ((K + 1 : Nat) : Int); omega) (by show 1 ≤ s; omega) (by show s ≤ 1000; omega) (wk.up (by omega)) fun v h0 h1 => ?_
    have h1 : v < ((K + 1 : Nat) : Int) := h1
    have rK : Rc (starL w K K) (K : Int) := Rc.ab (e := (((0 : Nat) : Int), (K : Int), w 0)) (starL_mem.2 ⟨0, by omega, rfl⟩) .zero
    by_cases e : v = K
    · rw [e]; exact rK
    · obtain ⟨j, rfl⟩ : ∃ j : Nat, v = j := ⟨v.toNat, by omega⟩
      exact Rc.ba (e := ((j : Int), (K : Int), w j)) (starL_mem.2 ⟨j, by omega, rfl⟩) rK
  have hl : Sm.sm B0 (starL w K K) := wk.sm (by omega) (by omega) (by simp [starL]; omega)
  have h0 : Sm.sm B0 ((((K + 1 : Nat) : Int), (K : Int), s, starL w K K) : TNet) := ⟨(⟨by omega, by omega⟩ : Sm.sm B0 (((K + 1 : Nat) : Int))), (⟨by omega, by omega⟩ : Sm.sm B0 ((K : Nat) : Int)), (⟨by omega, by omega⟩ : Sm.sm B0 (s : Int)), hl⟩
  obtain ⟨m, E, L, inn, h⟩ := nk_of _ (up_net B01 h0) hok
  have em : m = K + 1 := by have := h.hm; simp only at this; omega
  have eE : E = K := by have := h.he; simp only at this; omega
  subst em eE
  have ei : inn = [(E : Int)] := by
    have l := h.len_inn
    match inn, l with
    | [x], _ =>
      have := h.mem_inn.1 (show x ∈ [x] by simp)
      have : x = (E : Int) := by omega
      rw [this]
    | [], l => simp at l <;> omega
    | _ :: _ :: _, l => simp at l <;> omega
  subst ei
  have lk := h.lk
  have wiK : ∀ i : Nat, i < E → at2 L (i : Int) (E : Int) = -w i ∧ at2 L (E : Int) (i : Int) = -w i := by
    intro i hi
    have b : wbt (starL w E E) (i : Int) (E : Int) = w i := (wbt_mem wk.srt (by omega) (w := w i) (by have := hw i; omega)).2 (starL_mem.2 ⟨i, hi, rfl⟩)
    have b' : wbt (starL w E E) (E : Int) (i : Int) = w i := by rw [wbt_comm]; exact b
    rw [lk.a2 (by omega) (by omega), lk.a2 (by omega) (by omega), if_neg (by omega), if_neg (by omega)]
    exact ⟨by rw [b], by rw [b']⟩
  have wij : ∀ i j : Nat, i < E → j < E → i ≠ j → at2 L (i : Int) (j : Int) = 0 := by
    have lt : ∀ i j : Nat, i < j → j < E → wbt (starL w E E) (i : Int) (j : Int) = 0 := by
      intro i j hij hj
      apply Classical.byContradiction
      intro hz
      have := (wbt_mem wk.srt (show (i : Int) < j by omega) hz).1 rfl
      obtain ⟨k, hk, e⟩ := starL_mem.1 this
      have := congrArg (fun e : W3 => e.2.1) e
      simp only at this; omega
    intro i j hi hj hij
    rw [lk.a2 (by omega) (by omega), if_neg (by omega)]
    show -wbt (starL w E E) (i : Int) (j : Int) = 0
    rcases Nat.lt_or_gt_of_ne hij with q | q
    · rw [lt i j q hj]; rfl
    · rw [wbt_comm, lt j i q hi]; rfl
  have pV : (wo (E + 1) []).Perm (endsL E ++ [(E : Int)]) := by
    refine perm_of (wo_nd _ _) ?_ fun c => ?_
    · rw [List.nodup_append]
      exact ⟨nd_endsL E, by simp, fun a ha b hb => by have := mem_endsL.1 ha; simp at hb; omega⟩
    · rw [List.mem_append, mem_endsL, mem_wo]
      simp only [List.not_mem_nil, not_false_eq_true, and_true, List.mem_cons, or_false]; omega
  have wii : ∀ i : Nat, i < E → at2 L (i : Int) (i : Int) = w i := by
    intro i hi
    have s1 := lk.lapZ.sum (i : Int) (mem_wo.2 ⟨by omega, by omega, by simp⟩)
    rw [perm_sum (pV.map (at2 L (i : Int))), List.map_append, List.sum_append] at s1
    have iin : (i : Int) ∈ endsL E := mem_endsL.2 (by omega)
    have pe := List.perm_cons_erase iin
    have nde := List.nodup_cons.1 (pe.nodup_iff.1 (nd_endsL E))
    rw [perm_sum (pe.map (at2 L (i : Int)))] at s1
    simp only [List.map_cons, List.sum_cons, List.map_nil, List.sum_nil] at s1
    rw [zsumR (F := at2 L (i : Int)) ((endsL E).erase (i : Int)) fun y hy => by
      have hy' := mem_endsL.1 (List.mem_of_mem_erase hy)
      have hne : (i : Int) ≠ y := by rintro rfl; exact nde.1 hy
      obtain ⟨k, rfl⟩ : ∃ k : Nat, y = k := ⟨y.toNat, by omega⟩
      exact wij i k hi (by omega) (by omega), (wiK i hi).1] at s1
    omega
  have wKK : at2 L (E : Int) (E : Int) = ((endsL E).map fun c => w c.toNat).sum := by
    have s1 := lk.lapZ.sum (E : Int) (mem_wo.2 ⟨by omega, by omega, by simp⟩)
    rw [perm_sum (pV.map (at2 L (E : Int))), List.map_append, List.sum_append] at s1
    have e : (endsL E).map (at2 L (E : Int)) = (endsL E).map fun c => (-1) * w c.toNat + 0 * w c.toNat := List.map_congr_left fun c hc => by
      have hc := mem_endsL.1 hc
      obtain ⟨k, rfl⟩ : ∃ k : Nat, c = k := ⟨c.toNat, by omega⟩
      rw [(wiK k (by omega)).2, Int.toNat_natCast]; omega
    rw [e, sum_lin2 (-1) 0 (fun c => w c.toNat) (fun c => w c.toNat)] at s1
    simp only [List.map_cons, List.sum_cons, List.map_nil, List.sum_nil] at s1
    omega
  have bds : (∀ i, i < E → w i < at2 L (E : Int) (E : Int)) ∧ at2 L (E : Int) (E : Int) ≤ 24 := by
    have a0 := hw 0; have a1 := hw 1; have a2 := hw 2; have a3 := hw 3
    rcases hK with rfl | rfl
    · have e : endsL 3 = [0, 1, 2] := rfl
      rw [wKK, e]
      simp only [List.map_cons, List.map_nil, List.sum_cons, List.sum_nil]
      have t1 : (0 : Int).toNat = 0 := rfl
      have t2 : (1 : Int).toNat = 1 := rfl
      have t3 : (2 : Int).toNat = 2 := rfl
      rw [t1, t2, t3]
      refine ⟨fun i hi => ?_, by omega⟩
      rcases (show i = 0 ∨ i = 1 ∨ i = 2 by omega) with rfl | rfl | rfl <;> omega
    · have e : endsL 4 = [0, 1, 2, 3] := rfl
      rw [wKK, e]
      simp only [List.map_cons, List.map_nil, List.sum_cons, List.sum_nil]
      have t1 : (0 : Int).toNat = 0 := rfl
      have t2 : (1 : Int).toNat = 1 := rfl
      have t3 : (2 : Int).toNat = 2 := rfl
      have t4 : (3 : Int).toNat = 3 := rfl
      rw [t1, t2, t3, t4]
      refine ⟨fun i hi => ?_, by omega⟩
      rcases (show i = 0 ∨ i = 1 ∨ i = 2 ∨ i = 3 by omega) with rfl | rfl | rfl | rfl <;> omega
  refine ⟨at2 L (E : Int) (E : Int), L, ⟨h, hK, hs, rfl, hw, fun i hi => ?_, fun i j hi hj hij => ?_, ?_, bds.1, bds.2⟩, hok⟩
  · simp only [topF, detZ2]
    rw [wii i hi, (wiK i hi).1, (wiK i hi).2]; grind
  · simp only [topF, detZ2]
    rw [wij i j hi hj hij, (wiK i hi).1, (wiK j hj).2]; grind
  · simp only [dOf, detZ1]

section
variable {n : TNet} {K : Nat} {s W : Int} {w : Nat → Int} {L : List (List Int)}

/-- The response's numerators. -/
def starT (w : Nat → Int) (W : Int) (i j : Nat) : Int := if i = j then w i * (W - w i) else -(w i * w j)

theorem Star.bds (h : Star n K s W w L) : (∀ i j, i < K → j < K → (starT w W i j).natAbs ≤ 144 ∧ starT w W i j ≠ 0) ∧ 1 ≤ s * W ∧ s * W ≤ 72 := by
  have h1 := h.s1
  have w24 := h.W24
  have w1 : 1 ≤ W := by have := h.bd 0 (by have := h.k; omega); have := h.hw 0; omega
  refine ⟨fun i j hi hj => ?_, ?_, ?_⟩
  · have a := h.hw i
    have b := h.hw j
    have c := h.bd i hi
    unfold starT
    split
    · have p : 1 * 1 ≤ w i * (W - w i) := Int.mul_le_mul (by omega) (by omega) (by omega) (by omega)
      have q : w i * (W - w i) ≤ 6 * 24 := Int.mul_le_mul (by omega) (by omega) (by omega) (by omega)
      omega
    · have p : 1 * 1 ≤ w i * w j := Int.mul_le_mul (by omega) (by omega) (by omega) (by omega)
      have q : w i * w j ≤ 6 * 6 := Int.mul_le_mul (by omega) (by omega) (by omega) (by omega)
      omega
  · have : 1 * 1 ≤ s * W := Int.mul_le_mul (by omega) (by omega) (by omega) (by omega)
    omega
  · have : s * W ≤ 3 * 24 := Int.mul_le_mul (by omega) (by omega) (by omega) (by omega)
    omega

theorem Star.en (h : Star n K s W w L) {i j : Nat} (hi : i < K) (hj : j < K) : en (respV n) i j = ratZ (starT w W i j) (s * W) := by
  have hk := h.k
  rw [h.nk.respV]
  simp only [respT, Go.Sx.R.en]
  rw [List.getElem?_map, range'_get0 hi]
  simp only [Option.map_some, Option.getD_some]
  rw [List.getElem?_map, range'_get0 hj]
  simp only [Option.map_some, Option.getD_some]
  rw [h.nk.rtZ (by omega) hi hj, h.dn]
  congr 1
  show topF L [(K : Int)] i j = _
  unfold starT
  split
  · rename_i e; subst e; exact h.ii i hi
  · rename_i e; exact h.ij i j hi hj e

theorem Star.len (h : Star n K s W w L) : (respV n).length = K := by
  rw [h.nk.respV]; simp [respT]

theorem Star.row (h : Star n K s W w L) {row : List (Int × Int)} (hr : row ∈ respV n) : ∃ i, i < K ∧ row = (List.range' 0 K).map fun (j : Nat) => ratZ (starT w W i j) (s * W) := by
  have hk := h.k
  rw [h.nk.respV] at hr
  simp only [respT, List.mem_map, List.mem_range'_1] at hr
  obtain ⟨i, hi, rfl⟩ := hr
  refine ⟨i, by omega, List.map_congr_left fun j hj => ?_⟩
  rw [List.mem_range'_1] at hj
  rw [h.nk.rtZ (by omega) (by omega) (by omega), h.dn]
  congr 1
  show topF L [(K : Int)] i j = _
  unfold starT
  split
  · rename_i e; subst e; exact h.ii i (by omega)
  · rename_i e; exact h.ij i j (by omega) (by omega) e

theorem Star.isS (h : Star n K s W w L) : IsS (respV n) := by
  obtain ⟨b1, b2, b3⟩ := h.bds
  have hk := h.k
  have hl := h.len
  refine ⟨⟨by omega, by omega, fun row hr => ?_, fun row hr x hx => ?_, fun i j hi hj => ?_, fun row hr => ?_⟩, by omega, fun i j hi hj => ?_, fun i j k l hi hj hk2 hl2 => ?_⟩
  · obtain ⟨i, hi, rfl⟩ := h.row hr
    simp [hl]
  · obtain ⟨i, hi, rfl⟩ := h.row hr
    obtain ⟨j, hj, rfl⟩ := List.mem_map.1 hx
    rw [List.mem_range'_1] at hj
    exact rOkZ (by have := (b1 i j hi (by omega)).1; omega) b2 (by omega)
  · rw [hl] at hi hj
    rw [h.en hi hj, h.en hj hi]
    have sy : starT w W i j = starT w W j i := by
      unfold starT
      by_cases e : i = j
      · subst e; rfl
      · rw [if_neg e, if_neg (Ne.symm e), Int.mul_comm]
    refine ⟨by rw [sy], fun hij => ?_⟩
    have hz : starT w W i j < 0 := by
      have := (b1 i j hi hj).2
      have a := h.hw i
      have b := h.hw j
      unfold starT at this ⊢
      rw [if_neg hij] at this ⊢
      have p : 1 * 1 ≤ w i * w j := Int.mul_le_mul (by omega) (by omega) (by omega) (by omega)
      omega
    have := (ratZ_neg (a := starT w W i j) b2).2 hz
    omega
  · obtain ⟨i, hi, rfl⟩ := h.row hr
    have e1 : ((List.range' 0 K).map fun (j : Nat) => ratZ (starT w W i j) (s * W)) = ((List.range' 0 K).map fun (j : Nat) => starT w W i j).map fun x => ratZ x (s * W) := by rw [List.map_map]; rfl
    have z : ((0, 1) : Int × Int) = ratZ 0 (s * W) := by
      have e0 : ((0, 1) : Int × Int) = ratZ 0 1 := by decide
      rw [e0, ratZ_eq (by omega) b2]; omega
    rw [rowS, e1, z, rowZ b2 (by omega) _ 0 (by simp; omega) (fun x hx => by
      obtain ⟨j, hj, rfl⟩ := List.mem_map.1 hx
      rw [List.mem_range'_1] at hj
      have := (b1 i j hi (by omega)).1; omega)]
    -- the rows add up to nothing
    have r := h.nk.rows (by omega) hi
    have e2 : ((List.range' 0 K).map fun (j : Nat) => starT w W i j).sum = 0 := by
      rw [← r]
      simp only [endsL, List.map_map]
      congr 1
      refine List.map_congr_left fun j hj => ?_
      rw [List.mem_range'_1] at hj
      show starT w W i j = topF L [(K : Int)] i j
      unfold starT
      split
      · rename_i e; subst e; exact (h.ii i hi).symm
      · rename_i e; exact (h.ij i j hi (by omega) e).symm
    rw [e2]; simp
  · rw [hl] at hi hj
    rw [h.en hi hj]
    intro hz
    exact (b1 i j hi hj).2 ((ratZ_zero b2).1 hz)
  · rw [hl] at hi hj hk2 hl2
    intro n1 n2 n3 n4 n5 n6
    have c1 := (b1 i j hi hj).1
    have c2 := (b1 k l hk2 hl2).1
    have c3 := (b1 i l hi hl2).1
    have c4 := (b1 k j hk2 hj).1
    unfold Crs
    rw [h.en hi hj, h.en hk2 hl2, h.en hi hl2, h.en hk2 hj, timZ (by omega) b2 (by omega) (by omega) b2 (by omega), timZ (by omega) b2 (by omega) (by omega) b2 (by omega)]
    have m1 := mul_le6 (x := starT w W i j) (y := starT w W k l) c1 c2
    have m2 : 1 * 1 ≤ s * W * (s * W) := Int.mul_le_mul b2 b2 (by omega) (by omega)
    have m3 : s * W * (s * W) ≤ 72 * 72 := Int.mul_le_mul b3 b3 (by omega) (by omega)
    refine ⟨rOkZ (by omega) (by omega) (by omega), ?_⟩
    congr 1
    unfold starT
    rw [if_neg n1, if_neg n6, if_neg n3, if_neg (Ne.symm n4)]; grind

theorem Star.wt (h : Star n K s W w L) {i : Nat} (hi : i < K) : wtV (respV n) i = ratZ (w i) s := by
  obtain ⟨b1, b2, b3⟩ := h.bds
  have hk := h.k
  have hs := h.s1
  have hn := nb (K := K) (by omega) hi
  have f1 : fstN i ≠ i := by unfold fstN; split <;> omega
  have f2 : sndN i ≠ i := by
    unfold sndN
    split
    · omega
    · split <;> omega
  have f3 : fstN i ≠ sndN i := by
    unfold fstN sndN
    split
    · omega
    · split <;> omega
  simp only [wtV]
  generalize fstN i = j at *
  generalize sndN i = k at *
  rw [h.en hi hi, h.en hi hn.1, h.en hi hn.2, h.en hn.1 hn.2]
  have t0 : starT w W i i = w i * (W - w i) := if_pos rfl
  have t1 : starT w W i j = -(w i * w j) := if_neg (Ne.symm f1)
  have t2 : starT w W i k = -(w i * w k) := if_neg (Ne.symm f2)
  have t3 : starT w W j k = -(w j * w k) := if_neg f3
  have c0 := (b1 i i hi hi).1
  rw [t0] at c0
  rw [t0, t1, t2, t3]
  have wi := h.hw i
  have wj := h.hw j
  have wk := h.hw k
  have ij : 1 * 1 ≤ w i * w j ∧ w i * w j ≤ 6 * 6 := ⟨Int.mul_le_mul (by omega) (by omega) (by omega) (by omega), Int.mul_le_mul (by omega) (by omega) (by omega) (by omega)⟩
  have ik : 1 * 1 ≤ w i * w k ∧ w i * w k ≤ 6 * 6 := ⟨Int.mul_le_mul (by omega) (by omega) (by omega) (by omega), Int.mul_le_mul (by omega) (by omega) (by omega) (by omega)⟩
  have jk : 1 * 1 ≤ w j * w k ∧ w j * w k ≤ 6 * 6 := ⟨Int.mul_le_mul (by omega) (by omega) (by omega) (by omega), Int.mul_le_mul (by omega) (by omega) (by omega) (by omega)⟩
  have DD : 1 * 1 ≤ s * W * (s * W) ∧ s * W * (s * W) ≤ 72 * 72 := ⟨Int.mul_le_mul b2 b2 (by omega) (by omega), Int.mul_le_mul b3 b3 (by omega) (by omega)⟩
  rw [timZ (by omega) b2 (by omega) (by omega) b2 (by omega), invZ (by omega) (by omega) b2 (by omega)]
  have N1 := mul_le6 (x := -(w i * w j)) (y := -(w i * w k)) (k := 36) (l := 36) (by omega) (by omega)
  rw [timZ (by omega) (by omega) (by omega) (by omega) (by omega) (by omega)]
  have N2 := mul_le6 (x := -(w i * w j) * -(w i * w k)) (y := -(s * W)) (k := 1296) (l := 72) (by omega) (by omega)
  have D2 : 1 * 1 ≤ s * W * (s * W) * (w j * w k) ∧ s * W * (s * W) * (w j * w k) ≤ 5184 * 36 := ⟨Int.mul_le_mul (by omega) (by omega) (by omega) (by omega), Int.mul_le_mul (by omega) (by omega) (by omega) (by omega)⟩
  have D3 : 1 * 1 ≤ s * W * (s * W * (s * W) * (w j * w k)) := Int.mul_le_mul b2 (by omega) (by omega) (by omega)
  rw [sumZ (-1) (.inr rfl) (by omega) b2 (by omega) (by omega) (by omega) (by omega), ratZ_eq (by omega) (by omega)]
  clear N1 N2 D2 D3 DD ij ik jk
  grind
end

theorem law_FnRecovered (A : Option (Nat × Obj)) (v : Value) (hc : CodeOk A v) : e_laws_FnRecovered A (v, ()) = some true := by
  obtain ⟨p, len, c, rfl, _⟩ := id hc
  simp only [e_laws_FnRecovered, r_laws_FnRecovered, rawLen, Option.bind_some]
  by_cases hlen : (len : Int) > 1048576
  · simp only [hlen, decide_true, cond_true]
  simp only [hlen, decide_false, cond_false]
  obtain ⟨K, s, w, hK, hs1, hs3, hw, e1⟩ := makeStar_ok hc
  obtain ⟨W, L, h, hok⟩ := star_of hK ⟨hs1, hs3⟩ hw
  have hn := h.nk.hn
  have hl := h.len
  have hS := h.isS
  obtain ⟨q, q1, _, _, q4⟩ := weights_both (respV (((K + 1 : Nat) : Int), (K : Int), s, starL w K K)) (by omega)
  have hq := q4 (isSB_true hS)
  subst hq
  have wv : wsV (respV (((K + 1 : Nat) : Int), (K : Int), s, starL w K K)) = ((List.range K).map (fun i => ratZ (w i) s), true) := by
    rw [wsV, if_pos fun i hi => by
      rw [hl] at hi
      rw [h.wt hi]
      have := hw i
      exact rOkZ (by omega) hs1 (by omega), hl]
    congr 1
    exact List.map_congr_left fun i hi => h.wt (List.mem_range.1 hi)
  rw [wv] at q1
  have hr := (p_Resp _ hn).1
  rw [hok] at hr
  have d1 : decide ((((List.range K).map fun i => ratZ (w i) s).length : Int) = (K : Int)) = true := by rw [decide_eq_true_eq]; simp
  simp only [e1, hr, q1, p_IsS, isSB_true hS, d1, Option.bind_some, Bool.not_true, cond_false]
  have hsl : (starL w K K).length = K := by simp [starL]
  refine iter_rule (R := Bool) (fun o => o = some true) (starL w K K) (fun (_ : Unit) i => ((((K + 1 : Nat) : Int), (K : Int), s, starL w K K), (List.range K).map (fun i => ratZ (w i) s), starL w K K, ((starL w K K).length : Int), i, ())) (fun _ _ => True) (fun st i x kc _ hx hi hk => ?_) (fun st kc _ => ?_) (N := N0) (by have := N0_big; omega) () trivial
  · have hiK : i < K := by omega
    have g := starL_get w K hiK
    rw [hx] at g
    have g := Option.some.inj g
    subst g
    have g2 : ((List.range K).map fun i => ratZ (w i) s)[i]? = some (ratZ (w i) s) := by
      rw [List.getElem?_map, List.getElem?_range hiK]; rfl
    have := hw i
    simp only [r_laws_FnRecovered_L0, lt_len, hi, decide_true, cond_true, getI_nat, hx, g2, Option.bind_some, p_Ratio (a := w i) (b := s) (by omega) hs1 (by omega), intEq_self, Bool.and_self, Bool.not_true, cond_false, wr_succ hi (show (starL w K K).length ≤ 9223372036854775807 by omega)]
    exact hk () trivial
  · simp only [r_laws_FnRecovered_L0, not_lt_self, cond_false]

end Go.Sx.R
