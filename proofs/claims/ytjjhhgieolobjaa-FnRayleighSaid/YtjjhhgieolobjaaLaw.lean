/- The law in plain words, part 2. Conditions: none. -/
import Derived.Test.YtjjhhgieolobjaaLawa
namespace Go.Sx.R
open Go Go.Sx

section
variable {n : TNet} {m : Nat} {L : List (List Int)} {i : Nat} {x : W3} {u : Int}

theorem fltN_sm2 (hn : Sm.sm B1 n) (hx : n.2.2.2[i]? = some x) (h0 : 0 ≤ u) (h1 : u ≤ 200) : Sm.sm B1 (n.2.2.2.set i (x.1, x.2.1, u)) ∧ Sm.sm B1 (fltN n i x u) := by
  have hset : Sm.sm B1 (n.2.2.2.set i (x.1, x.2.1, u)) := by
    refine ⟨by simpa using hn.2.2.2.1, fun y hy => ?_⟩
    rcases List.mem_or_eq_of_mem_set hy with h | h
    · exact hn.2.2.2.2 y h
    · subst h
      have := sm_get hn.2.2.2 hx
      exact ⟨this.1, this.2.1, (⟨by omega, by omega⟩ : Sm.sm B1 (u : Int))⟩
  exact ⟨hset, hn.1, hn.2.1, hn.2.2.1, Nat.le_trans (List.length_filter_le _ _) hset.1, fun y hy => hset.2 y (List.mem_filter.1 hy).1⟩

theorem fltN_eq (h : Lk n m L) (hx : n.2.2.2[i]? = some x) (h0 : 1 ≤ u) (h1 : u ≤ 200) : fltN n i x u = (n.1, n.2.1, n.2.2.1, n.2.2.2.set i (x.1, x.2.1, u)) := by
  obtain ⟨w1, w2⟩ := wok_set (K := 200) ⟨h.srt, h.inw, h.hw⟩ hx (u := u) ⟨h0, h1⟩
  simp only [fltN]
  rw [filter_pos fun e he => (w1.w e he).1]

theorem Lk.flt (h : Lk n m L) (hx : n.2.2.2[i]? = some x) (h0 : 1 ≤ u) (h1 : u ≤ 200) : ∃ L', Lk (fltN n i x u) m L' := by
  obtain ⟨w1, w2⟩ := wok_set (K := 200) ⟨h.srt, h.inw, h.hw⟩ hx (u := u) ⟨h0, h1⟩
  have hf := fltN_eq h hx h0 h1
  obtain ⟨m', hm', _, _, _, he1, he2⟩ := netok_facts h.ok
  have hm := h.hm
  have hok : netok (fltN n i x u) = true := by
    rw [hf]
    exact netok_of (m := m) h.hm h.m1 h.m5 he1 (by show n.2.1 ≤ n.1; omega) h.sc.1 h.sc.2 w1 fun v h0 h1 => (netok_rc h.ok h0 h1).mono w2
  obtain ⟨m2, L', h'⟩ := lk_of _ (fltN_sm2 h.hn hx (by omega) h1).2 hok
  obtain ⟨e, _⟩ := upd_of h hx h'
  subst e
  exact ⟨L', h'⟩

/-- A resistance with a weight greater by 1. -/
theorem Lk.p_Raised (h : Lk n m L) (hx : n.2.2.2[i]? = some x) (hw : x.2.2 < 200) {a b : Int} (ha : 0 ≤ a ∧ a < m) (hb : 0 ≤ b ∧ b < m) (hab : a ≠ b) :
    ∃ F T C : Int, e_impl_raised (n, a, b, (i : Int), ()) = some (ratZ (n.2.2.1 * F) T) ∧ 0 ≤ F ∧ F ≤ 10497600000000 ∧ 1 ≤ T ∧ T ≤ 10497600000000 ∧ potZ L m a b x.1 - potZ L m a b x.2.1 = 2 * C ∧ F * treZ L m - forZ L m a b * T = -(C * C) := by
  have hxm := List.mem_of_getElem? hx
  have hi := h.inw x hxm
  have hW := h.hw x hxm
  obtain ⟨L', h'⟩ := h.flt hx (u := x.2.2 + 1) (by omega) (by omega)
  obtain ⟨_, up⟩ := upd_of h hx h'
  obtain ⟨C, c1, c2⟩ := upd_all h.m5 up (mem_wo.2 ⟨hi.1, by omega, by simp⟩) (mem_wo.2 ⟨by omega, hi.2.2, by simp⟩) (by omega) (mem_wo.2 ⟨ha.1, ha.2, by simp⟩) (mem_wo.2 ⟨hb.1, hb.2, by simp⟩) hab
  have w : wr (x.2.2 + 1) = x.2.2 + 1 := wr_id (by omega) (by omega)
  have e1 : x.2.2 + 1 - x.2.2 = 1 := by omega
  rw [e1, Int.one_mul] at c2
  refine ⟨forZ L' m a b, treZ L' m, C, ?_, (h'.for_le ha).1, (h'.for_le ha).2, h'.tre_pos, h'.tre_le, c1, c2⟩
  have r := h'.p_Res ha hb
  rw [fltN_eq h hx (by omega) (by omega)] at r
  simp only [e_impl_raised, r_impl_raised, p_copyNet n h.hn, Option.bind_some, getI_nat, hx, Int.toNat_natCast, w, r]

theorem Lk.p_Cut (h : Lk n m L) (hx : n.2.2.2[i]? = some x) : e_impl_CutWire (n, (i : Int), ()) = some (if netok (fltN n i x 0) = true then (fltN n i x 0, true) else (Z0, false)) := by
  have hlen : n.2.2.2.length ≤ 1073741824 := h.hn.2.2.2.1
  obtain ⟨r, r1, r2, _⟩ := cut_both n h.hn (i : Int)
  rw [r1, ← r2]
  have hi : i < n.2.2.2.length := (List.getElem?_eq_some_iff.1 hx).1
  have hw1 : wr ((n.2.2.2.length : Int) - 1) = (n.2.2.2.length : Int) - 1 := wr_id (by omega) (by omega)
  have d3 : decide ((i : Int) ≤ (n.2.2.2.length : Int) - 1) = true := by rw [decide_eq_true_eq]; omega
  have d4 : decide ((0 : Int) ≤ (i : Int)) = true := by rw [decide_eq_true_eq]; omega
  obtain ⟨hset, hfn⟩ := fltN_sm2 h.hn hx (u := 0) (by omega) (by omega)
  have hfn' : Sm.sm B1 ((n.1, n.2.1, n.2.2.1, (n.2.2.2.set i (x.1, x.2.1, 0)).filter fun x => !decide (x.2.2 = 0)) : TNet) := hfn
  have hN : netok (n.1, n.2.1, n.2.2.1, (n.2.2.2.set i (x.1, x.2.1, 0)).filter fun x => !decide (x.2.2 = 0)) = netok (fltN n i x 0) := rfl
  simp only [e_spec_CutWire, r_spec_CutWire, s_NetOk n h.hn, h.ok, Option.bind_some, Bool.not_true, cond_false, hw1, p_l01In, n_l01In, d3, d4, Bool.and_self, getI_nat, hx, s_Copy n h.hn, Int.toNat_natCast, s_Drop _ hset, s_NetOk _ hfn', hN]
  cases netok (fltN n i x 0) with
  | true => rfl
  | false => rfl

theorem Lk.p_differ (h : Lk n m L) {a b : Int} (ha : 0 ≤ a ∧ a < m) (hb : 0 ≤ b ∧ b < m) (hab : a ≠ b) : e_impl_differ (n, a, b, ()) = some true := by
  simp only [e_impl_differ, r_impl_differ, p_NetOk n h.hn, h.ok, h.p_node ha, h.p_node hb, Option.bind_some, cond_true, hab, decide_false, Bool.not_false]

theorem wt_s (h : Lk n m L) {F : Int} (h0 : 0 ≤ F) (h1 : F ≤ 10497600000000) : (n.2.2.1 * F).natAbs ≤ 10497600000000000 := by
  have := mul_bd (x := F) h.sc (k := 10497600000000) (by omega)
  omega

/-- A wire is sensitive where its ends' potentials differ. -/
theorem Lk.p_Sens (h : Lk n m L) (hx : n.2.2.2[i]? = some x) (hw : x.2.2 < 200) {a b : Int} (ha : 0 ≤ a ∧ a < m) (hb : 0 ≤ b ∧ b < m) (hab : a ≠ b) :
    e_impl_IsSensitive (n, a, b, (i : Int), ()) = some (!decide (potZ L m a b x.1 - potZ L m a b x.2.1 = 0)) := by
  obtain ⟨F, T, C, r1, f0, f1, t0, t1, c1, c2⟩ := h.p_Raised hx hw ha hb hab
  have hi : i < n.2.2.2.length := (List.getElem?_eq_some_iff.1 hx).1
  have d1 : decide ((i : Int) ≥ 0) = true := by rw [decide_eq_true_eq]; omega
  have d2 : decide ((i : Int) < (n.2.2.2.length : Int)) = true := by rw [decide_eq_true_eq]; omega
  have d5 : decide (x.2.2 = 200) = false := by rw [decide_eq_false_iff_not]; omega
  simp only [e_impl_IsSensitive, r_impl_IsSensitive, h.p_differ ha hb hab, e_impl_isWire, r_impl_isWire, d1, d2, d5, cond_true, Option.bind_some, Bool.not_true, cond_false, getI_nat, hx, h.p_Res ha hb, r1, pair_ne]
  congr 2
  rw [decide_eq_decide, ratZ_eq t0 h.tre_pos]
  have sc := h.sc
  have k : n.2.2.1 * F * treZ L m = n.2.2.1 * forZ L m a b * T ↔ C = 0 := by
    have e : n.2.2.1 * F * treZ L m - n.2.2.1 * forZ L m a b * T = n.2.2.1 * -(C * C) := by rw [← c2]; grind
    constructor
    · intro hh
      have z : n.2.2.1 * -(C * C) = 0 := by omega
      rcases Int.mul_eq_zero.1 z with h1 | h1
      · omega
      · have : C * C = 0 := by omega
        rcases Int.mul_eq_zero.1 this with h2 | h2 <;> exact h2
    · intro hh
      rw [hh] at e; simp at e; omega
  rw [k]; omega

theorem sq_nn (C : Int) : 0 ≤ C * C := by
  by_cases h : C < 0
  · exact Int.le_of_lt (Int.mul_pos_of_neg_of_neg h h)
  · exact Int.mul_nonneg (by omega) (by omega)

/-- Two wires' raised resistances compared. -/
theorem raise_cmp {s F T F1 T1 C1 F2 T2 C2 : Int} (hs : 1 ≤ s ∧ s ≤ 1000) (hT : 1 ≤ T) (f1 : 0 ≤ F1) (f1' : F1 ≤ 10497600000000) (t1 : 1 ≤ T1) (t1' : T1 ≤ 10497600000000) (f2 : 0 ≤ F2) (f2' : F2 ≤ 10497600000000) (t2 : 1 ≤ T2) (t2' : T2 ≤ 10497600000000)
    (h1 : F1 * T - F * T1 = -(C1 * C1)) (h2 : F2 * T - F * T2 = -(C2 * C2)) : ∃ v, e_impl_RatioCmp (ratZ (s * F1) T1, ratZ (s * F2) T2, ()) = some v ∧ (C1 ≠ 0 → C2 = 0 → v < 0) ∧ (C1 = 0 → C2 ≠ 0 → ¬ v < 0) := by
  have b1 := mul_bd (x := F1) hs (k := 10497600000000) (by omega)
  have b2 := mul_bd (x := F2) hs (k := 10497600000000) (by omega)
  obtain ⟨v, v1, v2, v3⟩ := p_Cmp (a := s * F1) (b := T1) (c := s * F2) (d := T2) (by omega) t1 (by omega) (by omega) t2 (by omega)
  refine ⟨v, v1, fun hc1 hc2 => ?_, fun hc1 hc2 => ?_⟩
  · rw [v2]
    subst hc2
    have hsq : 0 < C1 * C1 := by
      rcases Int.lt_or_gt_of_ne hc1 with h | h
      · exact Int.mul_pos_of_neg_of_neg h h
      · exact Int.mul_pos h h
    have e : (s * F1 * T2 - s * F2 * T1) * T = -(s * (C1 * C1) * T2) := by
      have : F1 * T = F * T1 - C1 * C1 := by omega
      have : F2 * T = F * T2 := by omega
      grind
    have p : 0 < s * (C1 * C1) * T2 := Int.mul_pos (Int.mul_pos (by omega) hsq) (by omega)
    apply Classical.byContradiction
    intro hn
    have : 0 ≤ (s * F1 * T2 - s * F2 * T1) * T := Int.mul_nonneg (by omega) (by omega)
    omega
  · rw [v2]
    subst hc1
    intro hn
    have e : (s * F1 * T2 - s * F2 * T1) * T = s * (C2 * C2) * T1 := by
      have : F1 * T = F * T1 := by omega
      have : F2 * T = F * T2 - C2 * C2 := by omega
      grind
    have hsq := sq_nn C2
    have p : 0 ≤ s * (C2 * C2) * T1 := Int.mul_nonneg (Int.mul_nonneg (by omega) hsq) (by omega)
    have : (s * F1 * T2 - s * F2 * T1) * T < 0 := Int.mul_neg_of_neg_of_pos (by omega) (by omega)
    omega

/-- Some wire's ends differ in potential. -/
theorem Lk.some_pot (h : Lk n m L) {a b : Int} (ha : 0 ≤ a ∧ a < m) (hb : 0 ≤ b ∧ b < m) (hab : a ≠ b) : ∃ e ∈ n.2.2.2, potZ L m a b e.1 - potZ L m a b e.2.1 ≠ 0 := by
  apply Classical.byContradiction
  intro hno
  have all : ∀ e ∈ n.2.2.2, potZ L m a b e.1 = potZ L m a b e.2.1 := fun e he => by
    apply Classical.byContradiction
    intro hz
    exact hno ⟨e, he, by omega⟩
  have rc : ∀ v, Rc n.2.2.2 v → potZ L m a b v = potZ L m a b 0 := by
    intro v hv
    induction hv with
    | zero => rfl
    | ab he _ ih => rw [← all _ he]; exact ih
    | ba he _ ih => rw [all _ he]; exact ih
  have hm := h.hm
  have e := (rc a (netok_rc h.ok ha.1 (by omega))).trans (rc b (netok_rc h.ok hb.1 (by omega))).symm
  have z1 : forZ L m a a = 0 := if_pos rfl
  have z2 : forZ L m b b = 0 := if_pos rfl
  unfold potZ at e
  rw [z1, z2] at e
  have := h.for_pos ha.1 ha.2 hab
  omega

theorem Lk.p_Most (h : Lk n m L) (h200 : ∀ e ∈ n.2.2.2, e.2.2 < 200) {a b : Int} (ha : 0 ≤ a ∧ a < m) (hb : 0 ≤ b ∧ b < m) (hab : a ≠ b) :
    ∃ (j : Nat) (y : W3), e_impl_MostSensitive (n, a, b, ()) = some (j : Int) ∧ n.2.2.2[j]? = some y ∧ potZ L m a b y.1 - potZ L m a b y.2.1 ≠ 0 := by
  have hlen : n.2.2.2.length ≤ 1073741824 := h.hn.2.2.2.1
  simp only [e_impl_MostSensitive, r_impl_MostSensitive, h.p_differ ha hb hab, Option.bind_some, Bool.not_true, cond_false]
  let d : W3 → Prop := fun e => potZ L m a b e.1 - potZ L m a b e.2.1 ≠ 0
  have ans := iter_rule (R := Int) (ke := fun s2 => some s2.2.2.2.1) (fun o => ∃ (j : Nat) (y : W3), o = some (j : Int) ∧ n.2.2.2[j]? = some y ∧ d y) n.2.2.2 (fun (st : Int) i => (a, b, n, st, n.2.2.2, (n.2.2.2.length : Int), i, ()))
    (fun i st => (i = 0 ∧ st = -1) ∨ ∃ (j : Nat) (y : W3), st = j ∧ n.2.2.2[j]? = some y ∧ ((∃ e ∈ n.2.2.2.take i, d e) → d y)) (body := r_impl_MostSensitive_L0 e_impl_differ e_impl_raised e_impl_RatioCmp N0) (fun st i x kc hp hx hi hk => ?_) (fun st kc hp => ?_) (N := N0) (by have := N0_big; omega) (-1) (.inl ⟨rfl, rfl⟩)
  · obtain ⟨j, y, e1, e2, e3⟩ := ans
    exact ⟨j, y, e1, e2, e3⟩
  · have hxm := List.mem_of_getElem? hx
    have hw := h200 x hxm
    have c1 : decide (x.2.2 < 200) = true := by rw [decide_eq_true_eq]; exact hw
    simp only [r_impl_MostSensitive_L0, lt_len, hi, decide_true, cond_true, getI_nat, hx, Option.bind_some, wr_succ hi (show n.2.2.2.length ≤ 9223372036854775807 by omega), c1]
    rcases hp with ⟨rfl, rfl⟩ | ⟨j, y, rfl, hy, hd⟩
    · have c2 : decide ((-1 : Int) < 0) = true := by decide
      simp only [c2, cond_true]
      refine hk _ (.inr ⟨0, x, rfl, hx, ?_⟩)
      rintro ⟨e, he, hde⟩
      rcases (mem_take_succ hx e).1 he with he | rfl
      · simp at he
      · exact hde
    · have c2 : decide ((j : Int) < 0) = false := by rw [decide_eq_false_iff_not]; omega
      obtain ⟨F1, T1, C1, r1, f0, f1, t0, t1, q1, q2⟩ := h.p_Raised hx hw ha hb hab
      obtain ⟨F2, T2, C2, s1, g0, g1, u0, u1, p1, p2⟩ := h.p_Raised hy (h200 y (List.mem_of_getElem? hy)) ha hb hab
      obtain ⟨v, v1, v2, v3⟩ := raise_cmp h.sc h.tre_pos f0 f1 t0 t1 g0 g1 u0 u1 q2 p2
      simp only [c2, cond_false, r1, s1, v1, Option.bind_some]
      have dx : d x ↔ C1 ≠ 0 := by show _ ≠ 0 ↔ _; rw [q1]; omega
      have dy : d y ↔ C2 ≠ 0 := by show _ ≠ 0 ↔ _; rw [p1]; omega
      by_cases hv : v < 0
      · simp only [hv, decide_true, cond_true]
        refine hk _ (.inr ⟨i, x, rfl, hx, ?_⟩)
        rintro ⟨e, he, hde⟩
        rcases (mem_take_succ hx e).1 he with he | rfl
        · rw [dx]
          intro hz
          exact v3 hz (dy.1 (hd ⟨e, he, hde⟩)) hv
        · exact hde
      · simp only [hv, decide_false, cond_false]
        refine hk _ (.inr ⟨j, y, rfl, hy, ?_⟩)
        rintro ⟨e, he, hde⟩
        rcases (mem_take_succ hx e).1 he with he | rfl
        · exact hd ⟨e, he, hde⟩
        · rw [dy]
          intro hz
          exact hv (v2 (dx.1 hde) hz)
  · simp only [r_impl_MostSensitive_L0, not_lt_self, cond_false]
    obtain ⟨e, he, hde⟩ := h.some_pot ha hb hab
    rcases hp with ⟨h0, _⟩ | ⟨j, y, rfl, hy, hd⟩
    · have : n.2.2.2 = [] := List.length_eq_zero_iff.1 h0
      rw [this] at he; simp at he
    · exact ⟨j, y, rfl, hy, hd ⟨e, by rw [List.take_length]; exact he, hde⟩⟩

/-- The current on a wire. -/
theorem Lk.p_CurOn (h : Lk n m L) (hx : n.2.2.2[i]? = some x) {a b : Int} (ha : 0 ≤ a ∧ a < m) (hb : 0 ≤ b ∧ b < m) (hab : a ≠ b) :
    e_impl_CurrentOn (n, a, b, x.1, x.2.1, ()) = some (ratZ (x.2.2 * (potZ L m a b x.1 - potZ L m a b x.2.1)) (2 * treZ L m), true) := by
  have hxm := List.mem_of_getElem? hx
  have hi := h.inw x hxm
  have hW := h.hw x hxm
  have i1 : 0 ≤ x.1 ∧ x.1 < m := by omega
  have i2 : 0 ≤ x.2.1 ∧ x.2.1 < m := by omega
  have l1 := h.pot_le (b := b) ha i1
  have l2 := h.pot_le (b := b) ha i2
  have t := h.tre_le
  have t1 := h.tre_pos
  have bx : wbt n.2.2.2 x.1 x.2.1 = x.2.2 := (wbt_mem h.srt hi.2.1 (w := x.2.2) (by omega)).2 hxm
  have mb : (x.2.2 * (potZ L m a b x.1 - potZ L m a b x.2.1)).natAbs ≤ 1000 * 62985600000000 := mul_bd (by omega) (by omega)
  simp only [e_impl_CurrentOn, r_impl_CurrentOn, h.p_Pots ha hb hab, h.p_node i1, h.p_node i2, h.p_pot ha hb i1, h.p_pot ha hb i2, p_WB n m h.hn h.inw, bx, h.p_Tree, Option.bind_some, Bool.not_true, cond_false]
  rw [wr_id (x := potZ L m a b x.1 - potZ L m a b x.2.1) (by omega) (by omega), wr_id (x := 2 * treZ L m) (by omega) (by omega), wr_id (by omega) (by omega), p_Ratio (by omega) (by omega) (by omega)]
  rfl
end

theorem law_FnRayleigh (A : Option (Nat × Obj)) (v : Value) (hc : CodeOk A v) : e_laws_FnRayleigh A (v, ()) = some true := by
  obtain ⟨p, len, c, rfl, _⟩ := id hc
  simp only [e_laws_FnRayleigh, r_laws_FnRayleigh, rawLen, Option.bind_some]
  by_cases hlen : (len : Int) > 1048576
  · simp only [hlen, decide_true, cond_true]
  simp only [hlen, decide_false, cond_false]
  obtain ⟨n, e1, hd⟩ := makeNet_ok hc
  obtain ⟨hok, h0⟩ := hd.ok (by omega) (by omega)
  have hn : Sm.sm B1 n := up_net B01 h0
  obtain ⟨m, L, h⟩ := lk_of n hn hok
  have hm := h.hm
  have hm5 := h.m5
  have hd2 := hd.n2
  obtain ⟨x3, e3, x30, x31⟩ := num_ok hc (n := 30) (by omega)
  obtain ⟨x4, e4, x40, x41⟩ := num_ok hc (n := 32) (by omega)
  have c0 : decide (n.1 = 0) = false := by rw [decide_eq_false_iff_not]; omega
  have w1 : wr (n.1 - 1) = n.1 - 1 := wr_id (by omega) (by omega)
  have c1 : decide (n.1 - 1 = 0) = false := by rw [decide_eq_false_iff_not]; omega
  simp only [e1, e3, e4, c0, w1, c1, Option.bind_some, cond_false]
  have ra := tmod_in (len := n.1) x30 (by omega)
  have rk := tmod_in (len := n.1 - 1) x40 (by omega)
  generalize Int.tmod x3 n.1 = a at *
  generalize Int.tmod x4 (n.1 - 1) = k at *
  have w2 : wr (a + 1) = a + 1 := wr_id (by omega) (by omega)
  have w3 : wr (a + 1 + k) = a + 1 + k := wr_id (by omega) (by omega)
  have rb := tmod_in (len := n.1) (x := a + 1 + k) (by omega) (by omega)
  have hne : a ≠ Int.tmod (a + 1 + k) n.1 := by
    rw [Int.tmod_eq_emod_of_nonneg (by omega)]
    by_cases hlt : a + 1 + k < n.1
    · rw [Int.emod_eq_of_lt (by omega) hlt]; omega
    · have : (a + 1 + k) % n.1 = a + 1 + k - n.1 := by
        rw [← Int.sub_emod_right, Int.emod_eq_of_lt (by omega) (by omega)]
      omega
  simp only [w2, w3]
  generalize Int.tmod (a + 1 + k) n.1 = b at *
  have ha : 0 ≤ a ∧ a < m := by omega
  have hb : 0 ≤ b ∧ b < m := by omega
  have h200 : ∀ e ∈ n.2.2.2, e.2.2 < 200 := fun e he => by have := hd.wok.w e he; omega
  obtain ⟨j, y, m1, m2, m3⟩ := h.p_Most h200 ha hb hne
  have hj := (List.getElem?_eq_some_iff.1 m2).1
  have d1 : decide ((j : Int) < 0) = false := by rw [decide_eq_false_iff_not]; omega
  have d2 : decide ((j : Int) ≥ (n.2.2.2.length : Int)) = false := by rw [decide_eq_false_iff_not]; omega
  have m3' : decide (potZ L m a b y.1 - potZ L m a b y.2.1 = 0) = false := by rw [decide_eq_false_iff_not]; exact m3
  simp only [h.p_Res ha hb, m1, d1, d2, h.p_Sens m2 (h200 y (List.mem_of_getElem? m2)) ha hb hne, m3', Option.bind_some, Bool.not_true, Bool.not_false, cond_false]
  have hlen2 := hd.len
  have t0 := h.tre_pos
  have t1 := h.tre_le
  refine iter_rule (R := Bool) (fun o => o = some true) n.2.2.2 (fun (_ : Unit) i => (n, a, b, ratZ (n.2.2.1 * forZ L m a b) (treZ L m), n.2.2.2, (n.2.2.2.length : Int), i, ())) (fun _ _ => True) (fun st i x kc _ hx hi hk => ?_) (fun st kc _ => ?_) (N := N0) (by have := N0_big; omega) () trivial
  · have hxm := List.mem_of_getElem? hx
    have hxi := h.inw x hxm
    have hW := h.hw x hxm
    have two : (1 : Int) ≤ 2 * treZ L m := by omega
    have cz : decide ((ratZ (x.2.2 * (potZ L m a b x.1 - potZ L m a b x.2.1)) (2 * treZ L m)).1 = 0) = decide (potZ L m a b x.1 - potZ L m a b x.2.1 = 0) := by
      rw [decide_eq_decide, ratZ_zero two]
      constructor
      · intro hz
        rcases Int.mul_eq_zero.1 hz with h1 | h1
        · omega
        · exact h1
      · intro hz; rw [hz, Int.mul_zero]
    simp only [r_laws_FnRayleigh_L0, lt_len, hi, decide_true, cond_true, getI_nat, hx, Option.bind_some, wr_succ hi (show n.2.2.2.length ≤ 9223372036854775807 by omega), h.p_CurOn hx ha hb hne, h.p_Sens hx (h200 x hxm) ha hb hne, Bool.not_true, cond_false, cz, beqB_self, h.p_Cut hx]
    by_cases hq : netok (fltN n i x 0) = true
    · rw [if_pos hq]
      obtain ⟨m', L', h'⟩ := lk_of _ (fltN_sm2 hn hx (u := 0) (by omega) (by omega)).2 hq
      obtain ⟨em, up⟩ := upd_of h hx h'
      subst em
      obtain ⟨C, p1, p2⟩ := upd_all h.m5 up (mem_wo.2 ⟨hxi.1, by omega, by simp⟩) (mem_wo.2 ⟨by omega, hxi.2.2, by simp⟩) (by omega) (mem_wo.2 ⟨ha.1, ha.2, by simp⟩) (mem_wo.2 ⟨hb.1, hb.2, by simp⟩) hne
      have s1 : (fltN n i x 0).2.2.1 = n.2.2.1 := rfl
      have f1 := h.for_le (b := b) ha
      have f2 := h'.for_le (b := b) ha
      have u0 := h'.tre_pos
      have u1 := h'.tre_le
      obtain ⟨v, v1, v2, v3⟩ := p_Cmp (a := n.2.2.1 * forZ L' m' a b) (b := treZ L' m') (c := n.2.2.1 * forZ L m' a b) (d := treZ L m') (by have := wt_s h f2.1 f2.2; omega) u0 (by omega) (by have := wt_s h f1.1 f1.2; omega) t0 (by omega)
      have sq := sq_nn C
      have key : n.2.2.1 * forZ L' m' a b * treZ L m' - n.2.2.1 * forZ L m' a b * treZ L' m' = n.2.2.1 * (x.2.2 * (C * C)) := by
        have : forZ L' m' a b * treZ L m' = forZ L m' a b * treZ L' m' + x.2.2 * (C * C) := by
          have e : (0 - x.2.2) * (C * C) = -(x.2.2 * (C * C)) := by grind
          rw [e] at p2; omega
        grind
      have kp : 0 ≤ n.2.2.1 * (x.2.2 * (C * C)) := Int.mul_nonneg (by have := h.sc; omega) (Int.mul_nonneg (by omega) sq)
      have vn : decide (v < 0) = false := by rw [decide_eq_false_iff_not, v2]; omega
      have ce : decide (ratZ (n.2.2.1 * forZ L' m' a b) (treZ L' m') = ratZ (n.2.2.1 * forZ L m' a b) (treZ L m')) = decide (potZ L m' a b x.1 - potZ L m' a b x.2.1 = 0) := by
        rw [decide_eq_decide, ratZ_eq u0 t0, p1]
        constructor
        · intro hz
          have z : n.2.2.1 * (x.2.2 * (C * C)) = 0 := by omega
          have := h.sc
          rcases Int.mul_eq_zero.1 z with h1 | h1
          · omega
          · rcases Int.mul_eq_zero.1 h1 with h2 | h2
            · omega
            · rcases Int.mul_eq_zero.1 h2 with h3 | h3 <;> omega
        · intro hz
          have : C = 0 := by omega
          subst this
          simp at key
          omega
      have r := h'.p_Res ha hb
      rw [s1] at r
      simp only [cond_true, r, Option.bind_some, Bool.not_true, cond_false, v1, vn, pair_ne, ce, beqB_self]
      exact hk () trivial
    · rw [if_neg hq]
      simp only [cond_false]
      exact hk () trivial
  · simp only [r_laws_FnRayleigh_L0, not_lt_self, cond_false]

end Go.Sx.R
namespace Go.Sx.R
open Go Go.Sx

abbrev Mat := List (List (Int × Int))
/-- An entry. -/
def en (m : Mat) (i j : Nat) : Int × Int := (((m[i]?).getD [])[j]?).getD (0, 0)
end Go.Sx.R
