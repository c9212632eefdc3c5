/- The law in plain words, part 2. Conditions: none. -/
import Derived.Test.YtjjhhgieolobjaaLawa
namespace Go.Sx.R
open Go Go.Sx

theorem wo_all (m : Nat) (l : List Int) : ∀ c : Int, 0 ≤ c → c < m → c ∉ l → c ∈ wo m l := by
  have := foldI_ind (β := Nat) (fun i (q : List Int) => ∀ c : Int, 0 ≤ c → c < i → c ∉ l → c ∈ q) (woG l) (fun s i x h c h0 h1 h2 => by
    simp only [woG]
    by_cases hi : c = i
    · subst hi; rw [if_neg h2]; simp
    · have := h c h0 (by omega) h2
      split
      · exact this
      · simp [this]) (List.range m) 0 [] (by intro c h0 h1; omega)
  simpa [wo] using this

theorem mem_wo {m : Nat} {l : List Int} {c : Int} : c ∈ wo m l ↔ 0 ≤ c ∧ c < m ∧ c ∉ l :=
  ⟨fun h => (wo_facts' m l).2.1 c h, fun h => wo_all m l c h.1 h.2.1 h.2.2⟩

theorem wo_nd (m : Nat) (l : List Int) : (wo m l).Nodup := (wo_facts' m l).2.2

theorem perm_of {l l' : List Int} (h : l.Nodup) (h' : l'.Nodup) (he : ∀ c, c ∈ l ↔ c ∈ l') : l.Perm l' :=
  (List.perm_ext_iff_of_nodup h h').2 he

theorem wo_cons {m : Nat} {x : Int} {l : List Int} (h0 : 0 ≤ x) (h1 : x < m) (hx : x ∉ l) : (wo m l).Perm (x :: wo m (x :: l)) := by
  refine perm_of (wo_nd _ _) (List.nodup_cons.2 ⟨fun h => (mem_wo.1 h).2.2 (by simp), wo_nd _ _⟩) fun c => ?_
  simp only [mem_wo, List.mem_cons, not_or]
  by_cases hc : c = x
  · subst hc; simp [h0, h1, hx]
  · simp [hc]

section
variable {n : TNet} {m : Nat} {L : List (List Int)}

theorem Lk.a2 (h : Lk n m L) {i j : Int} (hi : 0 ≤ i ∧ i < m) (hj : 0 ≤ j ∧ j < m) : at2 L i j = if i = j then wAt n.2.2.2 i else -wbt n.2.2.2 i j := by
  obtain ⟨a, rfl⟩ : ∃ a : Nat, i = a := ⟨i.toNat, by omega⟩
  obtain ⟨b, rfl⟩ : ∃ b : Nat, j = b := ⟨j.toNat, by omega⟩
  rw [tab_at2 h.tab (by omega) (by omega), lapF]
  by_cases e : a = b
  · subst e; rw [if_pos rfl, if_pos rfl]
  · rw [if_neg e, if_neg (by omega)]

theorem Lk.lapZ (h : Lk n m L) : LapZ L (wo m []) where
  sym x hx y hy := by
    have hx := mem_wo.1 hx
    have hy := mem_wo.1 hy
    rw [h.a2 ⟨hx.1, hx.2.1⟩ ⟨hy.1, hy.2.1⟩, h.a2 ⟨hy.1, hy.2.1⟩ ⟨hx.1, hx.2.1⟩]
    by_cases e : x = y
    · subst e; rfl
    · rw [if_neg e, if_neg (Ne.symm e), wbt_comm]
  off x hx y hy hxy := by
    have hx := mem_wo.1 hx
    have hy := mem_wo.1 hy
    rw [h.a2 ⟨hx.1, hx.2.1⟩ ⟨hy.1, hy.2.1⟩, if_neg hxy]
    have := wbt_bd h.hw x y
    omega
  sum x hx := by
    have hx := mem_wo.1 hx
    exact lap_zero h.srt h.inw h.tab (wo_nd m []) (fun c => by simp [mem_wo]) ⟨hx.1, hx.2.1⟩
  nd := wo_nd m []

theorem Lk.wire (h : Lk n m L) {e : W3} (he : e ∈ n.2.2.2) : at2 L e.1 e.2.1 ≤ -1 ∧ at2 L e.2.1 e.1 ≤ -1 := by
  have hi := h.inw e he
  have hw := h.hw e he
  have hb : wbt n.2.2.2 e.1 e.2.1 = e.2.2 := (wbt_mem h.srt hi.2.1 (by omega)).2 he
  have hb' : wbt n.2.2.2 e.2.1 e.1 = e.2.2 := by rw [wbt_comm]; exact hb
  rw [h.a2 (by omega) (by omega), h.a2 (by omega) (by omega), if_neg (by omega), if_neg (by omega), hb, hb']
  omega

theorem rc_side {ws : List W3} {l : List Int} (h : ∀ e ∈ ws, (e.1 ∈ l ↔ e.2.1 ∈ l)) : ∀ v, Rc ws v → (v ∈ l ↔ (0 : Int) ∈ l) := by
  intro v hv
  induction hv with
  | zero => exact Iff.rfl
  | ab he _ ih => exact (h _ he).symm.trans ih
  | ba he _ ih => exact (h _ he).trans ih

theorem Lk.hang (h : Lk n m L) : Hang L (wo m []) := by
  intro l hl hs ⟨y, hy, hyl⟩
  apply Classical.byContradiction
  intro hno
  have side : ∀ e ∈ n.2.2.2, (e.1 ∈ l ↔ e.2.1 ∈ l) := by
    intro e he
    have hi := h.inw e he
    have hw := h.wire he
    constructor
    · intro h1
      apply Classical.byContradiction
      intro h2
      exact hno ⟨_, h1, _, mem_wo.2 ⟨by omega, hi.2.2, by simp⟩, h2, hw.1⟩
    · intro h1
      apply Classical.byContradiction
      intro h2
      exact hno ⟨_, h1, _, mem_wo.2 ⟨hi.1, by omega, by simp⟩, h2, hw.2⟩
  have all : ∀ v, 0 ≤ v → v < n.1 → (v ∈ l ↔ (0 : Int) ∈ l) := fun v h0 h1 => rc_side side v (netok_rc h.ok h0 h1)
  have hm := h.hm
  obtain ⟨x, hx⟩ := List.exists_mem_of_ne_nil l hl
  have hx' := mem_wo.1 (hs x hx)
  have hy' := mem_wo.1 hy
  exact hyl ((all y hy'.1 (by omega)).2 ((all x hx'.1 (by omega)).1 hx))

end

/-- A ratio in lowest terms. -/
def ratZ (a b : Int) : Int × Int := (Int.tdiv a (Nat.gcd a.natAbs b.natAbs : Nat), Int.tdiv b (Nat.gcd a.natAbs b.natAbs : Nat))

theorem ratZ_spec {a b : Int} (hb : 1 ≤ b) : ∃ g : Nat, 1 ≤ g ∧ a = (ratZ a b).1 * g ∧ b = (ratZ a b).2 * g ∧ 1 ≤ (ratZ a b).2 ∧ Nat.gcd (ratZ a b).1.natAbs (ratZ a b).2.natAbs = 1 := by
  have hg : 0 < Nat.gcd a.natAbs b.natAbs := Nat.gcd_pos_of_pos_right _ (by omega)
  have d1 : ((Nat.gcd a.natAbs b.natAbs : Nat) : Int) ∣ a := Int.ofNat_dvd_left.2 (Nat.gcd_dvd_left _ _)
  have d2 : ((Nat.gcd a.natAbs b.natAbs : Nat) : Int) ∣ b := Int.ofNat_dvd_left.2 (Nat.gcd_dvd_right _ _)
  have e1 : a = (ratZ a b).1 * (Nat.gcd a.natAbs b.natAbs : Nat) := (Int.tdiv_mul_cancel d1).symm
  have e2 : b = (ratZ a b).2 * (Nat.gcd a.natAbs b.natAbs : Nat) := (Int.tdiv_mul_cancel d2).symm
  have p2 : 1 ≤ (ratZ a b).2 := by
    apply Classical.byContradiction
    intro hn
    have : (ratZ a b).2 * ((Nat.gcd a.natAbs b.natAbs : Nat) : Int) ≤ 0 := Int.mul_nonpos_of_nonpos_of_nonneg (by omega) (by omega)
    omega
  refine ⟨_, hg, e1, e2, p2, ?_⟩
  have a1 : (ratZ a b).1.natAbs = a.natAbs / Nat.gcd a.natAbs b.natAbs := by
    show (Int.tdiv a _).natAbs = _
    rw [Int.natAbs_tdiv]; rfl
  have a2 : (ratZ a b).2.natAbs = b.natAbs / Nat.gcd a.natAbs b.natAbs := by
    show (Int.tdiv b _).natAbs = _
    rw [Int.natAbs_tdiv]; rfl
  rw [a1, a2, Nat.gcd_div (Nat.gcd_dvd_left _ _) (Nat.gcd_dvd_right _ _), Nat.div_self hg]

/-- Two ratios are alike when their cross products are. -/
theorem ratZ_eq {a b c d : Int} (hb : 1 ≤ b) (hd : 1 ≤ d) : ratZ a b = ratZ c d ↔ a * d = c * b := by
  obtain ⟨g, hg, e1, e2, e3, e4⟩ := ratZ_spec (a := a) hb
  obtain ⟨k, hk, f1, f2, f3, f4⟩ := ratZ_spec (a := c) hd
  constructor
  · intro h
    rw [← h] at f1 f2
    generalize (ratZ a b).1 = p at *
    generalize (ratZ a b).2 = q at *
    rw [e1, e2, f1, f2]; grind
  · intro h
    have hx : (ratZ a b).1 * (ratZ c d).2 = (ratZ c d).1 * (ratZ a b).2 := by
      have hh : ((ratZ a b).1 * (ratZ c d).2) * ((g : Int) * k) = ((ratZ c d).1 * (ratZ a b).2) * ((g : Int) * k) := by
        generalize (ratZ a b).1 = p at *
        generalize (ratZ a b).2 = q at *
        generalize (ratZ c d).1 = r at *
        generalize (ratZ c d).2 = s at *
        rw [e1, e2, f1, f2] at h; grind
      exact Int.eq_of_mul_eq_mul_right (by
        have : (0 : Int) < (g : Int) * k := Int.mul_pos (by omega) (by omega)
        omega) hh
    generalize hp : (ratZ a b).1 = p at *
    generalize hq : (ratZ a b).2 = q at *
    generalize hr : (ratZ c d).1 = r at *
    generalize hs : (ratZ c d).2 = s at *
    have hn : p.natAbs * s.natAbs = r.natAbs * q.natAbs := by
      have := congrArg Int.natAbs hx
      rwa [Int.natAbs_mul, Int.natAbs_mul] at this
    have d1 : q.natAbs ∣ s.natAbs := by
      have : q.natAbs ∣ p.natAbs * s.natAbs := ⟨r.natAbs, by rw [hn, Nat.mul_comm]⟩
      exact Nat.Coprime.dvd_of_dvd_mul_left (Nat.Coprime.symm e4) this
    have d2 : s.natAbs ∣ q.natAbs := by
      have : s.natAbs ∣ r.natAbs * q.natAbs := ⟨p.natAbs, by rw [← hn, Nat.mul_comm]⟩
      exact Nat.Coprime.dvd_of_dvd_mul_left (Nat.Coprime.symm f4) this
    have hqs : q = s := by have := Nat.dvd_antisymm d1 d2; omega
    have hpr : p = r := by
      subst hqs
      exact Int.eq_of_mul_eq_mul_right (by omega) hx
    exact Prod.ext (by rw [hp, hr, hpr]) (by rw [hq, hs, hqs])

theorem p_Ratio {a b : Int} (ha : a.natAbs ≤ 1000000000000000000) (hb : 1 ≤ b) (hb2 : b ≤ 1000000000000000) : e_impl_RatioOf (a, b, ()) = some (ratZ a b) := by
  simp only [e_impl_RatioOf, r_impl_RatioOf, p_sizeI a (by omega) (by omega), p_sizeI b (by omega) (by omega), p_common a.natAbs b.natAbs (by omega), Option.bind_some]
  have hg : 0 < Nat.gcd a.natAbs b.natAbs := Nat.gcd_pos_of_pos_right _ (by omega)
  have tn := tdiv_abs a (Nat.gcd a.natAbs b.natAbs)
  have td := tdiv_abs b (Nat.gcd a.natAbs b.natAbs)
  have la : a.natAbs / Nat.gcd a.natAbs b.natAbs ≤ a.natAbs := Nat.div_le_self _ _
  have lb : b.natAbs / Nat.gcd a.natAbs b.natAbs ≤ b.natAbs := Nat.div_le_self _ _
  have ta : Int.tdiv (a.natAbs : Int) ((Nat.gcd a.natAbs b.natAbs : Nat) : Int) = ((a.natAbs / Nat.gcd a.natAbs b.natAbs : Nat) : Int) := by rw [Int.tdiv_eq_ediv_of_nonneg (by omega)]; simp
  have tb : Int.tdiv (b.natAbs : Int) ((Nat.gcd a.natAbs b.natAbs : Nat) : Int) = ((b.natAbs / Nat.gcd a.natAbs b.natAbs : Nat) : Int) := by rw [Int.tdiv_eq_ediv_of_nonneg (by omega)]; simp
  rw [ta, tb]
  unfold ratZ
  rw [td.1 (by omega)]
  generalize hG : Nat.gcd a.natAbs b.natAbs = g at *
  generalize hP : a.natAbs / g = p at *
  generalize hQ : b.natAbs / g = q at *
  have d1 : decide (b = 0) = false := by rw [decide_eq_false_iff_not]; omega
  have d2 : decide ((g : Int) = 0) = false := by rw [decide_eq_false_iff_not]; omega
  have ua : Go.IntKind.wrap Go.IntKind.u64 ((p : Nat) : Int) = ((p : Nat) : Int) := u64_id (by omega) (by omega)
  have ub : Go.IntKind.wrap Go.IntKind.u64 ((q : Nat) : Int) = ((q : Nat) : Int) := u64_id (by omega) (by omega)
  have wa : wr ((p : Nat) : Int) = ((p : Nat) : Int) := wr_id (by omega) (by omega)
  have wb : wr ((q : Nat) : Int) = ((q : Nat) : Int) := wr_id (by omega) (by omega)
  have wn : wr (0 - ((p : Nat) : Int)) = -((p : Nat) : Int) := by rw [wr_id (by omega) (by omega)]; omega
  have k1 : decide ((p : Int) > 1000000000000000000) = false := by rw [decide_eq_false_iff_not]; omega
  have k2 : decide ((q : Int) > 1000000000000000) = false := by rw [decide_eq_false_iff_not]; omega
  have sb : decide (b < 0) = false := by rw [decide_eq_false_iff_not]; omega
  simp only [d1, d2, cond_false, ua, ub, wa, wb, wn, k1, k2, sb]
  by_cases sa : a < 0
  · simp only [sa, decide_true, beqB, Bool.not_false, cond_true, tn.2 sa]
  · simp only [sa, decide_false, beqB_self, Bool.not_true, cond_false, tn.1 (by omega)]

end Go.Sx.R
namespace Go.Sx.R
open Go Go.Sx

section
variable {n : TNet} {m : Nat} {L : List (List Int)}

end

theorem intEq_self (a : Int) : intEq a a = true := by simp [intEq]

end Go.Sx.R
namespace Go.Sx.R
open Go Go.Sx

/-- The comparison of a / b and c / d. -/
def cm : Nat → Int → Int → Int → Int → Int
  | 0, _, _, _, _ => 0
  | k + 1, a, b, c, d => if a / b < c / d then -1 else if c / d < a / b then 1 else if a % b = 0 then (if c % d = 0 then 0 else -1) else if c % d = 0 then 1 else cm k d (c % d) b (a % b)

end Go.Sx.R
namespace Go.Sx.R
open Go Go.Sx

theorem wiresOf_wbt {f : Nat → Nat → Int} {m : Nat} {l : List W3} (h : WiresOf f m (fun _ _ => True) l) {a b : Nat} (hab : a < b) (hb : b < m) : wbt l (a : Int) (b : Int) = f a b := by
  by_cases hz : f a b = 0
  · rw [hz]
    apply Classical.byContradiction
    intro hw
    have := (wbt_mem h.srt (show (a : Int) < b by omega) hw).1 rfl
    obtain ⟨a', b', _, h1, h2, h3, h4⟩ := (h.mem _).1 this
    simp only [Prod.mk.injEq] at h4
    have e1 : a' = a := by omega
    have e2 : b' = b := by omega
    subst e1 e2
    omega
  · exact (wbt_mem h.srt (show (a : Int) < b by omega) hz).2 ((h.mem _).2 ⟨a, b, trivial, hab, hb, hz, rfl⟩)

section
variable {n : TNet} {m : Nat} {L : List (List Int)} {a b : Nat}

theorem nodup_map_on {β γ : Type} (g : β → γ) : ∀ {l : List β}, l.Nodup → (∀ x ∈ l, ∀ y ∈ l, g x = g y → x = y) → (l.map g).Nodup
  | [], _, _ => by simp
  | x :: l, hn, h => by
    have hn := List.nodup_cons.1 hn
    rw [List.map_cons, List.nodup_cons]
    refine ⟨fun hm => ?_, nodup_map_on g hn.2 fun a ha b hb => h a (by simp [ha]) b (by simp [hb])⟩
    obtain ⟨y, hy, e⟩ := List.mem_map.1 hm
    have := h y (by simp [hy]) x (by simp) e
    subst this
    exact hn.1 hy

theorem un_lo {v i : Nat} (h : i < v) : un v i = i := by unfold un; rw [if_pos h]

end
end Go.Sx.R
namespace Go.Sx.R
open Go Go.Sx

theorem foldI_near (ws : List W3) (v : Int) : ∀ (l : List Nat) (i : Nat) (q : List Int), foldI (nearG ws v) l i q = q ++ ((List.range' i l.length).filter fun (u : Nat) => decide (wbt ws v (u : Int) > 0)).map fun (u : Nat) => (u : Int)
  | [], _, q => by simp [foldI]
  | x :: l, i, q => by
    simp only [foldI, foldI_near ws v l (i + 1), nearG, List.length_cons, List.range'_succ, List.filter_cons]
    by_cases h : wbt ws v (i : Int) > 0
    · simp [h]
    · simp [h]

theorem near_nat (ws : List W3) (v : Int) (m : Nat) : ∃ nl : List Nat, near ws v m = nl.map (fun (u : Nat) => (u : Int)) ∧ nl.Pairwise (· < ·) ∧ ∀ u : Nat, u ∈ nl ↔ u < m ∧ 0 < wbt ws v (u : Int) := by
  refine ⟨(List.range' 0 m).filter fun (u : Nat) => decide (wbt ws v (u : Int) > 0), ?_, List.Pairwise.filter _ List.pairwise_lt_range', fun u => ?_⟩
  · simp only [near, foldI_near, List.length_range, List.nil_append]
  · rw [List.mem_filter, List.mem_range'_1]; simp

def F1 (ws : List W3) (v : Nat) (s : Int) (l : List W3) (a b : Nat) : Int := if l.any (keyB (un v a : Int) (un v b : Int)) = true then wbt ws (un v a : Int) (un v b : Int) * s else 0
def F2 (ws : List W3) (v : Nat) (s : Int) (q : List Nat) (a b : Nat) : Int := wbt ws (un v a : Int) (un v b : Int) * s + if un v a ∈ q then wbt ws (v : Int) (un v a : Int) * wbt ws (v : Int) (un v b : Int) else 0
def F3 (ws : List W3) (v : Nat) (s : Int) (q : List Nat) (u : Nat) (r : List Nat) (a b : Nat) : Int := F2 ws v s q a b + if un v a = u ∧ un v b ∈ r then wbt ws (v : Int) (un v a : Int) * wbt ws (v : Int) (un v b : Int) else 0

section
variable {ws : List W3} {m v : Nat} {s : Int}

theorem F1_bd (hW : ∀ e ∈ ws, 1 ≤ e.2.2 ∧ e.2.2 ≤ 200) (hs : 0 ≤ s ∧ s ≤ 1000) (l : List W3) (a b : Nat) : 0 ≤ F1 ws v s l a b ∧ F1 ws v s l a b ≤ 200000 := by
  have := mesh_bd (wbt_bd hW (un v a : Int) (un v b : Int)) hs (wbt_bd hW (v : Int) (un v a : Int)) (wbt_bd hW (v : Int) (un v b : Int))
  simp only [F1]; split <;> omega
theorem F2_bd (hW : ∀ e ∈ ws, 1 ≤ e.2.2 ∧ e.2.2 ≤ 200) (hs : 0 ≤ s ∧ s ≤ 1000) (q : List Nat) (a b : Nat) : 0 ≤ F2 ws v s q a b ∧ F2 ws v s q a b ≤ 240000 := by
  have := mesh_bd (wbt_bd hW (un v a : Int) (un v b : Int)) hs (wbt_bd hW (v : Int) (un v a : Int)) (wbt_bd hW (v : Int) (un v b : Int))
  simp only [F2]; split <;> omega
theorem F3_bd (hW : ∀ e ∈ ws, 1 ≤ e.2.2 ∧ e.2.2 ≤ 200) (hs : 0 ≤ s ∧ s ≤ 1000) (q : List Nat) (u : Nat) (r : List Nat) (a b : Nat) : 0 ≤ F3 ws v s q u r a b ∧ F3 ws v s q u r a b ≤ 280000 := by
  have h1 := mesh_bd (wbt_bd hW (un v a : Int) (un v b : Int)) hs (wbt_bd hW (v : Int) (un v a : Int)) (wbt_bd hW (v : Int) (un v b : Int))
  have h2 := F2_bd (v := v) hW hs q a b
  simp only [F3]; split <;> omega

theorem any_take {p : W3 → Bool} {l : List W3} {i : Nat} {x : W3} (h : l[i]? = some x) : (l.take (i + 1)).any p = ((l.take i).any p || p x) := by
  rw [List.take_add_one, h]; simp

theorem F1_skip {i : Nat} {x : W3} (hx : ws[i]? = some x) (h : x.1 = (v : Int) ∨ x.2.1 = (v : Int)) (a b : Nat) : F1 ws v s (ws.take i) a b = F1 ws v s (ws.take (i + 1)) a b := by
  have hk : keyB (un v a : Int) (un v b : Int) x = false := by
    have : ¬ keyB (un v a : Int) (un v b : Int) x = true := by
      rw [keyB_iff]
      have := un_ne v a; have := un_ne v b
      omega
    simpa using this
  simp only [F1, any_take hx, hk, Bool.or_false]

theorem F1_put {i : Nat} {x : W3} (hS : Srt ws) (hx : ws[i]? = some x) {A B : Nat} (hA : x.1 = (A : Int)) (hB : x.2.1 = (B : Int)) (hAB : A < B) (hAv : A ≠ v) (hBv : B ≠ v) (hw0 : x.2.2 ≠ 0) (a b : Nat) :
    (if a = ix v A ∧ b = ix v B then F1 ws v s (ws.take i) a b + x.2.2 * s else F1 ws v s (ws.take i) a b) = F1 ws v s (ws.take (i + 1)) a b := by
  have hxm := List.mem_of_getElem? hx
  have hi := get_lt hx
  by_cases e : a = ix v A ∧ b = ix v B
  · rw [if_pos e]
    have ua : un v a = A := (un_iff hAv).2 e.1
    have ub : un v b = B := (un_iff hBv).2 e.2
    have hk : keyB (A : Int) (B : Int) x = true := keyB_iff.2 ⟨hA, hB⟩
    have hn : (ws.take i).any (keyB (A : Int) (B : Int)) = false := by
      rw [List.any_eq_false]
      intro y hy hk2
      obtain ⟨j, hj⟩ := List.getElem?_of_mem hy
      rw [List.getElem?_take] at hj
      split at hj
      · rename_i hji
        have hjl := get_lt hj
        have := List.pairwise_iff_getElem.1 hS j i hjl hi hji
        rw [List.getElem?_eq_getElem hjl] at hj
        rw [List.getElem?_eq_getElem hi] at hx
        simp only [Option.some.injEq] at hj hx
        rw [hj, hx, lex_iff] at this
        rw [keyB_iff] at hk2
        omega
      · simp at hj
    have hwb : wbt ws (A : Int) (B : Int) = x.2.2 := (wbt_mem hS (by omega) hw0).2 (by
      have : x = ((A : Int), (B : Int), x.2.2) := by rw [← hA, ← hB]
      rw [← this]; exact hxm)
    simp only [F1, any_take hx, ua, ub, hk, hn, Bool.or_true, if_true, hwb]
    simp
  · rw [if_neg e]
    have hk : keyB (un v a : Int) (un v b : Int) x = false := by
      have : ¬ keyB (un v a : Int) (un v b : Int) x = true := by
        rw [keyB_iff]
        rintro ⟨q1, q2⟩
        exact e ⟨(un_iff hAv).1 (by omega), (un_iff hBv).1 (by omega)⟩
      simpa using this
    simp only [F1, any_take hx, hk, Bool.or_false]

theorem F1_all (hS : Srt ws) {a b : Nat} (hab : a < b) : F1 ws v s ws a b = F2 ws v s [] a b := by
  simp only [F1, F2, List.not_mem_nil, if_false, Int.add_zero]
  split
  · rfl
  · rename_i h
    have hz : wbt ws (un v a : Int) (un v b : Int) = 0 := by
      by_cases hz : wbt ws (un v a : Int) (un v b : Int) = 0
      · exact hz
      · refine absurd ?_ h
        have hm := (wbt_mem hS (a := (un v a : Int)) (b := (un v b : Int)) (by have := un_lt (v := v) hab; omega) hz).1 rfl
        rw [List.any_eq_true]
        exact ⟨_, hm, keyB_iff.2 ⟨rfl, rfl⟩⟩
    rw [hz, Int.zero_mul]

theorem F3_put {q r : List Nat} {u x j : Nat} (hu : u ≠ v) (hxv : x ≠ v) (hr : r.Pairwise (· < ·)) (hx : r[j]? = some x) (a b : Nat) :
    (if a = ix v u ∧ b = ix v x then F3 ws v s q u (r.take j) a b + wbt ws (v : Int) (u : Int) * wbt ws (v : Int) (x : Int) else F3 ws v s q u (r.take j) a b) = F3 ws v s q u (r.take (j + 1)) a b := by
  have ht : r.take (j + 1) = r.take j ++ [x] := by rw [List.take_add_one, hx]; rfl
  have hj := get_lt hx
  have hnx : x ∉ r.take j := fun hm => by
    obtain ⟨k, hk⟩ := List.getElem?_of_mem hm
    rw [List.getElem?_take] at hk
    split at hk
    · rename_i hkj
      have hkl := get_lt hk
      have := List.pairwise_iff_getElem.1 hr k j hkl hj hkj
      rw [List.getElem?_eq_getElem hkl] at hk
      rw [List.getElem?_eq_getElem hj] at hx
      simp only [Option.some.injEq] at hk hx
      omega
    · simp at hk
  by_cases e : a = ix v u ∧ b = ix v x
  · have ua : un v a = u := (un_iff hu).2 e.1
    have ub : un v b = x := (un_iff hxv).2 e.2
    rw [if_pos e]
    simp only [F3, ua, ub, ht, hnx, List.mem_append, List.mem_singleton, or_true, and_false, and_true, if_true, if_false, Int.add_zero]
  · rw [if_neg e]
    have : (un v a = u ∧ un v b ∈ r.take (j + 1)) ↔ (un v a = u ∧ un v b ∈ r.take j) := by
      rw [ht, List.mem_append, List.mem_singleton]
      constructor
      · rintro ⟨h1, h2 | h2⟩
        · exact ⟨h1, h2⟩
        · exact absurd ⟨(un_iff hu).1 h1, (un_iff hxv).1 h2⟩ e
      · rintro ⟨h1, h2⟩; exact ⟨h1, .inl h2⟩
    simp only [F3, this]

theorem F3_end {nl : List Nat} (hp : nl.Pairwise (· < ·)) (hm : ∀ u : Nat, u ∈ nl ↔ u < m ∧ 0 < wbt ws (v : Int) (u : Int)) (hW : ∀ e ∈ ws, 1 ≤ e.2.2 ∧ e.2.2 ≤ 200) {i u : Nat} (hu : nl[i]? = some u) (hv : v < m) {a b : Nat} (hab : a < b) (hb : b < m - 1) :
    F3 ws v s (nl.take i) u (nl.drop (i + 1)) a b = F2 ws v s (nl.take (i + 1)) a b := by
  have ht : nl.take (i + 1) = nl.take i ++ [u] := by rw [List.take_add_one, hu]; rfl
  have hi := get_lt hu
  have hd : nl.drop i = u :: nl.drop (i + 1) := by
    rw [List.drop_eq_getElem_cons hi]
    rw [List.getElem?_eq_getElem hi] at hu
    simp only [Option.some.injEq] at hu
    rw [hu]
  have hnl : nl = nl.take i ++ u :: nl.drop (i + 1) := by rw [← hd, List.take_append_drop]
  have hlt : ∀ y ∈ nl.take i, y < u := fun y hy => by
    rw [hnl] at hp
    exact (List.pairwise_append.1 hp).2.2 y hy u (by simp)
  by_cases e : un v a = u
  · have hn : u ∉ nl.take i := fun h => by have := hlt u h; omega
    have hub := un_lt (v := v) hab
    have hubm := un_bd hv hb
    have key : (if un v b ∈ nl.drop (i + 1) then wbt ws (v : Int) (u : Int) * wbt ws (v : Int) (un v b : Int) else 0) = wbt ws (v : Int) (u : Int) * wbt ws (v : Int) (un v b : Int) := by
      split
      · rfl
      · rename_i hnd
        have hz : ¬ 0 < wbt ws (v : Int) (un v b : Int) := fun h => by
          have hmem := (hm (un v b)).2 ⟨hubm, h⟩
          rw [hnl] at hmem
          rcases List.mem_append.1 hmem with h1 | h1
          · have := hlt _ h1; omega
          · rcases List.mem_cons.1 h1 with h1 | h1
            · omega
            · exact hnd h1
        have := wbt_bd hW (v : Int) (un v b : Int)
        have hz0 : wbt ws (v : Int) (un v b : Int) = 0 := by omega
        rw [hz0, Int.mul_zero]
    simp only [F3, F2, e, hn, ht, List.mem_append, List.mem_singleton, or_true, true_and, if_true, if_false, Int.add_zero, key]
  · simp only [F3, F2, e, ht, List.mem_append, List.mem_singleton, or_false, false_and, if_false, Int.add_zero]

theorem F2_all {nl : List Nat} (hm : ∀ u : Nat, u ∈ nl ↔ u < m ∧ 0 < wbt ws (v : Int) (u : Int)) (hW : ∀ e ∈ ws, 1 ≤ e.2.2 ∧ e.2.2 ≤ 200) (hv : v < m) {a b : Nat} (ha : a < m - 1) : F2 ws v (wAt ws (v : Int)) nl a b = meshF ws v a b := by
  simp only [F2, meshF]
  split
  · rfl
  · rename_i h
    have hub := un_bd hv ha
    have hz : ¬ 0 < wbt ws (v : Int) (un v a : Int) := fun q => h ((hm _).2 ⟨hub, q⟩)
    have := wbt_bd hW (v : Int) (un v a : Int)
    have hz0 : wbt ws (v : Int) (un v a : Int) = 0 := by omega
    rw [hz0, Int.zero_mul]
end

/-- What a mesh comes to. -/
def MeshQ (n : TNet) (m v : Nat) (o : Option (TNet × Bool)) : Prop := ∃ l, WiresOf (meshF n.2.2.2 v) (m - 1) (fun _ _ => True) l ∧ Fine (meshN n m v l) ∧ o = some (cond (netok (canon (meshN n m v l))) (canon (meshN n m v l), true) ((0, 0, 0, []), false))

theorem Acc.small {m : Nat} {F : Nat → Nat → Int} {l : List W3} (h : Acc m F l) (hm5 : m ≤ 5) (hF : ∀ a b, 0 ≤ F a b ∧ F a b ≤ 1000000000000) : l.length ≤ 1000 ∧ ∀ e ∈ l, 0 ≤ e.2.2 ∧ e.2.2 ≤ 1000000000000 := by
  have := h.len
  have h25 : m * m ≤ 25 := Nat.mul_le_mul hm5 hm5
  refine ⟨by omega, fun e he => ?_⟩
  obtain ⟨a, b, _, _, rfl⟩ := h.val e he
  exact hF a b

theorem s_Mesh (n : TNet) (hn : Sm.sm B1 n) (hok : netok n = true) (m : Nat) (hm : n.1 = m) (v : Nat) (hv0 : 1 ≤ v) (hv : v < m) : MeshQ n m v (e_spec_l07Mesh (n, (v : Int), ())) := by
  obtain ⟨m', hm', hm1, hm5, hin, he1, he2⟩ := netok_facts hok
  have hmm : m' = m := by omega
  subst hmm
  have hlen : n.2.2.2.length ≤ 1073741824 := hn.2.2.2.1
  have hW := wiresW hok
  have hS := netok_srt hok
  have hA := wAt_le hS hin hm5 hW (v : Int)
  have hA1 := wAt_pos hok (v := (v : Int)) (by omega) (by omega)
  have hsc := scale_ok hok
  obtain ⟨nl, hnl, hnp, hnm⟩ := near_nat n.2.2.2 (v : Int) m'
  have hnl5 : nl.length ≤ 5 := by
    have := near_len n.2.2.2 (v : Int) m'
    rw [hnl] at this; simp at this; omega
  have hnv : ∀ u ∈ nl, u ≠ v := fun u hu e => by
    have := ((hnm u).1 hu).2
    rw [e] at this; simp [wbt] at this
  have hsb : 1 ≤ n.2.2.1 * wAt n.2.2.2 (v : Int) ∧ n.2.2.1 * wAt n.2.2.2 (v : Int) ≤ 1000000 := by
    constructor
    · have := Int.mul_le_mul hsc.1 hA1 (by omega) (show 0 ≤ n.2.2.1 by omega); omega
    · have := Int.mul_le_mul hsc.2 hA.2 hA.1 (by omega); omega
  have ws : wr (n.2.2.1 * wAt n.2.2.2 (v : Int)) = n.2.2.1 * wAt n.2.2.2 (v : Int) := wr_id (by omega) (by omega)
  have wm : wr (n.1 - 1) = ((m' - 1 : Nat) : Int) := by rw [wr_id (by omega) (by omega)]; omega
  simp only [e_spec_l07Mesh, r_spec_l07Mesh, s_Near n m' hn hm hm5, e_WeightAt, p_WeightAt n hn hW, Option.bind_some, hnl, ws, wm]
  generalize hSS : n.2.2.1 * wAt n.2.2.2 (v : Int) = S at hsb
  refine iter_rule (R := TNet × Bool) (MeshQ n m' v) n.2.2.2 (fun (q : List W3) i => ((v : Int), n, (0, 0, 0, []), nl.map (fun (u : Nat) => (u : Int)), wAt n.2.2.2 (v : Int), (((m' - 1 : Nat) : Int), n.2.1, S, q), n.2.2.2, (n.2.2.2.length : Int), i, ()))
    (fun i q => Acc (m' - 1) (F1 n.2.2.2 v (wAt n.2.2.2 (v : Int)) (n.2.2.2.take i)) q) (fun q i x kc hq hx hi hk => ?_) (fun q kc hq => ?_) (N := N0) (by have := N0_big; omega) [] ((Acc.nil _).congr fun a b _ _ => by simp [F1])
  · have hxm := List.mem_of_getElem? hx
    have hx3 := hin x hxm
    have hxw := hW x hxm
    simp only [r_spec_l07Mesh_L0, lt_len, hi, decide_true, cond_true, getI_nat, hx, Option.bind_some, wr_succ hi (show n.2.2.2.length ≤ 9223372036854775807 by omega)]
    by_cases c1 : x.1 = (v : Int)
    · simp only [c1, decide_true, Bool.not_true, cond_false]
      exact hk q (hq.congr fun a b _ _ => F1_skip hx (.inl c1) a b)
    · by_cases c2 : x.2.1 = (v : Int)
      · simp only [c1, c2, decide_true, decide_false, Bool.not_true, Bool.not_false, cond_true, cond_false]
        exact hk q (hq.congr fun a b _ _ => F1_skip hx (.inr c2) a b)
      · obtain ⟨A, hA'⟩ : ∃ A : Nat, x.1 = A := ⟨x.1.toNat, by omega⟩
        obtain ⟨B, hB'⟩ : ∃ B : Nat, x.2.1 = B := ⟨x.2.1.toNat, by omega⟩
        have hAv : A ≠ v := fun e => c1 (by omega)
        have hBv : B ≠ v := fun e => c2 (by omega)
        have iA := s_Index A v (by omega)
        have iB := s_Index B v (by omega)
        have hlt := ix_lt hAv hBv (show A < B by omega)
        have hbd := ix_bd hBv hv (show B < m' by omega)
        have bm := mesh_bd (x := x.2.2) (s := wAt n.2.2.2 (v : Int)) (y := 0) (z := 0) (by omega) hA (by omega) (by omega)
        have ww : wr (x.2.2 * wAt n.2.2.2 (v : Int)) = x.2.2 * wAt n.2.2.2 (v : Int) := wr_id (by omega) (by omega)
        have hsmall := hq.small (by omega) (fun a b => by have := F1_bd (v := v) hW hA (n.2.2.2.take i) a b; omega)
        have hp := s_Put q (ix v A : Int) (ix v B : Int) (x.2.2 * wAt n.2.2.2 (v : Int)) (by omega) hsmall.1 hsmall.2 (by omega)
        have d1 : decide ((A : Int) = (v : Int)) = false := by rw [decide_eq_false_iff_not]; omega
        have d2 : decide ((B : Int) = (v : Int)) = false := by rw [decide_eq_false_iff_not]; omega
        simp only [d1, d2, Bool.not_false, cond_true, hA', hB', iA, iB, ww, hp, Option.bind_some]
        exact hk _ ((hq.put hlt hbd _).congr fun a b _ _ => F1_put hS hx hA' hB' (by omega) hAv hBv (by omega) a b)
  · rw [List.take_length] at hq
    simp only [r_spec_l07Mesh_L0, not_lt_self, cond_false]
    refine iter_rule (R := TNet × Bool) (MeshQ n m' v) nl (fun (q : List W3) i => ((v : Int), n, (0, 0, 0, []), nl.map (fun (u : Nat) => (u : Int)), (((m' - 1 : Nat) : Int), n.2.1, S, q), nl.map (fun (u : Nat) => (u : Int)), ((nl.map fun (u : Nat) => (u : Int)).length : Int), i, ()))
      (fun i q => Acc (m' - 1) (F2 n.2.2.2 v (wAt n.2.2.2 (v : Int)) (nl.take i)) q) (fun q i u kc hq hu hi hk => ?_) (fun q kc hq => ?_) (N := N0) (by have := N0_big; omega) q (hq.congr fun a b hab _ => F1_all hS hab)
    · have hum := List.mem_of_getElem? hu
      have hub := (hnm u).1 hum
      have huv := hnv u hum
      have d1 : decide ((i : Int) < (((nl.map fun (u : Nat) => (u : Int)).length : Nat) : Int)) = true := by rw [decide_eq_true_eq, List.length_map]; omega
      have g1 : (nl.map fun (u : Nat) => (u : Int))[i]? = some (u : Int) := by rw [List.getElem?_map, hu]; rfl
      have w1 : wr ((i : Int) + 1) = ((i + 1 : Nat) : Int) := wr_succ hi (by omega)
      have d2 : decide ((0 : Int) ≤ ((i + 1 : Nat) : Int)) = true := by rw [decide_eq_true_eq]; omega
      have d3 : decide (((i + 1 : Nat) : Int) ≤ (((nl.map fun (u : Nat) => (u : Int)).length : Nat) : Int)) = true := by rw [decide_eq_true_eq, List.length_map]; omega
      have hdr : List.take ((((nl.map fun (u : Nat) => (u : Int)).length : Nat) : Int).toNat - (((i + 1 : Nat) : Int)).toNat) (List.drop (((i + 1 : Nat) : Int)).toNat (nl.map fun (u : Nat) => (u : Int))) = (nl.drop (i + 1)).map fun (u : Nat) => (u : Int) := by
        rw [Int.toNat_natCast, Int.toNat_natCast, List.take_of_length_le (by simp), List.map_drop]
      simp only [r_spec_l07Mesh_L2, d1, d2, d3, cond_true, getI_nat, g1, Option.bind_some, w1, Int.le_refl, decide_true, hdr]
      have hrp : (nl.drop (i + 1)).Pairwise (· < ·) := List.Pairwise.sublist (List.drop_sublist _ _) hnp
      refine iter_rule (R := TNet × Bool) (MeshQ n m' v) (nl.drop (i + 1)) (fun (q : List W3) j => ((v : Int), n, (0, 0, 0, []), nl.map (fun (u : Nat) => (u : Int)), (((m' - 1 : Nat) : Int), n.2.1, S, q), (u : Int), nl.map (fun (u : Nat) => (u : Int)), ((nl.map fun (u : Nat) => (u : Int)).length : Int), (i : Int), (nl.drop (i + 1)).map (fun (u : Nat) => (u : Int)), (((nl.drop (i + 1)).map fun (u : Nat) => (u : Int)).length : Int), j, ()))
        (fun j q => Acc (m' - 1) (F3 n.2.2.2 v (wAt n.2.2.2 (v : Int)) (nl.take i) u ((nl.drop (i + 1)).take j)) q) (fun q j y kc2 hq hy hj hk2 => ?_) (fun q kc2 hq => ?_) (N := N0) (by have := N0_big; simp; omega) q (hq.congr fun a b _ _ => by simp [F3])
      · have hym : y ∈ nl := List.mem_of_mem_drop (List.mem_of_getElem? hy)
        have hyb := (hnm y).1 hym
        have hyv := hnv y hym
        have huy : u < y := by
          rw [List.getElem?_drop] at hy
          have hl := get_lt hy
          have := List.pairwise_iff_getElem.1 hnp i (i + 1 + j) hi hl (by omega)
          rw [List.getElem?_eq_getElem hl] at hy
          rw [List.getElem?_eq_getElem hi] at hu
          simp only [Option.some.injEq] at hy hu
          omega
        have d4 : decide ((j : Int) < ((((nl.drop (i + 1)).map fun (u : Nat) => (u : Int)).length : Nat) : Int)) = true := by rw [decide_eq_true_eq, List.length_map]; omega
        have g2 : ((nl.drop (i + 1)).map fun (u : Nat) => (u : Int))[j]? = some (y : Int) := by rw [List.getElem?_map, hy]; rfl
        have iU := s_Index u v (by omega)
        have iY := s_Index y v (by omega)
        have bm := mesh_bd (x := 0) (s := 0) (by omega) (by omega) (wbt_bd hW (v : Int) (u : Int)) (wbt_bd hW (v : Int) (y : Int))
        have ww : wr (wbt n.2.2.2 (v : Int) (u : Int) * wbt n.2.2.2 (v : Int) (y : Int)) = wbt n.2.2.2 (v : Int) (u : Int) * wbt n.2.2.2 (v : Int) (y : Int) := wr_id (by omega) (by omega)
        have hlt := ix_lt huv hyv huy
        have hbd := ix_bd hyv hv hyb.1
        have hsmall := hq.small (by omega) (fun a b => by have := F3_bd (v := v) hW hA (nl.take i) u ((nl.drop (i + 1)).take j) a b; omega)
        have hp := s_Put q (ix v u : Int) (ix v y : Int) (wbt n.2.2.2 (v : Int) (u : Int) * wbt n.2.2.2 (v : Int) (y : Int)) (by omega) hsmall.1 hsmall.2 (by omega)
        have w2 : wr ((j : Int) + 1) = ((j + 1 : Nat) : Int) := wr_succ hj (by simp; omega)
        simp only [r_spec_l07Mesh_L4, d4, cond_true, getI_nat, g2, Option.bind_some, iU, iY, s_WB n hn, ww, hp, w2]
        exact hk2 _ ((hq.put hlt hbd _).congr fun a b _ _ => F3_put huv hyv hrp hy a b)
      · have d4 : decide ((((nl.drop (i + 1)).length : Nat) : Int) < ((((nl.drop (i + 1)).map fun (u : Nat) => (u : Int)).length : Nat) : Int)) = false := by rw [decide_eq_false_iff_not, List.length_map]; omega
        rw [List.take_length] at hq
        simp only [r_spec_l07Mesh_L4, d4, cond_false, w1]
        exact hk q (hq.congr fun a b hab hb => F3_end hnp hnm hW hu hv hab hb)
    · have d1 : decide (((nl.length : Nat) : Int) < (((nl.map fun (u : Nat) => (u : Int)).length : Nat) : Int)) = false := by rw [decide_eq_false_iff_not, List.length_map]; omega
      rw [List.take_length] at hq
      simp only [r_spec_l07Mesh_L2, d1, cond_false]
      have hq2 : Acc (m' - 1) (meshF n.2.2.2 v) q := hq.congr fun a b hab hb => F2_all hnm hW hv (by omega)
      obtain ⟨l, l1, l2, l3⟩ := s_Reduced n.2.1 S (m' - 1) (by omega) hq2 ⟨hsb.1, by omega⟩ hn.2.1 (fun a b _ _ => by have := meshF_bd hS hin hm5 hW v a b; omega)
      have hN : meshN n m' v l = (((m' - 1 : Nat) : Int), n.2.1, S, l) := by simp only [meshN, hSS]
      refine ⟨l, l1, by rw [hN]; exact l2, ?_⟩
      simp only [l3, Option.bind_some, hN]

/-- A star replaced by a mesh: both sides. -/
theorem mesh_same {n : TNet} {m v : Nat} {o o' : Option (TNet × Bool)} (h : MeshQ n m v o) (h' : MeshQ n m v o') : o = o' := by
  obtain ⟨l, l1, _, e⟩ := h
  obtain ⟨l', l1', _, e'⟩ := h'
  have : l = l' := l1.uniq l1' fun _ _ _ _ => rfl
  rw [e, e', this]

end Go.Sx.R
namespace Go.Sx.R
open Go Go.Sx

theorem zero_sm : Sm.sm B1 ((0, 0, 0, []) : TNet) := ⟨sm_z0, sm_z0, sm_z0, by simp [sm_list]⟩

/-- What a reduced network is. -/
structure Red (n : TNet) (r : TNet × Bool) : Prop where
  sm : Sm.sm B1 r.1
  ok : r.2 = true → netok r.1 = true ∧ r.1.1 = n.1 - 1 ∧ r.1.2.1 = n.2.1

theorem Red.zero (n : TNet) : Red n ((0, 0, 0, []), false) := ⟨zero_sm, by simp⟩

theorem MeshQ.red {n : TNet} {m v : Nat} {o : Option (TNet × Bool)} (hm : n.1 = m) (hm1 : 1 ≤ m) (h : MeshQ n m v o) : ∃ r, o = some r ∧ Red n r := by
  obtain ⟨l, l1, l2, e⟩ := h
  cases hq : netok (canon (meshN n m v l)) with
  | false => rw [hq] at e; exact ⟨_, e, Red.zero n⟩
  | true =>
    rw [hq] at e
    refine ⟨_, e, l2.canon_sm, fun _ => ⟨hq, ?_, rfl⟩⟩
    show ((m - 1 : Nat) : Int) = n.1 - 1
    omega

theorem s_inE (n : TNet) (hok : netok n = true) (v : Int) : e_spec_l01In (v, n.2.1, wr (n.1 - 1), ()) = some (decide (n.2.1 ≤ v) && decide (v < n.1)) := by
  obtain ⟨m, hm, hm1, hm5, hin, he1, he2⟩ := netok_facts hok
  have w : wr (n.1 - 1) = n.1 - 1 := wr_id (by omega) (by omega)
  have e : decide (v ≤ n.1 - 1) = decide (v < n.1) := by rw [decide_eq_decide]; omega
  simp only [w, p_l01In, n_l01In, e]

theorem star_both (n : TNet) (hn : Sm.sm B1 n) (v : Int) : ∃ r : TNet × Bool, e_impl_StarMesh (n, v, ()) = some r ∧ e_spec_StarMesh (n, v, ()) = some r ∧ Red n r := by
  cases hok : netok n with
  | false =>
    refine ⟨((0, 0, 0, []), false), ?_, ?_, Red.zero n⟩
    · simp only [e_impl_StarMesh, r_impl_StarMesh, p_NetOk n hn, hok, Option.bind_some, Bool.not_false, cond_true]
    · simp only [e_spec_StarMesh, r_spec_StarMesh, s_NetOk n hn, hok, Option.bind_some, Bool.not_false, cond_true]
  | true =>
    obtain ⟨m, hm, hm1, hm5, hin, he1, he2⟩ := netok_facts hok
    by_cases hv : n.2.1 ≤ v ∧ v < n.1
    · obtain ⟨k, rfl⟩ : ∃ k : Nat, v = k := ⟨v.toNat, by omega⟩
      have h1 : MeshQ n m k (e_impl_StarMesh (n, (k : Int), ())) := p_Star n hn hok m hm k hv.1 (by omega)
      have h2 := s_Mesh n hn hok m hm k (by omega) (by omega)
      obtain ⟨r, hr, hR⟩ := h1.red hm hm1
      have d1 : decide (n.2.1 ≤ (k : Int)) = true := by rw [decide_eq_true_eq]; exact hv.1
      have d2 : decide ((k : Int) < n.1) = true := by rw [decide_eq_true_eq]; exact hv.2
      refine ⟨r, hr, ?_, hR⟩
      have := mesh_same h2 h1
      rw [hr] at this
      simp only [e_spec_StarMesh, r_spec_StarMesh, s_NetOk n hn, hok, Option.bind_some, Bool.not_true, cond_false, s_inE n hok, d1, d2, Bool.and_self, this]
    · refine ⟨((0, 0, 0, []), false), ?_, ?_, Red.zero n⟩
      · simp only [e_impl_StarMesh, r_impl_StarMesh, p_NetOk n hn, hok, Option.bind_some, Bool.not_true, cond_false]
        by_cases h0 : v < n.2.1
        · simp [h0]
        · have d : decide (v ≥ n.1) = true := by rw [decide_eq_true_eq]; omega
          simp [h0, d]
      · have d : (decide (n.2.1 ≤ v) && decide (v < n.1)) = false := by simp only [Bool.and_eq_false_iff, decide_eq_false_iff_not]; omega
        simp only [e_spec_StarMesh, r_spec_StarMesh, s_NetOk n hn, hok, Option.bind_some, Bool.not_true, cond_false, s_inE n hok, d, Bool.not_false, cond_true]

end Go.Sx.R
namespace Go.Sx.R
open Go Go.Sx

theorem in_nat {m : Nat} {ws : List W3} (hin : InW m ws) {x : W3} (hx : x ∈ ws) : ∃ a b : Nat, a < b ∧ b < m ∧ x = ((a : Int), (b : Int), x.2.2) := by
  obtain ⟨h1, h2, h3⟩ := hin x hx
  refine ⟨x.1.toNat, x.2.1.toNat, by omega, by omega, ?_⟩
  have t1 : ((x.1.toNat : Nat) : Int) = x.1 := by omega
  have t2 : ((x.2.1.toNat : Nat) : Int) = x.2.1 := by omega
  rw [t1, t2]

theorem wires_self {m : Nat} {ws : List W3} (hS : Srt ws) (hin : InW m ws) (hW : ∀ e ∈ ws, 1 ≤ e.2.2 ∧ e.2.2 ≤ 200) : WiresOf (fun a b => wbt ws (a : Int) (b : Int)) m (fun _ _ => True) ws := by
  refine ⟨hS, fun x => ⟨fun hx => ?_, fun h => ?_⟩⟩
  · obtain ⟨a, b, h1, h2, h3⟩ := in_nat hin hx
    have hw := hW x hx
    have hm : ((a : Int), (b : Int), x.2.2) ∈ ws := by rw [← h3]; exact hx
    have := (wbt_mem hS (by omega) (by omega)).2 hm
    exact ⟨a, b, trivial, h1, h2, by omega, by rw [this]; exact h3⟩
  · obtain ⟨a, b, _, h1, h2, h3, rfl⟩ := h
    exact (wbt_mem hS (by omega) h3).1 rfl

theorem netok_fine {n : TNet} (hn : Sm.sm B1 n) (hok : netok n = true) : Fine n := by
  have hsc := scale_ok hok
  have hW := wiresW hok
  exact ⟨hsc.1, by omega, fun x hx => by have := hW x hx; omega, hn⟩

theorem rc_map {g : Nat} {ws : List W3} {v : Int} (h : Rc ws v) : Rc (ws.map (divW g)) v := by
  induction h with
  | zero => exact .zero
  | ab he _ ih => exact Rc.ab (e := divW g _) (List.mem_map_of_mem he) ih
  | ba he _ ih => exact Rc.ba (e := divW g _) (List.mem_map_of_mem he) ih

theorem netok_canon {n : TNet} (hn : Sm.sm B1 n) (hok : netok n = true) : netok (canon n) = true := by
  have hF := netok_fine hn hok
  have hg := hF.g_pos
  have hd := gcdW_dvd n.2.2.2 n.2.2.1.natAbs
  have hsc := scale_ok hok
  have hW := wiresW hok
  have pos : ∀ x : Int, 1 ≤ x → x ≤ 1000 → gN n ∣ x.natAbs → 1 ≤ x / (gN n : Int) ∧ x / (gN n : Int) ≤ x := fun x h1 h2 h3 => by
    have hb := div_bd (a := x) (g := gN n) (by omega)
    have hle : gN n ≤ x.natAbs := Nat.le_of_dvd (by omega) h3
    refine ⟨?_, hb.2⟩
    rw [Int.le_ediv_iff_mul_le (by omega)]
    omega
  have hb := hok
  simp only [netok, Bool.and_eq_true, Bool.not_eq_true'] at hb ⊢
  obtain ⟨⟨h1, h2⟩, h3⟩ := hb
  refine ⟨⟨?_, ?_⟩, ?_⟩
  · simp only [hdrOk, Bool.and_eq_true, decide_eq_true_eq] at h1 ⊢
    have := pos n.2.2.1 hsc.1 hsc.2 hd.1
    simp only [canon]
    omega
  · simp only [wiresBad, List.any_eq_false] at h2 ⊢
    rintro ⟨y, i⟩ hy
    rw [List.mem_zipIdx_iff_getElem?] at hy
    simp only [canon, List.getElem?_map, Option.map_eq_some_iff] at hy
    obtain ⟨x, hx, rfl⟩ := hy
    have hbx := h2 (x, i) (by rw [List.mem_zipIdx_iff_getElem?]; exact hx)
    have hxm := List.mem_of_getElem? hx
    have hxw := hW x hxm
    have hp := pos x.2.2 (by omega) (by omega) (hd.2 x hxm)
    simp only [badW, Bool.not_eq_true, Bool.or_eq_false_iff, Bool.not_eq_false', Bool.and_eq_true, decide_eq_true_eq] at hbx ⊢
    refine ⟨?_, ?_⟩
    · show (((0 ≤ x.1 ∧ x.1 < x.2.1) ∧ x.2.1 < n.1) ∧ 1 ≤ x.2.2 / (gN n : Int)) ∧ x.2.2 / (gN n : Int) ≤ 200
      omega
    · cases i with
      | zero => rfl
      | succ j =>
        have h4 := hbx.2
        simp only [canon, List.getElem?_map] at h4 ⊢
        cases hj : n.2.2.2[j]? with
        | none => rfl
        | some y => rw [hj] at h4; exact h4
  · simp only [conn, decide_eq_true_eq] at h3 ⊢
    intro v h0 h1
    exact rc_map (h3 v h0 h1)


theorem p_Canon (n : TNet) (hn : Sm.sm B1 n) (hok : netok n = true) : e_impl_CanonNet (n, ()) = some (canon n, true) := by
  obtain ⟨m, hm, hm1, hm5, hin, he1, he2⟩ := netok_facts hok
  have hW := wiresW hok
  have hS := netok_srt hok
  have hsc := scale_ok hok
  obtain ⟨T, hT, hTab⟩ := p_table n m hn hm hm5 hin
  obtain ⟨l, l1, l2, l3⟩ := p_netOfC n.2.1 n.2.2.1 T m hm1 hm5 _ hTab ⟨hsc.1, by omega⟩ hn.2.1 (fun a b _ _ => by have := wbt_bd hW (a : Int) (b : Int); omega)
  have hl : l = n.2.2.2 := l1.uniq (wires_self hS hin hW) fun _ _ _ _ => rfl
  have hN : ((m : Int), n.2.1, n.2.2.1, l) = n := by rw [hl, ← hm]
  rw [hN, netok_canon hn hok] at l3
  simp only [e_impl_CanonNet, r_impl_CanonNet, p_NetOk n hn, hok, Option.bind_some, Bool.not_true, cond_false, hT, l3, cond_true]

end Go.Sx.R
namespace Go.Sx.R
open Go Go.Sx

theorem detZ_perm2 {M : List (List Int)} {l l' : List Int} (h : l.Perm l') : ∀ pr pc : List Int, pr.length = pc.length → pr.length + l.length ≤ 4 → detZ M (pr ++ l) (pc ++ l) = detZ M (pr ++ l') (pc ++ l') := by
  induction h with
  | nil => intro pr pc _ _; rfl
  | cons x _ ih =>
    intro pr pc he hl
    have := ih (pr ++ [x]) (pc ++ [x]) (by simp [he]) (by simp at hl ⊢; omega)
    simpa using this
  | swap x y l =>
    intro pr pc he hl
    simp only [List.length_cons] at hl
    match pr, pc, l, he, hl with
    | [], [], [], _, _ => simp only [List.nil_append, detZ2] <;> grind
    | [], [], [a], _, _ => simp only [List.nil_append, detZ3] <;> grind
    | [], [], [a, b], _, _ => simp only [List.nil_append, detZ4] <;> grind
    | [p], [p'], [], _, _ => simp only [List.cons_append, List.nil_append, detZ3] <;> grind
    | [p], [p'], [a], _, _ => simp only [List.cons_append, List.nil_append, detZ4] <;> grind
    | [p, q], [p', q'], [], _, _ => simp only [List.cons_append, List.nil_append, detZ4] <;> grind
    | [], [], _ :: _ :: _ :: _, _, hl => simp at hl <;> omega
    | [_], [_], _ :: _ :: _, _, hl => simp at hl <;> omega
    | [_, _], [_, _], _ :: _, _, hl => simp at hl <;> omega
    | _ :: _ :: _ :: _, _, _, _, hl => simp at hl <;> omega
    | [], _ :: _, _, he, _ => simp at he
    | _ :: _, [], _, he, _ => simp at he
    | [_], _ :: _ :: _, _, he, _ => simp at he
    | _ :: _ :: _, [_], _, he, _ => simp at he
    | [_, _], _ :: _ :: _ :: _, _, he, _ => simp at he
  | trans h1 _ ih1 ih2 =>
    intro pr pc he hl
    rw [ih1 pr pc he hl, ih2 pr pc he (by rw [← h1.length_eq]; exact hl)]

/-- A Schur complement's determinants. -/
theorem schur {M M' : List (List Int)} {v g : Int} {f : Int → Int} : ∀ (R C : List Int), R.length = C.length → R.length ≤ 3 → (∀ r ∈ R, ∀ c ∈ C, at2 M' r c * g = at2 M v v * at2 M (f r) (f c) - at2 M (f r) v * at2 M v (f c)) →
    detZ M' R C * g ^ R.length * at2 M v v = at2 M v v ^ R.length * detZ M (R.map f ++ [v]) (C.map f ++ [v]) := by
  intro R C he hl h
  match R, C, he, hl with
  | [], [], _, _ =>
    have : detZ M' [] [] = 1 := by simp [detZ]
    simp only [List.map_nil, List.nil_append, List.length_nil, detZ1, this]; grind
  | [r], [c], _, _ =>
    have h1 := h r (by simp) c (by simp)
    simp only [List.map_cons, List.map_nil, List.cons_append, List.nil_append, List.length_cons, List.length_nil, detZ1, detZ2]
    generalize at2 M v v = A at *
    generalize at2 M' r c = X at *
    grind
  | [r, s], [c, d], _, _ =>
    have h1 := h r (by simp) c (by simp)
    have h2 := h r (by simp) d (by simp)
    have h3 := h s (by simp) c (by simp)
    have h4 := h s (by simp) d (by simp)
    simp only [List.map_cons, List.map_nil, List.cons_append, List.nil_append, List.length_cons, List.length_nil, detZ2, detZ3]
    have e : (at2 M' r c * at2 M' s d - at2 M' r d * at2 M' s c) * g ^ (0 + 1 + 1) = (at2 M' r c * g) * (at2 M' s d * g) - (at2 M' r d * g) * (at2 M' s c * g) := by grind
    rw [e, h1, h2, h3, h4]
    generalize at2 M v v = A at *
    grind
  | [r, s, t], [c, d, e], _, _ =>
    have h1 := h r (by simp) c (by simp)
    have h2 := h r (by simp) d (by simp)
    have h3 := h r (by simp) e (by simp)
    have h4 := h s (by simp) c (by simp)
    have h5 := h s (by simp) d (by simp)
    have h6 := h s (by simp) e (by simp)
    have h7 := h t (by simp) c (by simp)
    have h8 := h t (by simp) d (by simp)
    have h9 := h t (by simp) e (by simp)
    simp only [List.map_cons, List.map_nil, List.cons_append, List.nil_append, List.length_cons, List.length_nil, detZ3, detZ4]
    have e' : (at2 M' r c * (at2 M' s d * at2 M' t e - at2 M' s e * at2 M' t d) - at2 M' r d * (at2 M' s c * at2 M' t e - at2 M' s e * at2 M' t c) + at2 M' r e * (at2 M' s c * at2 M' t d - at2 M' s d * at2 M' t c)) * g ^ (0 + 1 + 1 + 1)
        = (at2 M' r c * g) * ((at2 M' s d * g) * (at2 M' t e * g) - (at2 M' s e * g) * (at2 M' t d * g)) - (at2 M' r d * g) * ((at2 M' s c * g) * (at2 M' t e * g) - (at2 M' s e * g) * (at2 M' t c * g)) + (at2 M' r e * g) * ((at2 M' s c * g) * (at2 M' t d * g) - (at2 M' s d * g) * (at2 M' t c * g)) := by grind
    rw [e', h1, h2, h3, h4, h5, h6, h7, h8, h9]
    clear h1 h2 h3 h4 h5 h6 h7 h8 h9 h e'
    generalize at2 M v v = A at *
    generalize at2 M (f r) (f c) = x1
    generalize at2 M (f r) (f d) = x2
    generalize at2 M (f r) (f e) = x3
    generalize at2 M (f s) (f c) = x4
    generalize at2 M (f s) (f d) = x5
    generalize at2 M (f s) (f e) = x6
    generalize at2 M (f t) (f c) = x7
    generalize at2 M (f t) (f d) = x8
    generalize at2 M (f t) (f e) = x9
    generalize at2 M (f r) v = y1
    generalize at2 M (f s) v = y2
    generalize at2 M (f t) v = y3
    generalize at2 M v (f c) = z1
    generalize at2 M v (f d) = z2
    generalize at2 M v (f e) = z3
    grind
  | [], _ :: _, he, _ => simp at he
  | _ :: _, [], he, _ => simp at he
  | [_], _ :: _ :: _, he, _ => simp at he
  | _ :: _ :: _, [_], he, _ => simp at he
  | [_, _], _ :: _ :: _ :: _, he, _ => simp at he
  | _ :: _ :: _ :: _, [_, _], he, _ => simp at he
  | [_, _, _], _ :: _ :: _ :: _ :: _, he, _ => simp at he
  | _ :: _ :: _ :: _ :: _, _, _, hl => simp at hl <;> omega

section
variable {n : TNet} {m E : Nat} {L : List (List Int)} {inn : List Int}

theorem Nk.lk (h : Nk n m E L inn) : Lk n m L := ⟨h.hn, h.ok, h.hm, h.m1, h.m5, h.sc, h.lp, h.ls, h.tab, h.srt, h.inw, h.hw⟩

theorem Nk.down1 (h : Nk n m E L inn) (hE : 2 ≤ E) : 1 ≤ detZ L inn inn ∧ detZ L inn inn ≤ 5832000000 := by
  have lk := h.lk
  have l := h.len_inn
  have hm5 := h.m5
  have hem := h.em
  refine ⟨lk.lapZ.pos lk.hang _ inn rfl (by omega) h.nd_inn (fun i hi => mem_wo.2 ⟨(h.inn_in i hi).1, (h.inn_in i hi).2, by simp⟩) ⟨0, mem_wo.2 ⟨by omega, by omega, by simp⟩, fun hh => by have := h.mem_inn.1 hh; omega⟩, ?_⟩
  have := det_lap h.srt h.inw h.m5 h.hw h.tab h.inn_in h.inn_in h.nd_inn
  have p : 1800 ^ inn.length ≤ 5832000000 := Nat.le_trans (Nat.pow_le_pow_right (by omega) (show inn.length ≤ 3 by omega)) (by decide)
  omega

theorem Nk.dOf1 (h : Nk n m E L inn) (hE : 2 ≤ E) : 1 ≤ dOf n L inn ∧ dOf n L inn ≤ 5832000000000 := by
  have d := h.down1 hE
  have s := h.sc
  simp only [dOf]
  constructor
  · have : 1 * 1 ≤ n.2.2.1 * detZ L inn inn := Int.mul_le_mul s.1 d.1 (by omega) (by omega)
    omega
  · have : n.2.2.1 * detZ L inn inn ≤ 1000 * 5832000000 := Int.mul_le_mul s.2 d.2 (by omega) (by omega)
    omega

/-- A response's ratio. -/
theorem Nk.rtZ (h : Nk n m E L inn) (hE : 2 ≤ E) {i j : Nat} (hi : i < E) (hj : j < E) : rtF n L inn i j = ratZ (detZ L ((i : Int) :: inn) ((j : Int) :: inn)) (dOf n L inn) := by
  have d := h.dOf1 hE
  have t := h.top_le hi hj
  have r := (h.rt hi hj).1
  rw [p_Ratio (by omega) d.1 (by omega)] at r
  exact (Option.some.inj r).symm

theorem Nk.respV (h : Nk n m E L inn) : respV n = respT n L inn E := by
  simp only [Go.Sx.R.respV, h.sResp, Option.map_some, Option.getD_some]


/-- The response outlives the star. -/
theorem star_resp (h : Nk n m E L inn) (hE : 2 ≤ E) {v : Nat} (hEv : E ≤ v) (hv : v < m) {l : List W3} (l1 : WiresOf (meshF n.2.2.2 v) (m - 1) (fun _ _ => True) l) (hF : Fine (meshN n m v l)) (hok : netok (canon (meshN n m v l)) = true) (hsm : Sm.sm B1 (canon (meshN n m v l))) :
    Go.Sx.R.respV (canon (meshN n m v l)) = Go.Sx.R.respV n := by
  have lk := h.lk
  have hm5 := h.m5
  have hem := h.em
  have hm := h.hm
  obtain ⟨m', E', L', inn', h'⟩ := nk_of _ hsm hok
  have em : m' = m - 1 := by have := h'.hm; simp only [canon, meshN] at this; omega
  have eE : E' = E := by have := h'.he; have := h.he; simp only [canon, meshN] at *; omega
  subst em eE
  have lk' := h'.lk
  have hg := hF.g_pos
  have mc := mul_canon hF
  generalize hc : canon (meshN n m v l) = c at *
  generalize gN (meshN n m v l) = g at *
  have ws : c.2.2.2.map (mulW g) = l := congrArg (fun n : TNet => n.2.2.2) mc
  have scl : c.2.2.1 * (g : Int) = n.2.2.1 * wAt n.2.2.2 (v : Int) := congrArg (fun n : TNet => n.2.2.1) mc
  have vin : (v : Int) ∈ wo m [] := mem_wo.2 ⟨by omega, by omega, by simp⟩
  have A := lk.a2 (i := (v : Int)) (j := (v : Int)) (by omega) (by omega)
  rw [if_pos rfl] at A
  -- nodes
  let f : Int → Int := fun x => ((un v x.toNat : Nat) : Int)
  have fu : ∀ k : Nat, f (k : Int) = ((un v k : Nat) : Int) := fun k => by show ((un v ((k : Int).toNat) : Nat) : Int) = _; rw [Int.toNat_natCast]
  have fin : ∀ x : Int, 0 ≤ x ∧ x < ((m - 1 : Nat) : Int) → 0 ≤ f x ∧ f x < m ∧ f x ≠ v := by
    intro x hx
    obtain ⟨k, rfl⟩ : ∃ k : Nat, x = k := ⟨x.toNat, by omega⟩
    have ub := un_bd (i := k) hv (by omega)
    have := un_ne v k
    rw [fu]; omega
  have finj : ∀ x y : Int, 0 ≤ x → 0 ≤ y → f x = f y → x = y := by
    intro x y hx hy e
    obtain ⟨k, rfl⟩ : ∃ k : Nat, x = k := ⟨x.toNat, by omega⟩
    obtain ⟨j, rfl⟩ : ∃ j : Nat, y = j := ⟨y.toNat, by omega⟩
    rw [fu, fu] at e
    have := un_inj (v := v) (i := k) (j := j) (by omega)
    omega
  have wl : ∀ i j : Nat, i < m - 1 → j < m - 1 → i ≠ j → wbt l (i : Int) (j : Int) = meshF n.2.2.2 v i j := by
    intro i j hi hj hij
    rcases Nat.lt_or_gt_of_ne hij with hl | hl
    · exact wiresOf_wbt l1 hl hj
    · rw [wbt_comm, wiresOf_wbt l1 hl hi]
      simp only [meshF]
      rw [wbt_comm _ (un v j : Int) (un v i : Int), Int.mul_comm (wbt n.2.2.2 (v : Int) (un v j : Int))]
  have off : ∀ x y : Int, (0 ≤ x ∧ x < ((m - 1 : Nat) : Int)) → (0 ≤ y ∧ y < ((m - 1 : Nat) : Int)) → x ≠ y → at2 L' x y * (g : Int) = at2 L v v * at2 L (f x) (f y) - at2 L (f x) v * at2 L v (f y) := by
    intro x y hx hy hxy
    have fx := fin x hx
    have fy := fin y hy
    have fne : f x ≠ f y := fun e => hxy (finj x y hx.1 hy.1 e)
    rw [lk'.a2 hx hy, if_neg hxy, A, lk.a2 ⟨fx.1, fx.2.1⟩ ⟨fy.1, fy.2.1⟩, if_neg fne, lk.a2 ⟨fx.1, fx.2.1⟩ (by omega), if_neg fx.2.2, lk.a2 (by omega) ⟨fy.1, fy.2.1⟩, if_neg (Ne.symm fy.2.2)]
    obtain ⟨k, rfl⟩ : ∃ k : Nat, x = k := ⟨x.toNat, by omega⟩
    obtain ⟨j, rfl⟩ : ∃ j : Nat, y = j := ⟨y.toNat, by omega⟩
    have e := wl k j (by omega) (by omega) (by omega)
    rw [← ws, wbt_mul] at e
    simp only [meshF] at e
    rw [fu, fu, wbt_comm _ (un v k : Int) (v : Int), Int.neg_mul, e]
    grind
  have pV : (wo m []).Perm ((v : Int) :: (wo (m - 1) []).map f) := by
    refine (wo_cons (by omega) (by omega) (by simp)).trans ((perm_of (wo_nd _ _) (nodup_map_on f (wo_nd _ _) fun x hx y hy e => finj x y (mem_wo.1 hx).1 (mem_wo.1 hy).1 e) fun c => ?_).cons _)
    rw [mem_wo, List.mem_map]
    simp only [List.mem_cons, List.not_mem_nil, or_false]
    constructor
    · rintro ⟨c0, c1, c2⟩
      obtain ⟨k, rfl⟩ : ∃ k : Nat, c = k := ⟨c.toNat, by omega⟩
      exact ⟨((ix v k : Nat) : Int), mem_wo.2 ⟨by omega, by have := ix_bd (a := k) (v := v) (by omega) hv (by omega); omega, by simp⟩, by rw [fu, un_ix (by omega)]⟩
    · rintro ⟨x, hx, rfl⟩
      have hx := mem_wo.1 hx
      exact fin x ⟨hx.1, hx.2.1⟩
  have smul : ∀ (k : Int) (l : List Int) (F : Int → Int), (l.map fun y => F y * k).sum = (l.map F).sum * k := by
    intro k l F
    induction l with
    | nil => simp
    | cons y l ih => simp only [List.map_cons, List.sum_cons, ih, Int.add_mul]
  have slin : ∀ (a b : Int) (l : List Int) (F G : Int → Int), (l.map fun y => a * F y - b * G y).sum = a * (l.map F).sum - b * (l.map G).sum := by
    intro a b l F G
    induction l with
    | nil => simp
    | cons y l ih => simp only [List.map_cons, List.sum_cons, ih, Int.mul_add]; omega
  have ent : ∀ x y : Int, (0 ≤ x ∧ x < ((m - 1 : Nat) : Int)) → (0 ≤ y ∧ y < ((m - 1 : Nat) : Int)) → at2 L' x y * (g : Int) = at2 L v v * at2 L (f x) (f y) - at2 L (f x) v * at2 L v (f y) := by
    intro x y hx hy
    by_cases hxy : x = y
    · subst hxy
      have fx := fin x hx
      have xin := mem_wo.2 (show 0 ≤ x ∧ x < ((m - 1 : Nat) : Int) ∧ x ∉ ([] : List Int) from ⟨hx.1, hx.2, by simp⟩)
      have s1 := lk'.lapZ.sum x xin
      have s2 := lk.lapZ.sum (f x) (mem_wo.2 ⟨fx.1, fx.2.1, by simp⟩)
      have s3 := lk.lapZ.sum v vin
      rw [perm_sum (pV.map (at2 L (f x)))] at s2
      rw [perm_sum (pV.map (at2 L v))] at s3
      simp only [List.map_cons, List.sum_cons, List.map_map] at s2 s3
      have pe := List.perm_cons_erase xin
      have nde := List.nodup_cons.1 (pe.nodup_iff.1 (wo_nd _ _))
      have t1 : ((wo (m - 1) []).map fun y => at2 L' x y * (g : Int)).sum = 0 := by rw [smul]; have e : ((wo (m - 1) []).map fun y => at2 L' x y) = (wo (m - 1) []).map (at2 L' x) := rfl; rw [e, s1, Int.zero_mul]
      have t2 : ((wo (m - 1) []).map fun y => at2 L v v * (at2 L (f x) ∘ f) y - at2 L (f x) v * (at2 L v ∘ f) y).sum = 0 := by
        rw [slin]
        have q2 : ((wo (m - 1) []).map (at2 L (f x) ∘ f)).sum = -at2 L (f x) v := by omega
        have q3 : ((wo (m - 1) []).map (at2 L v ∘ f)).sum = -at2 L v v := by omega
        rw [q2, q3]; grind
      rw [perm_sum (pe.map fun y => at2 L' x y * (g : Int))] at t1
      rw [perm_sum (pe.map fun y => at2 L v v * (at2 L (f x) ∘ f) y - at2 L (f x) v * (at2 L v ∘ f) y)] at t2
      simp only [List.map_cons, List.sum_cons] at t1 t2
      have e : ((wo (m - 1) []).erase x).map (fun y => at2 L' x y * (g : Int)) = ((wo (m - 1) []).erase x).map (fun y => at2 L v v * (at2 L (f x) ∘ f) y - at2 L (f x) v * (at2 L v ∘ f) y) := List.map_congr_left fun z hz => by
        have hzm := mem_wo.1 (List.mem_of_mem_erase hz)
        have hne : x ≠ z := by rintro rfl; exact nde.1 hz
        exact off x z hx ⟨hzm.1, hzm.2.1⟩ hne
      rw [e] at t1
      have e2 : (at2 L (f x) ∘ f) x = at2 L (f x) (f x) := rfl
      have e3 : (at2 L v ∘ f) x = at2 L v (f x) := rfl
      rw [e2, e3] at t2
      omega
    · exact off x y hx hy hxy
  -- the inner nodes
  have lw : (wo m [(v : Int)]).length + 1 ≤ m := wo_len (x := (v : Int)) (by simp) (by omega) (by omega)
  have pI : inn.Perm (inn'.map f ++ [(v : Int)]) := by
    refine perm_of h.nd_inn ?_ fun c => ?_
    · rw [List.nodup_append]
      refine ⟨nodup_map_on f h'.nd_inn fun x hx y hy e => finj x y (h'.inn_in x hx).1 (h'.inn_in y hy).1 e, by simp, ?_⟩
      intro a ha b hb
      simp at hb; subst hb
      obtain ⟨x, hx, rfl⟩ := List.mem_map.1 ha
      exact (fin x (h'.inn_in x hx)).2.2
    · rw [h.mem_inn, List.mem_append, List.mem_map]
      simp only [List.mem_cons, List.not_mem_nil, or_false]
      constructor
      · rintro ⟨c0, c1⟩
        by_cases hcv : c = v
        · exact .inr hcv
        · left
          obtain ⟨k, rfl⟩ : ∃ k : Nat, c = k := ⟨c.toNat, by omega⟩
          refine ⟨((ix v k : Nat) : Int), h'.mem_inn.2 ⟨?_, by have := ix_bd (a := k) (v := v) (by omega) hv (by omega); omega⟩, by rw [fu, un_ix (by omega)]⟩
          unfold ix; split <;> omega
      · rintro (⟨x, hx, rfl⟩ | rfl)
        · have hx := h'.mem_inn.1 hx
          obtain ⟨k, rfl⟩ : ∃ k : Nat, x = k := ⟨x.toNat, by omega⟩
          have := fin (k : Int) (by omega)
          rw [fu] at this ⊢
          refine ⟨?_, this.2.1⟩
          unfold un; split <;> omega
        · omega
  have l' := h'.len_inn
  have l0 := h.len_inn
  have f0 : ∀ i : Nat, i < E' → f (i : Int) = i := fun i hi => by rw [fu, un_lo (by omega)]
  -- the two sides
  have Dn := schur (M := L) (M' := L') (v := (v : Int)) (g := (g : Int)) (f := f) inn' inn' rfl (by omega) fun r hr c hc => ent r c (h'.inn_in r hr) (h'.inn_in c hc)
  rw [← detZ_perm pI (by omega)] at Dn
  have Tp : ∀ i j : Nat, i < E' → j < E' → detZ L' ((i : Int) :: inn') ((j : Int) :: inn') * (g : Int) ^ (inn'.length + 1) * at2 L v v = at2 L v v ^ (inn'.length + 1) * detZ L ((i : Int) :: inn) ((j : Int) :: inn) := by
    intro i j hi hj
    have q := schur (M := L) (M' := L') (v := (v : Int)) (g := (g : Int)) (f := f) ((i : Int) :: inn') ((j : Int) :: inn') rfl (by simp; omega) fun r hr c hc => by
      have hr' : 0 ≤ r ∧ r < ((m - 1 : Nat) : Int) := by
        rcases List.mem_cons.1 hr with rfl | hr
        · omega
        · exact h'.inn_in r hr
      have hc' : 0 ≤ c ∧ c < ((m - 1 : Nat) : Int) := by
        rcases List.mem_cons.1 hc with rfl | hc
        · omega
        · exact h'.inn_in c hc
      exact ent r c hr' hc'
    have e := detZ_perm2 (M := L) pI [(i : Int)] [(j : Int)] rfl (by simp; omega)
    simp only [List.cons_append, List.nil_append] at e
    simp only [List.map_cons, List.cons_append, List.length_cons, f0 i hi, f0 j hj] at q
    rw [e]; exact q
  have hA1 : 1 ≤ at2 L v v := by
    have := lk.lapZ.pos lk.hang 1 [(v : Int)] rfl (by omega) (by simp) (by simpa using vin) ⟨0, mem_wo.2 ⟨by omega, by omega, by simp⟩, by simp; omega⟩
    rwa [detZ1] at this
  rw [h.respV, h'.respV]
  simp only [respT]
  refine List.map_congr_left fun i hi => List.map_congr_left fun j hj => ?_
  have hi : i < E' := by rw [List.mem_range'_1] at hi; omega
  have hj : j < E' := by rw [List.mem_range'_1] at hj; omega
  rw [h.rtZ hE hi hj, h'.rtZ hE hi hj, ratZ_eq (h'.dOf1 hE).1 (h.dOf1 hE).1]
  have T := Tp i j hi hj
  simp only [dOf]
  have dd : c.2.2.1 * detZ L' inn' inn' * ((g : Int) ^ (inn'.length + 1) * at2 L v v) = at2 L v v ^ (inn'.length + 1) * (n.2.2.1 * detZ L inn inn) := by
    have e1 : c.2.2.1 * detZ L' inn' inn' * ((g : Int) ^ (inn'.length + 1) * at2 L v v) = (c.2.2.1 * (g : Int)) * (detZ L' inn' inn' * (g : Int) ^ inn'.length * at2 L v v) := by rw [Int.pow_succ]; grind
    rw [e1, Dn, scl, ← A, Int.pow_succ]; grind
  have hX : 0 < (g : Int) ^ (inn'.length + 1) * at2 L v v := Int.mul_pos (Int.pow_pos (by omega)) (by omega)
  have hY : 0 < at2 L v v ^ (inn'.length + 1) := Int.pow_pos (by omega)
  generalize at2 L v v ^ (inn'.length + 1) = Y at *
  rw [Int.mul_assoc] at T
  generalize (g : Int) ^ (inn'.length + 1) * at2 L v v = X at *
  generalize detZ L' ((i : Int) :: inn') ((j : Int) :: inn') = a at *
  generalize detZ L ((i : Int) :: inn) ((j : Int) :: inn) = b at *
  generalize c.2.2.1 * detZ L' inn' inn' = p at *
  generalize n.2.2.1 * detZ L inn inn = q at *
  have hXY : X * Y ≠ 0 := by have := Int.mul_pos hX hY; omega
  refine Int.eq_of_mul_eq_mul_right hXY ?_
  have e1 : a * q * (X * Y) = (a * X) * (Y * q) := by grind
  have e2 : b * p * (X * Y) = (Y * b) * (p * X) := by grind
  rw [e1, e2, T, dd]
end
end Go.Sx.R
namespace Go.Sx.R
open Go Go.Sx

/-- A star's mesh: both sides, and its response. -/
theorem star_keep (n : TNet) (hn : Sm.sm B1 n) (hok : netok n = true) (h2 : 2 ≤ n.2.1) {v : Int} (hv0 : n.2.1 ≤ v) (hv1 : v < n.1) :
    ∃ r : TNet × Bool, e_impl_StarMesh (n, v, ()) = some r ∧ e_spec_StarMesh (n, v, ()) = some r ∧ Red n r ∧ (r.2 = false → r.1 = Z0) ∧ (r.2 = true → respV r.1 = respV n) := by
  obtain ⟨r, r1, r2, r3⟩ := star_both n hn v
  refine ⟨r, r1, r2, r3, ?_⟩
  obtain ⟨m, E, L, inn, h⟩ := nk_of n hn hok
  have hm := h.hm
  have he := h.he
  obtain ⟨k, rfl⟩ : ∃ k : Nat, v = k := ⟨v.toNat, by omega⟩
  obtain ⟨l, l1, l2, l3⟩ := p_Star n hn hok m hm k hv0 (by omega)
  rw [r1] at l3
  cases hq : netok (canon (meshN n m k l)) with
  | false =>
    rw [hq] at l3
    have e := Option.some.inj l3
    subst e
    exact ⟨fun _ => rfl, fun h => by simp at h⟩
  | true =>
    rw [hq] at l3
    have e := Option.some.inj l3
    subst e
    exact ⟨fun h => by simp at h, fun _ => star_resp h (by omega) (by omega) (by omega) l1 l2 hq l2.canon_sm⟩

end Go.Sx.R
namespace Go.Sx.R
open Go Go.Sx

theorem detZ_scale {M M' : List (List Int)} {g : Int} : ∀ (rows cols : List Int), rows.length = cols.length → (∀ r ∈ rows, ∀ c ∈ cols, at2 M r c = at2 M' r c * g) → detZ M rows cols = detZ M' rows cols * g ^ rows.length
  | [], cols, _, _ => by simp [detZ]
  | r :: rs, cols, hl, h => by
    have hd : ∀ (k : Nat) (D D' : Nat → Int), (∀ j, j < k → D j = D' j * g ^ rs.length) → ∀ (cs : List Int) (j : Nat) (s : Int), j + cs.length ≤ k → (∀ y ∈ cs, at2 M r y = at2 M' r y * g) → dsum M r D cs j s = dsum M' r D' cs j s * g ^ (rs.length + 1) := by
      intro k D D' hD cs
      induction cs with
      | nil => intro j s _ _; simp [dsum]
      | cons c cs ih =>
        intro j s hj hc
        simp only [dsum, hc c (by simp), ih (j + 1) (-s) (by simp at hj; omega) fun y hy => hc y (by simp [hy]), hD j (by simp at hj; omega), Int.pow_succ]
        grind
    simp only [detZ, List.length_cons]
    refine hd cols.length _ _ (fun k hk => ?_) cols 0 1 (by omega) fun y hy => h r (by simp) y hy
    exact detZ_scale rs (cols.eraseIdx k) (by rw [List.length_eraseIdx_of_lt hk]; simp at hl; omega) fun x hx y hy => h x (by simp [hx]) y (List.mem_of_mem_eraseIdx hy)

section
variable {n : TNet} {m E : Nat} {L : List (List Int)} {inn : List Int}

/-- The canonical form has the same response. -/
theorem canon_resp (h : Nk n m E L inn) (hE : 2 ≤ E) : Go.Sx.R.respV (canon n) = Go.Sx.R.respV n := by
  have lk := h.lk
  have hF := netok_fine h.hn h.ok
  have hok := netok_canon h.hn h.ok
  obtain ⟨m', E', L', inn', h'⟩ := nk_of _ hF.canon_sm hok
  have em : m' = m := by have := h'.hm; have := h.hm; simp only [canon] at *; omega
  have eE : E' = E := by have := h'.he; have := h.he; simp only [canon] at *; omega
  subst em eE
  have ei : inn' = inn := by rw [h.inn, h'.inn]; rfl
  subst ei
  have lk' := h'.lk
  have hg := hF.g_pos
  have mc := mul_canon hF
  generalize hc : canon n = c at *
  generalize gN n = g at *
  have ws : c.2.2.2.map (mulW g) = n.2.2.2 := congrArg (fun n : TNet => n.2.2.2) mc
  have scl : c.2.2.1 * (g : Int) = n.2.2.1 := congrArg (fun n : TNet => n.2.2.1) mc
  have ent : ∀ x y : Int, (0 ≤ x ∧ x < m') → (0 ≤ y ∧ y < m') → at2 L x y = at2 L' x y * (g : Int) := by
    intro x y hx hy
    rw [lk.a2 hx hy, lk'.a2 hx hy, ← ws, wbt_mul, wAt_mul]
    split
    · rfl
    · rw [Int.neg_mul]
  have gp : ∀ k : Nat, (0 : Int) < (g : Int) ^ k := fun k => Int.pow_pos (by omega)
  rw [h.respV, h'.respV]
  simp only [respT]
  refine List.map_congr_left fun i hi => List.map_congr_left fun j hj => ?_
  have hi : i < E' := by rw [List.mem_range'_1] at hi; omega
  have hj : j < E' := by rw [List.mem_range'_1] at hj; omega
  rw [h.rtZ hE hi hj, h'.rtZ hE hi hj, ratZ_eq (h'.dOf1 hE).1 (h.dOf1 hE).1]
  have e1 := detZ_scale (M := L) (M' := L') (g := (g : Int)) ((i : Int) :: inn') ((j : Int) :: inn') rfl fun r hr c hc => ent r c ((h.with hi).1 r hr) ((h.with hj).1 c hc)
  have e2 := detZ_scale (M := L) (M' := L') (g := (g : Int)) inn' inn' rfl fun r hr c hc => ent r c (h.inn_in r hr) (h.inn_in c hc)
  simp only [dOf, List.length_cons] at *
  rw [e1, e2, ← scl, Int.pow_succ]
  grind

end

end Go.Sx.R
namespace Go.Sx.R
open Go Go.Sx

theorem p_EqualW (l : List W3) (hl : l.length ≤ 1073741824) : e_slices_Equal_impl_Wire (l, l, ()) = some true := by
  simp only [e_slices_Equal_impl_Wire, r_slices_Equal_impl_Wire, decide_true, Bool.not_true, cond_false]
  refine iter_rule (R := Bool) (fun o => o = some true) l (fun (_ : Unit) i => (l, l, (l.length : Int), i, ())) (fun _ _ => True) (fun st i x kc _ hx hi hk => ?_) (fun st kc _ => ?_) (N := N0) (by have := N0_big; omega) () trivial
  · simp only [r_slices_Equal_impl_Wire_L0, lt_len, hi, decide_true, cond_true, getI_nat, hx, Option.bind_some, intEq_self, Bool.and_self, Bool.not_true, cond_false, wr_succ hi (show l.length ≤ 9223372036854775807 by omega)]
    exact hk () trivial
  · simp only [r_slices_Equal_impl_Wire_L0, not_lt_self, cond_false]

theorem p_SameNet (n : TNet) (hn : Sm.sm B1 n) : e_impl_SameNet (n, n, ()) = some true := by
  simp only [e_impl_SameNet, r_impl_SameNet, decide_true, cond_true, p_EqualW n.2.2.2 hn.2.2.2.1, Option.bind_some]

end Go.Sx.R
namespace Go.Sx.R
open Go Go.Sx

def bnd : Nat → Nat
  | 0 => 1
  | n + 1 => 5 * bnd n

end Go.Sx.R
namespace Go.Sx.R
open Go Go.Sx

abbrev Mat := List (List (Int × Int))
/-- An entry. -/
def en (m : Mat) (i j : Nat) : Int × Int := (((m[i]?).getD [])[j]?).getD (0, 0)
end Go.Sx.R
namespace Go.Sx.R
open Go Go.Sx

/-- The two nodes beside a node. -/
def fstN (i : Nat) : Nat := if i = 0 then 1 else 0
def sndN (i : Nat) : Nat := if i = 0 then 2 else if i = 1 then 2 else 1

theorem nb {K i : Nat} (hK : 3 ≤ K) (_hi : i < K) : fstN i < K ∧ sndN i < K := by unfold fstN sndN; split <;> (try split) <;> omega

end Go.Sx.R
namespace Go.Sx.R
open Go Go.Sx

theorem mulB {x y A B : Int} (hx : 0 ≤ x ∧ x ≤ A) (hy : 0 ≤ y ∧ y ≤ B) : 0 ≤ x * y ∧ x * y ≤ A * B :=
  ⟨Int.mul_nonneg hx.1 hy.1, Int.mul_le_mul hx.2 hy.2 hy.1 (Int.le_trans hx.1 hx.2)⟩

/-- A triangle and its weights. -/
structure Tri (n : TNet) (m a b c : Nat) (X Y Z : Int) : Prop where
  hn : Sm.sm B1 n
  ok : netok n = true
  hm : n.1 = m
  m4 : m ≤ 4
  ab : a < b
  bc : b < c
  cm : c < m
  eX : wbt n.2.2.2 (a : Int) (b : Int) = X
  eY : wbt n.2.2.2 (b : Int) (c : Int) = Y
  eZ : wbt n.2.2.2 (a : Int) (c : Int) = Z
  hX : 1 ≤ X ∧ X ≤ 200
  hY : 1 ≤ Y ∧ Y ≤ 200
  hZ : 1 ≤ Z ∧ Z ≤ 200

def triB (a b c i j : Nat) : Prop := (i = a ∧ j = b) ∨ (i = b ∧ j = c) ∨ (i = a ∧ j = c)
instance (a b c i j : Nat) : Decidable (triB a b c i j) := by unfold triB; infer_instance

/-- The weights of the network with a star. -/
def triF (ws : List W3) (m a b c : Nat) (X Y Z : Int) (i j : Nat) : Int :=
  if j = m then (if i = a then (X * Y + Y * Z + Z * X) * X * Z else if i = b then (X * Y + Y * Z + Z * X) * X * Y else if i = c then (X * Y + Y * Z + Z * X) * Y * Z else 0)
  else if triB a b c i j then 0 else wbt ws (i : Int) (j : Int) * (X * Y * Z)

def triN (n : TNet) (m : Nat) (X Y Z : Int) (l : List W3) : TNet := (((m + 1 : Nat) : Int), n.2.1, n.2.2.1 * X * Y * Z, l)
def TriQ (n : TNet) (m a b c : Nat) (X Y Z : Int) (o : Option (TNet × Bool)) : Prop := ∃ l, WiresOf (triF n.2.2.2 m a b c X Y Z) (m + 1) (fun _ _ => True) l ∧ Fine (triN n m X Y Z l) ∧ o = some (cond (netok (canon (triN n m X Y Z l))) (canon (triN n m X Y Z l), true) ((0, 0, 0, []), false))

theorem triQ_same {n : TNet} {m a b c : Nat} {X Y Z : Int} {o o' : Option (TNet × Bool)} (h : TriQ n m a b c X Y Z o) (h' : TriQ n m a b c X Y Z o') : o = o' := by
  obtain ⟨l, l1, _, e⟩ := h
  obtain ⟨l', l1', _, e'⟩ := h'
  have : l = l' := l1.uniq l1' fun _ _ _ _ => rfl
  rw [e, e', this]

section
variable {n : TNet} {m a b c : Nat} {X Y Z : Int}

/-- The bounds of the products. -/
structure Bds (n : TNet) (X Y Z : Int) : Prop where
  xy : 0 ≤ X * Y ∧ X * Y ≤ 40000
  yz : 0 ≤ Y * Z ∧ Y * Z ≤ 40000
  zx : 0 ≤ Z * X ∧ Z * X ≤ 40000
  p : 0 ≤ X * Y * Z ∧ X * Y * Z ≤ 8000000
  s1 : 0 ≤ (X * Y + Y * Z + Z * X) * X ∧ (X * Y + Y * Z + Z * X) * X ≤ 24000000
  s2 : 0 ≤ (X * Y + Y * Z + Z * X) * Y ∧ (X * Y + Y * Z + Z * X) * Y ≤ 24000000
  sa : 0 ≤ (X * Y + Y * Z + Z * X) * X * Z ∧ (X * Y + Y * Z + Z * X) * X * Z ≤ 4800000000
  sb : 0 ≤ (X * Y + Y * Z + Z * X) * X * Y ∧ (X * Y + Y * Z + Z * X) * X * Y ≤ 4800000000
  sc : 0 ≤ (X * Y + Y * Z + Z * X) * Y * Z ∧ (X * Y + Y * Z + Z * X) * Y * Z ≤ 4800000000
  k1 : 1 ≤ n.2.2.1 * X ∧ n.2.2.1 * X ≤ 200000
  k2 : 1 ≤ n.2.2.1 * X * Y ∧ n.2.2.1 * X * Y ≤ 40000000
  k3 : 1 ≤ n.2.2.1 * X * Y * Z ∧ n.2.2.1 * X * Y * Z ≤ 8000000000

theorem mulP {x y A B : Int} (hx : 1 ≤ x ∧ x ≤ A) (hy : 1 ≤ y ∧ y ≤ B) : 1 ≤ x * y ∧ x * y ≤ A * B := by
  refine ⟨?_, (mulB (x := x) (y := y) ⟨by omega, hx.2⟩ ⟨by omega, hy.2⟩).2⟩
  have := Int.mul_le_mul hx.1 hy.1 (by omega) (show 0 ≤ x by omega); omega

theorem Tri.bds (h : Tri n m a b c X Y Z) : Bds n X Y Z := by
  have hX := h.hX; have hY := h.hY; have hZ := h.hZ
  have hs := scale_ok h.ok
  have xy := mulB (x := X) (y := Y) (A := 200) (B := 200) (by omega) (by omega)
  have yz := mulB (x := Y) (y := Z) (A := 200) (B := 200) (by omega) (by omega)
  have zx := mulB (x := Z) (y := X) (A := 200) (B := 200) (by omega) (by omega)
  have p := mulB (x := X * Y) (y := Z) (A := 40000) (B := 200) (by omega) (by omega)
  have s1 := mulB (x := X * Y + Y * Z + Z * X) (y := X) (A := 120000) (B := 200) (by omega) (by omega)
  have s2 := mulB (x := X * Y + Y * Z + Z * X) (y := Y) (A := 120000) (B := 200) (by omega) (by omega)
  have sa := mulB (x := (X * Y + Y * Z + Z * X) * X) (y := Z) (A := 24000000) (B := 200) (by omega) (by omega)
  have sb := mulB (x := (X * Y + Y * Z + Z * X) * X) (y := Y) (A := 24000000) (B := 200) (by omega) (by omega)
  have sc := mulB (x := (X * Y + Y * Z + Z * X) * Y) (y := Z) (A := 24000000) (B := 200) (by omega) (by omega)
  have k1 := mulP (x := n.2.2.1) (y := X) hs hX
  have k2 := mulP (x := n.2.2.1 * X) (y := Y) (A := 200000) (by omega) hY
  have k3 := mulP (x := n.2.2.1 * X * Y) (y := Z) (A := 40000000) (by omega) hZ
  exact ⟨by omega, by omega, by omega, by omega, by omega, by omega, by omega, by omega, by omega, by omega, by omega, by omega⟩

theorem Tri.f_bd (h : Tri n m a b c X Y Z) (i j : Nat) : 0 ≤ triF n.2.2.2 m a b c X Y Z i j ∧ triF n.2.2.2 m a b c X Y Z i j ≤ 4800000000 := by
  have B := h.bds
  have hw := wbt_bd (wiresW h.ok) (i : Int) (j : Int)
  have := mulB hw B.p
  have sa := B.sa; have sb := B.sb; have sc := B.sc
  simp only [triF]
  split
  · split
    · exact sa
    · split
      · exact sb
      · split
        · exact sc
        · omega
  · split <;> omega

def H1 (ws : List W3) (a b c : Nat) (P : Int) (l : List W3) (i j : Nat) : Int := if l.any (keyB (i : Int) (j : Int)) = true ∧ ¬ triB a b c i j then wbt ws (i : Int) (j : Int) * P else 0

theorem H1_skip {ws : List W3} {P : Int} {k : Nat} {x : W3} (hx : ws[k]? = some x) {A B : Nat} (hA : x.1 = (A : Int)) (hB : x.2.1 = (B : Int)) (ht : triB a b c A B) (i j : Nat) : H1 ws a b c P (ws.take k) i j = H1 ws a b c P (ws.take (k + 1)) i j := by
  have : ((ws.take (k + 1)).any (keyB (i : Int) (j : Int)) = true ∧ ¬ triB a b c i j) ↔ ((ws.take k).any (keyB (i : Int) (j : Int)) = true ∧ ¬ triB a b c i j) := by
    rw [any_take hx, Bool.or_eq_true, keyB_iff]
    constructor
    · rintro ⟨h1 | h1, h2⟩
      · exact ⟨h1, h2⟩
      · have e1 : i = A := by omega
        have e2 : j = B := by omega
        subst e1; subst e2; exact absurd ht h2
    · rintro ⟨h1, h2⟩; exact ⟨.inl h1, h2⟩
  simp only [H1, this]

theorem H1_put {ws : List W3} {P : Int} {k : Nat} {x : W3} (hS : Srt ws) (hx : ws[k]? = some x) {A B : Nat} (hA : x.1 = (A : Int)) (hB : x.2.1 = (B : Int)) (hAB : A < B) (ht : ¬ triB a b c A B) (hw0 : x.2.2 ≠ 0) (i j : Nat) :
    (if i = A ∧ j = B then H1 ws a b c P (ws.take k) i j + x.2.2 * P else H1 ws a b c P (ws.take k) i j) = H1 ws a b c P (ws.take (k + 1)) i j := by
  have hxm := List.mem_of_getElem? hx
  have hi := get_lt hx
  by_cases e : i = A ∧ j = B
  · rw [if_pos e]
    obtain ⟨rfl, rfl⟩ := e
    have hk : keyB (i : Int) (j : Int) x = true := keyB_iff.2 ⟨hA, hB⟩
    have hn : (ws.take k).any (keyB (i : Int) (j : Int)) = false := by
      rw [List.any_eq_false]
      intro y hy hk2
      obtain ⟨q, hq⟩ := List.getElem?_of_mem hy
      rw [List.getElem?_take] at hq
      split at hq
      · rename_i hji
        have hjl := get_lt hq
        have := List.pairwise_iff_getElem.1 hS q k hjl hi hji
        rw [List.getElem?_eq_getElem hjl] at hq
        rw [List.getElem?_eq_getElem hi] at hx
        simp only [Option.some.injEq] at hq hx
        rw [hq, hx, lex_iff] at this
        rw [keyB_iff] at hk2
        omega
      · simp at hq
    have hwb : wbt ws (i : Int) (j : Int) = x.2.2 := (wbt_mem hS (by omega) hw0).2 (by
      have : x = ((i : Int), (j : Int), x.2.2) := by rw [← hA, ← hB]
      rw [← this]; exact hxm)
    simp only [H1, any_take hx, hk, hn, Bool.or_true, hwb, ht, not_false_eq_true, and_self, if_true, Bool.false_eq_true, false_and, if_false, Int.zero_add]
  · rw [if_neg e]
    have hk : keyB (i : Int) (j : Int) x = false := by
      have : ¬ keyB (i : Int) (j : Int) x = true := by
        rw [keyB_iff]
        rintro ⟨q1, q2⟩
        exact e ⟨by omega, by omega⟩
      simpa using this
    simp only [H1, any_take hx, hk, Bool.or_false]

theorem s_Tri (h : Tri n m a b c X Y Z) : TriQ n m a b c X Y Z (e_spec_TriangleStar (n, (a : Int), (b : Int), (c : Int), ())) := by
  have B := h.bds
  have hn := h.hn
  have hok := h.ok
  have hlen : n.2.2.2.length ≤ 1073741824 := hn.2.2.2.1
  obtain ⟨m', hm', hm1, hm5, hin, he1, he2⟩ := netok_facts hok
  have hm := h.hm
  have hmm : m' = m := by omega
  subst hmm
  have hW := wiresW hok
  have hS := netok_srt hok
  have m4 := h.m4; have ab := h.ab; have bc := h.bc; have cm := h.cm
  have hX := h.hX; have hY := h.hY; have hZ := h.hZ
  have xy := B.xy; have yz := B.yz; have zx := B.zx; have p := B.p; have s1 := B.s1; have s2 := B.s2; have sa := B.sa; have sb := B.sb; have sc := B.sc; have k1 := B.k1; have k2 := B.k2; have k3 := B.k3
  have w0 : wr (n.1 - 1) = n.1 - 1 := wr_id (by omega) (by omega)
  have wa : wr ((a : Int) + 1) = (a : Int) + 1 := wr_id (by omega) (by omega)
  have wb : wr ((b : Int) + 1) = (b : Int) + 1 := wr_id (by omega) (by omega)
  have wn : wr (n.1 + 1) = ((m' + 1 : Nat) : Int) := by rw [wr_id (by omega) (by omega)]; omega
  have d5 : decide (n.1 = 5) = false := by rw [decide_eq_false_iff_not]; omega
  have g1 : (decide ((0 : Int) ≤ (a : Int)) && decide ((a : Int) ≤ n.1 - 1)) = true := by simp only [Bool.and_eq_true, decide_eq_true_eq]; omega
  have g2 : (decide ((a : Int) + 1 ≤ (b : Int)) && decide ((b : Int) ≤ n.1 - 1)) = true := by simp only [Bool.and_eq_true, decide_eq_true_eq]; omega
  have g3 : (decide ((b : Int) + 1 ≤ (c : Int)) && decide ((c : Int) ≤ n.1 - 1)) = true := by simp only [Bool.and_eq_true, decide_eq_true_eq]; omega
  have dX : decide (X = 0) = false := by rw [decide_eq_false_iff_not]; omega
  have dY : decide (Y = 0) = false := by rw [decide_eq_false_iff_not]; omega
  have dZ : decide (Z = 0) = false := by rw [decide_eq_false_iff_not]; omega
  have wxy : wr (X * Y) = X * Y := wr_id (by omega) (by omega)
  have wyz : wr (Y * Z) = Y * Z := wr_id (by omega) (by omega)
  have wzx : wr (Z * X) = Z * X := wr_id (by omega) (by omega)
  have wxyz : wr (X * Y + Y * Z) = X * Y + Y * Z := wr_id (by omega) (by omega)
  have wS : wr (X * Y + Y * Z + Z * X) = X * Y + Y * Z + Z * X := wr_id (by omega) (by omega)
  have wk1 : wr (n.2.2.1 * X) = n.2.2.1 * X := wr_id (by omega) (by omega)
  have wk2 : wr (n.2.2.1 * X * Y) = n.2.2.1 * X * Y := wr_id (by omega) (by omega)
  have wk3 : wr (n.2.2.1 * X * Y * Z) = n.2.2.1 * X * Y * Z := wr_id (by omega) (by omega)
  have ws1 : wr ((X * Y + Y * Z + Z * X) * X) = (X * Y + Y * Z + Z * X) * X := wr_id (by omega) (by omega)
  have ws2 : wr ((X * Y + Y * Z + Z * X) * Y) = (X * Y + Y * Z + Z * X) * Y := wr_id (by omega) (by omega)
  have wsa : wr ((X * Y + Y * Z + Z * X) * X * Z) = (X * Y + Y * Z + Z * X) * X * Z := wr_id (by omega) (by omega)
  have wsb : wr ((X * Y + Y * Z + Z * X) * X * Y) = (X * Y + Y * Z + Z * X) * X * Y := wr_id (by omega) (by omega)
  have wsc : wr ((X * Y + Y * Z + Z * X) * Y * Z) = (X * Y + Y * Z + Z * X) * Y * Z := wr_id (by omega) (by omega)
  simp only [e_spec_TriangleStar, r_spec_TriangleStar, s_NetOk n hn, hok, Option.bind_some, Bool.not_true, cond_false, d5, p_l01In, n_l01In, w0, wa, wb, g1, g2, g3, s_WB n hn, h.eX, h.eY, h.eZ, dX, dY, dZ, wxy, wyz, wzx, wxyz, wS, wk1, wk2, wk3, wn]
  refine iter_rule (R := TNet × Bool) (TriQ n m' a b c X Y Z) n.2.2.2 (fun (q : List W3) i => ((a : Int), (b : Int), (c : Int), n, (0, 0, 0, []), X, Y, Z, X * Y + Y * Z + Z * X, (((m' + 1 : Nat) : Int), n.2.1, n.2.2.1 * X * Y * Z, q), n.2.2.2, (n.2.2.2.length : Int), i, ()))
    (fun i q => Acc (m' + 1) (H1 n.2.2.2 a b c (X * Y * Z) (n.2.2.2.take i)) q) (fun q i x kc hq hx hi hk => ?_) (fun q kc hq => ?_) (N := N0) (by have := N0_big; omega) [] ((Acc.nil _).congr fun i j _ _ => by simp [H1])
  · have hxm := List.mem_of_getElem? hx
    have hx3 := hin x hxm
    have hxw := hW x hxm
    obtain ⟨A, hA⟩ : ∃ A : Nat, x.1 = A := ⟨x.1.toNat, by omega⟩
    obtain ⟨B', hB⟩ : ∃ B : Nat, x.2.1 = B := ⟨x.2.1.toNat, by omega⟩
    have b1 := mulB (x := x.2.2) (y := X) (A := 200) (B := 200) (by omega) (by omega)
    have b2 := mulB (x := x.2.2 * X) (y := Y) (A := 40000) (B := 200) (by omega) (by omega)
    have b3 := mulB (x := x.2.2 * X * Y) (y := Z) (A := 8000000) (B := 200) (by omega) (by omega)
    have ww1 : wr (x.2.2 * X) = x.2.2 * X := wr_id (by omega) (by omega)
    have ww2 : wr (x.2.2 * X * Y) = x.2.2 * X * Y := wr_id (by omega) (by omega)
    have ww3 : wr (x.2.2 * X * Y * Z) = x.2.2 * X * Y * Z := wr_id (by omega) (by omega)
    have hP : x.2.2 * X * Y * Z = x.2.2 * (X * Y * Z) := by rw [Int.mul_assoc, Int.mul_assoc, ← Int.mul_assoc X Y Z]
    have hsmall := hq.small (by omega) (fun i j => by
      have := mulB (wbt_bd hW (i : Int) (j : Int)) p
      simp only [H1]; split <;> omega)
    have hp := s_Put q (A : Int) (B' : Int) (x.2.2 * X * Y * Z) (by omega) hsmall.1 hsmall.2 (by omega)
    have put := fun ht : ¬ triB a b c A B' => hk _ ((hq.put (a := A) (b := B') (by omega) (by omega) (x.2.2 * (X * Y * Z))).congr fun i j _ _ => H1_put hS hx hA hB (by omega) ht (by omega) i j)
    have skip := fun ht : triB a b c A B' => hk q (hq.congr fun i j _ _ => H1_skip hx hA hB ht i j)
    simp only [r_spec_TriangleStar_L0, lt_len, hi, decide_true, cond_true, getI_nat, hx, Option.bind_some, wr_succ hi (show n.2.2.2.length ≤ 9223372036854775807 by omega), hA, hB, ww1, ww2, ww3, hp]
    rw [hP]
    by_cases c1 : A = a
    · have e1 : decide ((A : Int) = (a : Int)) = true := by rw [decide_eq_true_eq]; omega
      simp only [e1, Bool.not_true, cond_false]
      by_cases c3 : B' = b
      · have e3 : decide ((B' : Int) = (b : Int)) = true := by rw [decide_eq_true_eq]; omega
        simp only [e3, Bool.not_true, cond_false]
        exact skip (.inl ⟨c1, c3⟩)
      · have e3 : decide ((B' : Int) = (b : Int)) = false := by rw [decide_eq_false_iff_not]; omega
        simp only [e3, Bool.not_false, cond_true]
        by_cases c4 : B' = c
        · have e4 : decide ((B' : Int) = (c : Int)) = true := by rw [decide_eq_true_eq]; omega
          simp only [e4, Bool.not_true, cond_false]
          exact skip (.inr (.inr ⟨c1, c4⟩))
        · have e4 : decide ((B' : Int) = (c : Int)) = false := by rw [decide_eq_false_iff_not]; omega
          simp only [e4, Bool.not_false, cond_true]
          exact put (by unfold triB; omega)
    · have e1 : decide ((A : Int) = (a : Int)) = false := by rw [decide_eq_false_iff_not]; omega
      simp only [e1, Bool.not_false, cond_true]
      by_cases c2 : A = b
      · have e2 : decide ((A : Int) = (b : Int)) = true := by rw [decide_eq_true_eq]; omega
        simp only [e2, Bool.not_true, cond_false]
        by_cases c3 : B' = b
        · omega
        · have e3 : decide ((B' : Int) = (b : Int)) = false := by rw [decide_eq_false_iff_not]; omega
          simp only [e3, Bool.not_false, cond_true]
          by_cases c4 : B' = c
          · have e4 : decide ((B' : Int) = (c : Int)) = true := by rw [decide_eq_true_eq]; omega
            simp only [e4, Bool.not_true, cond_false]
            exact skip (.inr (.inl ⟨c2, c4⟩))
          · have e4 : decide ((B' : Int) = (c : Int)) = false := by rw [decide_eq_false_iff_not]; omega
            simp only [e4, Bool.not_false, cond_true]
            exact put (by unfold triB; omega)
      · have e2 : decide ((A : Int) = (b : Int)) = false := by rw [decide_eq_false_iff_not]; omega
        simp only [e2, Bool.not_false, cond_true]
        exact put (by unfold triB; omega)
  · rw [List.take_length] at hq
    simp only [r_spec_TriangleStar_L0, not_lt_self, cond_false]
    have hH : ∀ i j, 0 ≤ H1 n.2.2.2 a b c (X * Y * Z) n.2.2.2 i j ∧ H1 n.2.2.2 a b c (X * Y * Z) n.2.2.2 i j ≤ 1600000000 := fun i j => by
      have := mulB (wbt_bd hW (i : Int) (j : Int)) p
      simp only [H1]; split <;> omega
    have hq1 := hq.put (a := a) (b := m') (by omega) (by omega) ((X * Y + Y * Z + Z * X) * X * Z)
    have hq2 := hq1.put (a := b) (b := m') (by omega) (by omega) ((X * Y + Y * Z + Z * X) * X * Y)
    have hq3 := hq2.put (a := c) (b := m') (by omega) (by omega) ((X * Y + Y * Z + Z * X) * Y * Z)
    have m0 := hq.small (by omega) (fun i j => by have := hH i j; omega)
    have m1 := hq1.small (by omega) (fun i j => by have := hH i j; split <;> omega)
    have m2 := hq2.small (by omega) (fun i j => by have := hH i j; split <;> split <;> omega)
    have hp1 := s_Put q (a : Int) (m' : Int) ((X * Y + Y * Z + Z * X) * X * Z) (by omega) m0.1 m0.2 (by omega)
    have hp2 := s_Put _ (b : Int) (m' : Int) ((X * Y + Y * Z + Z * X) * X * Y) (by omega) m1.1 m1.2 (by omega)
    have hp3 := s_Put _ (c : Int) (m' : Int) ((X * Y + Y * Z + Z * X) * Y * Z) (by omega) m2.1 m2.2 (by omega)
    have hz : ∀ i j : Nat, m' ≤ j → H1 n.2.2.2 a b c (X * Y * Z) n.2.2.2 i j = 0 := fun i j hj => by
      simp only [H1]
      rw [if_neg]
      rintro ⟨h1, _⟩
      rw [List.any_eq_true] at h1
      obtain ⟨y, hy, hk⟩ := h1
      rw [keyB_iff] at hk
      have := hin y hy
      omega
    have hfin := hq3.congr (G := triF n.2.2.2 m' a b c X Y Z) fun i j hij hj => by
      simp only [triF]
      by_cases hjm : j = m'
      · subst hjm
        rw [hz i j (Nat.le_refl _), if_pos rfl]
        by_cases i1 : i = a
        · subst i1
          rw [if_neg (by omega), if_neg (by omega), if_pos ⟨rfl, rfl⟩, if_pos rfl]; omega
        · by_cases i2 : i = b
          · subst i2
            rw [if_neg (by omega), if_pos ⟨rfl, rfl⟩, if_neg (by omega), if_neg (by omega), if_pos rfl]; omega
          · by_cases i3 : i = c
            · subst i3
              rw [if_pos ⟨rfl, rfl⟩, if_neg (by omega), if_neg (by omega), if_neg (by omega), if_neg (by omega), if_pos rfl]; omega
            · rw [if_neg (by omega), if_neg (by omega), if_neg (by omega), if_neg (by omega), if_neg (by omega), if_neg (by omega)]
      · rw [if_neg (by omega), if_neg (by omega), if_neg (by omega), if_neg hjm]
        by_cases ht : triB a b c i j
        · rw [if_pos ht]; simp only [H1, ht, not_true_eq_false, and_false, if_false]
        · rw [if_neg ht]
          simp only [H1, ht, not_false_eq_true, and_true]
          split
          · rfl
          · rename_i hna
            have hz0 : wbt n.2.2.2 (i : Int) (j : Int) = 0 := by
              by_cases hz0 : wbt n.2.2.2 (i : Int) (j : Int) = 0
              · exact hz0
              · refine absurd ?_ hna
                have hmem := (wbt_mem hS (a := (i : Int)) (b := (j : Int)) (by omega) hz0).1 rfl
                rw [List.any_eq_true]
                exact ⟨_, hmem, keyB_iff.2 ⟨rfl, rfl⟩⟩
            rw [hz0, Int.zero_mul]
    obtain ⟨l, l1, l2, l3⟩ := s_Reduced n.2.1 (n.2.2.1 * X * Y * Z) (m' + 1) (by omega) hfin ⟨k3.1, by omega⟩ hn.2.1 (fun i j _ _ => by have := h.f_bd i j; omega)
    refine ⟨l, l1, l2, ?_⟩
    simp only [hm, ws1, ws2, wsa, wsb, wsc, hp1, hp2, hp3, Option.bind_some, l3, triN]
end

end Go.Sx.R
namespace Go.Sx.R
open Go Go.Sx

theorem same_idx' (a : Nat) : samePath (([] : List PS) ++ (PS.idx a :: ([] : List PS))) (([] : List PS) ++ (PS.idx a :: ([] : List PS))) = true := by
  simp [samePath]

/-- A table of which some rows are done. -/
def Half2 (ws : List W3) (m : Nat) (P : Int) (i j : Nat) (T : List (List Int)) : Prop :=
  T.length = m ∧ ∀ k, k < m → ∃ row : List Int, T[k]? = some row ∧ row.length = (if k < i then m + 1 else m) ∧ (∀ l, l < m → row[l]? = some (if k < i ∨ (k = i ∧ l < j) then wbt ws (k : Int) (l : Int) * P else wbt ws (k : Int) (l : Int))) ∧ (k < i → row[m]? = some 0)

theorem Half2.step {ws : List W3} {m : Nat} {P : Int} {i j : Nat} {T : List (List Int)} (h : Half2 ws m P i j T) (hi : i < m) (hj : j < m) {row : List Int} (hr : T[i]? = some row) : Half2 ws m P i (j + 1) (T.set i (row.set j (wbt ws (i : Int) (j : Int) * P))) := by
  obtain ⟨h1, h2⟩ := h
  refine ⟨by simpa using h1, fun k hk => ?_⟩
  rw [List.getElem?_set]
  by_cases e : i = k
  · subst e
    obtain ⟨row', r1, r2, r3, r4⟩ := h2 i hk
    rw [hr] at r1; simp only [Option.some.injEq] at r1; subst r1
    rw [if_pos rfl, if_pos (by omega)]
    have hrl : row.length = m := by rw [r2, if_neg (by omega)]
    refine ⟨_, rfl, by simpa using r2, fun l hl => ?_, fun h => absurd h (Nat.lt_irrefl _)⟩
    rw [List.getElem?_set]
    by_cases e2 : j = l
    · subst e2; rw [if_pos rfl, if_pos (by omega), if_pos (.inr ⟨rfl, by omega⟩)]
    · rw [if_neg e2, r3 l hl]
      by_cases hlj : l < j
      · rw [if_pos (.inr ⟨rfl, hlj⟩), if_pos (.inr ⟨rfl, by omega⟩)]
      · rw [if_neg (by omega), if_neg (by omega)]
  · rw [if_neg e]
    obtain ⟨row', r1, r2, r3, r4⟩ := h2 k hk
    refine ⟨row', r1, r2, fun l hl => ?_, r4⟩
    rw [r3 l hl]
    by_cases c : k < i
    · rw [if_pos (.inl c), if_pos (.inl c)]
    · rw [if_neg (by omega), if_neg (by omega)]

theorem Half2.row {ws : List W3} {m : Nat} {P : Int} {i : Nat} {T : List (List Int)} (h : Half2 ws m P i m T) (hi : i < m) {row : List Int} (hr : T[i]? = some row) : Half2 ws m P (i + 1) 0 (T.set i (row ++ [0])) := by
  obtain ⟨h1, h2⟩ := h
  refine ⟨by simpa using h1, fun k hk => ?_⟩
  rw [List.getElem?_set]
  by_cases e : i = k
  · subst e
    obtain ⟨row', r1, r2, r3, r4⟩ := h2 i hk
    rw [hr] at r1; simp only [Option.some.injEq] at r1; subst r1
    have hrl : row.length = m := by rw [r2, if_neg (by omega)]
    rw [if_pos rfl, if_pos (by omega)]
    refine ⟨_, rfl, by rw [List.length_append, hrl, if_pos (by omega)]; rfl, fun l hl => ?_, fun _ => ?_⟩
    · rw [List.getElem?_append_left (by omega), r3 l hl, if_pos (.inr ⟨rfl, hl⟩), if_pos (.inl (by omega))]
    · rw [List.getElem?_append_right (by omega), hrl, Nat.sub_self]; rfl
  · rw [if_neg e]
    obtain ⟨row', r1, r2, r3, r4⟩ := h2 k hk
    refine ⟨row', r1, ?_, fun l hl => ?_, fun hki => r4 (by omega)⟩
    · rw [r2]
      by_cases c : k < i
      · rw [if_pos c, if_pos (by omega)]
      · rw [if_neg c, if_neg (by omega)]
    · rw [r3 l hl]
      by_cases c : k < i
      · rw [if_pos (.inl c), if_pos (.inl (by omega))]
      · rw [if_neg (by omega), if_neg (by omega)]

theorem Half2.done {ws : List W3} {m : Nat} {P : Int} {T : List (List Int)} (h : Half2 ws m P m 0 T) : IsTab (T ++ [List.replicate (m + 1) (0 : Int)]) (m + 1) (fun k l => if k = m ∨ l = m then 0 else wbt ws (k : Int) (l : Int) * P) := by
  obtain ⟨h1, h2⟩ := h
  refine ⟨by simp [h1], fun k hk => ?_⟩
  by_cases c : k < m
  · rw [List.getElem?_append_left (by omega)]
    obtain ⟨row, r1, r2, r3, r4⟩ := h2 k c
    refine ⟨row, r1, by rw [r2, if_pos c], fun l hl => ?_⟩
    show row[l]? = some (if k = m ∨ l = m then 0 else wbt ws (k : Int) (l : Int) * P)
    by_cases c2 : l < m
    · rw [r3 l c2, if_pos (.inl c), if_neg (by omega)]
    · have : l = m := by omega
      rw [this, r4 c, if_pos (.inr rfl)]
  · have : k = m := by omega
    rw [List.getElem?_append_right (by omega), h1, this, Nat.sub_self]
    refine ⟨_, rfl, by simp, fun l hl => ?_⟩
    show (List.replicate (m + 1) (0 : Int))[l]? = some (if m = m ∨ l = m then 0 else wbt ws (m : Int) (l : Int) * P)
    rw [if_pos (Or.inl rfl), List.getElem?_replicate, if_pos (by omega)]

section
variable {n : TNet} {m a b c : Nat} {X Y Z : Int}

theorem p_Tri (h : Tri n m a b c X Y Z) : TriQ n m a b c X Y Z (e_impl_TriangleStar (n, (a : Int), (b : Int), (c : Int), ())) := by
  have B := h.bds
  have hn := h.hn
  have hok := h.ok
  obtain ⟨m', hm', hm1, hm5, hin, he1, he2⟩ := netok_facts hok
  have hm := h.hm
  have hmm : m' = m := by omega
  subst hmm
  have hW := wiresW hok
  have hS := netok_srt hok
  have m4 := h.m4; have ab := h.ab; have bc := h.bc; have cm := h.cm
  have hX := h.hX; have hY := h.hY; have hZ := h.hZ
  have xy := B.xy; have yz := B.yz; have zx := B.zx; have p := B.p; have s1 := B.s1; have s2 := B.s2; have sa := B.sa; have sb := B.sb; have sc := B.sc; have k1 := B.k1; have k2 := B.k2; have k3 := B.k3
  have wn : wr (n.1 + 1) = ((m' + 1 : Nat) : Int) := by rw [wr_id (by omega) (by omega)]; omega
  have d5 : decide (n.1 = 5) = false := by rw [decide_eq_false_iff_not]; omega
  have g1 : decide ((a : Int) < 0) = false := by rw [decide_eq_false_iff_not]; omega
  have g2 : decide ((a : Int) ≥ (b : Int)) = false := by rw [decide_eq_false_iff_not]; omega
  have g3 : decide ((b : Int) ≥ (c : Int)) = false := by rw [decide_eq_false_iff_not]; omega
  have g4 : decide ((c : Int) ≥ n.1) = false := by rw [decide_eq_false_iff_not]; omega
  have dX : decide (X = 0) = false := by rw [decide_eq_false_iff_not]; omega
  have dY : decide (Y = 0) = false := by rw [decide_eq_false_iff_not]; omega
  have dZ : decide (Z = 0) = false := by rw [decide_eq_false_iff_not]; omega
  have wxy : wr (X * Y) = X * Y := wr_id (by omega) (by omega)
  have wyz : wr (Y * Z) = Y * Z := wr_id (by omega) (by omega)
  have wzx : wr (Z * X) = Z * X := wr_id (by omega) (by omega)
  have wp : wr (X * Y * Z) = X * Y * Z := wr_id (by omega) (by omega)
  have wxyz : wr (X * Y + Y * Z) = X * Y + Y * Z := wr_id (by omega) (by omega)
  have wS : wr (X * Y + Y * Z + Z * X) = X * Y + Y * Z + Z * X := wr_id (by omega) (by omega)
  have wk1 : wr (n.2.2.1 * X) = n.2.2.1 * X := wr_id (by omega) (by omega)
  have wk2 : wr (n.2.2.1 * X * Y) = n.2.2.1 * X * Y := wr_id (by omega) (by omega)
  have wk3 : wr (n.2.2.1 * X * Y * Z) = n.2.2.1 * X * Y * Z := wr_id (by omega) (by omega)
  have ws1 : wr ((X * Y + Y * Z + Z * X) * X) = (X * Y + Y * Z + Z * X) * X := wr_id (by omega) (by omega)
  have ws2 : wr ((X * Y + Y * Z + Z * X) * Y) = (X * Y + Y * Z + Z * X) * Y := wr_id (by omega) (by omega)
  have wsa : wr ((X * Y + Y * Z + Z * X) * X * Z) = (X * Y + Y * Z + Z * X) * X * Z := wr_id (by omega) (by omega)
  have wsb : wr ((X * Y + Y * Z + Z * X) * X * Y) = (X * Y + Y * Z + Z * X) * X * Y := wr_id (by omega) (by omega)
  have wsc : wr ((X * Y + Y * Z + Z * X) * Y * Z) = (X * Y + Y * Z + Z * X) * Y * Z := wr_id (by omega) (by omega)
  obtain ⟨T, hT, hTab⟩ := p_table n m' hn hm hm5 hin
  have hTl := hTab.1
  have hd : (List.range m').length = m' := by simp
  have hmB : m' ≤ 9223372036854775807 := by omega
  simp only [e_impl_TriangleStar, r_impl_TriangleStar, p_NetOk n hn, hok, Option.bind_some, Bool.not_true, cond_false, d5, g1, g2, g3, g4, p_WB n m' hn hin, h.eX, h.eY, h.eZ, dX, dY, dZ, hT, hTl]
  refine iter_rule (R := TNet × Bool) (TriQ n m' a b c X Y Z) (List.range m') (fun (T : List (List Int)) i => ((a : Int), (b : Int), (c : Int), n, (0, 0, 0, []), X, Y, Z, T, (m' : Int), i, ()))
    (fun i T => Half2 n.2.2.2 m' (X * Y * Z) i 0 T) (fun T i x kc hp hx hi hk => ?_) (fun T kc hp => ?_) (N := N0) (by have := N0_big; omega) T ⟨hTl, fun k hk => ?_⟩
  · have him : i < m' := by rw [hd] at hi; exact hi
    have d3 : decide ((i : Int) < (m' : Int)) = true := by rw [decide_eq_true_eq]; omega
    have hTl := hp.1
    simp only [r_impl_TriangleStar_L0, d3, cond_true, hTl]
    refine iter_rule (R := TNet × Bool) (TriQ n m' a b c X Y Z) (List.range m') (fun (T : List (List Int)) j => ((a : Int), (b : Int), (c : Int), n, (0, 0, 0, []), X, Y, Z, T, (i : Int), (m' : Int), (i : Int), (m' : Int), j, ()))
      (fun j T => Half2 n.2.2.2 m' (X * Y * Z) i j T) (fun T j y kc2 hq hy hj hk2 => ?_) (fun T kc2 hq => ?_) (N := N0) (by have := N0_big; omega) T hp
    · have hjm : j < m' := by rw [hd] at hj; exact hj
      have d4 : decide ((j : Int) < (m' : Int)) = true := by rw [decide_eq_true_eq]; omega
      obtain ⟨row, r1, r2, r3, r4⟩ := hq.2 i him
      have gj : row[j]? = some (wbt n.2.2.2 (i : Int) (j : Int)) := by rw [r3 j hjm, if_neg (by omega)]
      have bw := mulB (wbt_bd hW (i : Int) (j : Int)) p
      have ww : wr (wbt n.2.2.2 (i : Int) (j : Int) * (X * Y * Z)) = wbt n.2.2.2 (i : Int) (j : Int) * (X * Y * Z) := wr_id (by omega) (by omega)
      simp only [r_impl_TriangleStar_L2, d4, cond_true, getI_nat, r1, gj, Option.bind_some, wxy, wp, ww, Int.toNat_natCast, wr_succ hjm hmB]
      exact hk2 _ (hq.step him hjm r1)
    · have d4 : decide ((((List.range m').length : Nat) : Int) < (m' : Int)) = false := by rw [decide_eq_false_iff_not, hd]; omega
      rw [hd] at hq
      obtain ⟨row, r1, r2, r3, r4⟩ := hq.2 i him
      have hrl : row.length = m' := by rw [r2, if_neg (by omega)]
      have bl : Nat.ble (row.length + List.length ((0 : Int) :: ([] : List Int))) 17179869184 = true := ble_true (by simp; omega)
      simp only [r_impl_TriangleStar_L2, d4, cond_false, getI_nat, r1, Option.bind_some, bl, cond_true, Int.toNat_natCast, same_idx' i, wr_succ him hmB]
      exact hk _ (hq.row him r1)
  · have d4 : decide ((((List.range m').length : Nat) : Int) < (m' : Int)) = false := by rw [decide_eq_false_iff_not, hd]; omega
    rw [hd] at hp
    have d6 : decide ((0 : Int) ≤ ((m' + 1 : Nat) : Int)) = true := by rw [decide_eq_true_eq]; omega
    have b1 : Nat.ble (m' + 1) 17179869184 = true := ble_true (by omega)
    have b2 : Nat.ble (T.length + List.length (List.replicate (m' + 1) (0 : Int) :: ([] : List (List Int)))) 17179869184 = true := ble_true (by rw [hp.1]; simp; omega)
    have hTab := hp.done
    simp only [r_impl_TriangleStar_L0, d4, cond_false, wn, d6, cond_true, Int.toNat_natCast, b1, b2]
    have w0 : (List.length (((a : Int), (b : Int)) :: (((b : Int), (c : Int)) :: (((a : Int), (c : Int)) :: ([] : List (Int × Int)))))) = 3 := rfl
    generalize hU : T ++ [List.replicate (m' + 1) (0 : Int)] = U at hTab
    refine iter_rule (R := TNet × Bool) (TriQ n m' a b c X Y Z) [(a, b), (b, c), (a, c)] (fun (T : List (List Int)) i => ((a : Int), (b : Int), (c : Int), n, (0, 0, 0, []), X, Y, Z, T, ((a : Int), (b : Int)) :: (((b : Int), (c : Int)) :: (((a : Int), (c : Int)) :: ([] : List (Int × Int)))), ((3 : Nat) : Int), i, ()))
      (fun i T => IsTab T (m' + 1) (fun k l => if (k, l) ∈ [(a, b), (b, c), (a, c)].take i ∨ (l, k) ∈ [(a, b), (b, c), (a, c)].take i then 0 else if k = m' ∨ l = m' then 0 else wbt n.2.2.2 (k : Int) (l : Int) * (X * Y * Z)))
      (fun T i x kc hq hx hi hk => ?_) (fun T kc hq => ?_) (N := N0) (by have := N0_big; simp; omega) U (hTab.congr fun k l _ _ => by simp)
    · obtain ⟨u, v⟩ := x
      have hmem : ((u, v) : Nat × Nat) ∈ [(a, b), (b, c), (a, c)] := List.mem_of_getElem? hx
      have huv : u < m' ∧ v < m' ∧ u ≠ v := by
        simp only [List.mem_cons, Prod.mk.injEq, List.not_mem_nil, or_false] at hmem
        omega
      have hi3 : i < 3 := hi
      have d7 : decide ((i : Int) < ((3 : Nat) : Int)) = true := by rw [decide_eq_true_eq]; omega
      have gx : (((a : Int), (b : Int)) :: (((b : Int), (c : Int)) :: (((a : Int), (c : Int)) :: ([] : List (Int × Int)))))[i]? = some ((u : Int), (v : Int)) := by
        have e : (((a : Int), (b : Int)) :: (((b : Int), (c : Int)) :: (((a : Int), (c : Int)) :: ([] : List (Int × Int))))) = [(a, b), (b, c), (a, c)].map fun (q : Nat × Nat) => ((q.1 : Int), (q.2 : Int)) := rfl
        rw [e, List.getElem?_map, hx]; rfl
      have hten : [(a, b), (b, c), (a, c)].take (i + 1) = [(a, b), (b, c), (a, c)].take i ++ [(u, v)] := by rw [List.take_add_one, hx]; rfl
      obtain ⟨ru, u1, u2, u3⟩ := hq.2 u (by omega)
      have hq1 := hq.put (v := 0) (b := v) (show u < m' + 1 by omega) u1
      obtain ⟨rv, v1, v2, v3⟩ := hq1.2 v (by omega)
      have hq2 := hq1.put (v := 0) (b := u) (show v < m' + 1 by omega) v1
      simp only [r_impl_TriangleStar_L4, d7, cond_true, getI_nat, gx, u1, u3 v (by omega), v1, v3 u (by omega), Option.bind_some, Int.toNat_natCast, wr_succ hi3 (by omega)]
      refine hk _ (hq2.congr fun k l _ _ => ?_)
      simp only [hten, List.mem_append, List.mem_singleton, Prod.mk.injEq]
      by_cases e1 : k = v ∧ l = u
      · rw [if_pos e1, if_pos (.inr (.inr ⟨e1.2, e1.1⟩))]
      · rw [if_neg e1]
        by_cases e2 : k = u ∧ l = v
        · rw [if_pos e2, if_pos (.inl (.inr e2))]
        · rw [if_neg e2]
          have : ((((k, l) ∈ [(a, b), (b, c), (a, c)].take i) ∨ k = u ∧ l = v) ∨ ((l, k) ∈ [(a, b), (b, c), (a, c)].take i) ∨ l = u ∧ k = v) ↔ (((k, l) ∈ [(a, b), (b, c), (a, c)].take i) ∨ ((l, k) ∈ [(a, b), (b, c), (a, c)].take i)) := by
            constructor
            · rintro ((h1 | h1) | (h1 | h1))
              · exact .inl h1
              · exact absurd h1 e2
              · exact .inr h1
              · exact absurd ⟨h1.2, h1.1⟩ e1
            · rintro (h1 | h1)
              · exact .inl (.inl h1)
              · exact .inr (.inl h1)
          simp only [this]
    · have d7 : decide ((([(a, b), (b, c), (a, c)].length : Nat) : Int) < ((3 : Nat) : Int)) = false := by simp
      have hq' : IsTab T (m' + 1) (fun k l => if triB a b c k l ∨ triB a b c l k then 0 else if k = m' ∨ l = m' then 0 else wbt n.2.2.2 (k : Int) (l : Int) * (X * Y * Z)) := hq.congr fun k l _ _ => by
        have e : ∀ k l : Nat, (k, l) ∈ [(a, b), (b, c), (a, c)].take [(a, b), (b, c), (a, c)].length ↔ triB a b c k l := fun k l => by
          simp [triB]
        simp only [e]
      obtain ⟨ra, a1, a2, a3⟩ := hq'.2 a (by omega)
      have q1 := hq'.put (v := (X * Y + Y * Z + Z * X) * X * Z) (b := m') (show a < m' + 1 by omega) a1
      obtain ⟨rb, b1', b2', b3⟩ := q1.2 b (by omega)
      have q2 := q1.put (v := (X * Y + Y * Z + Z * X) * X * Y) (b := m') (show b < m' + 1 by omega) b1'
      obtain ⟨rc, c1, c2, c3⟩ := q2.2 c (by omega)
      have q3 := q2.put (v := (X * Y + Y * Z + Z * X) * Y * Z) (b := m') (show c < m' + 1 by omega) c1
      have hfin := q3.congr (g := fun k l => if l < k ∨ k = l then (if k = c ∧ l = m' then (X * Y + Y * Z + Z * X) * Y * Z else if k = b ∧ l = m' then (X * Y + Y * Z + Z * X) * X * Y else if k = a ∧ l = m' then (X * Y + Y * Z + Z * X) * X * Z else if triB a b c k l ∨ triB a b c l k then 0 else if k = m' ∨ l = m' then 0 else wbt n.2.2.2 (k : Int) (l : Int) * (X * Y * Z)) else triF n.2.2.2 m' a b c X Y Z k l) fun k l hk hl => by
        by_cases hkl : l < k ∨ k = l
        · rw [if_pos hkl]
        · rw [if_neg hkl]
          have hnt : ¬ triB a b c l k := by unfold triB; omega
          simp only [triF, hnt, or_false]
          by_cases hlm : l = m'
          · subst hlm
            have ht : ¬ triB a b c k l := by unfold triB; omega
            rw [if_pos rfl]
            simp only [and_true, or_true, if_true, ht, if_false]
            by_cases i1 : k = a
            · rw [if_neg (by omega), if_neg (by omega), if_pos i1, if_pos i1]
            · by_cases i2 : k = b
              · rw [if_neg (by omega), if_pos i2, if_neg i1, if_pos i2]
              · by_cases i3 : k = c
                · rw [if_pos i3, if_neg i1, if_neg i2, if_pos i3]
                · rw [if_neg i3, if_neg i2, if_neg i1, if_neg i1, if_neg i2, if_neg i3]
          · rw [if_neg hlm, if_neg (by omega), if_neg (by omega), if_neg (by omega)]
            by_cases ht : triB a b c k l
            · rw [if_pos ht, if_pos ht]
            · rw [if_neg ht, if_neg ht, if_neg (by omega)]
      have hbd : ∀ i j, i < j → j < m' + 1 → 0 ≤ (if j < i ∨ i = j then (if i = c ∧ j = m' then (X * Y + Y * Z + Z * X) * Y * Z else if i = b ∧ j = m' then (X * Y + Y * Z + Z * X) * X * Y else if i = a ∧ j = m' then (X * Y + Y * Z + Z * X) * X * Z else if triB a b c i j ∨ triB a b c j i then 0 else if i = m' ∨ j = m' then 0 else wbt n.2.2.2 (i : Int) (j : Int) * (X * Y * Z)) else triF n.2.2.2 m' a b c X Y Z i j) ∧ (if j < i ∨ i = j then (if i = c ∧ j = m' then (X * Y + Y * Z + Z * X) * Y * Z else if i = b ∧ j = m' then (X * Y + Y * Z + Z * X) * X * Y else if i = a ∧ j = m' then (X * Y + Y * Z + Z * X) * X * Z else if triB a b c i j ∨ triB a b c j i then 0 else if i = m' ∨ j = m' then 0 else wbt n.2.2.2 (i : Int) (j : Int) * (X * Y * Z)) else triF n.2.2.2 m' a b c X Y Z i j) ≤ 1000000000000000 := fun i j hij _ => by
        have := h.f_bd i j
        rw [if_neg (by omega)]
        omega
      obtain ⟨l, l1, l2, l3⟩ := p_netOfC n.2.1 (n.2.2.1 * X * Y * Z) _ (m' + 1) (by omega) (by omega) _ hfin ⟨k3.1, by omega⟩ hn.2.1 hbd
      refine ⟨l, ⟨l1.srt, fun x => ?_⟩, l2, ?_⟩
      · rw [l1.mem]
        constructor
        · rintro ⟨i, j, h0, h1, h2, h3, h4⟩
          rw [if_neg (by omega)] at h3 h4
          exact ⟨i, j, h0, h1, h2, h3, h4⟩
        · rintro ⟨i, j, h0, h1, h2, h3, h4⟩
          refine ⟨i, j, h0, h1, h2, ?_, ?_⟩
          · rw [if_neg (by omega)]; exact h3
          · rw [if_neg (by omega)]; exact h4
      · simp only [r_impl_TriangleStar_L4, d7, cond_false, hm, getI_nat, a1, a3 m' (by omega), b1', b3 m' (by omega), c1, c3 m' (by omega), Option.bind_some, Int.toNat_natCast, wxy, wyz, wzx, wxyz, wS, ws1, ws2, wsa, wsb, wsc, wk1, wk2, wk3, l3]
        rfl
  · obtain ⟨row, r1, r2, r3⟩ := hTab.2 k hk
    exact ⟨row, r1, by rw [r2, if_neg (by omega)], fun l hl => by rw [r3 l hl, if_neg (by omega)], fun h => absurd h (Nat.not_lt_zero _)⟩
end

end Go.Sx.R
namespace Go.Sx.R
open Go Go.Sx

section
variable {n : TNet} {m a b c : Nat} {X Y Z : Int}

theorem zsum {F : Int → Int} : ∀ (l : List Int), (∀ y ∈ l, F y = 0) → (l.map F).sum = 0
  | [], _ => rfl
  | y :: l, h => by simp only [List.map_cons, List.sum_cons, h y (by simp), zsum l fun z hz => h z (by simp [hz])]; rfl

/-- The star of a triangle, made a mesh again. -/
theorem tri_back (h : Tri n m a b c X Y Z) (h2 : 2 ≤ n.2.1) {l : List W3} (l1 : WiresOf (triF n.2.2.2 m a b c X Y Z) (m + 1) (fun _ _ => True) l) (hF : Fine (triN n m X Y Z l)) (hok : netok (canon (triN n m X Y Z l)) = true) :
    e_impl_StarMesh (canon (triN n m X Y Z l), (m : Int), ()) = some (canon n, true) ∧ respV (canon (triN n m X Y Z l)) = respV n := by
  have hm4 := h.m4
  have hab := h.ab
  have hbc := h.bc
  have hcm := h.cm
  obtain ⟨m', E, L, inn, hk⟩ := nk_of n h.hn h.ok
  have em : m' = m := by have := hk.hm; have := h.hm; omega
  subst em
  have hE : 2 ≤ E := by have := hk.he; omega
  have hem := hk.em
  have he := hk.he
  have lk := hk.lk
  have hsm := hF.canon_sm
  have c1 : (canon (triN n m' X Y Z l)).1 = ((m' + 1 : Nat) : Int) := rfl
  have c2 : (canon (triN n m' X Y Z l)).2.1 = n.2.1 := rfl
  obtain ⟨l2, k1, k2, k3⟩ := p_Star (canon (triN n m' X Y Z l)) hsm hok (m' + 1) c1 m' (by rw [c2]; omega) (by omega)
  have hg := hF.g_pos
  have mc := mul_canon hF
  -- the star's wires
  obtain ⟨K, hK⟩ : ∃ K : Int, K = X * Y + Y * Z + Z * X := ⟨_, rfl⟩
  have hX := h.hX
  have hY := h.hY
  have hZ := h.hZ
  have wm : ∀ i : Nat, i < m' → wbt l (m' : Int) (i : Int) = if i = a then K * X * Z else if i = b then K * X * Y else if i = c then K * Y * Z else 0 := by
    intro i hi
    rw [wbt_comm, wiresOf_wbt l1 (show i < m' by omega) (by omega), hK]
    simp only [triF, if_true]
  have wij : ∀ i j : Nat, i < j → j < m' → wbt l (i : Int) (j : Int) = if triB a b c i j then 0 else wbt n.2.2.2 (i : Int) (j : Int) * (X * Y * Z) := by
    intro i j hij hj
    rw [wiresOf_wbt l1 hij (by omega)]
    simp only [triF]
    rw [if_neg (by omega)]
  have inw : InW (m' + 1) l := fun e he => by
    obtain ⟨p, q, _, h1, h2, h3, rfl⟩ := (l1.mem e).1 he
    simp only; omega
  have wA : wAt l (m' : Int) = K * K := by
    have s := wbt_sum (m' : Int) (wo (m' + 1) []) (wo_nd _ _) l l1.srt (fun e he => (inw e he).2.1) (fun e he => by have := inw e he; exact ⟨mem_wo.2 ⟨by omega, by omega, by simp⟩, mem_wo.2 ⟨by omega, by omega, by simp⟩⟩)
    rw [← s]
    have p1 : (wo (m' + 1) []).Perm ((a : Int) :: (b : Int) :: (c : Int) :: wo (m' + 1) [(c : Int), (b : Int), (a : Int)]) := (wo_cons (by omega) (by omega) (by simp)).trans (((wo_cons (by omega) (by omega) (by simp; omega)).trans ((wo_cons (by omega) (by omega) (by simp; omega)).cons _)).cons _)
    rw [perm_sum (p1.map fun c => wbt l (m' : Int) c)]
    simp only [List.map_cons, List.sum_cons]
    rw [wm a (by omega), wm b (by omega), wm c (by omega), if_pos rfl, if_neg (by omega), if_pos rfl, if_neg (by omega), if_neg (by omega), if_pos rfl, zsum (F := fun c => wbt l (m' : Int) c) _ fun y hy => ?_]
    · rw [hK]; grind
    · have hy := mem_wo.1 hy
      simp only [List.mem_cons, List.not_mem_nil, or_false, not_or] at hy
      by_cases e : y = m'
      · subst e; simp [wbt]
      · obtain ⟨k, rfl⟩ : ∃ k : Nat, y = k := ⟨y.toNat, by omega⟩
        show wbt l (m' : Int) (k : Int) = 0
        rw [wm k (by omega), if_neg (by omega), if_neg (by omega), if_neg (by omega)]
  -- the mesh, as a multiple
  have KK : 0 < K := by
    have a1 : 1 * 1 ≤ X * Y := Int.mul_le_mul hX.1 hY.1 (by omega) (by omega)
    have a2 : 1 * 1 ≤ Y * Z := Int.mul_le_mul hY.1 hZ.1 (by omega) (by omega)
    have a3 : 1 * 1 ≤ Z * X := Int.mul_le_mul hZ.1 hX.1 (by omega) (by omega)
    omega
  have PP : 0 < X * Y * Z := Int.mul_pos (Int.mul_pos (by omega) (by omega)) (by omega)
  have QQ : 0 < X * Y * Z * (K * K) := Int.mul_pos PP (Int.mul_pos KK KK)
  obtain ⟨Q, hQ⟩ : ∃ Q : Nat, X * Y * Z * (K * K) = Q := ⟨(X * Y * Z * (K * K)).toNat, by omega⟩
  have hQ0 : 0 < Q := by omega
  have mf : ∀ i j : Nat, i < j → j < m' → meshF l m' i j = wbt n.2.2.2 (i : Int) (j : Int) * (Q : Int) := by
    intro i j hij hj
    simp only [meshF]
    rw [un_lo (by omega), un_lo (by omega), wij i j hij hj, wA, wm i (by omega), wm j (by omega), ← hQ]
    by_cases t1 : i = a ∧ j = b
    · obtain ⟨rfl, rfl⟩ := t1
      rw [if_pos (.inl ⟨rfl, rfl⟩), if_pos rfl, if_neg (by omega), if_pos rfl, h.eX]; grind
    · by_cases t2 : i = b ∧ j = c
      · obtain ⟨rfl, rfl⟩ := t2
        rw [if_pos (.inr (.inl ⟨rfl, rfl⟩)), if_neg (by omega), if_pos rfl, if_neg (by omega), if_neg (by omega), if_pos rfl, h.eY]; grind
      · by_cases t3 : i = a ∧ j = c
        · obtain ⟨rfl, rfl⟩ := t3
          rw [if_pos (.inr (.inr ⟨rfl, rfl⟩)), if_pos rfl, if_neg (by omega), if_neg (by omega), if_pos rfl, h.eZ]; grind
        · rw [if_neg (by unfold triB; omega)]
          have z : (if i = a then K * X * Z else if i = b then K * X * Y else if i = c then K * Y * Z else 0) * (if j = a then K * X * Z else if j = b then K * X * Y else if j = c then K * Y * Z else 0) = 0 := by
            by_cases i1 : i = a
            · rw [if_neg (show j ≠ a by omega), if_neg (show j ≠ b by omega), if_neg (show j ≠ c by omega), Int.mul_zero]
            · by_cases i2 : i = b
              · rw [if_neg (show j ≠ a by omega), if_neg (show j ≠ b by omega), if_neg (show j ≠ c by omega), Int.mul_zero]
              · by_cases i3 : i = c
                · rw [if_neg (show j ≠ a by omega), if_neg (show j ≠ b by omega), if_neg (show j ≠ c by omega), Int.mul_zero]
                · rw [if_neg i1, if_neg i2, if_neg i3, Int.zero_mul]
          rw [z]; grind
  have gg : 0 < gN (triN n m' X Y Z l) * gN (triN n m' X Y Z l) := Nat.mul_pos hg hg
  have main : canon (meshN (canon (triN n m' X Y Z l)) (m' + 1) m' l2) = canon n := by
    generalize hc : canon (triN n m' X Y Z l) = q at *
    generalize gN (triN n m' X Y Z l) = g at *
    have ws : q.2.2.2.map (mulW g) = l := congrArg (fun n : TNet => n.2.2.2) mc
    have scl : q.2.2.1 * (g : Int) = n.2.2.1 * X * Y * Z := congrArg (fun n : TNet => n.2.2.1) mc
    have aq : wAt q.2.2.2 (m' : Int) * (g : Int) = K * K := by rw [← wAt_mul, ws]; exact wA
    have hl : l2.map (mulW (g * g)) = n.2.2.2.map (mulW Q) := by
      have k1' : WiresOf (meshF q.2.2.2 m') m' (fun _ _ => True) l2 := k1
      refine (k1'.mul gg).uniq ((wires_self hk.srt hk.inw hk.hw).mul hQ0) fun i j hij hj => ?_
      rw [← mf i j hij hj, ← ws]
      simp only [meshF, wbt_mul, wAt_mul, Int.natCast_mul]
      grind
    have hN : mulN (g * g) (meshN q (m' + 1) m' l2) = mulN Q n := by
      have hm := h.hm
      simp only [mulN, meshN, hl, Prod.mk.injEq, and_true]
      refine ⟨by omega, by omega, ?_⟩
      rw [Int.natCast_mul, ← hQ]
      have : q.2.2.1 * wAt q.2.2.2 (m' : Int) * ((g : Int) * g) = (q.2.2.1 * (g : Int)) * (wAt q.2.2.2 (m' : Int) * (g : Int)) := by grind
      rw [this, scl, aq]; grind
    have e1 := canon_mul gg (meshN q (m' + 1) m' l2)
    rw [hN, canon_mul hQ0] at e1
    exact e1.symm
  have hcn := netok_canon h.hn h.ok
  rw [main, hcn] at k3
  refine ⟨k3, ?_⟩
  obtain ⟨r, r1, _, _, _, r5⟩ := star_keep (canon (triN n m' X Y Z l)) hsm hok (by rw [c2]; omega) (v := (m' : Int)) (by rw [c2]; omega) (by rw [c1]; omega)
  rw [k3] at r1
  have e := Option.some.inj r1
  subst e
  have r5' := r5 rfl
  rw [← r5']
  exact canon_resp hk hE
end

/-- A triangle that is drawn. -/
structure TriD (q : TNet) (a b c : Int) : Prop where
  n3 : 3 ≤ q.1
  n5 : q.1 ≤ 5
  e2 : 2 ≤ q.2.1
  s1 : 1 ≤ q.2.2.1
  s3 : q.2.2.1 ≤ 3
  wok : Wok q.1.toNat 6 q.2.2.2
  len : q.2.2.2.length ≤ 40
  en : q.2.1 ≤ q.1
  a0 : 0 ≤ a
  ab : a < b
  bc : b < c
  cm : c < q.1
  x : ∃ w, (a, b, w) ∈ q.2.2.2
  y : ∃ w, (b, c, w) ∈ q.2.2.2
  z : ∃ w, (a, c, w) ∈ q.2.2.2

theorem tri_core {A : Option (Nat × Obj)} {N E S : Int} {l : List W3} (hN3 : 3 ≤ N) (hN5 : N ≤ 5) (hE2 : 2 ≤ E) (hEN : E ≤ N) (hS1 : 1 ≤ S) (hS3 : S ≤ 3) (hl : Wok N.toNat 6 l) (hlen : l.length ≤ 30) {y : CurV} (g : CurGood A y) :
    ∃ y' q a b c, (Option.bind (e_spec_l01Below A y ((wr (N - (2 : Int))), ())) fun x11 =>
    Option.bind (e_spec_l01Below A x11.1 ((wr ((wr (N - (2 : Int))) - x11.2)), ())) fun x12 =>
    Option.bind (e_spec_l01Below A x12.1 ((wr ((wr (N - (1 : Int))) - (wr ((wr (x11.2 + (1 : Int))) + x12.2)))), ())) fun x13 =>
    Option.bind (e_spec_l01Below A x13.1 ((4 : Int), ())) fun x14 =>
    Option.bind (e_spec_l03Put (l, (x11.2, ((wr ((wr (x11.2 + (1 : Int))) + x12.2)), ((wr ((1 : Int) + x14.2)), (false, ())))))) fun (x15 : List W3) =>
    Option.bind (e_spec_l01Below A x14.1 ((4 : Int), ())) fun x16 =>
    Option.bind (e_spec_l03Put (x15, ((wr ((wr (x11.2 + (1 : Int))) + x12.2)), ((wr ((wr ((wr ((wr (x11.2 + (1 : Int))) + x12.2)) + (1 : Int))) + x13.2)), ((wr ((1 : Int) + x16.2)), (false, ())))))) fun (x17 : List W3) =>
    Option.bind (e_spec_l01Below A x16.1 ((4 : Int), ())) fun x18 =>
    Option.bind (e_spec_l03Put (x17, (x11.2, ((wr ((wr ((wr ((wr (x11.2 + (1 : Int))) + x12.2)) + (1 : Int))) + x13.2)), ((wr ((1 : Int) + x18.2)), (false, ())))))) fun (x19 : List W3) =>
    some (x18.1, (((N, (E, (S, x19))) : TNet), (x11.2, ((wr ((wr (x11.2 + (1 : Int))) + x12.2)), (wr ((wr ((wr ((wr (x11.2 + (1 : Int))) + x12.2)) + (1 : Int))) + x13.2))))))) = some (y', (q, (a, (b, c)))) ∧ CurGood A y' ∧ TriD q a b c := by
  have w1 : wr (N - 2) = N - 2 := wr_id (by omega) (by omega)
  have w2 : wr (N - 1) = N - 1 := wr_id (by omega) (by omega)
  obtain ⟨y1, a, e1, g1, a0, a1⟩ := below_ok g (n := N - 2) (by omega) (by omega)
  have w3 : wr (N - 2 - a) = N - 2 - a := wr_id (by omega) (by omega)
  obtain ⟨y2, b', e2, g2, b0, b1⟩ := below_ok g1 (n := N - 2 - a) (by omega) (by omega)
  have w4 : wr (a + 1) = a + 1 := wr_id (by omega) (by omega)
  have w5 : wr (a + 1 + b') = a + 1 + b' := wr_id (by omega) (by omega)
  have w6 : wr (N - 1 - (a + 1 + b')) = N - 1 - (a + 1 + b') := wr_id (by omega) (by omega)
  obtain ⟨y3, c', e3, g3, c0, c1⟩ := below_ok g2 (n := N - 1 - (a + 1 + b')) (by omega) (by omega)
  have w7 : wr (a + 1 + b' + 1) = a + 1 + b' + 1 := wr_id (by omega) (by omega)
  have w8 : wr (a + 1 + b' + 1 + c') = a + 1 + b' + 1 + c' := wr_id (by omega) (by omega)
  simp only [w1, w2, e1, w3, e2, w4, w5, w6, e3, w7, w8, Option.bind_some]
  generalize hb : a + 1 + b' = b at *
  generalize hc : b + 1 + c' = c at *
  obtain ⟨y4, u1, e4, g4, p0, p1⟩ := below_ok g3 (n := 4) (by omega) (by omega)
  obtain ⟨y5, u2, e5, g5, q0, q1⟩ := below_ok g4 (n := 4) (by omega) (by omega)
  obtain ⟨y6, u3, e6, g6, r0, r1⟩ := below_ok g5 (n := 4) (by omega) (by omega)
  have v1 : wr (1 + u1) = 1 + u1 := wr_id (by omega) (by omega)
  have v2 : wr (1 + u2) = 1 + u2 := wr_id (by omega) (by omega)
  have v3 : wr (1 + u3) = 1 + u3 := wr_id (by omega) (by omega)
  have lo : ∀ {p q : Int}, p < q → loI p q = p ∧ hiI p q = q := fun {p q} h => ⟨by unfold loI; rw [if_neg (by omega)], by unfold hiI; rw [if_pos (by omega)]⟩
  have k1 := setL_len l a b (1 + u1)
  have k2 := setL_len (setL l a b (1 + u1)) b c (1 + u2)
  have k3 := setL_len (setL (setL l a b (1 + u1)) b c (1 + u2)) a c (1 + u3)
  have s1 := s_PutR l a b (1 + u1) (by omega)
  rw [(lo (show a < b by omega)).1, (lo (show a < b by omega)).2] at s1
  have s2 := s_PutR (setL l a b (1 + u1)) b c (1 + u2) (by omega)
  rw [(lo (show b < c by omega)).1, (lo (show b < c by omega)).2] at s2
  have s3 := s_PutR (setL (setL l a b (1 + u1)) b c (1 + u2)) a c (1 + u3) (by omega)
  rw [(lo (show a < c by omega)).1, (lo (show a < c by omega)).2] at s3
  simp only [e4, v1, s1, e5, v2, s2, e6, v3, s3, Option.bind_some]
  refine ⟨_, _, _, _, _, rfl, g6, ⟨hN3, hN5, hE2, hS1, hS3, ?_, Nat.le_trans k3 (by omega), hEN, a0, by omega, by omega, by show c < N; omega, ⟨1 + u1, ?_⟩, ⟨1 + u2, ?_⟩, ⟨1 + u3, ?_⟩⟩⟩
  · exact ((hl.set a0 (by omega) (by omega) ⟨by omega, by omega⟩).set (by omega) (by omega) (by omega) ⟨by omega, by omega⟩).set a0 (by omega) (by omega) ⟨by omega, by omega⟩
  · exact mem_setL.2 (.inr ⟨mem_setL.2 (.inr ⟨mem_setL.2 (.inl rfl), by simp only; omega⟩), by simp only; omega⟩)
  · exact mem_setL.2 (.inr ⟨mem_setL.2 (.inl rfl), by simp only; omega⟩)
  · exact mem_setL.2 (.inl rfl)

theorem tri_draw {A : Option (Nat × Obj)} {y : CurV} (g : CurGood A y) : ∃ y' q a b c, e_spec_l08Triangle A y () = some (y', (q, (a, (b, c)))) ∧ CurGood A y' ∧ TriD q a b c := by
  obtain ⟨y1, n, e1, g1, hd⟩ := draw_ok g (most := 5) (by omega) (by omega)
  have h2 := hd.n2
  have h5 := hd.most
  have hen := hd.en
  simp only [e_spec_l08Triangle, r_spec_l08Triangle, e1, Option.bind_some]
  by_cases h3 : n.1 < 3
  · simp only [h3, decide_true, cond_true]
    have hw : Wok (3 : Int).toNat 6 n.2.2.2 := ⟨hd.wok.srt, fun e he => by have := hd.wok.inw e he; omega, hd.wok.w⟩
    exact tri_core (N := 3) (by omega) (by omega) hd.e2 (by omega) hd.s1 hd.s3 hw hd.len g1
  · simp only [h3, decide_false, cond_false]
    exact tri_core (N := n.1) (by omega) h5 hd.e2 hen hd.s1 hd.s3 hd.wok hd.len g1

theorem TriD.tri {q : TNet} {a b c : Int} (h : TriD q a b c) (h4 : q.1 ≤ 4) (hn : Sm.sm B1 q) (hok : netok q = true) : ∃ (m i j k : Nat) (X Y Z : Int), q.1 = m ∧ a = i ∧ b = j ∧ c = k ∧ Tri q m i j k X Y Z := by
  have n3 := h.n3
  have a0 := h.a0
  have ab := h.ab
  have bc := h.bc
  have cm := h.cm
  obtain ⟨w1, m1⟩ := h.x
  obtain ⟨w2, m2⟩ := h.y
  obtain ⟨w3, m3⟩ := h.z
  have b1 := h.wok.w _ m1
  have b2 := h.wok.w _ m2
  have b3 := h.wok.w _ m3
  simp only at b1 b2 b3
  have e1 := (wbt_mem h.wok.srt ab (w := w1) (by omega)).2 m1
  have e2 := (wbt_mem h.wok.srt bc (w := w2) (by omega)).2 m2
  have e3 := (wbt_mem h.wok.srt (show a < c by omega) (w := w3) (by omega)).2 m3
  obtain ⟨i, rfl⟩ : ∃ i : Nat, a = i := ⟨a.toNat, by omega⟩
  obtain ⟨j, rfl⟩ : ∃ j : Nat, b = j := ⟨b.toNat, by omega⟩
  obtain ⟨k, rfl⟩ : ∃ k : Nat, c = k := ⟨c.toNat, by omega⟩
  exact ⟨q.1.toNat, i, j, k, w1, w2, w3, by omega, rfl, rfl, rfl, ⟨hn, hok, by omega, by omega, by omega, by omega, by omega, e1, e2, e3, by omega, by omega, by omega⟩⟩

theorem makeTri_ok {A : Option (Nat × Obj)} {v : Value} (hc : CodeOk A v) : ∃ q a b c, e_spec_MakeTriangle A (v, ()) = some (q, (a, (b, c))) ∧ Sm.sm B1 q ∧ netok q = true ∧ q.1 ≤ 4 ∧ 2 ≤ q.2.1 ∧ ∃ (m i j k : Nat) (X Y Z : Int), q.1 = m ∧ a = i ∧ b = j ∧ c = k ∧ Tri q m i j k X Y Z := by
  obtain ⟨y, e, g⟩ := new_ok hc
  simp only [e_spec_MakeTriangle, r_spec_MakeTriangle, e, Option.bind_some]
  refine iter_while (Q := fun (o : Option (TNet × Int × Int × Int)) => ∃ q a b c, o = some (q, (a, (b, c))) ∧ Sm.sm B1 q ∧ netok q = true ∧ q.1 ≤ 4 ∧ 2 ≤ q.2.1 ∧ ∃ (m i j k : Nat) (X Y Z : Int), q.1 = m ∧ a = i ∧ b = j ∧ c = k ∧ Tri q m i j k X Y Z) (p := fun s : TNet × CurV × Int × Unit => CurGood A s.2.1 ∧ 0 ≤ s.2.2.1 ∧ s.2.2.1 ≤ 6) (mu := fun s => (6 - s.2.2.1).toNat) ?_ N0 (((0, 0, 0, []) : TNet), y, (0 : Int), ()) ⟨g, by show (0 : Int) ≤ 0; omega, by show (0 : Int) ≤ 6; omega⟩ (by have := N0_big; show (6 - (0 : Int)).toNat < N0; omega)
  rintro ⟨z, y, k, u⟩ kc ⟨g, k0, k6⟩ hk
  simp only at g k0 k6
  simp only [r_spec_MakeTriangle_L0]
  by_cases hk6 : k < 6
  · obtain ⟨y1, q, a, b, c, e1, g1, hT⟩ := tri_draw g
    have w : wr (k + 1) = k + 1 := wr_id (by omega) (by omega)
    have hsm : Sm.sm B1 q := by
      have n3 := hT.n3
      have n5 := hT.n5
      have e2 := hT.e2
      have en := hT.en
      have s1 := hT.s1
      have s3 := hT.s3
      have hl : Sm.sm B0 q.2.2.2 := hT.wok.sm (by omega) (by omega) (by have := hT.len; omega)
      have z0 : Sm.sm B0 q := ⟨(⟨by omega, by omega⟩ : Sm.sm B0 q.1), (⟨by omega, by omega⟩ : Sm.sm B0 q.2.1), (⟨by omega, by omega⟩ : Sm.sm B0 q.2.2.1), hl⟩
      exact up_net B01 z0
    have next : ∀ kc' : _ → Prop, (∀ s', (CurGood A s'.2.1 ∧ 0 ≤ s'.2.2.1 ∧ s'.2.2.1 ≤ 6) → (6 - s'.2.2.1).toNat < (6 - k).toNat → kc' s') → kc' ((z, y1, k + 1, ()) : TNet × CurV × Int × Unit) := fun kc' h' => h' _ ⟨g1, by show (0 : Int) ≤ k + 1; omega, by show k + 1 ≤ 6; omega⟩ (by show (6 - (k + 1)).toNat < (6 - k).toNat; omega)
    simp only [hk6, decide_true, cond_true, e1, Option.bind_some, w]
    by_cases h4 : q.1 ≤ 4
    · simp only [h4, decide_true, cond_true, s_NetOk q hsm, Option.bind_some]
      cases hok : netok q with
      | true => exact ⟨q, a, b, c, rfl, hsm, hok, h4, hT.e2, hT.tri h4 hsm hok⟩
      | false => exact next _ hk
    · simp only [h4, decide_false, cond_false]
      exact next _ hk
  · simp only [hk6, decide_false, cond_false]
    have hT : TriD ((3, 3, 1, [(0, 1, 1), (0, 2, 2), (1, 2, 3)]) : TNet) 0 1 2 := by
      refine ⟨by simp, by simp, by simp, by simp, by simp, ⟨by simp [Srt, lex], fun e he => ?_, fun e he => ?_⟩, by simp, by simp, by simp, by simp, by simp, by simp, ⟨1, by simp⟩, ⟨3, by simp⟩, ⟨2, by simp⟩⟩
      · simp only [List.mem_cons, List.not_mem_nil, or_false] at he
        rcases he with rfl | rfl | rfl <;> simp
      · simp only [List.mem_cons, List.not_mem_nil, or_false] at he
        rcases he with rfl | rfl | rfl <;> simp
    have hl : Sm.sm B0 ([(0, 1, 1), (0, 2, 2), (1, 2, 3)] : List W3) := hT.wok.sm (by simp) (by omega) (by simp)
    have h0 : Sm.sm B0 ((3, 3, 1, [(0, 1, 1), (0, 2, 2), (1, 2, 3)]) : TNet) := ⟨(⟨by omega, by omega⟩ : Sm.sm B0 (3 : Int)), (⟨by omega, by omega⟩ : Sm.sm B0 (3 : Int)), (⟨by omega, by omega⟩ : Sm.sm B0 (1 : Int)), hl⟩
    have hn := up_net B01 h0
    have hok : netok ((3, 3, 1, [(0, 1, 1), (0, 2, 2), (1, 2, 3)]) : TNet) = true := by
      refine netok_of (m := 3) rfl (by omega) (by omega) (by show (1 : Int) ≤ 3; omega) (by show (3 : Int) ≤ 3; omega) (by show (1 : Int) ≤ 1; omega) (by show (1 : Int) ≤ 1000; omega) (hT.wok.up (by omega)) fun u h0 h1 => ?_
      have h1 : u < 3 := h1
      rcases (show u = 0 ∨ u = 1 ∨ u = 2 by omega) with rfl | rfl | rfl
      · exact .zero
      · exact Rc.ab (e := (0, 1, 1)) (by simp) .zero
      · exact Rc.ab (e := (0, 2, 2)) (by simp) .zero
    exact ⟨_, _, _, _, rfl, hn, hok, by show (3 : Int) ≤ 4; omega, by show (2 : Int) ≤ 3; omega, hT.tri (by show (3 : Int) ≤ 4; omega) hn hok⟩

theorem law_FnTriangles (A : Option (Nat × Obj)) (v : Value) (hc : CodeOk A v) : e_laws_FnTriangles A (v, ()) = some true := by
  obtain ⟨p, len, c, rfl, _⟩ := id hc
  simp only [e_laws_FnTriangles, r_laws_FnTriangles, rawLen, Option.bind_some]
  by_cases hlen : (len : Int) > 1048576
  · simp only [hlen, decide_true, cond_true]
  simp only [hlen, decide_false, cond_false]
  obtain ⟨n, a, b, c', e1, hn, hok, h4, h2, m, i, j, k, X, Y, Z, hm, rfl, rfl, rfl, hT⟩ := makeTri_ok hc
  have t1 := p_Tri hT
  have t2 := s_Tri hT
  have ts := triQ_same t2 t1
  obtain ⟨l, l1, l2, l3⟩ := t1
  rw [l3] at ts
  simp only [e1, ts, l3, p_NetOk n hn, hok, Option.bind_some, Bool.not_true, cond_false]
  cases hq : netok (canon (triN n m X Y Z l)) with
  | false => simp [beqB]
  | true =>
    obtain ⟨s1, s2⟩ := tri_back hT h2 l1 l2 hq
    have hsm := l2.canon_sm
    have n1 : (canon (triN n m X Y Z l)).1 = ((m + 1 : Nat) : Int) := rfl
    have hF := netok_fine hn hok
    generalize canon (triN n m X Y Z l) = q at *
    have w1 : wr (((m + 1 : Nat) : Int) - 1) = (m : Int) := by rw [wr_id (by omega) (by omega)]; omega
    have w2 : wr (n.1 + 1) = ((m + 1 : Nat) : Int) := by rw [wr_id (by omega) (by omega)]; omega
    simp only [cond_true, beqB_self, Bool.not_true, cond_false, n1, w1, w2, s1, p_Canon n hn hok, decide_true, p_Alike n q hn hsm, hok, hq, s2, Bool.and_self, Option.bind_some, p_SameNet (canon n) hF.canon_sm]

end Go.Sx.R
