/- The law in plain words, part 2. Conditions: none. -/
import Derived.Test.YtjjhhgieolobjaaLawa
namespace Go.Sx.R
open Go Go.Sx

/-- The weights once b is joined to a, for the nodes below k. -/
def joinF (f : Nat → Nat → Int) (a b k : Nat) (p q : Nat) : Int :=
  if p = a ∧ q < k ∧ q ≠ a ∧ q ≠ b then f a q + f b q else if q = a ∧ p < k ∧ p ≠ a ∧ p ≠ b then f a p + f b p else f p q

theorem map_erase {β γ : Type} (g : β → γ) : ∀ (l : List β) (k : Nat), (l.eraseIdx k).map g = (l.map g).eraseIdx k
  | [], k => by simp
  | x :: l, 0 => rfl
  | x :: l, k + 1 => by simp only [List.eraseIdx_cons_succ, List.map_cons, map_erase g l k]

theorem detZ_map {M M' : List (List Int)} {g : Int → Int} : ∀ (rows cols : List Int), (∀ r ∈ rows, ∀ c ∈ cols, at2 M' r c = at2 M (g r) (g c)) → detZ M' rows cols = detZ M (rows.map g) (cols.map g)
  | [], _, _ => by simp [detZ]
  | r :: rs, cols, h => by
    have hd : ∀ (D D' : Nat → Int), (∀ k, D' k = D k) → ∀ (cs : List Int) (j : Nat) (s : Int), (∀ y ∈ cs, at2 M' r y = at2 M (g r) (g y)) → dsum M' r D' cs j s = dsum M (g r) D (cs.map g) j s := by
      intro D D' hD cs
      induction cs with
      | nil => intro j s _; rfl
      | cons c cs ih => intro j s hc; simp only [dsum, List.map_cons, hD, hc c (by simp), ih (j + 1) (-s) fun y hy => hc y (by simp [hy])]
    simp only [detZ, List.map_cons]
    refine hd _ _ (fun k => ?_) cols 0 1 fun y hy => h r (by simp) y hy
    rw [detZ_map rs (cols.eraseIdx k) fun x hx y hy => h x (by simp [hx]) y (List.mem_of_mem_eraseIdx hy)]
    congr 1
    exact map_erase g cols k

theorem wiresOf_wbt {f : Nat → Nat → Int} {m : Nat} {l : List W3} (h : WiresOf f m (fun _ _ => True) l) {a b : Nat} (hab : a < b) (hb : b < m) : wbt l (a : Int) (b : Int) = f a b := by
  by_cases hz : f a b = 0
  · rw [hz]
    apply Classical.byContradiction
    intro hw
    have := (wbt_mem h.srt (show (a : Int) < b by omega) hw).1 rfl
    obtain ⟨a', b', _, h1, h2, h3, h4⟩ := (h.mem _).1 this
    simp only [Prod.mk.injEq] at h4
    have e1 : a' = a := by omega
    have e2 : b' = b := by omega
    subst e1 e2
    omega
  · exact (wbt_mem h.srt (show (a : Int) < b by omega) hz).2 ((h.mem _).2 ⟨a, b, trivial, hab, hb, hz, rfl⟩)

section
variable {n : TNet} {m : Nat} {L : List (List Int)} {a b : Nat}

theorem join_tab (h : Lk n m L) (h200 : ∀ e ∈ n.2.2.2, e.2.2 ≤ 100) (hab : a < b) (hb : b < m) :
    ∃ U, IsTab U (m - 1) (fun i j => joinF (fun p q => wbt n.2.2.2 (p : Int) (q : Int)) a b m (un b i) (un b j)) ∧
      e_impl_JoinNodes (n, (a : Int), (b : Int), ()) = (e_impl_netOf ((if (b : Int) < n.2.1 then n.2.1 - 1 else n.2.1), n.2.2.1, U, false, ())).bind fun x => some (x.1, x.2) := by
  have hm := h.hm
  have hm5 := h.m5
  obtain ⟨T, hT, hTab⟩ := p_table n m h.hn hm hm5 h.inw
  have d1 : decide ((a : Int) < 0) = false := by rw [decide_eq_false_iff_not]; omega
  have d2 : decide ((a : Int) ≥ (b : Int)) = false := by rw [decide_eq_false_iff_not]; omega
  have d3 : decide ((b : Int) ≥ n.1) = false := by rw [decide_eq_false_iff_not]; omega
  obtain ⟨_, _, _, _, _, he1, he2⟩ := netok_facts h.ok
  have hW : ∀ p q : Int, 0 ≤ wbt n.2.2.2 p q ∧ wbt n.2.2.2 p q ≤ 200 := fun p q => wbt_bd h.hw p q
  simp only [e_impl_JoinNodes, r_impl_JoinNodes, p_NetOk n h.hn, h.ok, Option.bind_some, Bool.not_true, cond_false, d1, d2, d3, hT]
  have hTl : (T.length : Int) = (m : Int) := by rw [hTab.1]
  rw [hTl]
  have hd : (List.range m).length = m := by simp
  refine iter_rule (R := TNet × Bool) (fun o => ∃ U, IsTab U (m - 1) (fun i j => joinF (fun p q => wbt n.2.2.2 (p : Int) (q : Int)) a b m (un b i) (un b j)) ∧ o = (e_impl_netOf ((if (b : Int) < n.2.1 then n.2.1 - 1 else n.2.1), n.2.2.1, U, false, ())).bind fun x => some (x.1, x.2)) (List.range m)
    (fun (T : List (List Int)) i => ((a : Int), (b : Int), n, (0, 0, 0, []), T, (m : Int), i, ())) (fun i T => IsTab T m (joinF (fun p q => wbt n.2.2.2 (p : Int) (q : Int)) a b i)) (fun T i x kc hp hx hi hk => ?_) (fun T kc hp => ?_) (N := N0) (by have := N0_big; omega) T
    (hTab.congr fun p q _ _ => by simp only [joinF]; rw [if_neg (by omega), if_neg (by omega)])
  · rw [hd] at hi
    have l1 : decide ((i : Int) < (m : Int)) = true := by rw [decide_eq_true_eq]; omega
    simp only [r_impl_JoinNodes_L0, l1, cond_true, wr_succ hi (show m ≤ 9223372036854775807 by omega)]
    by_cases ca : i = a
    · have e : decide ((i : Int) = (a : Int)) = true := by rw [decide_eq_true_eq]; omega
      simp only [e, Bool.not_true, cond_false]
      refine hk _ (hp.congr fun p q _ _ => ?_)
      simp only [joinF]
      have e1 : (p = a ∧ q < i ∧ q ≠ a ∧ q ≠ b) ↔ (p = a ∧ q < i + 1 ∧ q ≠ a ∧ q ≠ b) := by omega
      have e2 : (q = a ∧ p < i ∧ p ≠ a ∧ p ≠ b) ↔ (q = a ∧ p < i + 1 ∧ p ≠ a ∧ p ≠ b) := by omega
      simp only [e1, e2]
    · have e : decide ((i : Int) = (a : Int)) = false := by rw [decide_eq_false_iff_not]; omega
      by_cases cb : i = b
      · have e' : decide ((i : Int) = (b : Int)) = true := by rw [decide_eq_true_eq]; omega
        simp only [e, e', Bool.not_true, Bool.not_false, cond_true, cond_false]
        refine hk _ (hp.congr fun p q _ _ => ?_)
        simp only [joinF]
        have e1 : (p = a ∧ q < i ∧ q ≠ a ∧ q ≠ b) ↔ (p = a ∧ q < i + 1 ∧ q ≠ a ∧ q ≠ b) := by omega
        have e2 : (q = a ∧ p < i ∧ p ≠ a ∧ p ≠ b) ↔ (q = a ∧ p < i + 1 ∧ p ≠ a ∧ p ≠ b) := by omega
        simp only [e1, e2]
      · have e' : decide ((i : Int) = (b : Int)) = false := by rw [decide_eq_false_iff_not]; omega
        obtain ⟨rowa, ra1, ra2, ra3⟩ := hp.2 a (by omega)
        obtain ⟨rowb, rb1, rb2, rb3⟩ := hp.2 b (by omega)
        have va : joinF (fun p q => wbt n.2.2.2 (p : Int) (q : Int)) a b i a i = wbt n.2.2.2 (a : Int) (i : Int) := by
          simp only [joinF]; rw [if_neg (by omega), if_neg (by omega)]
        have vb : joinF (fun p q => wbt n.2.2.2 (p : Int) (q : Int)) a b i b i = wbt n.2.2.2 (b : Int) (i : Int) := by
          simp only [joinF]; rw [if_neg (by omega), if_neg (by omega)]
        have b1 := hW (a : Int) (i : Int)
        have b2 := hW (b : Int) (i : Int)
        have w1 : wr (wbt n.2.2.2 (a : Int) (i : Int) + wbt n.2.2.2 (b : Int) (i : Int)) = wbt n.2.2.2 (a : Int) (i : Int) + wbt n.2.2.2 (b : Int) (i : Int) := wr_id (by omega) (by omega)
        have p1 := hp.put (v := wbt n.2.2.2 (a : Int) (i : Int) + wbt n.2.2.2 (b : Int) (i : Int)) (b := i) (by omega : a < m) ra1
        obtain ⟨rowi, ri1, ri2, ri3⟩ := p1.2 i hi
        obtain ⟨rowa', qa1, qa2, qa3⟩ := p1.2 a (by omega)
        have va' := qa3 i hi
        simp only [and_self, if_true] at va'
        have gia : ∃ c, getI rowi (a : Int) = some c := getI_has ri2 (by omega)
        obtain ⟨c0, hc0⟩ := gia
        have p2 := p1.put (v := wbt n.2.2.2 (a : Int) (i : Int) + wbt n.2.2.2 (b : Int) (i : Int)) (b := a) hi ri1
        simp only [e, e', Bool.not_false, cond_true, getI_nat, ra1, rb1, ra3 i hi, rb3 i hi, va, vb, Option.bind_some, w1, Int.toNat_natCast, ri1, qa1, va']
        have hc0' : rowi[a]? = some c0 := by rw [← getI_nat]; exact hc0
        simp only [hc0', Option.bind_some]
        refine hk _ (p2.congr fun p q _ _ => ?_)
        simp only [joinF]
        by_cases k1 : p = i ∧ q = a
        · rw [if_pos k1, if_neg (by omega), if_pos (by omega)]
          rw [k1.1]
        · rw [if_neg k1]
          by_cases k2 : p = a ∧ q = i
          · rw [if_pos k2, if_pos (by omega), k2.2]
          · rw [if_neg k2]
            have e1 : (p = a ∧ q < i ∧ q ≠ a ∧ q ≠ b) ↔ (p = a ∧ q < i + 1 ∧ q ≠ a ∧ q ≠ b) := by omega
            have e2 : (q = a ∧ p < i ∧ p ≠ a ∧ p ≠ b) ↔ (q = a ∧ p < i + 1 ∧ p ≠ a ∧ p ≠ b) := by omega
            simp only [e1, e2]
  · have l2 : decide ((((List.range m).length : Nat) : Int) < (m : Int)) = false := by rw [decide_eq_false_iff_not, hd]; omega
    rw [hd] at hp
    obtain ⟨U, u1, u2⟩ := p_without T m b hm5 hb _ hp
    refine ⟨U, u2, ?_⟩
    simp only [r_impl_JoinNodes_L0, l2, cond_false]
    by_cases hbe : (b : Int) < n.2.1
    · have w : wr (n.2.1 - 1) = n.2.1 - 1 := wr_id (by omega) (by omega)
      rw [if_pos hbe]
      simp only [hbe, decide_true, cond_true, u1, Option.bind_some, w]
    · rw [if_neg hbe]
      simp only [hbe, decide_false, cond_false, u1, Option.bind_some]

theorem nodup_map_on {β γ : Type} (g : β → γ) : ∀ {l : List β}, l.Nodup → (∀ x ∈ l, ∀ y ∈ l, g x = g y → x = y) → (l.map g).Nodup
  | [], _, _ => by simp
  | x :: l, hn, h => by
    have hn := List.nodup_cons.1 hn
    rw [List.map_cons, List.nodup_cons]
    refine ⟨fun hm => ?_, nodup_map_on g hn.2 fun a ha b hb => h a (by simp [ha]) b (by simp [hb])⟩
    obtain ⟨y, hy, e⟩ := List.mem_map.1 hm
    have := h y (by simp [hy]) x (by simp) e
    subst this
    exact hn.1 hy

theorem un_lo {v i : Nat} (h : i < v) : un v i = i := by unfold un; rw [if_pos h]

/-- The joined network, its trees. -/
theorem Lk.p_Join (h : Lk n m L) (h100 : ∀ e ∈ n.2.2.2, e.2.2 ≤ 100) (h2 : 2 ≤ n.2.1) (hab : a < b) (hb : b < m) :
    ∃ (q : TNet) (L' : List (List Int)), e_impl_JoinNodes (n, (a : Int), (b : Int), ()) = some (q, true) ∧ Lk q (m - 1) L' ∧ treZ L' (m - 1) = forZ L m (a : Int) (b : Int) := by
  have hm := h.hm
  have hm5 := h.m5
  obtain ⟨_, _, _, _, _, he1, he2⟩ := netok_facts h.ok
  obtain ⟨U, hU, hj⟩ := join_tab h h100 hab hb
  have hW : ∀ p q : Int, 0 ≤ wbt n.2.2.2 p q ∧ wbt n.2.2.2 p q ≤ 100 := by
    intro p q
    have := wbt_bd h.hw p q
    refine ⟨this.1, ?_⟩
    unfold wbt
    split
    · omega
    · split
      · rename_i x hx; exact h100 x (List.mem_of_find?_eq_some hx)
      · omega
  have hF : ∀ p q : Nat, 0 ≤ joinF (fun p q => wbt n.2.2.2 (p : Int) (q : Int)) a b m p q ∧ joinF (fun p q => wbt n.2.2.2 (p : Int) (q : Int)) a b m p q ≤ 200 := by
    intro p q
    simp only [joinF]
    have b1 := hW (a : Int) (q : Int)
    have b2 := hW (b : Int) (q : Int)
    have b3 := hW (a : Int) (p : Int)
    have b4 := hW (b : Int) (p : Int)
    have b5 := hW (p : Int) (q : Int)
    split
    · omega
    · split <;> omega
  obtain ⟨E, hE⟩ : ∃ E : Int, E = if (b : Int) < n.2.1 then n.2.1 - 1 else n.2.1 := ⟨_, rfl⟩
  have hE1 : 1 ≤ E ∧ E ≤ (m : Int) - 1 := by rw [hE]; split <;> omega
  rw [← hE] at hj
  obtain ⟨l, l1, l2, l3⟩ := p_netOf E n.2.2.1 U (m - 1) (by omega) (by omega) _ hU h.hn.2.2.1 ⟨by omega, by omega⟩ (fun i j _ _ => ⟨by have := hF (un b i) (un b j); omega, by have := hF (un b i) (un b j); omega⟩)
  have sc := h.sc
  -- its wires
  have wok : Wok (m - 1) 200 l := by
    refine ⟨l1.srt, fun e he => ?_, fun e he => ?_⟩
    · obtain ⟨p, q, _, p1, p2, p3, rfl⟩ := (l1.mem e).1 he
      simp only; omega
    · obtain ⟨p, q, _, p1, p2, p3, rfl⟩ := (l1.mem e).1 he
      have := hF (un b p) (un b q)
      simp only; omega
  have sym : ∀ p q : Nat, joinF (fun p q => wbt n.2.2.2 (p : Int) (q : Int)) a b m p q = joinF (fun p q => wbt n.2.2.2 (p : Int) (q : Int)) a b m q p := by
    intro p q
    simp only [joinF]
    by_cases c1 : p = a ∧ q < m ∧ q ≠ a ∧ q ≠ b
    · rw [if_pos c1, if_neg (by omega), if_pos c1]
    · rw [if_neg c1]
      by_cases c2 : q = a ∧ p < m ∧ p ≠ a ∧ p ≠ b
      · rw [if_pos c2, if_pos c2]
      · rw [if_neg c2, if_neg c2, if_neg c1, wbt_comm]
  have wl : ∀ i j : Nat, i < m - 1 → j < m - 1 → i ≠ j → wbt l (i : Int) (j : Int) = joinF (fun p q => wbt n.2.2.2 (p : Int) (q : Int)) a b m (un b i) (un b j) := by
    intro i j hi hj hij
    rcases Nat.lt_or_gt_of_ne hij with hl | hl
    · exact wiresOf_wbt l1 hl hj
    · rw [wbt_comm, wiresOf_wbt l1 hl hi]; exact sym _ _
  -- it hangs together
  let pi : Nat → Nat := fun v => if v = b then a else ix b v
  have pib : ∀ v, v < m → pi v < m - 1 := by
    intro v hv
    show (if v = b then a else ix b v) < m - 1
    split
    · omega
    · rename_i hne; exact ix_bd hne hb hv
  have unpi : ∀ v, un b (pi v) = if v = b then a else v := by
    intro v
    show un b (if v = b then a else ix b v) = _
    split
    · exact un_lo hab
    · rename_i hne; exact un_ix hne
  have con : ∀ v, Rc n.2.2.2 v → ∀ k : Nat, v = k → k < m → Rc l ((pi k : Nat) : Int) := by
    have link : ∀ e ∈ n.2.2.2, ∀ p q : Nat, e.1 = p → e.2.1 = q → (Rc l ((pi p : Nat) : Int) ↔ Rc l ((pi q : Nat) : Int)) := by
      intro e he p q hp hq
      have hi := h.inw e he
      have hw := h.hw e he
      have hwp : wbt n.2.2.2 (p : Int) (q : Int) = e.2.2 := by
        have : wbt n.2.2.2 e.1 e.2.1 = e.2.2 := (wbt_mem h.srt hi.2.1 (w := e.2.2) (by omega)).2 he
        rw [← hp, ← hq]; exact this
      by_cases hpq : pi p = pi q
      · rw [hpq]
      · have hpm := pib p (by omega)
        have hqm := pib q (by omega)
        have hne : p ≠ q := by omega
        have hf : wbt l ((pi p : Nat) : Int) ((pi q : Nat) : Int) ≠ 0 := by
          rw [wl _ _ hpm hqm hpq, unpi, unpi]
          have unn : (if p = b then a else p) ≠ (if q = b then a else q) := by
            rw [← unpi, ← unpi]; exact fun e => hpq (un_inj e)
          simp only [joinF]
          have c1 := hW (a : Int) (q : Int)
          have c2 := hW (b : Int) (q : Int)
          have c3 := hW (a : Int) (p : Int)
          have c4 := hW (b : Int) (p : Int)
          have hwq : wbt n.2.2.2 (q : Int) (p : Int) = e.2.2 := by rw [wbt_comm]; exact hwp
          by_cases k1 : p = b
          · subst k1
            rw [if_pos rfl] at unn ⊢
            rw [if_neg (Ne.symm hne)] at unn ⊢
            rw [if_pos ⟨rfl, by omega, Ne.symm unn, Ne.symm hne⟩]; omega
          · rw [if_neg k1] at unn ⊢
            by_cases k2 : q = b
            · subst k2
              rw [if_pos rfl] at unn ⊢
              rw [if_neg (by omega), if_pos ⟨rfl, by omega, unn, hne⟩]; omega
            · rw [if_neg k2] at unn ⊢
              by_cases k3 : p = a
              · subst k3
                rw [if_pos ⟨rfl, by omega, by omega, k2⟩]; omega
              · rw [if_neg (by omega)]
                by_cases k4 : q = a
                · subst k4
                  rw [if_pos ⟨rfl, by omega, k3, k1⟩]; omega
                · rw [if_neg (by omega)]; omega
        have both : ∀ x y : Int, wbt l x y ≠ 0 → x ≠ y → Rc l x → Rc l y := by
          intro x y hz hxy hr
          rcases Int.lt_or_gt_of_ne hxy with hl | hl
          · have := (wbt_mem l1.srt hl hz).1 rfl
            exact Rc.ab (e := (x, y, _)) this hr
          · rw [wbt_comm] at hz
            have := (wbt_mem l1.srt hl hz).1 rfl
            exact Rc.ba (e := (y, x, _)) this hr
        exact ⟨both _ _ hf (by omega), both _ _ (by rw [wbt_comm]; exact hf) (by omega)⟩
    intro v hv
    induction hv with
    | zero =>
      intro k hk _
      have : pi k = 0 := by
        show (if k = b then a else ix b k) = 0
        have : k = 0 := by omega
        subst this
        rw [if_neg (by omega)]
        unfold ix; rw [if_neg (by omega)]
      rw [this]; exact Rc.zero
    | @ab e he _ ih =>
      intro k hk hkm
      have hi := h.inw e he
      have := ih e.1.toNat (by omega) (by omega)
      exact (link e he e.1.toNat k (by omega) hk).1 this
    | @ba e he _ ih =>
      intro k hk hkm
      have hi := h.inw e he
      have := ih e.2.1.toNat (by omega) (by omega)
      exact (link e he k e.2.1.toNat hk (by omega)).2 this
  have hq : netok (((m - 1 : Nat) : Int), E, n.2.2.1, l) = true := by
    refine netok_of (m := m - 1) rfl (by omega) (by omega) hE1.1 (by show E ≤ ((m - 1 : Nat) : Int); omega) sc.1 sc.2 wok fun v h0 h1 => ?_
    have h1 : v < ((m - 1 : Nat) : Int) := h1
    obtain ⟨k, rfl⟩ : ∃ k : Nat, v = k := ⟨v.toNat, by omega⟩
    have ub := un_bd (i := k) hb (by omega)
    have r := con _ (netok_rc h.ok (show (0 : Int) ≤ (un b k : Nat) by omega) (by omega)) (un b k) rfl ub
    have e : pi (un b k) = k := by
      show (if un b k = b then a else ix b (un b k)) = k
      rw [if_neg (un_ne b k)]
      exact ((un_iff (un_ne b k)).1 rfl).symm
    rw [e] at r; exact r
  rw [hq] at l3
  obtain ⟨m', L', h'⟩ := lk_of _ l2 hq
  have em : m' = m - 1 := by have := h'.hm; simp only at this; omega
  subst em
  refine ⟨_, L', ?_, h', ?_⟩
  · rw [hj, l3]; rfl
  -- its trees
  let g : Int → Int := fun v => ((un b v.toNat : Nat) : Int)
  have gu : ∀ k : Nat, g (k : Int) = ((un b k : Nat) : Int) := fun k => by show ((un b ((k : Int).toNat) : Nat) : Int) = _; rw [Int.toNat_natCast]
  have ga : g (a : Int) = a := by rw [gu, un_lo hab]
  have amem : (a : Int) < ((m - 1 : Nat) : Int) := by omega
  have gin : ∀ x : Int, 0 ≤ x ∧ x < ((m - 1 : Nat) : Int) → 0 ≤ g x ∧ g x < m ∧ g x ≠ b := by
    intro x hx
    obtain ⟨k, rfl⟩ : ∃ k : Nat, x = k := ⟨x.toNat, by omega⟩
    have ub := un_bd (i := k) hb (by omega)
    have := un_ne b k
    rw [gu]; omega
  have ginj : ∀ x y : Int, 0 ≤ x → 0 ≤ y → g x = g y → x = y := by
    intro x y hx hy e
    obtain ⟨k, rfl⟩ : ∃ k : Nat, x = k := ⟨x.toNat, by omega⟩
    obtain ⟨j, rfl⟩ : ∃ j : Nat, y = j := ⟨y.toNat, by omega⟩
    rw [gu, gu] at e
    have := un_inj (v := b) (i := k) (j := j) (by omega)
    omega
  have off : ∀ x y : Int, (0 ≤ x ∧ x < ((m - 1 : Nat) : Int) ∧ x ≠ a) → (0 ≤ y ∧ y < ((m - 1 : Nat) : Int)) → x ≠ y → at2 L' x y = if y = a then at2 L (g x) a + at2 L (g x) b else at2 L (g x) (g y) := by
    intro x y hx hy hxy
    obtain ⟨k, rfl⟩ : ∃ k : Nat, x = k := ⟨x.toNat, by omega⟩
    obtain ⟨j, rfl⟩ : ∃ j : Nat, y = j := ⟨y.toNat, by omega⟩
    have ub := un_bd (i := k) hb (by omega)
    have uj := un_bd (i := j) hb (by omega)
    have nk := un_ne b k
    have nj := un_ne b j
    have nka : un b k ≠ a := fun e => by
      have := un_inj (v := b) (i := k) (j := a) (by rw [e, un_lo hab]); omega
    have ukj : un b k ≠ un b j := fun e => by have := un_inj e; omega
    have e1 := h'.a2 (i := (k : Int)) (j := (j : Int)) ⟨hx.1, hx.2.1⟩ hy
    rw [if_neg hxy] at e1
    rw [e1]
    have e2 := wl k j (by omega) (by omega) (by omega)
    have e2' : wbt l (k : Int) (j : Int) = _ := e2
    show -wbt l (k : Int) (j : Int) = _
    rw [e2', gu, gu]
    by_cases hja : j = a
    · subst hja
      rw [if_pos rfl, un_lo hab, h.a2 (by omega) (by omega), h.a2 (by omega) (by omega), if_neg (by omega), if_neg (by omega)]
      simp only [joinF]
      rw [if_neg (by omega), if_pos ⟨trivial, ub, nka, nk⟩, wbt_comm _ (j : Int), wbt_comm _ (b : Int)]; omega
    · have nja : un b j ≠ a := fun e => by
        have := un_inj (v := b) (i := j) (j := a) (by rw [e, un_lo hab]); omega
      rw [if_neg (by omega), h.a2 (by omega) (by omega), if_neg (by omega)]
      simp only [joinF]
      rw [if_neg (by omega), if_neg (by omega)]
  have hz' := h'.lapZ
  have pV' : (wo (m - 1) []).Perm ((a : Int) :: wo (m - 1) [(a : Int)]) := wo_cons (by omega) amem (by simp)
  have pV : (wo m []).Perm ((a : Int) :: (b : Int) :: (wo (m - 1) [(a : Int)]).map g) := by
    have p1 : (wo m []).Perm ((a : Int) :: (b : Int) :: wo m [(b : Int), (a : Int)]) := (wo_cons (by omega) (by omega) (by simp)).trans ((wo_cons (by omega) (by omega) (by simp; omega)).cons _)
    refine p1.trans (((perm_of (wo_nd _ _) ?_ fun c => ?_).cons _).cons _)
    · refine nodup_map_on g (wo_nd _ _) ?_
      intro x hx y hy e
      exact ginj x y (mem_wo.1 hx).1 (mem_wo.1 hy).1 e
    · rw [mem_wo, List.mem_map]
      simp only [List.mem_cons, List.not_mem_nil, or_false, not_or]
      constructor
      · rintro ⟨c0, c1, c2, c3⟩
        obtain ⟨k, rfl⟩ : ∃ k : Nat, c = k := ⟨c.toNat, by omega⟩
        refine ⟨((ix b k : Nat) : Int), mem_wo.2 ⟨by omega, by have := ix_bd (a := k) (v := b) (by omega) hb (by omega); omega, ?_⟩, by rw [gu, un_ix (by omega)]⟩
        simp only [List.mem_cons, List.not_mem_nil, or_false]
        intro e
        have := (un_iff (v := b) (a := k) (i := a) (by omega)).2 (by omega)
        rw [un_lo hab] at this; omega
      · rintro ⟨x, hx, rfl⟩
        have hx := mem_wo.1 hx
        simp only [List.mem_cons, List.not_mem_nil, or_false] at hx
        have gi := gin x ⟨hx.1, hx.2.1⟩
        refine ⟨gi.1, gi.2.1, gi.2.2, fun e => hx.2.2 (ginj x a hx.1 (by omega) (by rw [e, ga]))⟩
  rw [tre_list hz' (by omega) pV', for_list hm5 pV]
  refine detZ_map _ _ fun x hx y hy => ?_
  have hx' := mem_wo.1 hx
  have hy' := mem_wo.1 hy
  simp only [List.mem_cons, List.not_mem_nil, or_false] at hx' hy'
  by_cases hxy : x = y
  · subst hxy
    -- the sums of the rows
    have s1 := hz'.sum x (mem_wo.2 ⟨hx'.1, hx'.2.1, by simp⟩)
    have gi := gin x ⟨hx'.1, hx'.2.1⟩
    have s2 := h.lapZ.sum (g x) (mem_wo.2 ⟨gi.1, gi.2.1, by simp⟩)
    rw [perm_sum (pV'.map (at2 L' x))] at s1
    rw [perm_sum (pV.map (at2 L (g x)))] at s2
    have pe := List.perm_cons_erase hx
    have nde := List.nodup_cons.1 (pe.nodup_iff.1 (wo_nd _ _))
    simp only [List.map_cons, List.sum_cons] at s1 s2
    rw [perm_sum (pe.map (at2 L' x))] at s1
    rw [perm_sum ((pe.map g).map (at2 L (g x)))] at s2
    simp only [List.map_cons, List.sum_cons, List.map_map] at s1 s2
    have e : ((wo (m - 1) [(a : Int)]).erase x).map (at2 L' x) = ((wo (m - 1) [(a : Int)]).erase x).map (at2 L (g x) ∘ g) := List.map_congr_left fun z hz => by
      have hzm := mem_wo.1 (List.mem_of_mem_erase hz)
      simp only [List.mem_cons, List.not_mem_nil, or_false] at hzm
      have hne : x ≠ z := by rintro rfl; exact nde.1 hz
      have := off x z hx' ⟨hzm.1, hzm.2.1⟩ hne
      rw [if_neg hzm.2.2] at this
      exact this
    rw [e] at s1
    have oa := off x a hx' ⟨by omega, amem⟩ hx'.2.2
    rw [if_pos rfl] at oa
    omega
  · have := off x y hx' ⟨hy'.1, hy'.2.1⟩ hxy
    rw [if_neg hy'.2.2] at this
    exact this
end
end Go.Sx.R
namespace Go.Sx.R
open Go Go.Sx

section
variable {n : TNet} {m : Nat} {L : List (List Int)}

theorem Lk.p_Count (h : Lk n m L) : ∃ t : Int, e_impl_CountTrees (n, ()) = some t ∧ 1 ≤ t := by
  have hlen : n.2.2.2.length ≤ 1073741824 := h.hn.2.2.2.1
  obtain ⟨L', h', _, _⟩ := h.chain (l := List.replicate n.2.2.2.length 1) (by simp) (fun w hw => by have := List.eq_of_mem_replicate hw; omega) n.2.2.2.length (by simp)
  have e : (List.replicate n.2.2.2.length (1 : Int)).take n.2.2.2.length = List.replicate n.2.2.2.length 1 := by simp
  rw [e] at h'
  refine ⟨treZ L' m, ?_, h'.tre_pos⟩
  simp only [e_impl_CountTrees, r_impl_CountTrees, p_NetOk n h.hn, h.ok, Option.bind_some, Bool.not_true, cond_false, p_copyNet n h.hn]
  have rep : ∀ i, List.replicate (i + 1) (1 : Int) = List.replicate i 1 ++ [1] := fun i => by rw [List.replicate_succ']
  refine iter_rule (R := Int) (fun o => o = some (treZ L' m)) n.2.2.2 (fun (st : List W3) i => ((n.1, n.2.1, n.2.2.1, st), (n.2.2.2.length : Int), i, ())) (fun i st => st = mixW n.2.2.2 (List.replicate i 1)) (fun st i x kc hp hx hi hk => ?_) (fun st kc hp => ?_) (N := N0) (by have := N0_big; omega) n.2.2.2 (by simp [mixW_nil])
  · have g' : st[i]? = some x := by rw [hp, mixW_at _ _ _ (by simp), hx]
    simp only [r_impl_CountTrees_L0, lt_len, hi, decide_true, cond_true, getI_nat, g', Option.bind_some, Int.toNat_natCast, wr_succ hi (show n.2.2.2.length ≤ 9223372036854775807 by omega)]
    refine hk _ ?_
    have := mixW_add (List.replicate i 1) n.2.2.2 x 1 (by simpa using hx)
    rw [rep, this, hp]; simp
  · simp only [r_impl_CountTrees_L0, not_lt_self, cond_false]
    have q := h'.p_Tree
    simp only [setWt] at q
    rw [hp, q]; rfl

/-- The Laplacian is a matrix in order. -/
theorem Lk.p_square (h : Lk n m L) : e_impl_squareOk (L, ()) = some true := by
  have hl := h.tab.1
  have hm5 := h.m5
  simp only [e_impl_squareOk, r_impl_squareOk, hl]
  have d5 : decide ((m : Int) > 5) = false := by rw [decide_eq_false_iff_not]; omega
  simp only [d5, cond_false]
  have hd : L.length = m := hl
  refine iter_rule (R := Bool) (fun o => o = some true) L (fun (_ : Unit) i => (L, L, (m : Int), i, ())) (fun _ _ => True) (fun st i x kc _ hx hi hk => ?_) (fun st kc _ => ?_) (N := N0) (by have := N0_big; omega) () trivial
  · obtain ⟨row, r1, r2, r3⟩ := h.tab.2 i (by omega)
    rw [hx] at r1; have r1 := Option.some.inj r1; subst r1
    have l1 : decide ((i : Int) < (m : Int)) = true := by rw [decide_eq_true_eq]; omega
    have e1 : decide ((m : Int) = (m : Int)) = true := by simp
    simp only [r_impl_squareOk_L0, l1, cond_true, getI_nat, hx, Option.bind_some, r2, hl, e1, Bool.not_true, cond_false]
    refine iter_rule (R := Bool) (fun o => o = some true) x (fun (_ : Unit) j => (L, L, (m : Int), (i : Int), x, (m : Int), j, ())) (fun _ _ => True) (fun st j y kc2 _ hy hj hk2 => ?_) (fun st kc2 _ => ?_) (N := N0) (by have := N0_big; omega) () trivial
    · have hjm : j < m := by omega
      have yv := r3 j hjm
      rw [hy] at yv; have yv := Option.some.inj yv
      have bd := lapF_le h.srt h.inw hm5 h.hw i j
      rw [← yv] at bd
      have l2 : decide ((j : Int) < (m : Int)) = true := by rw [decide_eq_true_eq]; omega
      have b1 : decide (y < -1000) = false := by rw [decide_eq_false_iff_not]; split at bd <;> omega
      have b2 : decide (y > 1000) = false := by rw [decide_eq_false_iff_not]; split at bd <;> omega
      simp only [r_impl_squareOk_L2, l2, cond_true, getI_nat, hy, Option.bind_some, b1, b2, cond_false, wr_succ hjm (show m ≤ 9223372036854775807 by omega)]
      exact hk2 () trivial
    · have l2 : decide (((x.length : Nat) : Int) < (m : Int)) = false := by rw [decide_eq_false_iff_not]; omega
      simp only [r_impl_squareOk_L2, l2, cond_false, wr_succ (show i < m by omega) (show m ≤ 9223372036854775807 by omega)]
      exact hk () trivial
  · have l1 : decide (((L.length : Nat) : Int) < (m : Int)) = false := by rw [decide_eq_false_iff_not]; omega
    simp only [r_impl_squareOk_L0, l1, cond_false]

theorem Lk.p_Minor (h : Lk n m L) : e_impl_MinorOf (L, [0], [0], ()) = some (wAt n.2.2.2 0, true) := by
  have hm1 := h.m1
  have hm5 := h.m5
  have hI := p_indicesOk [0] (m : Int) (by have := BB_ge; simp; omega)
  have hb : (([0] : List Int).zipIdx 0).any (fun p => badR (m : Int) [0] p.2 p.1) = false := by
    have d : decide ((m : Int) ≤ 0) = false := by rw [decide_eq_false_iff_not]; omega
    have d2 : decide ((0 : Int) < (m : Int)) = true := by rw [decide_eq_true_eq]; omega
    simp [badR]
    omega
  rw [hb] at hI
  have e0 : detZ L [0] [0] = wAt n.2.2.2 0 := by
    rw [detZ1, h.a2 (by omega) (by omega), if_pos rfl]
  have hE := tab_ent h.tab (rows := [0]) (cols := [0]) (by simp; omega) (by simp; omega)
  have pd := p_det0 L [0] [0] (by simp) (by simp) hE
  have bd : wr (detZ L [0] [0]) = detZ L [0] [0] := by
    have := lapF_le h.srt h.inw hm5 h.hw 0 0
    have e : lapF n.2.2.2 0 0 = wAt n.2.2.2 0 := by simp [lapF]
    rw [e] at this
    rw [e0]; simp at this; exact wr_id (by omega) (by omega)
  rw [e0] at pd bd
  rw [bd] at pd
  simp only [e_impl_MinorOf, r_impl_MinorOf, List.length_cons, List.length_nil, h.p_square, h.tab.1, hI, pd, Option.bind_some, Bool.not_true, Bool.not_false, cond_false, decide_true]
  simp
end

theorem law_FnTrees (A : Option (Nat × Obj)) (v : Value) (hc : CodeOk A v) : e_laws_FnTrees A (v, ()) = some true := by
  obtain ⟨p, len, c, rfl, _⟩ := id hc
  simp only [e_laws_FnTrees, r_laws_FnTrees, rawLen, Option.bind_some]
  by_cases hlen : (len : Int) > 1048576
  · simp only [hlen, decide_true, cond_true]
  simp only [hlen, decide_false, cond_false]
  obtain ⟨n, e1, hd⟩ := makeNet_ok hc
  obtain ⟨hok, h0⟩ := hd.ok (by omega) (by omega)
  have hn : Sm.sm B1 n := up_net B01 h0
  obtain ⟨m, L, h⟩ := lk_of n hn hok
  have hm := h.hm
  have hm5 := h.m5
  have hd2 := hd.n2
  have hlen2 := hd.len
  obtain ⟨x3, e3, x30, x31⟩ := num_ok hc (n := 30) (by omega)
  have hne : n.2.2.2.length ≠ 0 := by
    intro e
    have hl := List.length_eq_zero_iff.1 e
    have r := netok_rc hok (show (0 : Int) ≤ 1 by omega) (by omega)
    rw [hl] at r
    generalize hv : (1 : Int) = v at r
    cases r with
    | zero => omega
    | ab he _ => simp at he
    | ba he _ => simp at he
  have c0 : decide ((n.2.2.2.length : Int) = 0) = false := by rw [decide_eq_false_iff_not]; omega
  simp only [e1, e3, c0, Option.bind_some, cond_false]
  have rw_ := tmod_in (len := (n.2.2.2.length : Int)) x30 (by omega)
  generalize Int.tmod x3 (n.2.2.2.length : Int) = w at *
  obtain ⟨i, rfl⟩ : ∃ i : Nat, w = i := ⟨w.toNat, by omega⟩
  obtain ⟨x, hx⟩ : ∃ x, n.2.2.2[i]? = some x := ⟨_, List.getElem?_eq_getElem (by omega)⟩
  have hxm := List.mem_of_getElem? hx
  have hi := h.inw x hxm
  have hw := hd.wok.w x hxm
  obtain ⟨a, ha⟩ : ∃ a : Nat, x.1 = a := ⟨x.1.toNat, by omega⟩
  obtain ⟨b, hb⟩ : ∃ b : Nat, x.2.1 = b := ⟨x.2.1.toNat, by omega⟩
  obtain ⟨q, Lj, j1, j2, j3⟩ := h.p_Join (a := a) (b := b) (fun e he => by have := hd.wok.w e he; omega) hd.e2 (by omega) (by omega)
  obtain ⟨t, t1, t2⟩ := h.p_Count
  have t3 : decide (t < 1) = false := by rw [decide_eq_false_iff_not]; omega
  have f := h.for_le (a := (a : Int)) (b := (b : Int)) (by omega)
  have tt := h.tre_le
  have tp := h.tre_pos
  have mw : (x.2.2 * forZ L m (a : Int) (b : Int)).natAbs ≤ 1000 * 10497600000000 := mul_bd (by omega) (by omega)
  have w1 : wr (x.2.2 * forZ L m (a : Int) (b : Int)) = x.2.2 * forZ L m (a : Int) (b : Int) := wr_id (by omega) (by omega)
  have ix := mem_wo.2 (show 0 ≤ x.1 ∧ x.1 < (m : Int) ∧ x.1 ∉ ([] : List Int) from ⟨hi.1, by omega, by simp⟩)
  have iy := mem_wo.2 (show 0 ≤ x.2.1 ∧ x.2.1 < (m : Int) ∧ x.2.1 ∉ ([] : List Int) from ⟨by omega, hi.2.2, by simp⟩)
  have LQ := lq_flt h hx (u := 0) (by omega) (by omega)
  simp only [getI_nat, hx, ha, hb, h.p_Cut hx, j1, t1, t3, j2.p_Tree, j3, w1, Option.bind_some, Bool.not_true, cond_false]
  have fin : decide (forZ L m (a : Int) (b : Int) = forZ L m (a : Int) (b : Int)) = true := by simp
  by_cases hq : netok (fltN n i x 0) = true
  · rw [if_pos hq]
    obtain ⟨m', L', h'⟩ := lk_of _ (fltN_sm2 hn hx (u := 0) (by omega) (by omega)).2 hq
    obtain ⟨em, up⟩ := upd_of h hx h'
    subst em
    have ut := upd_tree hm5 up ix iy (by omega)
    rw [ha, hb] at ut
    have t' := h'.tre_le
    have t'' := h'.tre_pos
    have es : x.2.2 * forZ L m' (a : Int) (b : Int) + treZ L' m' = treZ L m' := by
      have e : (0 - x.2.2) * forZ L m' (a : Int) (b : Int) = -(x.2.2 * forZ L m' (a : Int) (b : Int)) := by grind
      omega
    have w2 : wr (treZ L m') = treZ L m' := wr_id (by omega) (by omega)
    simp only [cond_true, h'.p_Tree, h.lp, h.p_Minor, h.p_Tree, es, w2, Option.bind_some, decide_true, p_WeightAt n hn h.hw, h.p_For (a := (a : Int)) (b := (b : Int)) (by omega) (by omega)]
  · rw [if_neg hq]
    -- it fell apart
    have nrc : ∃ v : Int, 0 ≤ v ∧ v < m ∧ ¬ Rc (fltN n i x 0).2.2.2 v := by
      apply Classical.byContradiction
      intro hno
      refine hq (netok_of (m := m) h.hm h.m1 hm5 (by have := hd.e2; show 1 ≤ n.2.1; omega) hd.en h.sc.1 h.sc.2 ⟨LQ.srt, LQ.inw, LQ.hw⟩ fun v h0 h1 => ?_)
      apply Classical.byContradiction
      intro hr
      have h1 : v < n.1 := h1
      exact hno ⟨v, h0, by omega, hr⟩
    obtain ⟨v, v0, v1, v2⟩ := nrc
    have z := LQ.zero hm5 v0 v1 v2
    have ut := upd_tree hm5 (updq_of h hx LQ) ix iy (by omega)
    rw [ha, hb, z] at ut
    have es : x.2.2 * forZ L m (a : Int) (b : Int) = treZ L m := by
      have e : (0 - x.2.2) * forZ L m (a : Int) (b : Int) = -(x.2.2 * forZ L m (a : Int) (b : Int)) := by grind
      omega
    simp only [cond_false, h.lp, h.p_Minor, h.p_Tree, es, Option.bind_some, decide_true, cond_true, p_WeightAt n hn h.hw, h.p_For (a := (a : Int)) (b := (b : Int)) (by omega) (by omega)]

end Go.Sx.R
namespace Go.Sx.R
open Go Go.Sx

def F1 (ws : List W3) (v : Nat) (s : Int) (l : List W3) (a b : Nat) : Int := if l.any (keyB (un v a : Int) (un v b : Int)) = true then wbt ws (un v a : Int) (un v b : Int) * s else 0
def F2 (ws : List W3) (v : Nat) (s : Int) (q : List Nat) (a b : Nat) : Int := wbt ws (un v a : Int) (un v b : Int) * s + if un v a ∈ q then wbt ws (v : Int) (un v a : Int) * wbt ws (v : Int) (un v b : Int) else 0
section
variable {ws : List W3} {m v : Nat} {s : Int}

end

end Go.Sx.R
namespace Go.Sx.R
open Go Go.Sx

abbrev Mat := List (List (Int × Int))
/-- An entry. -/
def en (m : Mat) (i j : Nat) : Int × Int := (((m[i]?).getD [])[j]?).getD (0, 0)
end Go.Sx.R
