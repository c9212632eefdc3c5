/- The law in plain words, part 2. Conditions: none. -/
import Derived.Test.YtgiiolidgiglaaaLawa
namespace Go.Sx.R
open Go Go.Sx

theorem p_Can (n : TNet) (h0 : Sm.sm B0 n) (hok : netok n = true) {w : Int} (hw0 : 0 ≤ w) (hw1 : w < n.2.2.2.length) : e_impl_CanLocate (n, w, ()) = some (canV n (respV n) (fltsV n) w) := by
  have hn : Sm.sm B1 n := up_net B01 h0
  have d1 : decide (w ≥ 0) = true := by rw [decide_eq_true_eq]; omega
  have d2 : decide (w < (n.2.2.2.length : Int)) = true := by rw [decide_eq_true_eq]; omega
  obtain ⟨q1, _, _⟩ := p_Resp n hn
  obtain ⟨l1, _, l3, _⟩ := p_AllF n h0 hok
  generalize fltsV n = l at l1 l3
  have hll : l.length ≤ 1073741824 := l3.1
  simp only [e_impl_CanLocate, r_impl_CanLocate, p_NetOk n hn, hok, Option.bind_some, Bool.not_true, cond_false, e_impl_isWire, r_impl_isWire, d1, d2, cond_true, q1, l1]
  refine iter_rule (R := Bool) (fun o => o = some (canV n (respV n) l w)) l (fun (own : Int) i => (w, n, (respV n), own, l, l, (l.length : Int), i, ())) (fun i own => 0 ≤ own ∧ own ≤ i ∧ (0 < own ↔ ∃ f ∈ l.take i, f.1 = w) ∧ ∀ f ∈ l.take i, ¬ Bad n (respV n) l w f) (fun own i f kc ⟨p1, p2, p3, p4⟩ hf hi hk => ?_) (fun own kc ⟨p1, p2, p3, p4⟩ => ?_) (N := N0) (by have := N0_big; omega) 0 ⟨by omega, by omega, by simp, by simp⟩
  · have hfm := List.mem_of_getElem? hf
    obtain ⟨a1, _, a3⟩ := aft_both n hn f
    simp only [r_impl_CanLocate_L0, lt_len, hi, decide_true, cond_true, getI_nat, hf, Option.bind_some, wr_succ hi (show l.length ≤ 9223372036854775807 by omega)]
    by_cases c1 : f.1 = w
    · have wo : wr (own + 1) = own + 1 := wr_id (by omega) (by omega)
      simp only [c1, decide_true, Bool.not_true, cond_false, a1, Option.bind_some, p_Same _ (respV n) a3, wo]
      by_cases c2 : aftV n f = (respV n)
      · have hb : Bad n (respV n) l w f := ⟨c1, .inl c2⟩
        simp only [c2, decide_true, cond_true, canV_false hfm hb]
      · simp only [c2, decide_false, cond_false]
        refine iter_rule (R := Bool) (fun o => o = some (canV n (respV n) l w)) l (fun (_ : Unit) j => (w, n, (respV n), own + 1, l, aftV n f, l, (l.length : Int), (i : Int), l, (l.length : Int), j, ())) (fun j _ => ∀ x ∈ l.take j, ¬ (x.1 ≠ w ∧ aftV n f = aftV n x)) (fun st j x kc2 hq hx hj hk2 => ?_) (fun st kc2 hq => ?_) (N := N0) (by have := N0_big; omega) () (by simp)
        · obtain ⟨b1, _, _⟩ := aft_both n hn x
          have hxm := List.mem_of_getElem? hx
          simp only [r_impl_CanLocate_L2, lt_len, hj, decide_true, cond_true, getI_nat, hx, Option.bind_some, wr_succ hj (show l.length ≤ 9223372036854775807 by omega)]
          by_cases e1 : x.1 = w
          · simp only [e1, decide_true, Bool.not_true, cond_false]
            refine hk2 () fun y hy => ?_
            rcases (mem_take_succ hx y).1 hy with hy | rfl
            · exact hq y hy
            · exact fun h => h.1 e1
          · simp only [e1, decide_false, Bool.not_false, cond_true, b1, Option.bind_some, p_Same _ (aftV n x) a3]
            by_cases e2 : aftV n f = aftV n x
            · have hb : Bad n (respV n) l w f := ⟨c1, .inr ⟨x, hxm, e1, e2⟩⟩
              simp only [e2, decide_true, cond_true, canV_false hfm hb]
            · simp only [e2, decide_false, cond_false]
              refine hk2 () fun y hy => ?_
              rcases (mem_take_succ hx y).1 hy with hy | rfl
              · exact hq y hy
              · exact fun h => e2 h.2
        · rw [List.take_length] at hq
          simp only [r_impl_CanLocate_L2, not_lt_self, cond_false, wr_succ hi (show l.length ≤ 9223372036854775807 by omega)]
          refine hk (own + 1) ⟨by omega, by omega, ⟨fun _ => ⟨f, (mem_take_succ hf f).2 (.inr rfl), c1⟩, fun _ => by omega⟩, fun y hy => ?_⟩
          rcases (mem_take_succ hf y).1 hy with hy | rfl
          · exact p4 y hy
          · rintro ⟨_, h | ⟨x, hx, h⟩⟩
            · exact c2 h
            · exact hq x hx h
    · simp only [c1, decide_false, Bool.not_false, cond_true]
      refine hk own ⟨p1, by omega, ⟨fun h => ?_, fun h => ?_⟩, fun y hy => ?_⟩
      · obtain ⟨y, hy, e⟩ := p3.1 h
        exact ⟨y, (mem_take_succ hf y).2 (.inl hy), e⟩
      · obtain ⟨y, hy, e⟩ := h
        rcases (mem_take_succ hf y).1 hy with hy | rfl
        · exact p3.2 ⟨y, hy, e⟩
        · exact absurd e c1
      · rcases (mem_take_succ hf y).1 hy with hy | rfl
        · exact p4 y hy
        · exact fun h => c1 h.1
  · rw [List.take_length] at p3 p4
    simp only [r_impl_CanLocate_L0, not_lt_self, cond_false, Option.some.injEq]
    rw [Bool.eq_iff_iff]
    simp only [canV, decide_eq_true_eq]
    exact ⟨fun h => ⟨p3.1 h, p4⟩, fun h => p3.2 h.1⟩

theorem wok_set {m : Nat} {K : Int} {ws : List W3} (h : Wok m K ws) {i : Nat} {x : W3} (hx : ws[i]? = some x) {u : Int} (hu : 1 ≤ u ∧ u ≤ K) : Wok m K (ws.set i (x.1, x.2.1, u)) ∧ (∀ e ∈ ws, ∃ e' ∈ ws.set i (x.1, x.2.1, u), e'.1 = e.1 ∧ e'.2.1 = e.2.1) := by
  have hil := (List.getElem?_eq_some_iff.1 hx).1
  have hxe : ws[i] = x := by rw [List.getElem?_eq_getElem hil] at hx; simpa using hx
  have keys : ∀ (j : Nat) (hj : j < (ws.set i (x.1, x.2.1, u)).length), (ws.set i (x.1, x.2.1, u))[j].1 = (ws[j]'(by simpa using hj)).1 ∧ (ws.set i (x.1, x.2.1, u))[j].2.1 = (ws[j]'(by simpa using hj)).2.1 := by
    intro j hj
    rw [List.getElem_set]
    split
    · rename_i e; subst e; simp [hxe]
    · exact ⟨rfl, rfl⟩
  refine ⟨⟨?_, fun e he => ?_, fun e he => ?_⟩, fun e he => ?_⟩
  · refine List.pairwise_iff_getElem.2 fun a b ha hb hab => ?_
    have hs := List.pairwise_iff_getElem.1 h.srt a b (by simpa using ha) (by simpa using hb) hab
    rw [lex_iff] at hs ⊢
    rw [(keys a ha).1, (keys b hb).1, (keys a ha).2, (keys b hb).2]
    exact hs
  · rcases List.mem_or_eq_of_mem_set he with h' | rfl
    · exact h.inw e h'
    · exact h.inw x (List.mem_of_getElem? hx)
  · rcases List.mem_or_eq_of_mem_set he with h' | rfl
    · exact h.w e h'
    · exact hu
  · obtain ⟨j, hj, rfl⟩ := List.getElem_of_mem he
    have hj' : j < (ws.set i (x.1, x.2.1, u)).length := by simpa using hj
    exact ⟨_, List.getElem_mem hj', (keys j hj').1, (keys j hj').2⟩

theorem filter_pos {ws : List W3} (h : ∀ e ∈ ws, 1 ≤ e.2.2) : (ws.filter fun x => !decide (x.2.2 = 0)) = ws := by
  rw [List.filter_eq_self]
  intro e he
  have := h e he
  have d : decide (e.2.2 = 0) = false := by rw [decide_eq_false_iff_not]; omega
  rw [d]; rfl

/-- A fault that leaves its wire there can be applied. -/
theorem flt_pos {most K : Int} {n : TNet} (h : Drawn most K n) (h5 : most ≤ 5) (hK : K ≤ 200) {i : Nat} {x : W3} (hx : n.2.2.2[i]? = some x) {u : Int} (h0 : 1 ≤ u) (h1 : u ≤ 12) (hne : u ≠ x.2.2) : (fltV n ((i : Int), u)).2 = true := by
  obtain ⟨hok, hsm⟩ := h.ok h5 hK
  have hn : Sm.sm B1 n := up_net B01 hsm
  rw [flt_at n hn hok hx (by omega) h1 hne]
  have a := h.n2
  have b := h.most
  have c := h.e2
  have d := h.en
  have e := h.s1
  have f := h.s3
  obtain ⟨w1, w2⟩ := wok_set (h.wok.up hK) hx (u := u) ⟨h0, by omega⟩
  have hf : fltN n i x u = (n.1, n.2.1, n.2.2.1, n.2.2.2.set i (x.1, x.2.1, u)) := by
    simp only [fltN]
    rw [filter_pos fun e he => (w1.w e he).1]
  have : netok (fltN n i x u) = true := by
    rw [hf]
    refine netok_of (m := n.1.toNat) (by show n.1 = _; omega) (by omega) (by omega) (by show 1 ≤ n.2.1; omega) d e (by show n.2.2.1 ≤ 1000; omega) w1 fun v h0 h1 => ?_
    exact (h.con v h0 h1).mono w2
  rw [if_pos this]

theorem pair_ne {x y : Int × Int} : (intEq x.1 y.1 && intEq x.2 y.2) = decide (x = y) := ratio_ne

end Go.Sx.R
namespace Go.Sx.R
open Go Go.Sx

theorem wbt_comm (ws : List W3) (a b : Int) : wbt ws a b = wbt ws b a := by
  by_cases h : a = b
  · rw [h]
  · have e : isW a b = isW b a := by
      funext x
      have e1 : (if b < a then b else a) = (if a < b then a else b) := by split <;> split <;> omega
      have e2 : (if b > a then b else a) = (if a > b then a else b) := by split <;> split <;> omega
      simp only [isW, e1, e2]
    simp only [wbt, e, h, if_false, Ne.symm h]

theorem netok_rc {n : TNet} (h : netok n = true) {v : Int} (h0 : 0 ≤ v) (h1 : v < n.1) : Rc n.2.2.2 v := by
  revert h
  simp only [netok, Bool.and_eq_true]
  intro h
  have := h.2
  simp only [conn, decide_eq_true_eq] at this
  exact this v h0 h1

end Go.Sx.R
namespace Go.Sx.R
open Go Go.Sx

def sg : Nat → Int
  | 0 => 1
  | n + 1 => - sg n

end Go.Sx.R
namespace Go.Sx.R
open Go Go.Sx

theorem map_sum_add {β : Type} (f g : β → Int) : ∀ (l : List β), (l.map fun c => f c + g c).sum = (l.map f).sum + (l.map g).sum
  | [] => rfl
  | x :: l => by simp only [List.map_cons, List.sum_cons, map_sum_add f g l]; omega

theorem sum_at (o w : Int) : ∀ (l : List Int), l.Nodup → ((l.map fun c => if c = o then w else 0).sum = if o ∈ l then w else 0)
  | [], _ => rfl
  | x :: l, h => by
    obtain ⟨h1, h2⟩ := List.nodup_cons.1 h
    simp only [List.map_cons, List.sum_cons, sum_at o w l h2, List.mem_cons]
    by_cases e : x = o
    · subst e; simp [h1]
    · have : ¬ o = x := fun h => e h.symm
      simp [e, this]

theorem wbt_cons (e : W3) (ws : List W3) (a c : Int) : wbt (e :: ws) a c = if a = c then 0 else if isW a c e = true then e.2.2 else wbt ws a c := by
  unfold wbt
  by_cases h : a = c
  · rw [if_pos h, if_pos h]
  · rw [if_neg h, if_neg h, if_neg h, List.find?_cons]
    cases isW a c e <;> rfl

theorem wbt_sum (a : Int) (l : List Int) (hl : l.Nodup) : ∀ (ws : List W3), Srt ws → (∀ e ∈ ws, e.1 < e.2.1) → (∀ e ∈ ws, e.1 ∈ l ∧ e.2.1 ∈ l) → (l.map fun c => wbt ws a c).sum = wAt ws a
  | [], _, _, _ => by
    have : ∀ c, wbt [] a c = 0 := fun c => by unfold wbt; split <;> rfl
    simp only [this, wAt, List.map_nil, List.sum_nil]
    induction l with
    | nil => rfl
    | cons x l ih => simpa using ih (List.nodup_cons.1 hl).2
  | e :: ws, hs, hi, hm => by
    obtain ⟨s1, s2⟩ := List.pairwise_cons.1 hs
    have ih := wbt_sum a l hl ws s2 (fun e he => hi e (List.mem_cons_of_mem _ he)) (fun e he => hm e (List.mem_cons_of_mem _ he))
    have he := hi e List.mem_cons_self
    have hme := hm e List.mem_cons_self
    have hw : wAt (e :: ws) a = touch a e + wAt ws a := by simp [wAt]
    rw [hw]
    by_cases t : e.1 = a ∨ e.2.1 = a
    · have ht : touch a e = e.2.2 := by simp [touch, t]
      -- the other end
      obtain ⟨o, ho, hol, hoa⟩ : ∃ o, (∀ c, (isW a c e = true) ↔ c = o) ∧ o ∈ l ∧ a ≠ o := by
        rcases t with t | t
        · refine ⟨e.2.1, fun c => ?_, hme.2, by omega⟩
          simp only [isW, Bool.or_eq_true, Bool.and_eq_true, decide_eq_true_eq]; omega
        · refine ⟨e.1, fun c => ?_, hme.1, by omega⟩
          simp only [isW, Bool.or_eq_true, Bool.and_eq_true, decide_eq_true_eq]; omega
      have h0 : wbt ws a o = 0 := by
        unfold wbt
        rw [if_neg hoa]
        split
        · rename_i x hx
          exfalso
          have h1 := List.find?_some hx
          have h2 := s1 x (List.mem_of_find?_eq_some hx)
          have h3 := (ho o).2 rfl
          have h4 := hi x (List.mem_cons_of_mem _ (List.mem_of_find?_eq_some hx))
          simp only [isW, Bool.or_eq_true, Bool.and_eq_true, decide_eq_true_eq] at h1 h3
          simp only [lex, Bool.or_eq_true, Bool.and_eq_true, decide_eq_true_eq] at h2
          omega
        · rfl
      have hc : ∀ c, wbt (e :: ws) a c = wbt ws a c + if c = o then e.2.2 else 0 := fun c => by
        rw [wbt_cons]
        by_cases ac : a = c
        · subst ac
          have : wbt ws a a = 0 := by unfold wbt; rw [if_pos rfl]
          rw [if_pos rfl, this, if_neg hoa]; rfl
        · rw [if_neg ac]
          by_cases co : c = o
          · rw [if_pos ((ho c).2 co), if_pos co, co, h0]; omega
          · rw [if_neg (fun h => co ((ho c).1 h)), if_neg co]; omega
      simp only [hc, map_sum_add, ih, sum_at o e.2.2 l hl, if_pos hol, ht]
      omega
    · have ht : touch a e = 0 := by simp [touch, t]
      have hc : ∀ c, wbt (e :: ws) a c = wbt ws a c := fun c => by
        rw [wbt_cons]
        by_cases ac : a = c
        · subst ac
          have : wbt ws a a = 0 := by unfold wbt; rw [if_pos rfl]
          rw [if_pos rfl, this]
        · rw [if_neg ac, if_neg]
          simp only [isW, Bool.or_eq_true, Bool.and_eq_true, decide_eq_true_eq]; omega
      simp only [hc, ih, ht]
      omega

theorem lap_zero {ws : List W3} {m : Nat} (hs : Srt ws) (hin : InW m ws) {L : List (List Int)} (h : IsTab L m (lapF ws)) {cols : List Int} (hn : cols.Nodup) (hc : ∀ c, c ∈ cols ↔ 0 ≤ c ∧ c < m) {r : Int} (hr : 0 ≤ r ∧ r < m) : (cols.map fun c => at2 L r c).sum = 0 := by
  obtain ⟨i, rfl⟩ : ∃ i : Nat, r = i := ⟨r.toNat, by omega⟩
  have e : cols.map (fun c => at2 L (i : Int) c) = cols.map fun c => (if c = (i : Int) then wAt ws (i : Int) else 0) + -(wbt ws (i : Int) c) := by
    refine List.map_congr_left fun c hcm => ?_
    have hcc := (hc c).1 hcm
    obtain ⟨j, rfl⟩ : ∃ j : Nat, c = j := ⟨c.toNat, by omega⟩
    rw [tab_at2 h (by omega) (by omega), lapF]
    by_cases ij : i = j
    · subst ij
      have : wbt ws (i : Int) (i : Int) = 0 := by unfold wbt; rw [if_pos rfl]
      rw [if_pos rfl, if_pos rfl, this]; omega
    · rw [if_neg ij, if_neg (by omega)]; omega
  have neg : ∀ (l : List Int), (l.map fun c => -(wbt ws (i : Int) c)).sum = -(l.map fun c => wbt ws (i : Int) c).sum := by
    intro l
    induction l with
    | nil => rfl
    | cons x l ih => simp only [List.map_cons, List.sum_cons, ih]; omega
  rw [e, map_sum_add, sum_at _ _ _ hn, if_pos ((hc (i : Int)).2 ⟨by omega, hr.2⟩), neg, wbt_sum (i : Int) cols hn ws hs (fun e he => (hin e he).2.1) (fun e he => ⟨(hc _).2 (by have := hin e he; omega), (hc _).2 (by have := hin e he; omega)⟩)]
  omega

end Go.Sx.R
namespace Go.Sx.R
open Go Go.Sx

theorem wo_all (m : Nat) (l : List Int) : ∀ c : Int, 0 ≤ c → c < m → c ∉ l → c ∈ wo m l := by
  have := foldI_ind (β := Nat) (fun i (q : List Int) => ∀ c : Int, 0 ≤ c → c < i → c ∉ l → c ∈ q) (woG l) (fun s i x h c h0 h1 h2 => by
    simp only [woG]
    by_cases hi : c = i
    · subst hi; rw [if_neg h2]; simp
    · have := h c h0 (by omega) h2
      split
      · exact this
      · simp [this]) (List.range m) 0 [] (by intro c h0 h1; omega)
  simpa [wo] using this

theorem mem_wo {m : Nat} {l : List Int} {c : Int} : c ∈ wo m l ↔ 0 ≤ c ∧ c < m ∧ c ∉ l :=
  ⟨fun h => (wo_facts' m l).2.1 c h, fun h => wo_all m l c h.1 h.2.1 h.2.2⟩

theorem wo_nd (m : Nat) (l : List Int) : (wo m l).Nodup := (wo_facts' m l).2.2

theorem perm_of {l l' : List Int} (h : l.Nodup) (h' : l'.Nodup) (he : ∀ c, c ∈ l ↔ c ∈ l') : l.Perm l' :=
  (List.perm_ext_iff_of_nodup h h').2 he

theorem wo_cons {m : Nat} {x : Int} {l : List Int} (h0 : 0 ≤ x) (h1 : x < m) (hx : x ∉ l) : (wo m l).Perm (x :: wo m (x :: l)) := by
  refine perm_of (wo_nd _ _) (List.nodup_cons.2 ⟨fun h => (mem_wo.1 h).2.2 (by simp), wo_nd _ _⟩) fun c => ?_
  simp only [mem_wo, List.mem_cons, not_or]
  by_cases hc : c = x
  · subst hc; simp [h0, h1, hx]
  · simp [hc]

section
variable {n : TNet} {m : Nat} {L : List (List Int)}

theorem Lk.a2 (h : Lk n m L) {i j : Int} (hi : 0 ≤ i ∧ i < m) (hj : 0 ≤ j ∧ j < m) : at2 L i j = if i = j then wAt n.2.2.2 i else -wbt n.2.2.2 i j := by
  obtain ⟨a, rfl⟩ : ∃ a : Nat, i = a := ⟨i.toNat, by omega⟩
  obtain ⟨b, rfl⟩ : ∃ b : Nat, j = b := ⟨j.toNat, by omega⟩
  rw [tab_at2 h.tab (by omega) (by omega), lapF]
  by_cases e : a = b
  · subst e; rw [if_pos rfl, if_pos rfl]
  · rw [if_neg e, if_neg (by omega)]

theorem Lk.lapZ (h : Lk n m L) : LapZ L (wo m []) where
  sym x hx y hy := by
    have hx := mem_wo.1 hx
    have hy := mem_wo.1 hy
    rw [h.a2 ⟨hx.1, hx.2.1⟩ ⟨hy.1, hy.2.1⟩, h.a2 ⟨hy.1, hy.2.1⟩ ⟨hx.1, hx.2.1⟩]
    by_cases e : x = y
    · subst e; rfl
    · rw [if_neg e, if_neg (Ne.symm e), wbt_comm]
  off x hx y hy hxy := by
    have hx := mem_wo.1 hx
    have hy := mem_wo.1 hy
    rw [h.a2 ⟨hx.1, hx.2.1⟩ ⟨hy.1, hy.2.1⟩, if_neg hxy]
    have := wbt_bd h.hw x y
    omega
  sum x hx := by
    have hx := mem_wo.1 hx
    exact lap_zero h.srt h.inw h.tab (wo_nd m []) (fun c => by simp [mem_wo]) ⟨hx.1, hx.2.1⟩
  nd := wo_nd m []

theorem Lk.wire (h : Lk n m L) {e : W3} (he : e ∈ n.2.2.2) : at2 L e.1 e.2.1 ≤ -1 ∧ at2 L e.2.1 e.1 ≤ -1 := by
  have hi := h.inw e he
  have hw := h.hw e he
  have hb : wbt n.2.2.2 e.1 e.2.1 = e.2.2 := (wbt_mem h.srt hi.2.1 (by omega)).2 he
  have hb' : wbt n.2.2.2 e.2.1 e.1 = e.2.2 := by rw [wbt_comm]; exact hb
  rw [h.a2 (by omega) (by omega), h.a2 (by omega) (by omega), if_neg (by omega), if_neg (by omega), hb, hb']
  omega

theorem rc_side {ws : List W3} {l : List Int} (h : ∀ e ∈ ws, (e.1 ∈ l ↔ e.2.1 ∈ l)) : ∀ v, Rc ws v → (v ∈ l ↔ (0 : Int) ∈ l) := by
  intro v hv
  induction hv with
  | zero => exact Iff.rfl
  | ab he _ ih => exact (h _ he).symm.trans ih
  | ba he _ ih => exact (h _ he).trans ih

theorem Lk.hang (h : Lk n m L) : Hang L (wo m []) := by
  intro l hl hs ⟨y, hy, hyl⟩
  apply Classical.byContradiction
  intro hno
  have side : ∀ e ∈ n.2.2.2, (e.1 ∈ l ↔ e.2.1 ∈ l) := by
    intro e he
    have hi := h.inw e he
    have hw := h.wire he
    constructor
    · intro h1
      apply Classical.byContradiction
      intro h2
      exact hno ⟨_, h1, _, mem_wo.2 ⟨by omega, hi.2.2, by simp⟩, h2, hw.1⟩
    · intro h1
      apply Classical.byContradiction
      intro h2
      exact hno ⟨_, h1, _, mem_wo.2 ⟨hi.1, by omega, by simp⟩, h2, hw.2⟩
  have all : ∀ v, 0 ≤ v → v < n.1 → (v ∈ l ↔ (0 : Int) ∈ l) := fun v h0 h1 => rc_side side v (netok_rc h.ok h0 h1)
  have hm := h.hm
  obtain ⟨x, hx⟩ := List.exists_mem_of_ne_nil l hl
  have hx' := mem_wo.1 (hs x hx)
  have hy' := mem_wo.1 hy
  exact hyl ((all y hy'.1 (by omega)).2 ((all x hx'.1 (by omega)).1 hx))

end

/-- A ratio in lowest terms. -/
def ratZ (a b : Int) : Int × Int := (Int.tdiv a (Nat.gcd a.natAbs b.natAbs : Nat), Int.tdiv b (Nat.gcd a.natAbs b.natAbs : Nat))

theorem ratZ_spec {a b : Int} (hb : 1 ≤ b) : ∃ g : Nat, 1 ≤ g ∧ a = (ratZ a b).1 * g ∧ b = (ratZ a b).2 * g ∧ 1 ≤ (ratZ a b).2 ∧ Nat.gcd (ratZ a b).1.natAbs (ratZ a b).2.natAbs = 1 := by
  have hg : 0 < Nat.gcd a.natAbs b.natAbs := Nat.gcd_pos_of_pos_right _ (by omega)
  have d1 : ((Nat.gcd a.natAbs b.natAbs : Nat) : Int) ∣ a := Int.ofNat_dvd_left.2 (Nat.gcd_dvd_left _ _)
  have d2 : ((Nat.gcd a.natAbs b.natAbs : Nat) : Int) ∣ b := Int.ofNat_dvd_left.2 (Nat.gcd_dvd_right _ _)
  have e1 : a = (ratZ a b).1 * (Nat.gcd a.natAbs b.natAbs : Nat) := (Int.tdiv_mul_cancel d1).symm
  have e2 : b = (ratZ a b).2 * (Nat.gcd a.natAbs b.natAbs : Nat) := (Int.tdiv_mul_cancel d2).symm
  have p2 : 1 ≤ (ratZ a b).2 := by
    apply Classical.byContradiction
    intro hn
    have : (ratZ a b).2 * ((Nat.gcd a.natAbs b.natAbs : Nat) : Int) ≤ 0 := Int.mul_nonpos_of_nonpos_of_nonneg (by omega) (by omega)
    omega
  refine ⟨_, hg, e1, e2, p2, ?_⟩
  have a1 : (ratZ a b).1.natAbs = a.natAbs / Nat.gcd a.natAbs b.natAbs := by
    show (Int.tdiv a _).natAbs = _
    rw [Int.natAbs_tdiv]; rfl
  have a2 : (ratZ a b).2.natAbs = b.natAbs / Nat.gcd a.natAbs b.natAbs := by
    show (Int.tdiv b _).natAbs = _
    rw [Int.natAbs_tdiv]; rfl
  rw [a1, a2, Nat.gcd_div (Nat.gcd_dvd_left _ _) (Nat.gcd_dvd_right _ _), Nat.div_self hg]

/-- Two ratios are alike when their cross products are. -/
theorem ratZ_eq {a b c d : Int} (hb : 1 ≤ b) (hd : 1 ≤ d) : ratZ a b = ratZ c d ↔ a * d = c * b := by
  obtain ⟨g, hg, e1, e2, e3, e4⟩ := ratZ_spec (a := a) hb
  obtain ⟨k, hk, f1, f2, f3, f4⟩ := ratZ_spec (a := c) hd
  constructor
  · intro h
    rw [← h] at f1 f2
    generalize (ratZ a b).1 = p at *
    generalize (ratZ a b).2 = q at *
    rw [e1, e2, f1, f2]; grind
  · intro h
    have hx : (ratZ a b).1 * (ratZ c d).2 = (ratZ c d).1 * (ratZ a b).2 := by
      have hh : ((ratZ a b).1 * (ratZ c d).2) * ((g : Int) * k) = ((ratZ c d).1 * (ratZ a b).2) * ((g : Int) * k) := by
        generalize (ratZ a b).1 = p at *
        generalize (ratZ a b).2 = q at *
        generalize (ratZ c d).1 = r at *
        generalize (ratZ c d).2 = s at *
        rw [e1, e2, f1, f2] at h; grind
      exact Int.eq_of_mul_eq_mul_right (by
        have : (0 : Int) < (g : Int) * k := Int.mul_pos (by omega) (by omega)
        omega) hh
    generalize hp : (ratZ a b).1 = p at *
    generalize hq : (ratZ a b).2 = q at *
    generalize hr : (ratZ c d).1 = r at *
    generalize hs : (ratZ c d).2 = s at *
    have hn : p.natAbs * s.natAbs = r.natAbs * q.natAbs := by
      have := congrArg Int.natAbs hx
      rwa [Int.natAbs_mul, Int.natAbs_mul] at this
    have d1 : q.natAbs ∣ s.natAbs := by
      have : q.natAbs ∣ p.natAbs * s.natAbs := ⟨r.natAbs, by rw [hn, Nat.mul_comm]⟩
      exact Nat.Coprime.dvd_of_dvd_mul_left (Nat.Coprime.symm e4) this
    have d2 : s.natAbs ∣ q.natAbs := by
      have : s.natAbs ∣ r.natAbs * q.natAbs := ⟨p.natAbs, by rw [← hn, Nat.mul_comm]⟩
      exact Nat.Coprime.dvd_of_dvd_mul_left (Nat.Coprime.symm f4) this
    have hqs : q = s := by have := Nat.dvd_antisymm d1 d2; omega
    have hpr : p = r := by
      subst hqs
      exact Int.eq_of_mul_eq_mul_right (by omega) hx
    exact Prod.ext (by rw [hp, hr, hpr]) (by rw [hq, hs, hqs])

theorem p_Ratio {a b : Int} (ha : a.natAbs ≤ 1000000000000000000) (hb : 1 ≤ b) (hb2 : b ≤ 1000000000000000) : e_impl_RatioOf (a, b, ()) = some (ratZ a b) := by
  simp only [e_impl_RatioOf, r_impl_RatioOf, p_sizeI a (by omega) (by omega), p_sizeI b (by omega) (by omega), p_common a.natAbs b.natAbs (by omega), Option.bind_some]
  have hg : 0 < Nat.gcd a.natAbs b.natAbs := Nat.gcd_pos_of_pos_right _ (by omega)
  have tn := tdiv_abs a (Nat.gcd a.natAbs b.natAbs)
  have td := tdiv_abs b (Nat.gcd a.natAbs b.natAbs)
  have la : a.natAbs / Nat.gcd a.natAbs b.natAbs ≤ a.natAbs := Nat.div_le_self _ _
  have lb : b.natAbs / Nat.gcd a.natAbs b.natAbs ≤ b.natAbs := Nat.div_le_self _ _
  have ta : Int.tdiv (a.natAbs : Int) ((Nat.gcd a.natAbs b.natAbs : Nat) : Int) = ((a.natAbs / Nat.gcd a.natAbs b.natAbs : Nat) : Int) := by rw [Int.tdiv_eq_ediv_of_nonneg (by omega)]; simp
  have tb : Int.tdiv (b.natAbs : Int) ((Nat.gcd a.natAbs b.natAbs : Nat) : Int) = ((b.natAbs / Nat.gcd a.natAbs b.natAbs : Nat) : Int) := by rw [Int.tdiv_eq_ediv_of_nonneg (by omega)]; simp
  rw [ta, tb]
  unfold ratZ
  rw [td.1 (by omega)]
  generalize hG : Nat.gcd a.natAbs b.natAbs = g at *
  generalize hP : a.natAbs / g = p at *
  generalize hQ : b.natAbs / g = q at *
  have d1 : decide (b = 0) = false := by rw [decide_eq_false_iff_not]; omega
  have d2 : decide ((g : Int) = 0) = false := by rw [decide_eq_false_iff_not]; omega
  have ua : Go.IntKind.wrap Go.IntKind.u64 ((p : Nat) : Int) = ((p : Nat) : Int) := u64_id (by omega) (by omega)
  have ub : Go.IntKind.wrap Go.IntKind.u64 ((q : Nat) : Int) = ((q : Nat) : Int) := u64_id (by omega) (by omega)
  have wa : wr ((p : Nat) : Int) = ((p : Nat) : Int) := wr_id (by omega) (by omega)
  have wb : wr ((q : Nat) : Int) = ((q : Nat) : Int) := wr_id (by omega) (by omega)
  have wn : wr (0 - ((p : Nat) : Int)) = -((p : Nat) : Int) := by rw [wr_id (by omega) (by omega)]; omega
  have k1 : decide ((p : Int) > 1000000000000000000) = false := by rw [decide_eq_false_iff_not]; omega
  have k2 : decide ((q : Int) > 1000000000000000) = false := by rw [decide_eq_false_iff_not]; omega
  have sb : decide (b < 0) = false := by rw [decide_eq_false_iff_not]; omega
  simp only [d1, d2, cond_false, ua, ub, wa, wb, wn, k1, k2, sb]
  by_cases sa : a < 0
  · simp only [sa, decide_true, beqB, Bool.not_false, cond_true, tn.2 sa]
  · simp only [sa, decide_false, beqB_self, Bool.not_true, cond_false, tn.1 (by omega)]

end Go.Sx.R
namespace Go.Sx.R
open Go Go.Sx

/-- Two Laplacians that differ in one weight. -/
structure Upd (M M' : List (List Int)) (V : List Int) (i j t : Int) : Prop where
  l : LapZ M V
  l' : LapZ M' V
  ii : at2 M' i i = at2 M i i + t
  jj : at2 M' j j = at2 M j j + t
  ij : at2 M' i j = at2 M i j - t
  same : ∀ x ∈ V, ∀ y ∈ V, ¬ (x = i ∧ y = j) → ¬ (x = j ∧ y = i) → ¬ (x = i ∧ y = i) → ¬ (x = j ∧ y = j) → at2 M' x y = at2 M x y

end Go.Sx.R
namespace Go.Sx.R
open Go Go.Sx

theorem sum_set {β : Type} (f : β → Int) : ∀ (ws : List β) (i : Nat) (x y : β), ws[i]? = some x → ((ws.set i y).map f).sum = (ws.map f).sum - f x + f y
  | [], _, _, _, h => by simp at h
  | w :: ws, 0, x, y, h => by
    simp at h; subst h
    simp only [List.set_cons_zero, List.map_cons, List.sum_cons]; omega
  | w :: ws, i + 1, x, y, h => by
    simp at h
    have := sum_set f ws i x y h
    simp only [List.set_cons_succ, List.map_cons, List.sum_cons, this]; omega

theorem sum_drop0 (v : Int) : ∀ ws : List W3, ((ws.filter fun e => !decide (e.2.2 = 0)).map (touch v)).sum = (ws.map (touch v)).sum
  | [] => rfl
  | w :: ws => by
    by_cases h : w.2.2 = 0
    · have : touch v w = 0 := by simp only [touch, h]; split <;> rfl
      rw [List.filter_cons_of_neg (by simp [h])]
      simp only [List.map_cons, List.sum_cons, this, sum_drop0 v ws]; omega
    · rw [List.filter_cons_of_pos (by simp [h])]
      simp only [List.map_cons, List.sum_cons, sum_drop0 v ws]

section
variable {n : TNet} {m m' : Nat} {L L' : List (List Int)} {i : Nat} {x : W3} {u : Int}

theorem mem_fltN (h : Lk n m L) (hx : n.2.2.2[i]? = some x) {e : W3} (hne : ¬ (e.1 = x.1 ∧ e.2.1 = x.2.1)) : e ∈ (fltN n i x u).2.2.2 ↔ e ∈ n.2.2.2 := by
  simp only [fltN, List.mem_filter, Bool.not_eq_true', decide_eq_false_iff_not]
  constructor
  · rintro ⟨h1, h2⟩
    rcases List.mem_or_eq_of_mem_set h1 with h1 | h1
    · exact h1
    · exact absurd (by rw [h1]; exact ⟨rfl, rfl⟩) hne
  · intro he
    obtain ⟨j, hj⟩ := List.getElem?_of_mem he
    have hij : i ≠ j := by
      rintro rfl
      rw [hx] at hj
      simp only [Option.some.injEq] at hj
      exact hne (by rw [hj]; exact ⟨rfl, rfl⟩)
    have := h.hw e he
    exact ⟨List.mem_of_getElem? (i := j) (by rw [List.getElem?_set_ne hij]; exact hj), by omega⟩

end
end Go.Sx.R
namespace Go.Sx.R
open Go Go.Sx

/-- Wires with their Laplacian. -/
structure Lq (ws : List W3) (m : Nat) (L : List (List Int)) : Prop where
  tab : IsTab L m (lapF ws)
  srt : Srt ws
  inw : InW m ws
  hw : ∀ e ∈ ws, 1 ≤ e.2.2 ∧ e.2.2 ≤ 200

section
variable {ws : List W3} {m : Nat} {L : List (List Int)}

theorem Lq.a2 (h : Lq ws m L) {i j : Int} (hi : 0 ≤ i ∧ i < m) (hj : 0 ≤ j ∧ j < m) : at2 L i j = if i = j then wAt ws i else -wbt ws i j := by
  obtain ⟨a, rfl⟩ : ∃ a : Nat, i = a := ⟨i.toNat, by omega⟩
  obtain ⟨b, rfl⟩ : ∃ b : Nat, j = b := ⟨j.toNat, by omega⟩
  rw [tab_at2 h.tab (by omega) (by omega), lapF]
  by_cases e : a = b
  · subst e; rw [if_pos rfl, if_pos rfl]
  · rw [if_neg e, if_neg (by omega)]

theorem Lq.lapZ (h : Lq ws m L) : LapZ L (wo m []) where
  sym x hx y hy := by
    have hx := mem_wo.1 hx
    have hy := mem_wo.1 hy
    rw [h.a2 ⟨hx.1, hx.2.1⟩ ⟨hy.1, hy.2.1⟩, h.a2 ⟨hy.1, hy.2.1⟩ ⟨hx.1, hx.2.1⟩]
    by_cases e : x = y
    · subst e; rfl
    · rw [if_neg e, if_neg (Ne.symm e), wbt_comm]
  off x hx y hy hxy := by
    have hx := mem_wo.1 hx
    have hy := mem_wo.1 hy
    rw [h.a2 ⟨hx.1, hx.2.1⟩ ⟨hy.1, hy.2.1⟩, if_neg hxy]
    have := wbt_bd h.hw x y
    omega
  sum x hx := by
    have hx := mem_wo.1 hx
    exact lap_zero h.srt h.inw h.tab (wo_nd m []) (fun c => by simp [mem_wo]) ⟨hx.1, hx.2.1⟩
  nd := wo_nd m []

end

section
variable {n : TNet} {m : Nat} {L L' : List (List Int)} {i : Nat} {x : W3} {u : Int}

theorem wbt_fltq (h : Lk n m L) (hx : n.2.2.2[i]? = some x) (h' : Lq (fltN n i x u).2.2.2 m L') {a b : Int} (hab : a < b) (hne : ¬ (a = x.1 ∧ b = x.2.1)) : wbt (fltN n i x u).2.2.2 a b = wbt n.2.2.2 a b := by
  by_cases hw : wbt n.2.2.2 a b = 0
  · rw [hw]
    apply Classical.byContradiction
    intro hz
    have := (wbt_mem h'.srt hab hz).1 rfl
    have := (mem_fltN h hx (e := (a, b, _)) hne).1 this
    have := (wbt_mem h.srt hab hz).2 this
    omega
  · have := (wbt_mem h.srt hab hw).1 rfl
    have := (mem_fltN (u := u) h hx (e := (a, b, _)) hne).2 this
    exact (wbt_mem h'.srt hab hw).2 this

/-- Another weight of a wire, whether or not the network hangs together. -/
theorem updq_of (h : Lk n m L) (hx : n.2.2.2[i]? = some x) (h' : Lq (fltN n i x u).2.2.2 m L') : Upd L L' (wo m []) x.1 x.2.1 (u - x.2.2) := by
  have hxm := List.mem_of_getElem? hx
  have hi := h.inw x hxm
  have dg : ∀ v, wAt (fltN n i x u).2.2.2 v = wAt n.2.2.2 v + (if x.1 = v ∨ x.2.1 = v then u - x.2.2 else 0) := by
    intro v
    simp only [fltN, wAt, sum_drop0, sum_set (touch v) _ _ _ _ hx, touch]
    split <;> omega
  have d1 : at2 L' x.1 x.1 = at2 L x.1 x.1 + (u - x.2.2) := by
    rw [h.a2 (by omega) (by omega), h'.a2 (by omega) (by omega), if_pos rfl, if_pos rfl, dg, if_pos (.inl rfl)]
  have d2 : at2 L' x.2.1 x.2.1 = at2 L x.2.1 x.2.1 + (u - x.2.2) := by
    rw [h.a2 (by omega) (by omega), h'.a2 (by omega) (by omega), if_pos rfl, if_pos rfl, dg, if_pos (.inr rfl)]
  have same : ∀ p ∈ wo m [], ∀ q ∈ wo m [], ¬ (p = x.1 ∧ q = x.2.1) → ¬ (p = x.2.1 ∧ q = x.1) → ¬ (p = x.1 ∧ q = x.1) → ¬ (p = x.2.1 ∧ q = x.2.1) → at2 L' p q = at2 L p q := by
    intro p hp q hq n1 n2 n3 n4
    have hp := mem_wo.1 hp
    have hq := mem_wo.1 hq
    rw [h.a2 ⟨hp.1, hp.2.1⟩ ⟨hq.1, hq.2.1⟩, h'.a2 ⟨hp.1, hp.2.1⟩ ⟨hq.1, hq.2.1⟩]
    by_cases e : p = q
    · subst e
      rw [if_pos rfl, if_pos rfl, dg, if_neg (by omega)]; omega
    · rw [if_neg e, if_neg e]
      rcases Int.lt_or_gt_of_ne e with hl | hl
      · rw [wbt_fltq h hx h' hl n1]
      · rw [wbt_comm _ p q, wbt_comm _ p q, wbt_fltq h hx h' hl (by omega)]
  refine ⟨h.lapZ, h'.lapZ, d1, d2, ?_, same⟩
  -- by the sum of a row
  have px : (wo m []).Perm (x.1 :: x.2.1 :: wo m [x.2.1, x.1]) := (wo_cons hi.1 (by omega) (by simp)).trans ((wo_cons (by omega) hi.2.2 (by simp; omega)).cons _)
  have s1 := h.lapZ.sum x.1 (mem_wo.2 ⟨hi.1, by omega, by simp⟩)
  have s2 := h'.lapZ.sum x.1 (mem_wo.2 ⟨hi.1, by omega, by simp⟩)
  rw [perm_sum (px.map (at2 L x.1))] at s1
  rw [perm_sum (px.map (at2 L' x.1))] at s2
  have e : (wo m [x.2.1, x.1]).map (at2 L' x.1) = (wo m [x.2.1, x.1]).map (at2 L x.1) := List.map_congr_left fun y hy => by
    have hy := mem_wo.1 hy
    simp only [List.mem_cons, List.not_mem_nil, or_false, not_or] at hy
    exact same x.1 (mem_wo.2 ⟨hi.1, by omega, by simp⟩) y (mem_wo.2 ⟨hy.1, hy.2.1, by simp⟩) (by omega) (by omega) (by omega) (by omega)
  simp only [List.map_cons, List.sum_cons] at s1 s2
  rw [e] at s2
  omega
end

end Go.Sx.R
namespace Go.Sx.R
open Go Go.Sx

section
variable {n : TNet} {m E : Nat} {L : List (List Int)} {inn : List Int}

theorem Nk.lk (h : Nk n m E L inn) : Lk n m L := ⟨h.hn, h.ok, h.hm, h.m1, h.m5, h.sc, h.lp, h.ls, h.tab, h.srt, h.inw, h.hw⟩

theorem Nk.down1 (h : Nk n m E L inn) (hE : 2 ≤ E) : 1 ≤ detZ L inn inn ∧ detZ L inn inn ≤ 5832000000 := by
  have lk := h.lk
  have l := h.len_inn
  have hm5 := h.m5
  have hem := h.em
  refine ⟨lk.lapZ.pos lk.hang _ inn rfl (by omega) h.nd_inn (fun i hi => mem_wo.2 ⟨(h.inn_in i hi).1, (h.inn_in i hi).2, by simp⟩) ⟨0, mem_wo.2 ⟨by omega, by omega, by simp⟩, fun hh => by have := h.mem_inn.1 hh; omega⟩, ?_⟩
  have := det_lap h.srt h.inw h.m5 h.hw h.tab h.inn_in h.inn_in h.nd_inn
  have p : 1800 ^ inn.length ≤ 5832000000 := Nat.le_trans (Nat.pow_le_pow_right (by omega) (show inn.length ≤ 3 by omega)) (by decide)
  omega

theorem Nk.dOf1 (h : Nk n m E L inn) (hE : 2 ≤ E) : 1 ≤ dOf n L inn ∧ dOf n L inn ≤ 5832000000000 := by
  have d := h.down1 hE
  have s := h.sc
  simp only [dOf]
  constructor
  · have : 1 * 1 ≤ n.2.2.1 * detZ L inn inn := Int.mul_le_mul s.1 d.1 (by omega) (by omega)
    omega
  · have : n.2.2.1 * detZ L inn inn ≤ 1000 * 5832000000 := Int.mul_le_mul s.2 d.2 (by omega) (by omega)
    omega

/-- A response's ratio. -/
theorem Nk.rtZ (h : Nk n m E L inn) (hE : 2 ≤ E) {i j : Nat} (hi : i < E) (hj : j < E) : rtF n L inn i j = ratZ (detZ L ((i : Int) :: inn) ((j : Int) :: inn)) (dOf n L inn) := by
  have d := h.dOf1 hE
  have t := h.top_le hi hj
  have r := (h.rt hi hj).1
  rw [p_Ratio (by omega) d.1 (by omega)] at r
  exact (Option.some.inj r).symm

theorem Nk.respV (h : Nk n m E L inn) : respV n = respT n L inn E := by
  simp only [Go.Sx.R.respV, h.sResp, Option.map_some, Option.getD_some]


end
end Go.Sx.R
namespace Go.Sx.R
open Go Go.Sx

/-- The same wire. -/
def eqW (x w : W3) : Bool := intEq x.1 w.1 && (intEq x.2.1 w.2.1 && intEq x.2.2 w.2.2)

theorem eqW_iff {x w : W3} : eqW x w = true ↔ x = w := by
  obtain ⟨a, b, c⟩ := x
  obtain ⟨a', b', c'⟩ := w
  simp only [eqW, intEq, Bool.and_eq_true, decide_eq_true_eq, Prod.mk.injEq]

def atW (x : W3) (v : Int) : Bool := decide (x.1 = v) || decide (x.2.1 = v)

/-- Whether a way on from node v, behind the nodes Q, leads to another terminal, over the wire w where it was not used before. -/
def pathV (ws : List W3) (E : Int) (w : W3) : Nat → List Int → Int → Bool → Bool
  | 0, _, _, _ => false
  | k + 1, Q, v, used => (decide (v < E) && (!Q.isEmpty && used)) || ws.any fun x => atW x v && (!decide (x.1 + x.2.1 - v ∈ Q ++ [v]) && pathV ws E w k (Q ++ [v]) (x.1 + x.2.1 - v) (used || eqW x w))

theorem foldI_or {β : Type} (f : β → Bool) : ∀ (l : List β) (i : Nat) (s : Bool), foldI (fun s _ x => s || f x) l i s = (s || l.any f)
  | [], _, s => by simp [foldI]
  | x :: l, i, s => by simp only [foldI, foldI_or f l, List.any_cons, Bool.or_assoc]

theorem any_takeB {β : Type} {f : β → Bool} {l : List β} {i : Nat} {x : β} (h : l[i]? = some x) : (l.take (i + 1)).any f = ((l.take i).any f || f x) := by
  rw [List.take_add_one, h, Option.toList_some, List.any_append, List.any_cons, List.any_nil, Bool.or_false]

theorem nodup_in {m : Nat} {l : List Int} (h : l.Nodup) (hb : ∀ j ∈ l, 0 ≤ j ∧ j < m) : l.length ≤ m := by
  have := nodup_len (m := (List.range m).map Int.ofNat) h fun x hx => by
    obtain ⟨h0, h1⟩ := hb x hx
    exact List.mem_map.2 ⟨x.toNat, List.mem_range.2 (by omega), by simp only [Int.ofNat_eq_natCast]; omega⟩
  simpa using this

theorem srt_idx {l : List W3} (h : Srt l) {i j : Nat} {x : W3} (hi : l[i]? = some x) (hj : l[j]? = some x) : i = j := by
  have key : ∀ a b : Nat, l[a]? = some x → l[b]? = some x → a < b → False := fun a b ha hb hab => by
    obtain ⟨la, ea⟩ := List.getElem?_eq_some_iff.1 ha
    obtain ⟨lb, eb⟩ := List.getElem?_eq_some_iff.1 hb
    have := (List.pairwise_iff_getElem.1 h) a b la lb hab
    rw [ea, eb, lex_irr] at this
    cases this
  rcases Nat.lt_trichotomy i j with h1 | h1 | h1
  · exact (key i j hi hj h1).elim
  · exact h1
  · exact (key j i hj hi h1).elim

/-- A path's facts. -/
structure PathOk (m : Nat) (Q : List Int) (v : Int) : Prop where
  nd : (Q ++ [v]).Nodup
  inn : ∀ j ∈ Q ++ [v], 0 ≤ j ∧ j < (m : Int)

theorem PathOk.not {m : Nat} {Q : List Int} {v : Int} (h : PathOk m Q v) : v ∉ Q := by
  intro hv
  have := h.nd
  rw [List.nodup_append] at this
  exact this.2.2 v hv v (by simp) rfl

theorem PathOk.last {m : Nat} {Q : List Int} {v : Int} (h : PathOk m Q v) : 0 ≤ v ∧ v < m := h.inn v (by simp)

theorem PathOk.len {m : Nat} {Q : List Int} {v : Int} (h : PathOk m Q v) : Q.length + 1 ≤ m := by
  have := nodup_in h.nd h.inn
  simpa using this

theorem PathOk.next {m : Nat} {Q : List Int} {v t : Int} (h : PathOk m Q v) (ht : t ∉ Q ++ [v]) (h0 : 0 ≤ t) (h1 : t < m) : PathOk m (Q ++ [v]) t where
  nd := by
    rw [List.nodup_append]
    exact ⟨h.nd, by simp, fun a ha b hb e => by simp at hb; subst hb; subst e; exact ht ha⟩
  inn := fun j hj => by
    rcases List.mem_append.1 hj with hj | hj
    · exact h.inn j hj
    · simp at hj; subst hj; exact ⟨h0, h1⟩

theorem PathOk.first {m : Nat} {Q : List Int} {v first : Int} (h : PathOk m Q v) (hf : (Q ++ [v]).head? = some first) : decide (v = first) = Q.isEmpty := by
  cases Q with
  | nil => simp at hf; simp [hf]
  | cons q Q =>
    simp at hf
    have : v ≠ first := fun e => h.not (by rw [e, ← hf]; simp)
    simp [this]

theorem set_back {L : List Bool} {i : Nat} (h : L[i]? = some false) : (L.set i true).set i false = L := by
  rw [List.set_set]
  apply List.ext_getElem?; intro j
  rw [List.getElem?_set]
  split
  · rename_i e; subst e
    rw [h, if_pos (List.getElem?_eq_some_iff.1 h).1]
  · rfl

theorem to_wr {m : Nat} (hm5 : m ≤ 5) {ws : List W3} (hw : InW m ws) {x : W3} (hx : x ∈ ws) {v : Int} (h0 : 0 ≤ v) (h1 : v < m) : wr (wr (x.1 + x.2.1) - v) = x.1 + x.2.1 - v := by
  obtain ⟨a, b, c⟩ := hw x hx
  rw [wr_id (x := x.1 + x.2.1) (by omega) (by omega), wr_id (by omega) (by omega)]

theorem p_onPath (n : TNet) (m : Nat) (hn : Sm.sm B1 n) (hm5 : m ≤ 5) (hw : InW m n.2.2.2) (w : W3) (first : Int) : ∀ (k : Nat) (Q : List Int) (v : Int) (used : Bool) (L : List Bool) (fu : Nat), PathOk m Q v → (Q ++ [v]).head? = some first → m ≤ k + Q.length → k ≤ fu →
    L.length = m → (∀ j : Nat, j < m → L[j]? = some (decide ((j : Int) ∈ Q))) → e_impl_onPath_n fu L (n, v, w, used, first, ()) = some (L, pathV n.2.2.2 n.2.1 w k Q v used)
  | 0, Q, v, used, L, fu, hp, _, hk, _, _, _ => by have := hp.len; omega
  | k + 1, Q, v, used, L, 0, _, _, _, hf, _, _ => by omega
  | k + 1, Q, v, used, L, fu + 1, hp, hh, hk, hf, hlen, hL => by
    obtain ⟨h0, h1⟩ := hp.last
    obtain ⟨vn, rfl⟩ : ∃ vn : Nat, v = vn := ⟨v.toNat, by omega⟩
    have hvm : vn < m := by omega
    have hnot : decide ((vn : Int) ∈ Q) = false := by rw [decide_eq_false_iff_not]; exact hp.not
    have hLv : L[vn]? = some false := by rw [hL vn hvm, hnot]
    have hL' : ∀ j : Nat, j < m → (L.set vn true)[j]? = some (decide ((j : Int) ∈ Q ++ [(vn : Int)])) := by
      intro j hj
      rw [List.getElem?_set]
      split
      · rename_i e; subst e
        rw [if_pos (by omega)]; simp
      · rename_i e
        rw [hL j hj]
        have : ((j : Int) ∈ Q ++ [(vn : Int)]) ↔ (j : Int) ∈ Q := by
          simp only [List.mem_append, List.mem_singleton, or_iff_left_iff_imp]
          intro h; omega
        simp only [this]
    have hlt : n.2.2.2.length < N0 := by have := N0_big; have : n.2.2.2.length ≤ 1073741824 := hn.2.2.2.1; omega
    have loop : ∀ ke, iterK (r_impl_onPath_L0 (e_impl_onPath_n fu) N0) N0 ((vn : Int), (L.set vn true), used, first, n, w, false, n.2.2.2, ((n.2.2.2.length : Nat) : Int), (0 : Int), ()) ke =
        ke ((vn : Int), (L.set vn true), used, first, n, w, (n.2.2.2.any fun x => atW x vn && (!decide (x.1 + x.2.1 - (vn : Int) ∈ Q ++ [(vn : Int)]) && pathV n.2.2.2 n.2.1 w k (Q ++ [(vn : Int)]) (x.1 + x.2.1 - (vn : Int)) (used || eqW x w))), n.2.2.2, ((n.2.2.2.length : Nat) : Int), ((n.2.2.2.length : Nat) : Int), ()) := by
      intro ke
      have := (iter_fold (R := List Bool × Bool) (body := r_impl_onPath_L0 (e_impl_onPath_n fu) N0) n.2.2.2 (fun (st : Bool) i => ((vn : Int), (L.set vn true), used, first, n, w, st, n.2.2.2, ((n.2.2.2.length : Nat) : Int), i, ())) (fun _ _ => True)
        (fun st _ x => st || (atW x vn && (!decide (x.1 + x.2.1 - (vn : Int) ∈ Q ++ [(vn : Int)]) && pathV n.2.2.2 n.2.1 w k (Q ++ [(vn : Int)]) (x.1 + x.2.1 - (vn : Int)) (used || eqW x w))))
        (fun st i x kc ke _ hx hi => ⟨by
          have hxm : x ∈ n.2.2.2 := List.mem_of_getElem? hx
          obtain ⟨a, b, c⟩ := hw x hxm
          have wsucc : wr ((i : Int) + 1) = ((i + 1 : Nat) : Int) := wr_succ hi (by have : n.2.2.2.length ≤ 1073741824 := hn.2.2.2.1; omega)
          simp only [r_impl_onPath_L0, lt_len, hi, decide_true, cond_true, getI_nat, hx, Option.bind_some, wsucc, to_wr hm5 hw hxm h0 h1]
          have main : atW x vn = true → (getI (L.set vn true) (x.1 + x.2.1 - (vn : Int)) = some (decide (x.1 + x.2.1 - (vn : Int) ∈ Q ++ [(vn : Int)]))) ∧ (x.1 + x.2.1 - (vn : Int) ∉ Q ++ [(vn : Int)] → ∀ u, e_impl_onPath_n fu (L.set vn true) (n, x.1 + x.2.1 - (vn : Int), w, u, first, ()) = some (L.set vn true, pathV n.2.2.2 n.2.1 w k (Q ++ [(vn : Int)]) (x.1 + x.2.1 - (vn : Int)) u)) := by
            intro hat
            simp only [atW, Bool.or_eq_true, decide_eq_true_eq] at hat
            obtain ⟨t, ht⟩ : ∃ t : Nat, x.1 + x.2.1 - (vn : Int) = t := ⟨(x.1 + x.2.1 - (vn : Int)).toNat, by omega⟩
            have htm : t < m := by omega
            rw [ht]
            refine ⟨by rw [getI_nat, hL' t htm], fun hnt u => ?_⟩
            exact p_onPath n m hn hm5 hw w first k (Q ++ [(vn : Int)]) t u (L.set vn true) fu (hp.next hnt (by omega) (by omega)) (by rw [List.head?_append, hh]; rfl) (by simp only [List.length_append, List.length_cons, List.length_nil]; omega) (by omega) (by simpa using hlen) hL'
          cases hat : atW x vn with
          | false =>
            simp only [atW, Bool.or_eq_false_iff] at hat
            simp only [hat.1, hat.2, cond_false, Bool.false_and, Bool.or_false]
          | true =>
            obtain ⟨m1, m2⟩ := main hat
            have both : ∀ (A B : Option (List Bool × Bool)), A = B → (cond (decide (x.1 = (vn : Int))) A (cond (decide (x.2.1 = (vn : Int))) A B)) = A := by
              intro A B hAB; cases decide (x.1 = (vn : Int)) <;> cases decide (x.2.1 = (vn : Int)) <;> simp [hAB]
            have pick : ∀ (A B : Option (List Bool × Bool)), (cond (decide (x.1 = (vn : Int))) A (cond (decide (x.2.1 = (vn : Int))) A B)) = A := by
              intro A B
              simp only [atW, Bool.or_eq_true] at hat
              rcases hat with h | h
              · rw [h]; rfl
              · rw [h]; cases decide (x.1 = (vn : Int)) <;> rfl
            rw [pick]
            simp only [m1, Option.bind_some, Bool.true_and]
            cases hd : decide (x.1 + x.2.1 - (vn : Int) ∈ Q ++ [(vn : Int)]) with
            | true => simp only [Bool.not_true, cond_false, Bool.false_and, Bool.or_false]
            | false =>
              have hnt := of_decide_eq_false hd
              simp only [Bool.not_false, cond_true, Bool.true_and]
              cases st with
              | true => simp only [cond_true, Bool.true_or]
              | false =>
                cases used with
                | true => simp only [cond_false, cond_true, m2 hnt, Option.bind_some, Bool.false_or, Bool.true_or]
                | false => simp only [cond_false, m2 hnt, Option.bind_some, Bool.false_or, eqW], trivial⟩)
        (fun st kc ke _ => by simp only [r_impl_onPath_L0, not_lt_self, cond_false]) hlt false trivial ke).1
      rw [foldI_or, Bool.false_or] at this
      exact this
    have hget : getI (L.set vn true) (vn : Int) = some true := by
      rw [getI_nat, hL' vn hvm]; simp
    have hLg : getI L (vn : Int) = some false := by rw [getI_nat, hLv]
    simp only [e_impl_onPath_n, r_impl_onPath, Int.toNat_natCast, hLg, Option.bind_some, loop, hget, set_back hLv, pathV, hp.first hh]
    cases decide ((vn : Int) < n.2.1) <;> cases Q.isEmpty <;> cases used <;> simp only [cond_true, cond_false, Bool.not_true, Bool.not_false, Bool.true_and, Bool.false_and, Bool.and_self, Bool.true_or, Bool.false_or, Bool.and_false, Bool.and_true]

theorem s_l10Path (n : TNet) (m : Nat) (hn : Sm.sm B1 n) (hm5 : m ≤ 5) (hw : InW m n.2.2.2) (w : W3) (idx : Int) (hidx : ∀ (i : Nat) x, n.2.2.2[i]? = some x → decide ((i : Int) = idx) = eqW x w) : ∀ (k : Nat) (Q : List Int) (v : Int) (used : Bool) (fu : Nat), PathOk m Q v → m ≤ k + Q.length → k ≤ fu →
    e_spec_l10Path_n fu (n, Q ++ [v], used, idx, ()) = some (pathV n.2.2.2 n.2.1 w k Q v used)
  | 0, Q, v, used, fu, hp, hk, _ => by have := hp.len; omega
  | k + 1, Q, v, used, 0, _, _, hf => by omega
  | k + 1, Q, v, used, fu + 1, hp, hk, hf => by
    obtain ⟨h0, h1⟩ := hp.last
    have hql := hp.len
    have hlt : n.2.2.2.length < N0 := by have := N0_big; have : n.2.2.2.length ≤ 1073741824 := hn.2.2.2.1; omega
    have hll : (Q ++ [v]).length = Q.length + 1 := by simp
    have hwl : wr ((((Q ++ [v]).length : Nat) : Int) - 1) = ((Q.length : Nat) : Int) := by rw [hll, wr_id (by omega) (by omega)]; omega
    have hgl : getI (Q ++ [v]) ((Q.length : Nat) : Int) = some v := by rw [getI_nat]; simp
    have hgt : decide ((((Q ++ [v]).length : Nat) : Int) > 1) = !Q.isEmpty := by
      rw [hll]
      cases Q with
      | nil => rfl
      | cons q Q => simp; omega
    have loop : iterK (r_spec_l10Path_L0 e_spec_l03Has (e_spec_l10Path_n fu) N0) N0 (Q ++ [v], used, idx, n, v, n.2.2.2, ((n.2.2.2.length : Nat) : Int), (0 : Int), ()) (fun _ => some false) =
        some (n.2.2.2.any fun x => atW x v && (!decide (x.1 + x.2.1 - v ∈ Q ++ [v]) && pathV n.2.2.2 n.2.1 w k (Q ++ [v]) (x.1 + x.2.1 - v) (used || eqW x w))) := by
      generalize hF : (fun x : W3 => atW x v && (!decide (x.1 + x.2.1 - v ∈ Q ++ [v]) && pathV n.2.2.2 n.2.1 w k (Q ++ [v]) (x.1 + x.2.1 - v) (used || eqW x w))) = F
      refine iter_rule (R := Bool) (body := r_spec_l10Path_L0 e_spec_l03Has (e_spec_l10Path_n fu) N0) (ke := fun _ => some false) (fun o => o = some (n.2.2.2.any F)) n.2.2.2 (fun (_ : Unit) i => (Q ++ [v], used, idx, n, v, n.2.2.2, ((n.2.2.2.length : Nat) : Int), i, ()))
        (fun i _ => (n.2.2.2.take i).any F = false) (fun st i x kc hpi hx hi hkc => ?_) (fun st kc hpi => ?_) hlt () (by simp)
      · have hxm : x ∈ n.2.2.2 := List.mem_of_getElem? hx
        obtain ⟨a, b, c⟩ := hw x hxm
        have wsucc : wr ((i : Int) + 1) = ((i + 1 : Nat) : Int) := wr_succ hi (by have : n.2.2.2.length ≤ 1073741824 := hn.2.2.2.1; omega)
        have hhas := p_Has (Q ++ [v]) (x.1 + x.2.1 - v) (by rw [hll]; simp only [BB]; omega)
        have no : F x = false → kc (Q ++ [v], used, idx, n, v, n.2.2.2, ((n.2.2.2.length : Nat) : Int), ((i + 1 : Nat) : Int), ()) = some (n.2.2.2.any F) := fun hFx => hkc () (by rw [any_takeB hx, hpi, hFx]; rfl)
        have yes : F x = true → some true = some (n.2.2.2.any F) := fun hFx => by
          rw [List.any_eq_true.2 ⟨x, hxm, hFx⟩]
        have hFx : F x = (atW x v && (!decide (x.1 + x.2.1 - v ∈ Q ++ [v]) && pathV n.2.2.2 n.2.1 w k (Q ++ [v]) (x.1 + x.2.1 - v) (used || eqW x w))) := by rw [← hF]
        simp only [r_spec_l10Path_L0, lt_len, hi, decide_true, cond_true, getI_nat, hx, Option.bind_some, wsucc, to_wr hm5 hw hxm h0 h1, hhas, List.length_nil, Nat.zero_add, List.nil_append, List.length_cons]
        rw [ble_true (show (Q ++ [v]).length ≤ 17179869184 by omega), ble_true (show (Q ++ [v]).length + 1 ≤ 17179869184 by omega)]
        have pick : atW x v = true → ∀ (A B : Option Bool), (cond (!decide (x.1 = v)) (cond (!decide (x.2.1 = v)) B A) A) = A := by
          intro hat A B
          simp only [atW, Bool.or_eq_true] at hat
          rcases hat with h | h
          · rw [h]; rfl
          · rw [h]; cases decide (x.1 = v) <;> rfl
        cases hat : atW x v with
        | false =>
          have := no (by rw [hFx, hat]; rfl)
          simp only [atW, Bool.or_eq_false_iff] at hat
          simp only [hat.1, hat.2, Bool.not_false, cond_true]
          exact this
        | true =>
          rw [pick hat]
          rw [hat, Bool.true_and] at hFx
          cases hd : decide (x.1 + x.2.1 - v ∈ Q ++ [v]) with
          | true =>
            rw [hd] at hFx
            simp only [Bool.not_true, cond_false]
            exact no hFx
          | false =>
            have hnt := of_decide_eq_false hd
            rw [hd, Bool.not_false, Bool.true_and] at hFx
            simp only [atW, Bool.or_eq_true, decide_eq_true_eq] at hat
            have ih : ∀ u, e_spec_l10Path_n fu (n, Q ++ [v] ++ [x.1 + x.2.1 - v], u, idx, ()) = some (pathV n.2.2.2 n.2.1 w k (Q ++ [v]) (x.1 + x.2.1 - v) u) := fun u =>
              s_l10Path n m hn hm5 hw w idx hidx k (Q ++ [v]) _ u fu (hp.next hnt (by omega) (by omega)) (by simp only [List.length_append, List.length_cons, List.length_nil]; omega) (by omega)
            simp only [Bool.not_false, cond_true, ih, Option.bind_some, hidx i x hx]
            have fin : ∀ b, F x = b → (cond b (some true) (kc (Q ++ [v], used, idx, n, v, n.2.2.2, ((n.2.2.2.length : Nat) : Int), ((i + 1 : Nat) : Int), ()))) = some (n.2.2.2.any F) := by
              intro b hb
              cases b with
              | true => exact yes hb
              | false => exact no hb
            cases used with
            | true => exact fin _ (by rw [hFx, Bool.true_or])
            | false => exact fin _ (by rw [hFx, Bool.false_or])
      · simp only [r_spec_l10Path_L0, not_lt_self, cond_false]
        rw [List.take_of_length_le (Nat.le_refl _)] at hpi
        rw [hpi]
    simp only [e_spec_l10Path_n, r_spec_l10Path, hwl, hgl, Option.bind_some, hgt, loop, pathV]
    cases decide (v < n.2.1) <;> cases Q.isEmpty <;> cases used <;> simp only [cond_true, cond_false, Bool.not_true, Bool.not_false, Bool.true_and, Bool.false_and, Bool.and_self, Bool.true_or, Bool.false_or, Bool.and_false, Bool.and_true]

/-- A wire lies on a path between two terminals. -/
def seenV (ws : List W3) (E : Int) (m : Nat) (w : W3) : Bool := (List.range E.toNat).any fun t => pathV ws E w m [] (t : Int) false

/-- The wires on no path. -/
def blindV (n : TNet) (m : Nat) : List Int := foldI (fun out i x => if seenV n.2.2.2 n.2.1 m x then out else out ++ [(i : Int)]) n.2.2.2 0 []

theorem one_path {m t : Nat} (h : t < m) : PathOk m [] (t : Int) := ⟨by simp, fun j hj => by simp at hj; subst hj; omega⟩

theorem s_Seen (n : TNet) (m : Nat) (hn : Sm.sm B1 n) (hm5 : m ≤ 5) (hw : InW m n.2.2.2) (he : 1 ≤ n.2.1) (hem : n.2.1 ≤ m) (w : W3) (idx : Int) (hidx : ∀ (i : Nat) x, n.2.2.2[i]? = some x → decide ((i : Int) = idx) = eqW x w) :
    e_spec_l10Seen (n, idx, ()) = some (seenV n.2.2.2 n.2.1 m w) := by
  obtain ⟨E, hE⟩ : ∃ E : Nat, n.2.1 = E := ⟨n.2.1.toNat, by omega⟩
  have hr : (List.range E).length = E := by simp
  simp only [e_spec_l10Seen, r_spec_l10Seen, seenV]
  rw [hE, Int.toNat_natCast]
  generalize hF : (fun t : Nat => pathV n.2.2.2 (E : Int) w m [] (t : Int) false) = F
  refine iter_rule (R := Bool) (body := r_spec_l10Seen_L0 e_spec_l10Path N0) (ke := fun _ => some false) (fun o => o = some ((List.range E).any F)) (List.range E) (fun (_ : Unit) i => (idx, n, i, ()))
    (fun i _ => ((List.range E).take i).any F = false) (fun st i x kc hpi hx hi hkc => ?_) (fun st kc hpi => ?_) (by rw [hr]; have := N0_big; omega) () (by simp)
  · obtain ⟨rfl, hxE⟩ := range_get hx
    have d1 : decide ((x : Int) < n.2.1) = true := by rw [decide_eq_true_eq]; omega
    have key : e_spec_l10Path (n, [(x : Int)], false, idx, ()) = some (F x) := by
      have := s_l10Path n m hn hm5 hw w idx hidx m [] (x : Int) false N0 (one_path (by omega)) (by simp) (by have := N0_big; omega)
      rw [← hF]
      simp only [← hE]
      exact this
    simp only [r_spec_l10Seen_L0, d1, cond_true, key, Option.bind_some, wr_succ hxE (show E ≤ 9223372036854775807 by omega)]
    cases hFx : F x with
    | true =>
      show some true = _
      rw [List.any_eq_true.2 ⟨x, List.mem_range.2 hxE, hFx⟩]
    | false =>
      simp only [cond_false]
      exact hkc () (by rw [any_takeB hx, hpi, hFx]; rfl)
  · have d1 : decide ((((List.range E).length : Nat) : Int) < n.2.1) = false := by rw [decide_eq_false_iff_not, hr]; omega
    simp only [r_spec_l10Seen_L0, d1, cond_false]
    rw [List.take_of_length_le (Nat.le_refl _)] at hpi
    rw [hpi]

theorem blind_both (n : TNet) (hn : Sm.sm B1 n) : ∃ q, e_impl_BlindWires (n, ()) = some q ∧ e_spec_BlindWires (n, ()) = some q ∧ Sm.sm B1 q ∧ (netok n = true → ∀ m : Nat, n.1 = m → q = blindV n m) := by
  cases hok : netok n with
  | false =>
    refine ⟨[], ?_, ?_, by simp [sm_list], by simp⟩
    · simp only [e_impl_BlindWires, r_impl_BlindWires, p_NetOk n hn, hok, Option.bind_some, Bool.not_false, cond_true]
    · simp only [e_spec_BlindWires, r_spec_BlindWires, s_NetOk n hn, hok, Option.bind_some, Bool.not_false, cond_true]
  | true =>
    obtain ⟨m, hm, hm1, hm5, hw, he1, he2⟩ := netok_facts hok
    obtain ⟨E, hE⟩ : ∃ E : Nat, n.2.1 = E := ⟨n.2.1.toNat, by omega⟩
    have hr : (List.range E).length = E := by simp
    have hwl : n.2.2.2.length ≤ 1073741824 := hn.2.2.2.1
    have hlt : n.2.2.2.length < N0 := by have := N0_big; omega
    have hidx : ∀ (j : Nat) w, n.2.2.2[j]? = some w → ∀ (i : Nat) x, n.2.2.2[i]? = some x → decide ((i : Int) = (j : Int)) = eqW x w := by
      intro j w hj i x hi
      have hnd := fun (i j : Nat) (x w : W3) (hi : n.2.2.2[i]? = some x) (hj : n.2.2.2[j]? = some w) (h : x = w) => srt_idx (netok_srt hok) (h ▸ hi) hj
      by_cases e : i = j
      · subst e
        rw [hi] at hj; simp only [Option.some.injEq] at hj; subst hj
        simp [eqW_iff.2 rfl]
      · have hne : x ≠ w := fun h => e (hnd i j x w hi hj h)
        have : eqW x w = false := by
          cases h : eqW x w with
          | true => exact absurd (eqW_iff.1 h) hne
          | false => rfl
        rw [this, decide_eq_false_iff_not]; omega
    refine ⟨blindV n m, ?_, ?_, ?_, fun _ m' hm' => congrArg (blindV n) (show m = m' by omega)⟩
    · -- the program
      simp only [e_impl_BlindWires, r_impl_BlindWires, p_NetOk n hn, hok, Option.bind_some, Bool.not_true, cond_false]
      have inner : ∀ (out : List Int) (i : Int) (x : W3) ke, iterK (r_impl_BlindWires_L2 e_impl_NetOk e_impl_onPath N0) N0 (n, out, i, x, false, n.2.2.2, ((n.2.2.2.length : Nat) : Int), i, n.2.1, (0 : Int), ()) ke =
          ke (n, out, i, x, seenV n.2.2.2 n.2.1 m x, n.2.2.2, ((n.2.2.2.length : Nat) : Int), i, n.2.1, n.2.1, ()) := by
        intro out i x ke
        have := (iter_fold (R := List Int) (body := r_impl_BlindWires_L2 e_impl_NetOk e_impl_onPath N0) (List.range E) (fun (st : Bool) t => (n, out, i, x, st, n.2.2.2, ((n.2.2.2.length : Nat) : Int), i, n.2.1, t, ())) (fun _ _ => True)
          (fun st _ (t : Nat) => st || pathV n.2.2.2 n.2.1 x m [] (t : Int) false)
          (fun st j t kc ke _ hx hi => ⟨by
            obtain ⟨rfl, htE⟩ := range_get hx
            have d1 : decide ((t : Int) < n.2.1) = true := by rw [decide_eq_true_eq]; omega
            have d2 : decide ((0 : Int) ≤ n.1) = true := by rw [decide_eq_true_eq]; omega
            have key : e_impl_onPath (List.replicate m false) (n, (t : Int), x, false, (t : Int), ()) = some (List.replicate m false, pathV n.2.2.2 n.2.1 x m [] (t : Int) false) :=
              p_onPath n m hn hm5 hw x (t : Int) m [] (t : Int) false (List.replicate m false) N0 (one_path (by omega)) rfl (by simp) (by have := N0_big; omega) (by simp) (fun j hj => by simp [List.getElem?_replicate, hj])
            have hmt : Int.toNat n.1 = m := by omega
            simp only [r_impl_BlindWires_L2, d1, cond_true, d2, hmt, ble_true (show m ≤ 17179869184 by omega), key, Option.bind_some, wr_succ htE (show E ≤ 9223372036854775807 by omega)]
            cases st with
            | true => simp only [cond_true, Bool.true_or]
            | false => simp only [cond_false, Bool.false_or], trivial⟩)
          (fun st kc ke _ => by
            have d1 : decide ((((List.range E).length : Nat) : Int) < n.2.1) = false := by rw [decide_eq_false_iff_not, hr]; omega
            simp only [r_impl_BlindWires_L2, d1, cond_false]) (N := N0) (by rw [hr]; have := N0_big; omega) false trivial ke).1
        rw [foldI_or, Bool.false_or, hr, ← hE] at this
        have e : E = n.2.1.toNat := by omega
        rw [e] at this
        exact this
      have := (iter_fold (R := List Int) (body := r_impl_BlindWires_L0 e_impl_NetOk e_impl_onPath N0) n.2.2.2 (fun (out : List Int) i => (n, out, n.2.2.2, ((n.2.2.2.length : Nat) : Int), i, ())) (fun i out => out.length ≤ i)
        (fun out i x => if seenV n.2.2.2 n.2.1 m x then out else out ++ [(i : Int)])
        (fun out i x kc ke hp hx hi => by
          simp only [r_impl_BlindWires_L0, lt_len, hi, decide_true, cond_true, getI_nat, hx, Option.bind_some, inner, wr_succ hi (show n.2.2.2.length ≤ 9223372036854775807 by omega), List.length_cons, List.length_nil, Nat.zero_add, ble_true (show out.length + 1 ≤ 17179869184 by omega)]
          cases seenV n.2.2.2 n.2.1 m x with
          | true => simp only [Bool.not_true, cond_false, if_true]; exact ⟨trivial, by omega⟩
          | false => simp only [Bool.not_false, cond_true, Bool.false_eq_true, if_false]; exact ⟨trivial, by simp; omega⟩)
        (fun out kc ke _ => by simp only [r_impl_BlindWires_L0, not_lt_self, cond_false]) hlt [] (by simp) (fun s2 => some s2.2.1)).1
      exact this
    · simp only [e_spec_BlindWires, r_spec_BlindWires, s_NetOk n hn, hok, Option.bind_some, Bool.not_true, cond_false]
      have := (iter_fold (R := List Int) (body := r_spec_BlindWires_L0 e_spec_NetOk e_spec_l10Seen N0) n.2.2.2 (fun (out : List Int) i => (n, out, ((n.2.2.2.length : Nat) : Int), i, ())) (fun i out => out.length ≤ i)
        (fun out i x => if seenV n.2.2.2 n.2.1 m x then out else out ++ [(i : Int)])
        (fun out i x kc ke hp hx hi => by
          simp only [r_spec_BlindWires_L0, lt_len, hi, decide_true, cond_true, s_Seen n m hn hm5 hw he1 he2 x (i : Int) (hidx i x hx), Option.bind_some, wr_succ hi (show n.2.2.2.length ≤ 9223372036854775807 by omega), List.length_cons, List.length_nil, Nat.zero_add, ble_true (show out.length + 1 ≤ 17179869184 by omega)]
          cases seenV n.2.2.2 n.2.1 m x with
          | true => simp only [Bool.not_true, cond_false, if_true]; exact ⟨trivial, by omega⟩
          | false => simp only [Bool.not_false, cond_true, Bool.false_eq_true, if_false]; exact ⟨trivial, by simp; omega⟩)
        (fun out kc ke _ => by simp only [r_spec_BlindWires_L0, not_lt_self, cond_false]) hlt [] (by simp) (fun s2 => some s2.2.1)).1
      exact this
    · have := foldI_ind (fun i (out : List Int) => out.length ≤ i ∧ ∀ y ∈ out, 0 ≤ y ∧ y < i) (fun out i x => if seenV n.2.2.2 n.2.1 m x then out else out ++ [(i : Int)]) (fun out i x ⟨h1, h2⟩ => by
        split
        · exact ⟨by omega, fun y hy => by have := h2 y hy; omega⟩
        · refine ⟨by simp; omega, fun y hy => ?_⟩
          rcases List.mem_append.1 hy with hy | hy
          · have := h2 y hy; omega
          · simp at hy; omega) n.2.2.2 0 [] ⟨by simp, by simp⟩
      refine ⟨Nat.le_trans this.1 (by simpa using hwl), fun y hy => ?_⟩
      have := this.2 y hy
      exact ⟨by omega, by omega⟩

end Go.Sx.R
namespace Go.Sx.R
open Go Go.Sx

/-- A wire between two nodes. -/
def Bet (ws : List W3) (e : W3) (p q : Int) : Prop := e ∈ ws ∧ ((e.1 = p ∧ e.2.1 = q) ∨ (e.1 = q ∧ e.2.1 = p))

theorem Bet.flip {ws : List W3} {e : W3} {p q : Int} (h : Bet ws e p q) : Bet ws e q p := ⟨h.1, h.2.symm⟩

theorem path_step {ws : List W3} {E : Int} {w e : W3} {k : Nat} {Q : List Int} {v t : Int} {used : Bool} (he : Bet ws e v t) (ht : t ∉ Q ++ [v]) (hp : pathV ws E w k (Q ++ [v]) t (used || eqW e w) = true) : pathV ws E w (k + 1) Q v used = true := by
  have hat : atW e v = true := by
    simp only [atW, Bool.or_eq_true, decide_eq_true_eq]
    rcases he.2 with h | h
    · exact .inl h.1
    · exact .inr h.2
  have hto : e.1 + e.2.1 - v = t := by
    rcases he.2 with h | h <;> omega
  simp only [pathV, Bool.or_eq_true]
  refine .inr (List.any_eq_true.2 ⟨e, he.1, ?_⟩)
  rw [hto, hat, hp, decide_eq_false ht]; rfl

theorem path_end {ws : List W3} {E : Int} {w : W3} {k : Nat} {Q : List Int} {v : Int} (hv : v < E) (hQ : Q ≠ []) : pathV ws E w (k + 1) Q v true = true := by
  have : Q.isEmpty = false := by cases Q with | nil => exact absurd rfl hQ | cons _ _ => rfl
  simp only [pathV, this, decide_eq_true hv, Bool.not_false, Bool.and_self, Bool.true_or]

theorem seen_of {ws : List W3} {E : Int} {m : Nat} {w : W3} {a : Int} (h0 : 0 ≤ a) (h1 : a < E) (h : pathV ws E w m [] a false = true) : seenV ws E m w = true := by
  refine List.any_eq_true.2 ⟨a.toNat, List.mem_range.2 (by omega), ?_⟩
  rw [show ((a.toNat : Nat) : Int) = a by omega]; exact h

theorem eqW_self (w : W3) : eqW w w = true := eqW_iff.2 rfl

theorem seen1 {ws : List W3} {E : Int} {m : Nat} {w : W3} {a b : Int} (hm : 2 ≤ m) (hw : Bet ws w a b) (hab : a ≠ b) (a0 : 0 ≤ a) (a1 : a < E) (b1 : b < E) : seenV ws E m w = true := by
  obtain ⟨k, rfl⟩ : ∃ k, m = k + 2 := ⟨m - 2, by omega⟩
  refine seen_of a0 a1 (path_step hw (by simpa using Ne.symm hab) ?_)
  rw [eqW_self, Bool.or_true]
  exact path_end b1 (by simp)

theorem seen2 {ws : List W3} {E : Int} {m : Nat} {w e : W3} {a v b : Int} (hm : 3 ≤ m) (hw : Bet ws w a v) (he : Bet ws e v b) (hav : a ≠ v) (hab : a ≠ b) (hvb : v ≠ b) (a0 : 0 ≤ a) (a1 : a < E) (b1 : b < E) : seenV ws E m w = true := by
  obtain ⟨k, rfl⟩ : ∃ k, m = k + 3 := ⟨m - 3, by omega⟩
  refine seen_of a0 a1 (path_step hw (by simpa using Ne.symm hav) ?_)
  rw [eqW_self, Bool.or_true]
  refine path_step he (by simp; exact ⟨Ne.symm hab, Ne.symm hvb⟩) ?_
  exact path_end b1 (by simp)

theorem seen3 {ws : List W3} {E : Int} {m : Nat} {w e1 e2 e3 : W3} {a p q b : Int} (hm : 4 ≤ m) (h1 : Bet ws e1 a p) (h2 : Bet ws e2 p q) (h3 : Bet ws e3 q b) (hw : (eqW e1 w || eqW e2 w) = true) (hnd : [a, p, q, b].Nodup) (a0 : 0 ≤ a) (a1 : a < E) (b1 : b < E) : seenV ws E m w = true := by
  obtain ⟨k, rfl⟩ : ∃ k, m = k + 4 := ⟨m - 4, by omega⟩
  simp only [List.nodup_cons, List.mem_cons, List.not_mem_nil, or_false, not_or, List.nodup_nil, and_true, not_false_eq_true] at hnd
  obtain ⟨⟨n1, n2, n3⟩, ⟨n4, n5⟩, n6⟩ := hnd
  refine seen_of a0 a1 (path_step h1 (by simpa using Ne.symm n1) ?_)
  refine path_step h2 (by simp; exact ⟨Ne.symm n2, Ne.symm n4⟩) ?_
  refine path_step h3 (by simp; exact ⟨Ne.symm n3, Ne.symm n5, Ne.symm n6⟩) ?_
  rw [Bool.false_or, hw, Bool.true_or]
  exact path_end b1 (by simp)

section
variable {n n' : TNet} {m E : Nat} {L L' : List (List Int)} {inn inn' : List Int}

/-- Where weights are, wires are. -/
theorem Lk.bet (h : Lk n m L) {p q : Int} (hp : 0 ≤ p ∧ p < m) (hq : 0 ≤ q ∧ q < m) (hpq : p ≠ q) (h0 : at2 L p q ≠ 0) : ∃ e, Bet n.2.2.2 e p q := by
  rw [h.a2 hp hq, if_neg hpq] at h0
  rcases Int.lt_or_gt_of_ne hpq with hl | hl
  · have hz : wbt n.2.2.2 p q ≠ 0 := by omega
    exact ⟨_, (wbt_mem h.srt hl hz).1 rfl, .inl ⟨rfl, rfl⟩⟩
  · rw [wbt_comm] at h0
    have hz : wbt n.2.2.2 q p ≠ 0 := by omega
    exact ⟨_, (wbt_mem h.srt hl hz).1 rfl, .inr ⟨rfl, rfl⟩⟩

/-- The same response, by cross products. -/
theorem resp_same (h : Nk n m E L inn) (h' : Nk n' m E L' inn) (hE : 2 ≤ E) (hs : n'.2.2.1 = n.2.2.1)
    (hc : ∀ i j : Nat, i < E → j < E → detZ L' ((i : Int) :: inn) ((j : Int) :: inn) * detZ L inn inn = detZ L ((i : Int) :: inn) ((j : Int) :: inn) * detZ L' inn inn) : Go.Sx.R.respV n' = Go.Sx.R.respV n := by
  rw [h.respV, h'.respV]
  unfold respT
  refine List.map_congr_left fun i hi => List.map_congr_left fun j hj => ?_
  have hi : i < E := by simpa using hi
  have hj : j < E := by simpa using hj
  rw [h.rtZ hE hi hj, h'.rtZ hE hi hj]
  refine (ratZ_eq (h'.dOf1 hE).1 (h.dOf1 hE).1).2 ?_
  have := hc i j hi hj
  simp only [dOf, hs]
  rw [← Int.mul_assoc, ← Int.mul_assoc, Int.mul_comm _ n.2.2.1, Int.mul_comm _ n.2.2.1, Int.mul_assoc, Int.mul_assoc, this]
end

theorem zsum0 {F : Int → Int} : ∀ (l : List Int), (∀ y ∈ l, F y = 0) → (l.map F).sum = 0
  | [], _ => rfl
  | x :: l, h => by simp only [List.map_cons, List.sum_cons, h x (by simp), zsum0 l fun y hy => h y (by simp [hy])]; rfl

/-- One inner node, with one neighbour. -/
theorem leaf_cross {L L' : List (List Int)} {m : Nat} {a v t : Int} (hu : Upd L L' (wo m []) a v t) (ha : 0 ≤ a ∧ a < m) (hv : 0 ≤ v ∧ v < m) (hav : a ≠ v) (hz : ∀ b : Int, 0 ≤ b → b < m → b ≠ a → b ≠ v → at2 L v b = 0)
    {i j : Int} (hi : 0 ≤ i ∧ i < m) (hj : 0 ≤ j ∧ j < m) (hiv : i ≠ v) (hjv : j ≠ v) : detZ L' [i, v] [j, v] * detZ L [v] [v] = detZ L [i, v] [j, v] * detZ L' [v] [v] := by
  have mem : ∀ {c : Int}, 0 ≤ c ∧ c < m → c ∈ wo m [] := fun h => mem_wo.2 ⟨h.1, h.2, by simp⟩
  have hz' : ∀ b : Int, 0 ≤ b → b < m → b ≠ a → b ≠ v → at2 L' v b = 0 := fun b b0 b1 h1 h2 => by
    rw [hu.same v (mem hv) b (mem ⟨b0, b1⟩) (by omega) (by omega) (by omega) (by omega)]
    exact hz b b0 b1 h1 h2
  have px : (wo m []).Perm (v :: a :: wo m [a, v]) := (wo_cons hv.1 hv.2 (by simp)).trans ((wo_cons ha.1 ha.2 (by simpa using hav)).cons _)
  have rest : ∀ y ∈ wo m [a, v], 0 ≤ y ∧ y < m ∧ y ≠ a ∧ y ≠ v := fun y hy => by
    have := mem_wo.1 hy
    simp only [List.mem_cons, List.not_mem_nil, or_false, not_or] at this
    exact ⟨this.1, this.2.1, this.2.2.1, this.2.2.2⟩
  have s1 := hu.l.sum v (mem hv)
  have s2 := hu.l'.sum v (mem hv)
  rw [perm_sum (px.map (at2 L v))] at s1
  rw [perm_sum (px.map (at2 L' v))] at s2
  simp only [List.map_cons, List.sum_cons, zsum0 _ fun y hy => hz y (rest y hy).1 (rest y hy).2.1 (rest y hy).2.2.1 (rest y hy).2.2.2] at s1
  simp only [List.map_cons, List.sum_cons, zsum0 _ fun y hy => hz' y (rest y hy).1 (rest y hy).2.1 (rest y hy).2.2.1 (rest y hy).2.2.2] at s2
  rw [detZ2, detZ2, detZ1, detZ1]
  by_cases c1 : i = a
  · by_cases c2 : j = a
    · rw [c1, c2]
      have e1 := hu.ii
      have e2 := hu.jj
      have y1 := hu.l.sym a (mem ha) v (mem hv)
      have y2 := hu.l'.sym a (mem ha) v (mem hv)
      rw [y1, y2, e1, e2]
      rw [e2] at s2
      generalize at2 L a a = A at *
      generalize at2 L v v = W at *
      have z1 : at2 L v a = -W := by omega
      have z2 : at2 L' v a = -(W + t) := by omega
      rw [z1, z2]
      grind
    · have z1 := hz j hj.1 hj.2 c2 hjv
      have z2 := hz' j hj.1 hj.2 c2 hjv
      have e := hu.same i (mem hi) j (mem hj) (by omega) (by omega) (by omega) (by omega)
      rw [z1, z2, e]
      grind
  · have y1 := hu.l.sym i (mem hi) v (mem hv)
    have y2 := hu.l'.sym i (mem hi) v (mem hv)
    have z1 := hz i hi.1 hi.2 c1 hiv
    have z2 := hz' i hi.1 hi.2 c1 hiv
    have e := hu.same i (mem hi) j (mem hj) (by omega) (by omega) (by omega) (by omega)
    rw [y1, y2, z1, z2, e]
    grind

end Go.Sx.R
namespace Go.Sx.R
open Go Go.Sx

def dW (ac ad bc bd cd : Int) : Int := (ac + bc + cd) * (ad + bd + cd) - cd * cd
def sW (ac ad bc bd cd : Int) : Int := ac * bc * (ad + bd + cd) + ad * bd * (ac + bc + cd) + cd * (ac * bd + ad * bc)

theorem four_vals {M : List (List Int)} (h : LapZ M [0, 1, 2, 3]) : ∃ ab ac ad bc bd cd : Int, at2 M 0 1 = -ab ∧ at2 M 0 2 = -ac ∧ at2 M 0 3 = -ad ∧ at2 M 1 2 = -bc ∧ at2 M 1 3 = -bd ∧ at2 M 2 3 = -cd ∧
    detZ M [2, 3] [2, 3] = dW ac ad bc bd cd ∧ detZ M [0, 2, 3] [0, 2, 3] = ab * dW ac ad bc bd cd + sW ac ad bc bd cd ∧ detZ M [0, 2, 3] [1, 2, 3] = -(ab * dW ac ad bc bd cd + sW ac ad bc bd cd) ∧
    detZ M [1, 2, 3] [0, 2, 3] = -(ab * dW ac ad bc bd cd + sW ac ad bc bd cd) ∧ detZ M [1, 2, 3] [1, 2, 3] = ab * dW ac ad bc bd cd + sW ac ad bc bd cd := by
  obtain ⟨ab, ac, ad, bc, bd, cd, _, _, _, _, _, _, h1, h2, h3, h4, h5, h6, h7, h8, h9, h10, h11, h12, h13, h14, h15, h16⟩ := h.four
  refine ⟨ab, ac, ad, bc, bd, cd, h1, h3, h5, h7, h9, h11, ?_, ?_, ?_, ?_, ?_⟩
  · rw [detZ2, h15, h16, h11, h12]; unfold dW; clear h h1 h2 h3 h4 h5 h6 h7 h8 h9 h10 h11 h12 h13 h14 h15 h16; grind
  · rw [detZ3, h13, h15, h16, h3, h4, h5, h6, h11, h12]; unfold dW sW; clear h h1 h2 h3 h4 h5 h6 h7 h8 h9 h10 h11 h12 h13 h14 h15 h16; grind
  · rw [detZ3, h1, h15, h16, h3, h5, h8, h10, h11, h12]; unfold dW sW; clear h h1 h2 h3 h4 h5 h6 h7 h8 h9 h10 h11 h12 h13 h14 h15 h16; grind
  · rw [detZ3, h2, h15, h16, h7, h9, h4, h6, h11, h12]; unfold dW sW; clear h h1 h2 h3 h4 h5 h6 h7 h8 h9 h10 h11 h12 h13 h14 h15 h16; grind
  · rw [detZ3, h14, h15, h16, h7, h8, h9, h10, h11, h12]; unfold dW sW; clear h h1 h2 h3 h4 h5 h6 h7 h8 h9 h10 h11 h12 h13 h14 h15 h16; grind

/-- The facts of a wire on no path, among two terminals and two inner nodes. -/
def Off4 (L : List (List Int)) (p q : Int) : Prop :=
  (p = 0 ∧ q = 2 ∧ at2 L 1 2 = 0 ∧ (at2 L 2 3 = 0 ∨ at2 L 1 3 = 0)) ∨ (p = 0 ∧ q = 3 ∧ at2 L 1 3 = 0 ∧ (at2 L 2 3 = 0 ∨ at2 L 1 2 = 0)) ∨
  (p = 1 ∧ q = 2 ∧ at2 L 0 2 = 0 ∧ (at2 L 2 3 = 0 ∨ at2 L 0 3 = 0)) ∨ (p = 1 ∧ q = 3 ∧ at2 L 0 3 = 0 ∧ (at2 L 2 3 = 0 ∨ at2 L 0 2 = 0)) ∨
  (p = 2 ∧ q = 3 ∧ (at2 L 0 2 = 0 ∨ at2 L 1 3 = 0) ∧ (at2 L 0 3 = 0 ∨ at2 L 1 2 = 0))

theorem sd_core {L L' : List (List Int)} {p q t : Int} (hu : Upd L L' [0, 1, 2, 3] p q t) (ho : Off4 L p q) {ab ac ad bc bd cd ab' ac' ad' bc' bd' cd' : Int}
    (h1 : at2 L 0 1 = -ab) (h2 : at2 L 0 2 = -ac) (h3 : at2 L 0 3 = -ad) (h4 : at2 L 1 2 = -bc) (h5 : at2 L 1 3 = -bd) (h6 : at2 L 2 3 = -cd)
    (g1 : at2 L' 0 1 = -ab') (g2 : at2 L' 0 2 = -ac') (g3 : at2 L' 0 3 = -ad') (g4 : at2 L' 1 2 = -bc') (g5 : at2 L' 1 3 = -bd') (g6 : at2 L' 2 3 = -cd') :
    ab' = ab ∧ sW ac' ad' bc' bd' cd' * dW ac ad bc bd cd = sW ac ad bc bd cd * dW ac' ad' bc' bd' cd' := by
  have s1 := hu.same 0 (by simp) 1 (by simp)
  have s2 := hu.same 0 (by simp) 2 (by simp)
  have s3 := hu.same 0 (by simp) 3 (by simp)
  have s4 := hu.same 1 (by simp) 2 (by simp)
  have s5 := hu.same 1 (by simp) 3 (by simp)
  have s6 := hu.same 2 (by simp) 3 (by simp)
  rw [h1, g1] at s1
  rw [h2, g2] at s2
  rw [h3, g3] at s3
  rw [h4, g4] at s4
  rw [h5, g5] at s5
  rw [h6, g6] at s6
  unfold Off4 at ho
  rw [h2, h3, h4, h5, h6] at ho
  clear h1 h2 h3 h4 h5 h6 g1 g2 g3 g4 g5 g6 hu
  unfold sW dW
  rcases ho with ⟨rfl, rfl, z1, z2⟩ | ⟨rfl, rfl, z1, z2⟩ | ⟨rfl, rfl, z1, z2⟩ | ⟨rfl, rfl, z1, z2⟩ | ⟨rfl, rfl, z1, z2⟩
  · have e1 : ab' = ab := by have := s1 (by omega) (by omega) (by omega) (by omega); omega
    have e3 : ad' = ad := by have := s3 (by omega) (by omega) (by omega) (by omega); omega
    have e4 : bc' = bc := by have := s4 (by omega) (by omega) (by omega) (by omega); omega
    have e5 : bd' = bd := by have := s5 (by omega) (by omega) (by omega) (by omega); omega
    have e6 : cd' = cd := by have := s6 (by omega) (by omega) (by omega) (by omega); omega
    have w1 : bc = 0 := by omega
    have w2 : cd = 0 ∨ bd = 0 := by omega
    subst e1 e3 e4 e5 e6 w1
    clear s1 s2 s3 s4 s5 s6 z1 z2
    refine ⟨rfl, ?_⟩
    rcases w2 with rfl | rfl <;> grind
  · have e1 : ab' = ab := by have := s1 (by omega) (by omega) (by omega) (by omega); omega
    have e3 : ac' = ac := by have := s2 (by omega) (by omega) (by omega) (by omega); omega
    have e4 : bc' = bc := by have := s4 (by omega) (by omega) (by omega) (by omega); omega
    have e5 : bd' = bd := by have := s5 (by omega) (by omega) (by omega) (by omega); omega
    have e6 : cd' = cd := by have := s6 (by omega) (by omega) (by omega) (by omega); omega
    have w1 : bd = 0 := by omega
    have w2 : cd = 0 ∨ bc = 0 := by omega
    subst e1 e3 e4 e5 e6 w1
    clear s1 s2 s3 s4 s5 s6 z1 z2
    refine ⟨rfl, ?_⟩
    rcases w2 with rfl | rfl <;> grind
  · have e1 : ab' = ab := by have := s1 (by omega) (by omega) (by omega) (by omega); omega
    have e3 : ac' = ac := by have := s2 (by omega) (by omega) (by omega) (by omega); omega
    have e4 : ad' = ad := by have := s3 (by omega) (by omega) (by omega) (by omega); omega
    have e5 : bd' = bd := by have := s5 (by omega) (by omega) (by omega) (by omega); omega
    have e6 : cd' = cd := by have := s6 (by omega) (by omega) (by omega) (by omega); omega
    have w1 : ac = 0 := by omega
    have w2 : cd = 0 ∨ ad = 0 := by omega
    subst e1 e3 e4 e5 e6 w1
    clear s1 s2 s3 s4 s5 s6 z1 z2
    refine ⟨rfl, ?_⟩
    rcases w2 with rfl | rfl <;> grind
  · have e1 : ab' = ab := by have := s1 (by omega) (by omega) (by omega) (by omega); omega
    have e3 : ac' = ac := by have := s2 (by omega) (by omega) (by omega) (by omega); omega
    have e4 : ad' = ad := by have := s3 (by omega) (by omega) (by omega) (by omega); omega
    have e5 : bc' = bc := by have := s4 (by omega) (by omega) (by omega) (by omega); omega
    have e6 : cd' = cd := by have := s6 (by omega) (by omega) (by omega) (by omega); omega
    have w1 : ad = 0 := by omega
    have w2 : cd = 0 ∨ ac = 0 := by omega
    subst e1 e3 e4 e5 e6 w1
    clear s1 s2 s3 s4 s5 s6 z1 z2
    refine ⟨rfl, ?_⟩
    rcases w2 with rfl | rfl <;> grind
  · have e1 : ab' = ab := by have := s1 (by omega) (by omega) (by omega) (by omega); omega
    have e3 : ac' = ac := by have := s2 (by omega) (by omega) (by omega) (by omega); omega
    have e4 : ad' = ad := by have := s3 (by omega) (by omega) (by omega) (by omega); omega
    have e5 : bc' = bc := by have := s4 (by omega) (by omega) (by omega) (by omega); omega
    have e6 : bd' = bd := by have := s5 (by omega) (by omega) (by omega) (by omega); omega
    have w1 : ac = 0 ∨ bd = 0 := by omega
    have w2 : ad = 0 ∨ bc = 0 := by omega
    subst e1 e3 e4 e5 e6
    clear s1 s2 s3 s4 s5 s6 z1 z2
    refine ⟨rfl, ?_⟩
    rcases w1 with rfl | rfl <;> rcases w2 with rfl | rfl <;> grind

theorem pair_cross {L L' : List (List Int)} {p q t : Int} (hu : Upd L L' [0, 1, 2, 3] p q t) (ho : Off4 L p q) {i j : Int} (hi : i = 0 ∨ i = 1) (hj : j = 0 ∨ j = 1) :
    detZ L' [i, 2, 3] [j, 2, 3] * detZ L [2, 3] [2, 3] = detZ L [i, 2, 3] [j, 2, 3] * detZ L' [2, 3] [2, 3] := by
  obtain ⟨ab, ac, ad, bc, bd, cd, h1, h2, h3, h4, h5, h6, D, N00, N01, N10, N11⟩ := four_vals hu.l
  obtain ⟨ab', ac', ad', bc', bd', cd', g1, g2, g3, g4, g5, g6, D', M00, M01, M10, M11⟩ := four_vals hu.l'
  obtain ⟨e, c⟩ := sd_core hu ho h1 h2 h3 h4 h5 h6 g1 g2 g3 g4 g5 g6
  subst e
  generalize dW ac ad bc bd cd = d at *
  generalize dW ac' ad' bc' bd' cd' = d' at *
  generalize sW ac ad bc bd cd = s at *
  generalize sW ac' ad' bc' bd' cd' = s' at *
  have key : (ab' * d' + s') * d = (ab' * d + s) * d' := by clear h1 h2 h3 h4 h5 h6 g1 g2 g3 g4 g5 g6 hu ho D N00 N01 N10 N11 D' M00 M01 M10 M11; grind
  rcases hi with rfl | rfl <;> rcases hj with rfl | rfl
  · rw [D, D', N00, M00]; exact key
  · rw [D, D', N01, M01, Int.neg_mul, Int.neg_mul, key]
  · rw [D, D', N10, M10, Int.neg_mul, Int.neg_mul, key]
  · rw [D, D', N11, M11]; exact key

theorem wo4 : wo 4 [] = [0, 1, 2, 3] := by decide

/-- A wire on no path: its weight is not felt. -/
theorem blind_resp {n : TNet} {m E : Nat} {L L' : List (List Int)} {inn inn' : List Int} {i : Nat} {x : W3} {u : Int} (h : Nk n m E L inn) (hE : 2 ≤ E) (h4 : m ≤ 4) (hx : n.2.2.2[i]? = some x) (hb : seenV n.2.2.2 n.2.1 m x = false) (h' : Nk (fltN n i x u) m E L' inn') :
    Go.Sx.R.respV (fltN n i x u) = Go.Sx.R.respV n := by
  have hin : inn' = inn := by rw [h'.inn, h.inn]; rfl
  subst hin
  have hq : Lq (fltN n i x u).2.2.2 m L' := ⟨h'.tab, h'.srt, h'.inw, h'.hw⟩
  have hu := updq_of h.lk hx hq
  have hxm := List.mem_of_getElem? hx
  obtain ⟨x0, x1, x2⟩ := h.inw x hxm
  have bet : Bet n.2.2.2 x x.1 x.2.1 := ⟨hxm, .inl ⟨rfl, rfl⟩⟩
  have he := h.he
  have hem := h.em
  have no : seenV n.2.2.2 n.2.1 m x = true → False := fun hs => by rw [hb] at hs; cases hs
  by_cases ht : x.2.1 < E
  · exact (no (seen1 (by omega) bet (by omega) x0 (by omega) (by omega))).elim
  have no2 : ∀ a v b : Int, Bet n.2.2.2 x a v → a ≠ v → a ≠ b → v ≠ b → 0 ≤ a → a < E → 0 ≤ b → b < E → 0 ≤ v → v < m → 3 ≤ m → at2 L v b = 0 := by
    intro a v b hbe n1 n2 n3 a0 a1 b0 b1 v0 v1 hm3
    apply Classical.byContradiction
    intro hz
    obtain ⟨e, hbe2⟩ := h.lk.bet ⟨v0, v1⟩ ⟨b0, by omega⟩ n3 hz
    exact no (seen2 hm3 hbe hbe2 n1 n2 n3 a0 (by omega) (by omega))
  by_cases c1 : m = E + 1
  · have i1 : inn' = [(E : Int)] := by rw [h.inn, c1, he, Nat.add_sub_cancel_left]; simp [rng]
    have xv : x.2.1 = E := by omega
    rw [i1] at h h'
    refine resp_same h h' hE rfl fun a b ha hb => ?_
    rw [xv] at hu bet
    exact leaf_cross hu (by omega) (by omega) (by omega) (fun c c0 c1 c2 c3 => no2 x.1 E c bet (by omega) (by omega) (by omega) x0 (by omega) c0 (by omega) (by omega) (by omega) (by omega)) (by omega) (by omega) (by omega) (by omega)
  · have hE2 : E = 2 := by omega
    have hm4 : m = 4 := by omega
    subst hE2; subst hm4
    have i1 : inn' = [(2 : Int), 3] := by rw [h.inn, he]; decide
    rw [i1] at h h'
    rw [wo4] at hu
    have no3 : ∀ a p q b : Int, Bet n.2.2.2 x a p → [a, p, q, b].Nodup → 0 ≤ a → a < 2 → 0 ≤ b → b < 2 → 0 ≤ p → p < 4 → 0 ≤ q → q < 4 → at2 L p q = 0 ∨ at2 L q b = 0 := by
      intro a p q b hbe hnd a0 a1 b0 b1 p0 p1 q0 q1
      apply Classical.byContradiction
      intro hz
      rw [not_or] at hz
      have hn := hnd
      simp only [List.nodup_cons, List.mem_cons, List.not_mem_nil, or_false, not_or, List.nodup_nil, and_true, not_false_eq_true] at hn
      obtain ⟨e2, hb2⟩ := h.lk.bet ⟨p0, p1⟩ ⟨q0, q1⟩ hn.2.1.1 hz.1
      obtain ⟨e3, hb3⟩ := h.lk.bet ⟨q0, q1⟩ ⟨b0, by omega⟩ hn.2.2 hz.2
      exact no (seen3 (by omega) hbe hb2 hb3 (by rw [eqW_self, Bool.true_or]) hnd a0 (by omega) (by omega))
    have no3m : ∀ a p q b : Int, Bet n.2.2.2 x p q → [a, p, q, b].Nodup → 0 ≤ a → a < 2 → 0 ≤ b → b < 2 → 0 ≤ p → p < 4 → 0 ≤ q → q < 4 → at2 L a p = 0 ∨ at2 L q b = 0 := by
      intro a p q b hbe hnd a0 a1 b0 b1 p0 p1 q0 q1
      apply Classical.byContradiction
      intro hz
      rw [not_or] at hz
      have hn := hnd
      simp only [List.nodup_cons, List.mem_cons, List.not_mem_nil, or_false, not_or, List.nodup_nil, and_true, not_false_eq_true] at hn
      obtain ⟨e1, hb1⟩ := h.lk.bet ⟨a0, by omega⟩ ⟨p0, p1⟩ hn.1.1 hz.1
      obtain ⟨e3, hb3⟩ := h.lk.bet ⟨q0, q1⟩ ⟨b0, by omega⟩ hn.2.2 hz.2
      exact no (seen3 (by omega) hb1 hbe hb3 (by rw [eqW_self, Bool.or_true]) hnd a0 (by omega) (by omega))
    have sy : ∀ a b : Int, a ∈ [(0 : Int), 1, 2, 3] → b ∈ [(0 : Int), 1, 2, 3] → at2 L a b = at2 L b a := fun a b ha hb => hu.l.sym a ha b hb
    have y1 := sy 1 2 (by simp) (by simp)
    have y2 := sy 1 3 (by simp) (by simp)
    have y3 := sy 0 2 (by simp) (by simp)
    have y4 := sy 0 3 (by simp) (by simp)
    have y5 := sy 2 3 (by simp) (by simp)
    have off : Off4 L x.1 x.2.1 := by
      have cs : (x.1 = 0 ∧ x.2.1 = 2) ∨ (x.1 = 0 ∧ x.2.1 = 3) ∨ (x.1 = 1 ∧ x.2.1 = 2) ∨ (x.1 = 1 ∧ x.2.1 = 3) ∨ (x.1 = 2 ∧ x.2.1 = 3) := by omega
      unfold Off4
      rcases cs with ⟨k1, k2⟩ | ⟨k1, k2⟩ | ⟨k1, k2⟩ | ⟨k1, k2⟩ | ⟨k1, k2⟩ <;> rw [k1, k2] at bet
      · have z1 := no2 0 2 1 bet (by omega) (by omega) (by omega) (by omega) (by omega) (by omega) (by omega) (by omega) (by omega) (by omega)
        have z2 := no3 0 2 3 1 bet (by decide) (by omega) (by omega) (by omega) (by omega) (by omega) (by omega) (by omega) (by omega)
        rw [← y1] at z1
        rw [← y2] at z2
        exact .inl ⟨k1, k2, z1, z2⟩
      · have z1 := no2 0 3 1 bet (by omega) (by omega) (by omega) (by omega) (by omega) (by omega) (by omega) (by omega) (by omega) (by omega)
        have z2 := no3 0 3 2 1 bet (by decide) (by omega) (by omega) (by omega) (by omega) (by omega) (by omega) (by omega) (by omega)
        rw [← y2] at z1
        rw [← y1, ← y5] at z2
        exact .inr (.inl ⟨k1, k2, z1, z2⟩)
      · have z1 := no2 1 2 0 bet (by omega) (by omega) (by omega) (by omega) (by omega) (by omega) (by omega) (by omega) (by omega) (by omega)
        have z2 := no3 1 2 3 0 bet (by decide) (by omega) (by omega) (by omega) (by omega) (by omega) (by omega) (by omega) (by omega)
        rw [← y3] at z1
        rw [← y4] at z2
        exact .inr (.inr (.inl ⟨k1, k2, z1, z2⟩))
      · have z1 := no2 1 3 0 bet (by omega) (by omega) (by omega) (by omega) (by omega) (by omega) (by omega) (by omega) (by omega) (by omega)
        have z2 := no3 1 3 2 0 bet (by decide) (by omega) (by omega) (by omega) (by omega) (by omega) (by omega) (by omega) (by omega)
        rw [← y4] at z1
        rw [← y3, ← y5] at z2
        exact .inr (.inr (.inr (.inl ⟨k1, k2, z1, z2⟩)))
      · have z1 := no3m 0 2 3 1 bet (by decide) (by omega) (by omega) (by omega) (by omega) (by omega) (by omega) (by omega) (by omega)
        have z2 := no3m 0 3 2 1 bet.flip (by decide) (by omega) (by omega) (by omega) (by omega) (by omega) (by omega) (by omega) (by omega)
        rw [← y2] at z1
        rw [← y1] at z2
        exact .inr (.inr (.inr (.inr ⟨k1, k2, z1, z2⟩)))
    refine resp_same h h' (by omega) rfl fun a b ha hb => ?_
    exact pair_cross hu off (by omega) (by omega)

end Go.Sx.R
namespace Go.Sx.R
open Go Go.Sx

def bnd : Nat → Nat
  | 0 => 1
  | n + 1 => 5 * bnd n

end Go.Sx.R
namespace Go.Sx.R
open Go Go.Sx

theorem e_Has : e_laws_has = e_spec_l03Has := rfl

theorem p_Hidden (n : TNet) (h0 : Sm.sm B0 n) (hok : netok n = true) : e_impl_HiddenFaults (n, ()) = some ((fltsV n).filter fun f => decide (respV (fltV n f).1 = respV n)) := by
  obtain ⟨q1, _, _⟩ := p_Resp n (up_net B01 h0)
  simp only [e_impl_HiddenFaults, r_impl_HiddenFaults, q1, Option.bind_some, p_Like n h0 hok]

theorem mem_blind (n : TNet) (m : Nat) (y : Int) : y ∈ blindV n m ↔ ∃ (k : Nat) (x : W3), n.2.2.2[k]? = some x ∧ y = k ∧ seenV n.2.2.2 n.2.1 m x = false := by
  have gen : ∀ (l : List W3) (i : Nat) (out : List Int), y ∈ foldI (fun out i x => if seenV n.2.2.2 n.2.1 m x then out else out ++ [(i : Int)]) l i out ↔ y ∈ out ∨ ∃ (k : Nat) (x : W3), l[k]? = some x ∧ y = ((i + k : Nat) : Int) ∧ seenV n.2.2.2 n.2.1 m x = false := by
    intro l
    induction l with
    | nil => intro i out; simp [foldI]
    | cons x l ih =>
      intro i out
      simp only [foldI, ih]
      have hst : y ∈ (if seenV n.2.2.2 n.2.1 m x then out else out ++ [(i : Int)]) ↔ y ∈ out ∨ (y = i ∧ seenV n.2.2.2 n.2.1 m x = false) := by
        cases hs : seenV n.2.2.2 n.2.1 m x <;> simp
      rw [hst]
      constructor
      · rintro ((h | ⟨h1, h2⟩) | ⟨k, z, h1, h2, h3⟩)
        · exact .inl h
        · exact .inr ⟨0, x, rfl, by simpa using h1, h2⟩
        · exact .inr ⟨k + 1, z, h1, by rw [h2]; congr 1; omega, h3⟩
      · rintro (h | ⟨k, z, h1, h2, h3⟩)
        · exact .inl (.inl h)
        · cases k with
          | zero =>
            simp only [List.getElem?_cons_zero, Option.some.injEq] at h1
            subst h1
            exact .inl (.inr ⟨by simpa using h2, h3⟩)
          | succ k => exact .inr ⟨k, z, h1, by rw [h2]; congr 1; omega, h3⟩
  have := gen n.2.2.2 0 []
  simp only [List.not_mem_nil, false_or, Nat.zero_add] at this
  exact this

theorem law_FnHidden (A : Option (Nat × Obj)) (v : Value) (hc : CodeOk A v) : e_laws_FnHidden A (v, ()) = some true := by
  obtain ⟨p, len, c, rfl, _⟩ := id hc
  simp only [e_laws_FnHidden, r_laws_FnHidden, rawLen, Option.bind_some]
  by_cases hlen : (len : Int) > 1048576
  · simp only [hlen, decide_true, cond_true]
  simp only [hlen, decide_false, cond_false]
  obtain ⟨n, e1, hd, hw⟩ := makeSmall_ok hc
  obtain ⟨hok, h0⟩ := hd.ok (by omega) (by omega)
  have hn : Sm.sm B1 n := up_net B01 h0
  obtain ⟨l1, _, l3, l4⟩ := p_AllF n h0 hok
  obtain ⟨m, E, L, inn, hk⟩ := nk_of n hn hok
  have hE : 2 ≤ E := by have := hd.e2; have := hk.he; omega
  have hm4 : m ≤ 4 := by have := hd.most; have := hk.hm; omega
  obtain ⟨b, b1, _, b3, b4⟩ := blind_both n hn
  have hbv := b4 hok m hk.hm
  have hwl : n.2.2.2.length ≤ 1073741824 := hn.2.2.2.1
  have hmem := mem_flts n hn hok
  have hne : 0 < (fltsV n).length := by
    obtain ⟨x, hx⟩ : ∃ x, n.2.2.2[0]? = some x := ⟨_, List.getElem?_eq_getElem (by omega)⟩
    have hxw := hd.wok.w x (List.mem_of_getElem? hx)
    have : (((0 : Nat) : Int), x.2.2 + 1) ∈ fltsV n := (hmem _).2 (flt_pos hd (by omega) (by omega) hx (by omega) (by omega) (by omega))
    exact List.length_pos_of_mem this
  -- a fault of a wire on no path is hidden
  have hid : ∀ f ∈ fltsV n, f.1 ∈ b → respV (fltV n f).1 = respV n := by
    intro f hf hfb
    obtain ⟨i, x, h1, hx, h2, h3, h4, h5, h6⟩ := flt_ok n hn hok f ((hmem f).1 hf)
    rw [hbv, h1, mem_blind] at hfb
    obtain ⟨k, y, hy, hk1, hs⟩ := hfb
    have : k = i := by omega
    subst this
    rw [hx] at hy
    simp only [Option.some.injEq] at hy
    subst hy
    obtain ⟨_, hsm⟩ := fltN_sm n hn hx h2 h3
    obtain ⟨m', E', L', inn', hk'⟩ := nk_of _ hsm h5
    have em : m' = m := by
      have a := hk'.hm
      have b := hk.hm
      have : (fltN n k x f.2).1 = n.1 := rfl
      omega
    have eE : E' = E := by
      have a := hk'.he
      have b := hk.he
      have : (fltN n k x f.2).2.1 = n.2.1 := rfl
      omega
    subst em; subst eE
    rw [h6]
    exact blind_resp hk hE hm4 hx hs hk'
  have hcan : ∀ w : Int, w ∈ b → e_impl_CanLocate (n, w, ()) = some false := by
    intro w hwb
    have hwb' := hwb
    rw [hbv, mem_blind] at hwb'
    obtain ⟨k, y, hy, hk1, _⟩ := hwb'
    have hkl := (List.getElem?_eq_some_iff.1 hy).1
    rw [p_Can n h0 hok (by omega) (by omega)]
    congr 1
    simp only [canV, decide_eq_false_iff_not]
    rintro ⟨⟨f, hf, hfw⟩, hall⟩
    refine hall f hf ⟨hfw, .inl ?_⟩
    rw [aft_flt n hn f]
    exact hid f hf (by rw [hfw]; exact hwb)
  have hhas : ∀ y, e_laws_has (b, y, ()) = some (decide (y ∈ b)) := fun y => by
    rw [e_Has]
    exact p_Has b y (by have : b.length ≤ 1073741824 := b3.1; simp only [BB]; omega)
  have hbl : b.length ≤ 1073741824 := b3.1
  have hH := p_Hidden n h0 hok
  generalize hHl : ((fltsV n).filter fun f => decide (respV (fltV n f).1 = respV n)) = H at hH
  have hHm : ∀ g, g ∈ H ↔ g ∈ fltsV n ∧ respV (fltV n g).1 = respV n := fun g => by rw [← hHl, List.mem_filter, decide_eq_true_eq]
  have hHlen : H.length ≤ 1073741824 := by rw [← hHl]; exact Nat.le_trans (List.length_filter_le _ _) l3.1
  have hll : (fltsV n).length ≤ 1073741824 := l3.1
  have c1 : decide (((fltsV n).length : Int) = 0) = false := by rw [decide_eq_false_iff_not]; omega
  simp only [e1, hH, b1, l1, Option.bind_some, c1, cond_false]
  generalize fltsV n = l at hmem hid hHm hll
  -- all faults
  have inner : ∀ (f : Int × Int) (x : TNet) (ok : Bool) (i : Int) (k : _ → Option Bool), iterK (r_laws_FnHidden_L2 (e_spec_MakeSmall A) e_impl_HiddenFaults e_impl_BlindWires e_impl_AllFaults e_impl_NetOk e_impl_ApplyFault e_impl_AreAlike e_laws_has e_impl_CanLocate N0) N0 (n, H, b, f, x, ok, false, l, (l.length : Int), i, H, (H.length : Int), 0, ()) k
      = k (n, H, b, f, x, ok, decide (f ∈ H), l, (l.length : Int), i, H, (H.length : Int), (H.length : Int), ()) := by
    intro f x ok i k
    have a := (iter_fold (R := Bool) (body := r_laws_FnHidden_L2 (e_spec_MakeSmall A) e_impl_HiddenFaults e_impl_BlindWires e_impl_AllFaults e_impl_NetOk e_impl_ApplyFault e_impl_AreAlike e_laws_has e_impl_CanLocate N0) H (fun (st : Bool) j => (n, H, b, f, x, ok, st, l, (l.length : Int), i, H, (H.length : Int), j, ())) (fun _ _ => True) (fun st _ g => st || decide (g = f))
      (fun st j g kc ke _ hg hj => by
        refine ⟨?_, trivial⟩
        simp only [r_laws_FnHidden_L2, lt_len, hj, decide_true, cond_true, getI_nat, hg, Option.bind_some, wr_succ hj (show H.length ≤ 9223372036854775807 by omega), pair_ne]
        cases st <;> simp)
      (fun st kc ke _ => by simp only [r_laws_FnHidden_L2, not_lt_self, cond_false]) (N := N0) (by have := N0_big; omega) false trivial k).1
    rw [foldI_or, Bool.false_or] at a
    have e : (H.any fun g => decide (g = f)) = decide (f ∈ H) := by
      rw [Bool.eq_iff_iff, List.any_eq_true, decide_eq_true_eq]
      constructor
      · rintro ⟨g, hg, e⟩
        rw [decide_eq_true_eq] at e
        rw [← e]; exact hg
      · exact fun h => ⟨f, h, by simp⟩
    rw [e] at a
    exact a
  refine iter_rule (R := Bool) (fun o => o = some true) l (fun (_ : Unit) i => (n, H, b, l, (l.length : Int), i, ())) (fun _ _ => True) (fun st i f kc _ hf hi hkc => ?_) (fun st kc _ => ?_) (N := N0) (by have := N0_big; omega) () trivial
  · have hfm := List.mem_of_getElem? hf
    have hfo := (hmem f).1 hfm
    obtain ⟨f1, _, f3⟩ := flt_both n hn f
    have hfn := flt_net n hn hok f
    have hdec : decide (f ∈ H) = decide (respV n = respV (fltV n f).1) := by
      have : f ∈ H ↔ respV n = respV (fltV n f).1 := by
        rw [hHm]
        exact ⟨fun h => h.2.symm, fun h => ⟨hfm, h.symm⟩⟩
      simp only [this]
    simp only [r_laws_FnHidden_L0, lt_len, hi, decide_true, cond_true, getI_nat, hf, Option.bind_some, f1, hfo, inner, Bool.not_true, cond_false, p_Alike n _ hn f3, hok, hfn, Bool.and_self, Bool.true_and, hdec, beqB_self, hhas, wr_succ hi (show l.length ≤ 9223372036854775807 by omega)]
    cases hfb : decide (f.1 ∈ b) with
    | false => exact hkc () trivial
    | true =>
      have hr := hid f hfm (of_decide_eq_true hfb)
      rw [hr]
      simp only [decide_true, Bool.not_true, cond_true, cond_false]
      exact hkc () trivial
  · simp only [r_laws_FnHidden_L0, not_lt_self, cond_false]
    -- the wires on no path
    refine iter_rule (R := Bool) (fun o => o = some true) b (fun (_ : Unit) i => (n, b, b, (b.length : Int), i, ())) (fun _ _ => True) (fun st i w kc _ hw hi hkc => ?_) (fun st kc _ => ?_) (N := N0) (by have := N0_big; omega) () trivial
    · have hwm := List.mem_of_getElem? hw
      simp only [r_laws_FnHidden_L4, lt_len, hi, decide_true, cond_true, getI_nat, hw, Option.bind_some, hcan w hwm, cond_false, wr_succ hi (show b.length ≤ 9223372036854775807 by omega)]
      exact hkc () trivial
    · simp only [r_laws_FnHidden_L4, not_lt_self, cond_false]
      refine iter_rule (R := Bool) (fun o => o = some true) n.2.2.2 (fun (_ : Unit) i => (n, b, (n.2.2.2.length : Int), i, ())) (fun _ _ => True) (fun st i x kc _ hx hi hkc => ?_) (fun st kc _ => ?_) (N := N0) (by have := N0_big; omega) () trivial
      · have hcn := p_Can n h0 hok (w := (i : Int)) (by omega) (by omega)
        simp only [r_laws_FnHidden_L6, lt_len, hi, decide_true, cond_true, hcn, Option.bind_some, wr_succ hi (show n.2.2.2.length ≤ 9223372036854775807 by omega), hhas]
        cases hcv : canV n (respV n) (fltsV n) (i : Int) with
        | false => exact hkc () trivial
        | true =>
          have hnb : decide ((i : Int) ∈ b) = false := by
            rw [decide_eq_false_iff_not]
            intro hib
            have := hcan _ hib
            rw [hcn, hcv] at this
            simp at this
          simp only [cond_true, hnb, cond_false]
          exact hkc () trivial
      · simp only [r_laws_FnHidden_L6, not_lt_self, cond_false, p_NetOk n hn, hok, Option.bind_some]

end Go.Sx.R
namespace Go.Sx.R
open Go Go.Sx

abbrev Mat := List (List (Int × Int))
/-- An entry. -/
def en (m : Mat) (i j : Nat) : Int × Int := (((m[i]?).getD [])[j]?).getD (0, 0)
end Go.Sx.R
