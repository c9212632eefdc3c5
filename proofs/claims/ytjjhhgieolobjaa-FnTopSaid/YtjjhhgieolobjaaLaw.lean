/- The law in plain words, part 2. Conditions: none. -/
import Derived.Test.YtjjhhgieolobjaaLawa
namespace Go.Sx.R
open Go Go.Sx
def sg : Nat → Int
  | 0 => 1
  | n + 1 => - sg n
def sumN : Nat → (Nat → Int) → Int
  | 0, _ => 0
  | k + 1, f => f 0 + sumN k fun i => f (i + 1)
theorem sumN_congr : ∀ {k : Nat} {f g : Nat → Int}, (∀ i, i < k → f i = g i) → sumN k f = sumN k g
  | 0, _, _, _ => rfl
  | k + 1, f, g, h => by
    simp only [sumN]
    rw [h 0 (by omega), sumN_congr fun i hi => h (i + 1) (by omega)]
theorem sumN_add : ∀ {k : Nat} {f g : Nat → Int}, sumN k (fun i => f i + g i) = sumN k f + sumN k g
  | 0, _, _ => rfl
  | k + 1, f, g => by
    simp only [sumN]
    rw [sumN_add (f := fun i => f (i + 1)) (g := fun i => g (i + 1))]; omega
theorem sumN_zero : ∀ {k : Nat} {f : Nat → Int}, (∀ i, i < k → f i = 0) → sumN k f = 0
  | 0, _, _ => rfl
  | k + 1, f, h => by
    simp only [sumN]
    rw [h 0 (by omega), sumN_zero fun i hi => h (i + 1) (by omega)]; rfl
theorem sumN_two : ∀ {k p : Nat} {f : Nat → Int}, p + 1 < k → f p + f (p + 1) = 0 → (∀ i, i < k → i ≠ p → i ≠ p + 1 → f i = 0) → sumN k f = 0
  | 0, _, _, h, _, _ => absurd h (by omega)
  | k + 1, 0, f, h, h2, h3 => by
    obtain ⟨k', rfl⟩ : ∃ k', k = k' + 1 := ⟨k - 1, by omega⟩
    simp only [sumN]
    rw [sumN_zero fun i hi => h3 (i + 1 + 1) (by omega) (by omega) (by omega)]
    simp only [Nat.zero_add] at h2 ⊢
    omega
  | k + 1, p + 1, f, h, h2, h3 => by
    simp only [sumN]
    rw [h3 0 (by omega) (by omega) (by omega), sumN_two (p := p) (f := fun i => f (i + 1)) (by omega) h2 fun i hi h4 h5 => h3 (i + 1) (by omega) (by omega) (by omega)]
    rfl
abbrev Col := Int → Int
def detC : List Int → List Col → Int
  | [], _ => 1
  | r :: rows, cols => sumN cols.length fun j => sg j * (cols.getD j fun _ => 0) r * detC rows (cols.eraseIdx j)
theorem getD_of {cols : List Col} {j : Nat} {x : Col} (h : cols[j]? = some x) (d : Col) : cols.getD j d = x := by
  rw [List.getD_eq_getElem?_getD, h]; rfl
theorem er_get {cols : List Col} {j i : Nat} : (cols.eraseIdx j)[i]? = if i < j then cols[i]? else cols[i + 1]? := List.getElem?_eraseIdx
theorem detC_add : ∀ (rows : List Int) (cols : List Col) (p : Nat) (u v : Col), rows.length = cols.length → p < cols.length →
    detC rows (cols.set p fun r => u r + v r) = detC rows (cols.set p u) + detC rows (cols.set p v)
  | [], cols, p, u, v, h, hp => absurd h (by simp; omega)
  | r :: rows, cols, p, u, v, h, hp => by
    simp only [detC, List.length_set]
    rw [← sumN_add]
    refine sumN_congr fun j hj => ?_
    simp only [List.length_cons] at h
    by_cases e : p = j
    · subst e
      have g : ∀ x : Col, (cols.set p x).getD p (fun _ => 0) = x := fun x => getD_of (by rw [List.getElem?_set_self hp]) _
      simp only [g, List.eraseIdx_set_eq, Int.mul_add, Int.add_mul]
    · have g : ∀ x : Col, (cols.set p x).getD j (fun _ => 0) = cols.getD j (fun _ => 0) := fun x => by rw [List.getD_eq_getElem?_getD, List.getElem?_set_ne e, ← List.getD_eq_getElem?_getD]
      simp only [g, ← Int.mul_add]
      congr 1
      have hl : (cols.eraseIdx j).length = rows.length := by rw [List.length_eraseIdx]; split <;> omega
      by_cases e1 : p < j
      · have s : ∀ x : Col, (cols.set p x).eraseIdx j = (cols.eraseIdx j).set p x := fun x => by
          apply List.ext_getElem?; intro i
          rw [er_get, List.getElem?_set, List.getElem?_set, List.getElem?_set, er_get, hl]
          by_cases a : p = i
          · subst a; rw [if_pos e1, if_pos rfl, if_pos hp, if_pos rfl, if_pos (by omega)]
          · rw [if_neg a, if_neg a]
            by_cases b : i < j
            · rw [if_pos b, if_pos b]
            · rw [if_neg b, if_neg b, if_neg (by omega)]
        simp only [s]
        exact detC_add rows (cols.eraseIdx j) p u v hl.symm (by omega)
      · have s : ∀ x : Col, (cols.set p x).eraseIdx j = (cols.eraseIdx j).set (p - 1) x := fun x => by
          apply List.ext_getElem?; intro i
          rw [er_get, List.getElem?_set, List.getElem?_set, List.getElem?_set, er_get, hl]
          by_cases b : i < j
          · rw [if_pos b, if_neg (by omega), if_neg (by omega), if_pos b]
          · rw [if_neg b, if_neg b]
            by_cases a : p - 1 = i
            · rw [if_pos (by omega), if_pos hp, if_pos a, if_pos (by omega)]
            · rw [if_neg (by omega), if_neg a]
        simp only [s]
        exact detC_add rows (cols.eraseIdx j) (p - 1) u v hl.symm (by omega)
theorem detC_same : ∀ (rows : List Int) (cols : List Col) (p : Nat) (x : Col), rows.length = cols.length → cols[p]? = some x → cols[p + 1]? = some x → detC rows cols = 0
  | [], cols, p, x, h, h1, h2 => by
    have := (List.getElem?_eq_some_iff.1 h2).1
    simp at h; omega
  | r :: rows, cols, p, x, h, h1, h2 => by
    have hp : p + 1 < cols.length := (List.getElem?_eq_some_iff.1 h2).1
    simp only [List.length_cons] at h
    simp only [detC]
    refine sumN_two (p := p) hp ?_ fun j hj n1 n2 => ?_
    · rw [getD_of h1, getD_of h2]
      have e : cols.eraseIdx (p + 1) = cols.eraseIdx p := by
        apply List.ext_getElem?; intro i
        rw [er_get, er_get]
        by_cases a : i < p
        · rw [if_pos (by omega), if_pos a]
        · rw [if_neg a]
          by_cases b : i = p
          · subst b; rw [if_pos (by omega), h1, h2]
          · rw [if_neg (by omega)]
      rw [e]
      simp only [sg, Int.neg_mul]
      omega
    · have hl : rows.length = (cols.eraseIdx j).length := by rw [List.length_eraseIdx]; split <;> omega
      by_cases a : j < p
      · obtain ⟨p', rfl⟩ : ∃ p', p = p' + 1 := ⟨p - 1, by omega⟩
        rw [detC_same rows (cols.eraseIdx j) p' x hl (by rw [er_get, if_neg (by omega)]; exact h1) (by rw [er_get, if_neg (by omega)]; exact h2), Int.mul_zero]
      · rw [detC_same rows (cols.eraseIdx j) p x hl (by rw [er_get, if_pos (by omega)]; exact h1) (by rw [er_get, if_pos (by omega)]; exact h2), Int.mul_zero]
theorem detC_nil : ∀ (rows : List Int) (cols : List Col) (p : Nat) (z : Col), rows.length = cols.length → cols[p]? = some z → (∀ r ∈ rows, z r = 0) → detC rows cols = 0
  | [], cols, p, z, h, h1, _ => by
    have := (List.getElem?_eq_some_iff.1 h1).1
    simp at h; omega
  | r :: rows, cols, p, z, h, h1, h0 => by
    have hp : p < cols.length := (List.getElem?_eq_some_iff.1 h1).1
    simp only [List.length_cons] at h
    simp only [detC]
    refine sumN_zero fun j hj => ?_
    by_cases e : j = p
    · subst e
      rw [getD_of h1, h0 r List.mem_cons_self]; simp
    · have hl : rows.length = (cols.eraseIdx j).length := by rw [List.length_eraseIdx]; split <;> omega
      have hz : ∀ r ∈ rows, z r = 0 := fun r hr => h0 r (List.mem_cons_of_mem _ hr)
      by_cases a : j < p
      · obtain ⟨p', rfl⟩ : ∃ p', p = p' + 1 := ⟨p - 1, by omega⟩
        rw [detC_nil rows (cols.eraseIdx j) p' z hl (by rw [er_get, if_neg (by omega)]; exact h1) hz, Int.mul_zero]
      · rw [detC_nil rows (cols.eraseIdx j) p z hl (by rw [er_get, if_pos (by omega)]; exact h1) hz, Int.mul_zero]
def sufs : List Col → List Col
  | [] => []
  | c :: cs => match sufs cs with
    | [] => [c]
    | s :: t => (fun r => c r + s r) :: s :: t
theorem sufs_head : ∀ (c : Col) (cs : List Col), ∃ h t, sufs (c :: cs) = h :: t ∧ ∀ r, h r = ((c :: cs).map fun x => x r).sum
  | c, [] => ⟨c, [], rfl, fun r => by simp⟩
  | c, d :: ds => by
    obtain ⟨h, t, e, hh⟩ := sufs_head d ds
    refine ⟨fun r => c r + h r, h :: t, ?_, fun r => ?_⟩
    · rw [sufs, e]
    · dsimp only
      rw [hh r]; simp
theorem sufs_len : ∀ (cs : List Col), (sufs cs).length = cs.length
  | [] => rfl
  | c :: cs => by
    have ih := sufs_len cs
    rw [sufs]
    split
    · rename_i e; rw [e] at ih; simp at ih; simp [← ih]
    · rename_i s t e; rw [e] at ih; simp only [List.length_cons] at ih ⊢; omega
theorem detC_sufs : ∀ (cs pre : List Col) (rows : List Int), rows.length = (pre ++ cs).length → detC rows (pre ++ sufs cs) = detC rows (pre ++ cs)
  | [], pre, rows, _ => rfl
  | c :: cs, pre, rows, h => by
    have ih := detC_sufs cs (pre ++ [c]) rows (by simpa using h)
    simp only [List.append_assoc, List.singleton_append] at ih
    rw [← ih, sufs]
    have hl := sufs_len cs
    split
    · rename_i e; rw [e]
    · rename_i s t e
      rw [e]
      rw [e] at hl
      have hset : ∀ x : Col, (pre ++ c :: s :: t).set pre.length x = pre ++ x :: s :: t := fun x => by simp
      have hlen : rows.length = (pre ++ c :: s :: t).length := by
        rw [h]; simp only [List.length_append, List.length_cons] at hl ⊢; omega
      have hadd := detC_add rows (pre ++ c :: s :: t) pre.length c s hlen (by simp)
      rw [hset, hset, hset] at hadd
      have hsame := detC_same rows (pre ++ s :: s :: t) pre.length s (by rw [hlen]; simp) (by simp) (by rw [List.getElem?_append_right (by omega)]; simp)
      rw [hadd, hsame, Int.add_zero]
theorem dsum_sumN (m : List (List Int)) (r : Int) (D : Nat → Int) : ∀ (cs : List Int) (j : Nat), dsum m r D cs j (sg j) = sumN cs.length fun i => sg (j + i) * ((cs.map fun c => fun r => at2 m r c).getD i fun _ => 0) r * D (j + i)
  | [], _ => rfl
  | c :: cs, j => by
    have ih := dsum_sumN m r D cs (j + 1)
    simp only [dsum, List.length_cons, sumN, List.map_cons, List.getD_cons_zero, List.getD_cons_succ, Nat.add_zero]
    rw [show - sg j = sg (j + 1) from rfl, ih]
    congr 1
    exact sumN_congr fun i _ => by rw [show j + 1 + i = j + (i + 1) by omega]
theorem detZ_detC (m : List (List Int)) : ∀ (rows cols : List Int), detZ m rows cols = detC rows (cols.map fun c => fun r => at2 m r c)
  | [], _ => rfl
  | r :: rows, cols => by
    have e := dsum_sumN m r (fun j => detZ m rows (cols.eraseIdx j)) cols 0
    simp only [detZ, detC, List.length_map]
    rw [show (1 : Int) = sg 0 from rfl, e]
    refine sumN_congr fun i _ => ?_
    rw [Nat.zero_add, detZ_detC m rows (cols.eraseIdx i), map_eraseIdx']
theorem detZ_zero (m : List (List Int)) (rows cols : List Int) (hl : rows.length = cols.length) (h0 : cols ≠ []) (hs : ∀ r ∈ rows, (cols.map fun c => at2 m r c).sum = 0) : detZ m rows cols = 0 := by
  rw [detZ_detC]
  have e := detC_sufs (cols.map fun c => fun r => at2 m r c) [] rows (by simpa using hl)
  simp only [List.nil_append] at e
  rw [← e]
  cases cols with
  | nil => exact absurd rfl h0
  | cons c cs =>
    obtain ⟨h, t, e2, hh⟩ := sufs_head (fun r => at2 m r c) (cs.map fun c => fun r => at2 m r c)
    have hlen := sufs_len ((c :: cs).map fun c => fun r => at2 m r c)
    rw [List.map_cons] at hlen ⊢
    rw [e2] at hlen ⊢
    refine detC_nil rows (h :: t) 0 h ?_ rfl fun r hr => ?_
    · rw [hl, hlen]; simp
    · rw [hh r]
      have := hs r hr
      show (at2 m r c :: (cs.map fun c => fun r => at2 m r c).map fun x => x r).sum = 0
      rw [List.map_map]; exact this
end Go.Sx.R
namespace Go.Sx.R
open Go Go.Sx
theorem map_sum_add {β : Type} (f g : β → Int) : ∀ (l : List β), (l.map fun c => f c + g c).sum = (l.map f).sum + (l.map g).sum
  | [] => rfl
  | x :: l => by simp only [List.map_cons, List.sum_cons, map_sum_add f g l]; omega
theorem sum_at (o w : Int) : ∀ (l : List Int), l.Nodup → ((l.map fun c => if c = o then w else 0).sum = if o ∈ l then w else 0)
  | [], _ => rfl
  | x :: l, h => by
    obtain ⟨h1, h2⟩ := List.nodup_cons.1 h
    simp only [List.map_cons, List.sum_cons, sum_at o w l h2, List.mem_cons]
    by_cases e : x = o
    · subst e; simp [h1]
    · have : ¬ o = x := fun h => e h.symm
      simp [e, this]
theorem wbt_cons (e : W3) (ws : List W3) (a c : Int) : wbt (e :: ws) a c = if a = c then 0 else if isW a c e = true then e.2.2 else wbt ws a c := by
  unfold wbt
  by_cases h : a = c
  · rw [if_pos h, if_pos h]
  · rw [if_neg h, if_neg h, if_neg h, List.find?_cons]
    cases isW a c e <;> rfl
theorem wbt_sum (a : Int) (l : List Int) (hl : l.Nodup) : ∀ (ws : List W3), Srt ws → (∀ e ∈ ws, e.1 < e.2.1) → (∀ e ∈ ws, e.1 ∈ l ∧ e.2.1 ∈ l) → (l.map fun c => wbt ws a c).sum = wAt ws a
  | [], _, _, _ => by
    have : ∀ c, wbt [] a c = 0 := fun c => by unfold wbt; split <;> rfl
    simp only [this, wAt, List.map_nil, List.sum_nil]
    induction l with
    | nil => rfl
    | cons x l ih => simpa using ih (List.nodup_cons.1 hl).2
  | e :: ws, hs, hi, hm => by
    obtain ⟨s1, s2⟩ := List.pairwise_cons.1 hs
    have ih := wbt_sum a l hl ws s2 (fun e he => hi e (List.mem_cons_of_mem _ he)) (fun e he => hm e (List.mem_cons_of_mem _ he))
    have he := hi e List.mem_cons_self
    have hme := hm e List.mem_cons_self
    have hw : wAt (e :: ws) a = touch a e + wAt ws a := by simp [wAt]
    rw [hw]
    by_cases t : e.1 = a ∨ e.2.1 = a
    · have ht : touch a e = e.2.2 := by simp [touch, t]
      obtain ⟨o, ho, hol, hoa⟩ : ∃ o, (∀ c, (isW a c e = true) ↔ c = o) ∧ o ∈ l ∧ a ≠ o := by
        rcases t with t | t
        · refine ⟨e.2.1, fun c => ?_, hme.2, by omega⟩
          simp only [isW, Bool.or_eq_true, Bool.and_eq_true, decide_eq_true_eq]; omega
        · refine ⟨e.1, fun c => ?_, hme.1, by omega⟩
          simp only [isW, Bool.or_eq_true, Bool.and_eq_true, decide_eq_true_eq]; omega
      have h0 : wbt ws a o = 0 := by
        unfold wbt
        rw [if_neg hoa]
        split
        · rename_i x hx
          exfalso
          have h1 := List.find?_some hx
          have h2 := s1 x (List.mem_of_find?_eq_some hx)
          have h3 := (ho o).2 rfl
          have h4 := hi x (List.mem_cons_of_mem _ (List.mem_of_find?_eq_some hx))
          simp only [isW, Bool.or_eq_true, Bool.and_eq_true, decide_eq_true_eq] at h1 h3
          simp only [lex, Bool.or_eq_true, Bool.and_eq_true, decide_eq_true_eq] at h2
          omega
        · rfl
      have hc : ∀ c, wbt (e :: ws) a c = wbt ws a c + if c = o then e.2.2 else 0 := fun c => by
        rw [wbt_cons]
        by_cases ac : a = c
        · subst ac
          have : wbt ws a a = 0 := by unfold wbt; rw [if_pos rfl]
          rw [if_pos rfl, this, if_neg hoa]; rfl
        · rw [if_neg ac]
          by_cases co : c = o
          · rw [if_pos ((ho c).2 co), if_pos co, co, h0]; omega
          · rw [if_neg (fun h => co ((ho c).1 h)), if_neg co]; omega
      simp only [hc, map_sum_add, ih, sum_at o e.2.2 l hl, if_pos hol, ht]
      omega
    · have ht : touch a e = 0 := by simp [touch, t]
      have hc : ∀ c, wbt (e :: ws) a c = wbt ws a c := fun c => by
        rw [wbt_cons]
        by_cases ac : a = c
        · subst ac
          have : wbt ws a a = 0 := by unfold wbt; rw [if_pos rfl]
          rw [if_pos rfl, this]
        · rw [if_neg ac, if_neg]
          simp only [isW, Bool.or_eq_true, Bool.and_eq_true, decide_eq_true_eq]; omega
      simp only [hc, ih, ht]
      omega
theorem lap_zero {ws : List W3} {m : Nat} (hs : Srt ws) (hin : InW m ws) {L : List (List Int)} (h : IsTab L m (lapF ws)) {cols : List Int} (hn : cols.Nodup) (hc : ∀ c, c ∈ cols ↔ 0 ≤ c ∧ c < m) {r : Int} (hr : 0 ≤ r ∧ r < m) : (cols.map fun c => at2 L r c).sum = 0 := by
  obtain ⟨i, rfl⟩ : ∃ i : Nat, r = i := ⟨r.toNat, by omega⟩
  have e : cols.map (fun c => at2 L (i : Int) c) = cols.map fun c => (if c = (i : Int) then wAt ws (i : Int) else 0) + -(wbt ws (i : Int) c) := by
    refine List.map_congr_left fun c hcm => ?_
    have hcc := (hc c).1 hcm
    obtain ⟨j, rfl⟩ : ∃ j : Nat, c = j := ⟨c.toNat, by omega⟩
    rw [tab_at2 h (by omega) (by omega), lapF]
    by_cases ij : i = j
    · subst ij
      have : wbt ws (i : Int) (i : Int) = 0 := by unfold wbt; rw [if_pos rfl]
      rw [if_pos rfl, if_pos rfl, this]; omega
    · rw [if_neg ij, if_neg (by omega)]; omega
  have neg : ∀ (l : List Int), (l.map fun c => -(wbt ws (i : Int) c)).sum = -(l.map fun c => wbt ws (i : Int) c).sum := by
    intro l
    induction l with
    | nil => rfl
    | cons x l ih => simp only [List.map_cons, List.sum_cons, ih]; omega
  rw [e, map_sum_add, sum_at _ _ _ hn, if_pos ((hc (i : Int)).2 ⟨by omega, hr.2⟩), neg, wbt_sum (i : Int) cols hn ws hs (fun e he => (hin e he).2.1) (fun e he => ⟨(hc _).2 (by have := hin e he; omega), (hc _).2 (by have := hin e he; omega)⟩)]
  omega
end Go.Sx.R
namespace Go.Sx.R
open Go Go.Sx
theorem wo_all (m : Nat) (l : List Int) : ∀ c : Int, 0 ≤ c → c < m → c ∉ l → c ∈ wo m l := by
  have := foldI_ind (β := Nat) (fun i (q : List Int) => ∀ c : Int, 0 ≤ c → c < i → c ∉ l → c ∈ q) (woG l) (fun s i x h c h0 h1 h2 => by
    simp only [woG]
    by_cases hi : c = i
    · subst hi; rw [if_neg h2]; simp
    · have := h c h0 (by omega) h2
      split
      · exact this
      · simp [this]) (List.range m) 0 [] (by intro c h0 h1; omega)
  simpa [wo] using this
theorem mem_wo {m : Nat} {l : List Int} {c : Int} : c ∈ wo m l ↔ 0 ≤ c ∧ c < m ∧ c ∉ l :=
  ⟨fun h => (wo_facts' m l).2.1 c h, fun h => wo_all m l c h.1 h.2.1 h.2.2⟩
theorem wo_nd (m : Nat) (l : List Int) : (wo m l).Nodup := (wo_facts' m l).2.2
theorem perm_of {l l' : List Int} (h : l.Nodup) (h' : l'.Nodup) (he : ∀ c, c ∈ l ↔ c ∈ l') : l.Perm l' :=
  (List.perm_ext_iff_of_nodup h h').2 he
theorem wo_cons {m : Nat} {x : Int} {l : List Int} (h0 : 0 ≤ x) (h1 : x < m) (hx : x ∉ l) : (wo m l).Perm (x :: wo m (x :: l)) := by
  refine perm_of (wo_nd _ _) (List.nodup_cons.2 ⟨fun h => (mem_wo.1 h).2.2 (by simp), wo_nd _ _⟩) fun c => ?_
  simp only [mem_wo, List.mem_cons, not_or]
  by_cases hc : c = x
  · subst hc; simp [h0, h1, hx]
  · simp [hc]
section
variable {n : TNet} {m : Nat} {L : List (List Int)}
theorem Lk.a2 (h : Lk n m L) {i j : Int} (hi : 0 ≤ i ∧ i < m) (hj : 0 ≤ j ∧ j < m) : at2 L i j = if i = j then wAt n.2.2.2 i else -wbt n.2.2.2 i j := by
  obtain ⟨a, rfl⟩ : ∃ a : Nat, i = a := ⟨i.toNat, by omega⟩
  obtain ⟨b, rfl⟩ : ∃ b : Nat, j = b := ⟨j.toNat, by omega⟩
  rw [tab_at2 h.tab (by omega) (by omega), lapF]
  by_cases e : a = b
  · subst e; rw [if_pos rfl, if_pos rfl]
  · rw [if_neg e, if_neg (by omega)]
theorem Lk.lapZ (h : Lk n m L) : LapZ L (wo m []) where
  sym x hx y hy := by
    have hx := mem_wo.1 hx
    have hy := mem_wo.1 hy
    rw [h.a2 ⟨hx.1, hx.2.1⟩ ⟨hy.1, hy.2.1⟩, h.a2 ⟨hy.1, hy.2.1⟩ ⟨hx.1, hx.2.1⟩]
    by_cases e : x = y
    · subst e; rfl
    · rw [if_neg e, if_neg (Ne.symm e), wbt_comm]
  off x hx y hy hxy := by
    have hx := mem_wo.1 hx
    have hy := mem_wo.1 hy
    rw [h.a2 ⟨hx.1, hx.2.1⟩ ⟨hy.1, hy.2.1⟩, if_neg hxy]
    have := wbt_bd h.hw x y
    omega
  sum x hx := by
    have hx := mem_wo.1 hx
    exact lap_zero h.srt h.inw h.tab (wo_nd m []) (fun c => by simp [mem_wo]) ⟨hx.1, hx.2.1⟩
  nd := wo_nd m []
theorem Lk.wire (h : Lk n m L) {e : W3} (he : e ∈ n.2.2.2) : at2 L e.1 e.2.1 ≤ -1 ∧ at2 L e.2.1 e.1 ≤ -1 := by
  have hi := h.inw e he
  have hw := h.hw e he
  have hb : wbt n.2.2.2 e.1 e.2.1 = e.2.2 := (wbt_mem h.srt hi.2.1 (by omega)).2 he
  have hb' : wbt n.2.2.2 e.2.1 e.1 = e.2.2 := by rw [wbt_comm]; exact hb
  rw [h.a2 (by omega) (by omega), h.a2 (by omega) (by omega), if_neg (by omega), if_neg (by omega), hb, hb']
  omega
theorem rc_side {ws : List W3} {l : List Int} (h : ∀ e ∈ ws, (e.1 ∈ l ↔ e.2.1 ∈ l)) : ∀ v, Rc ws v → (v ∈ l ↔ (0 : Int) ∈ l) := by
  intro v hv
  induction hv with
  | zero => exact Iff.rfl
  | ab he _ ih => exact (h _ he).symm.trans ih
  | ba he _ ih => exact (h _ he).trans ih
theorem Lk.hang (h : Lk n m L) : Hang L (wo m []) := by
  intro l hl hs ⟨y, hy, hyl⟩
  apply Classical.byContradiction
  intro hno
  have side : ∀ e ∈ n.2.2.2, (e.1 ∈ l ↔ e.2.1 ∈ l) := by
    intro e he
    have hi := h.inw e he
    have hw := h.wire he
    constructor
    · intro h1
      apply Classical.byContradiction
      intro h2
      exact hno ⟨_, h1, _, mem_wo.2 ⟨by omega, hi.2.2, by simp⟩, h2, hw.1⟩
    · intro h1
      apply Classical.byContradiction
      intro h2
      exact hno ⟨_, h1, _, mem_wo.2 ⟨hi.1, by omega, by simp⟩, h2, hw.2⟩
  have all : ∀ v, 0 ≤ v → v < n.1 → (v ∈ l ↔ (0 : Int) ∈ l) := fun v h0 h1 => rc_side side v (netok_rc h.ok h0 h1)
  have hm := h.hm
  obtain ⟨x, hx⟩ := List.exists_mem_of_ne_nil l hl
  have hx' := mem_wo.1 (hs x hx)
  have hy' := mem_wo.1 hy
  exact hyl ((all y hy'.1 (by omega)).2 ((all x hx'.1 (by omega)).1 hx))
def treZ (L : List (List Int)) (m : Nat) : Int := detZ L (wo m [0]) (wo m [0])
def forZ (L : List (List Int)) (m : Nat) (a b : Int) : Int := if a = b then 0 else detZ L (wo m [a, b]) (wo m [a, b])
theorem Lk.len1 (h : Lk n m L) {a : Int} (h0 : 0 ≤ a) (h1 : a < m) (l : List Int) : (wo m (a :: l)).length + 1 ≤ m := wo_len (x := a) (by simp) h0 h1
theorem Lk.tre_pos (h : Lk n m L) : 1 ≤ treZ L m := by
  have hm5 := h.m5
  have hm1 := h.m1
  have l0 := h.len1 (a := 0) (by omega) (by omega) []
  exact h.lapZ.pos h.hang _ _ rfl (by omega) (wo_nd _ _) (fun i hi => mem_wo.2 ⟨(mem_wo.1 hi).1, (mem_wo.1 hi).2.1, by simp⟩) ⟨0, mem_wo.2 ⟨by omega, by omega, by simp⟩, fun hh => (mem_wo.1 hh).2.2 (by simp)⟩
theorem Lk.for_pos (h : Lk n m L) {a b : Int} (h0 : 0 ≤ a) (h1 : a < m) (hab : a ≠ b) : 1 ≤ forZ L m a b := by
  have hm5 := h.m5
  have l0 := h.len1 h0 h1 [b]
  unfold forZ
  rw [if_neg hab]
  exact h.lapZ.pos h.hang _ _ rfl (by omega) (wo_nd _ _) (fun i hi => mem_wo.2 ⟨(mem_wo.1 hi).1, (mem_wo.1 hi).2.1, by simp⟩) ⟨a, mem_wo.2 ⟨h0, h1, by simp⟩, fun hh => (mem_wo.1 hh).2.2 (by simp)⟩
theorem Lk.p_Tree (h : Lk n m L) : e_impl_TreeSum (n, ()) = some (treZ L m) := by
  have q := h.left [0] [0] (by have := BB_ge; simp; omega) (by have := BB_ge; simp; omega)
  simp only [e_impl_TreeSum, r_impl_TreeSum, p_NetOk n h.hn, h.ok, Option.bind_some, Bool.not_true, cond_false, q.1, treZ]
theorem Lk.p_node (h : Lk n m L) {a : Int} (ha : 0 ≤ a ∧ a < m) : e_impl_isNode (n, a, ()) = some true := by
  rw [(node_both n h.hn h.ok a).1]
  have hm := h.hm
  congr 1
  simp only [Bool.and_eq_true, decide_eq_true_eq]
  omega
theorem Lk.p_For (h : Lk n m L) {a b : Int} (ha : 0 ≤ a ∧ a < m) (hb : 0 ≤ b ∧ b < m) : e_impl_ForestSum (n, a, b, ()) = some (forZ L m a b) := by
  have q := h.left [a, b] [a, b] (by have := BB_ge; simp; omega) (by have := BB_ge; simp; omega)
  simp only [e_impl_ForestSum, r_impl_ForestSum, p_NetOk n h.hn, h.ok, h.p_node ha, h.p_node hb, Option.bind_some, Bool.not_true, cond_false, q.1, forZ]
  by_cases e : a = b
  · simp [e]
  · simp [e]
theorem Lk.tre_le (h : Lk n m L) : treZ L m ≤ 10497600000000 := by
  have := h.det_le4 [0] [0] (x := 0) (by simp) (by omega) (by have := h.m1; omega)
  unfold treZ; omega
theorem Lk.for_le (h : Lk n m L) {a b : Int} (ha : 0 ≤ a ∧ a < m) : 0 ≤ forZ L m a b ∧ forZ L m a b ≤ 10497600000000 := by
  by_cases e : a = b
  · unfold forZ; rw [if_pos e]; omega
  · have p := h.for_pos ha.1 ha.2 e
    have := h.det_le4 [a, b] [a, b] (x := a) (by simp) ha.1 ha.2
    unfold forZ at *
    rw [if_neg e] at *; omega
end
def ratZ (a b : Int) : Int × Int := (Int.tdiv a (Nat.gcd a.natAbs b.natAbs : Nat), Int.tdiv b (Nat.gcd a.natAbs b.natAbs : Nat))
theorem ratZ_spec {a b : Int} (hb : 1 ≤ b) : ∃ g : Nat, 1 ≤ g ∧ a = (ratZ a b).1 * g ∧ b = (ratZ a b).2 * g ∧ 1 ≤ (ratZ a b).2 ∧ Nat.gcd (ratZ a b).1.natAbs (ratZ a b).2.natAbs = 1 := by
  have hg : 0 < Nat.gcd a.natAbs b.natAbs := Nat.gcd_pos_of_pos_right _ (by omega)
  have d1 : ((Nat.gcd a.natAbs b.natAbs : Nat) : Int) ∣ a := Int.ofNat_dvd_left.2 (Nat.gcd_dvd_left _ _)
  have d2 : ((Nat.gcd a.natAbs b.natAbs : Nat) : Int) ∣ b := Int.ofNat_dvd_left.2 (Nat.gcd_dvd_right _ _)
  have e1 : a = (ratZ a b).1 * (Nat.gcd a.natAbs b.natAbs : Nat) := (Int.tdiv_mul_cancel d1).symm
  have e2 : b = (ratZ a b).2 * (Nat.gcd a.natAbs b.natAbs : Nat) := (Int.tdiv_mul_cancel d2).symm
  have p2 : 1 ≤ (ratZ a b).2 := by
    apply Classical.byContradiction
    intro hn
    have : (ratZ a b).2 * ((Nat.gcd a.natAbs b.natAbs : Nat) : Int) ≤ 0 := Int.mul_nonpos_of_nonpos_of_nonneg (by omega) (by omega)
    omega
  refine ⟨_, hg, e1, e2, p2, ?_⟩
  have a1 : (ratZ a b).1.natAbs = a.natAbs / Nat.gcd a.natAbs b.natAbs := by
    show (Int.tdiv a _).natAbs = _
    rw [Int.natAbs_tdiv]; rfl
  have a2 : (ratZ a b).2.natAbs = b.natAbs / Nat.gcd a.natAbs b.natAbs := by
    show (Int.tdiv b _).natAbs = _
    rw [Int.natAbs_tdiv]; rfl
  rw [a1, a2, Nat.gcd_div (Nat.gcd_dvd_left _ _) (Nat.gcd_dvd_right _ _), Nat.div_self hg]
theorem ratZ_eq {a b c d : Int} (hb : 1 ≤ b) (hd : 1 ≤ d) : ratZ a b = ratZ c d ↔ a * d = c * b := by
  obtain ⟨g, hg, e1, e2, e3, e4⟩ := ratZ_spec (a := a) hb
  obtain ⟨k, hk, f1, f2, f3, f4⟩ := ratZ_spec (a := c) hd
  constructor
  · intro h
    rw [← h] at f1 f2
    generalize (ratZ a b).1 = p at *
    generalize (ratZ a b).2 = q at *
    rw [e1, e2, f1, f2]; grind
  · intro h
    have hx : (ratZ a b).1 * (ratZ c d).2 = (ratZ c d).1 * (ratZ a b).2 := by
      have hh : ((ratZ a b).1 * (ratZ c d).2) * ((g : Int) * k) = ((ratZ c d).1 * (ratZ a b).2) * ((g : Int) * k) := by
        generalize (ratZ a b).1 = p at *
        generalize (ratZ a b).2 = q at *
        generalize (ratZ c d).1 = r at *
        generalize (ratZ c d).2 = s at *
        rw [e1, e2, f1, f2] at h; grind
      exact Int.eq_of_mul_eq_mul_right (by
        have : (0 : Int) < (g : Int) * k := Int.mul_pos (by omega) (by omega)
        omega) hh
    generalize hp : (ratZ a b).1 = p at *
    generalize hq : (ratZ a b).2 = q at *
    generalize hr : (ratZ c d).1 = r at *
    generalize hs : (ratZ c d).2 = s at *
    have hn : p.natAbs * s.natAbs = r.natAbs * q.natAbs := by
      have := congrArg Int.natAbs hx
      rwa [Int.natAbs_mul, Int.natAbs_mul] at this
    have d1 : q.natAbs ∣ s.natAbs := by
      have : q.natAbs ∣ p.natAbs * s.natAbs := ⟨r.natAbs, by rw [hn, Nat.mul_comm]⟩
      exact Nat.Coprime.dvd_of_dvd_mul_left (Nat.Coprime.symm e4) this
    have d2 : s.natAbs ∣ q.natAbs := by
      have : s.natAbs ∣ r.natAbs * q.natAbs := ⟨p.natAbs, by rw [← hn, Nat.mul_comm]⟩
      exact Nat.Coprime.dvd_of_dvd_mul_left (Nat.Coprime.symm f4) this
    have hqs : q = s := by have := Nat.dvd_antisymm d1 d2; omega
    have hpr : p = r := by
      subst hqs
      exact Int.eq_of_mul_eq_mul_right (by omega) hx
    exact Prod.ext (by rw [hp, hr, hpr]) (by rw [hq, hs, hqs])
theorem p_Ratio {a b : Int} (ha : a.natAbs ≤ 1000000000000000000) (hb : 1 ≤ b) (hb2 : b ≤ 1000000000000000) : e_impl_RatioOf (a, b, ()) = some (ratZ a b) := by
  simp only [e_impl_RatioOf, r_impl_RatioOf, p_sizeI a (by omega) (by omega), p_sizeI b (by omega) (by omega), p_common a.natAbs b.natAbs (by omega), Option.bind_some]
  have hg : 0 < Nat.gcd a.natAbs b.natAbs := Nat.gcd_pos_of_pos_right _ (by omega)
  have tn := tdiv_abs a (Nat.gcd a.natAbs b.natAbs)
  have td := tdiv_abs b (Nat.gcd a.natAbs b.natAbs)
  have la : a.natAbs / Nat.gcd a.natAbs b.natAbs ≤ a.natAbs := Nat.div_le_self _ _
  have lb : b.natAbs / Nat.gcd a.natAbs b.natAbs ≤ b.natAbs := Nat.div_le_self _ _
  have ta : Int.tdiv (a.natAbs : Int) ((Nat.gcd a.natAbs b.natAbs : Nat) : Int) = ((a.natAbs / Nat.gcd a.natAbs b.natAbs : Nat) : Int) := by rw [Int.tdiv_eq_ediv_of_nonneg (by omega)]; simp
  have tb : Int.tdiv (b.natAbs : Int) ((Nat.gcd a.natAbs b.natAbs : Nat) : Int) = ((b.natAbs / Nat.gcd a.natAbs b.natAbs : Nat) : Int) := by rw [Int.tdiv_eq_ediv_of_nonneg (by omega)]; simp
  rw [ta, tb]
  unfold ratZ
  rw [td.1 (by omega)]
  generalize hG : Nat.gcd a.natAbs b.natAbs = g at *
  generalize hP : a.natAbs / g = p at *
  generalize hQ : b.natAbs / g = q at *
  have d1 : decide (b = 0) = false := by rw [decide_eq_false_iff_not]; omega
  have d2 : decide ((g : Int) = 0) = false := by rw [decide_eq_false_iff_not]; omega
  have ua : Go.IntKind.wrap Go.IntKind.u64 ((p : Nat) : Int) = ((p : Nat) : Int) := u64_id (by omega) (by omega)
  have ub : Go.IntKind.wrap Go.IntKind.u64 ((q : Nat) : Int) = ((q : Nat) : Int) := u64_id (by omega) (by omega)
  have wa : wr ((p : Nat) : Int) = ((p : Nat) : Int) := wr_id (by omega) (by omega)
  have wb : wr ((q : Nat) : Int) = ((q : Nat) : Int) := wr_id (by omega) (by omega)
  have wn : wr (0 - ((p : Nat) : Int)) = -((p : Nat) : Int) := by rw [wr_id (by omega) (by omega)]; omega
  have k1 : decide ((p : Int) > 1000000000000000000) = false := by rw [decide_eq_false_iff_not]; omega
  have k2 : decide ((q : Int) > 1000000000000000) = false := by rw [decide_eq_false_iff_not]; omega
  have sb : decide (b < 0) = false := by rw [decide_eq_false_iff_not]; omega
  simp only [d1, d2, cond_false, ua, ub, wa, wb, wn, k1, k2, sb]
  by_cases sa : a < 0
  · simp only [sa, decide_true, beqB, Bool.not_false, cond_true, tn.2 sa]
  · simp only [sa, decide_false, beqB_self, Bool.not_true, cond_false, tn.1 (by omega)]
end Go.Sx.R
namespace Go.Sx.R
open Go Go.Sx
theorem LapZ.tre {L : List (List Int)} {m : Nat} (h : LapZ L (wo m [])) (hm5 : m ≤ 5) {a : Int} (h0 : 0 ≤ a) (h1 : a < m) : treZ L m = detZ L (wo m [a]) (wo m [a]) := by
  unfold treZ
  by_cases e : a = 0
  · rw [e]
  · have p0 : (wo m [0]).Perm (a :: wo m [a, 0]) := wo_cons h0 h1 (by simpa using e)
    have pa : (wo m [a]).Perm (0 :: wo m [0, a]) := wo_cons (by omega) (by omega) (by simpa using fun h : (0 : Int) = a => e h.symm)
    have q : (wo m [a, 0]).Perm (wo m [0, a]) := perm_of (wo_nd _ _) (wo_nd _ _) fun c => by simp only [mem_wo, List.mem_cons, List.not_mem_nil, or_false, not_or]; omega
    have l0 : (wo m [0]).length + 1 ≤ m := wo_len (x := 0) (by simp) (by omega) (by omega)
    have la : (wo m [a]).length + 1 ≤ m := wo_len (x := a) (by simp) h0 h1
    have pV : (wo m []).Perm (0 :: a :: wo m [a, 0]) := (wo_cons (by omega) (by omega) (by simp)).trans (p0.cons _)
    have pV' : (wo m []).Perm (a :: 0 :: wo m [a, 0]) := pV.trans (List.Perm.swap _ _ _)
    rw [detZ_perm p0 (by omega), detZ_perm pa (by omega), detZ_perm (q.symm.cons 0) (by simp only [List.length_cons]; have := pa.length_eq; simp only [List.length_cons] at this; omega)]
    refine (h.perm pV).ground ?_
    have := p0.length_eq
    simp at this
    omega
theorem wo_two (m : Nat) (a b : Int) : wo m [a, b] = wo m [b, a] := by
  have : woG [a, b] = woG [b, a] := by
    funext q i x
    simp only [woG, List.mem_cons, List.not_mem_nil, or_false]
    by_cases h1 : (i : Int) = a <;> by_cases h2 : (i : Int) = b <;> simp [h1, h2]
  unfold wo; rw [this]
theorem tre_list {L : List (List Int)} {m : Nat} (h : LapZ L (wo m [])) (hm5 : m ≤ 5) {p : Int} {l : List Int} (hp : (wo m []).Perm (p :: l)) : treZ L m = detZ L l l := by
  have hb := mem_wo.1 ((hp.mem_iff (a := p)).2 (by simp))
  have q : (wo m []).Perm (p :: wo m [p]) := wo_cons hb.1 hb.2.1 (by simp)
  have r : (wo m [p]).Perm l := (q.symm.trans hp).cons_inv
  have lp : (wo m [p]).length + 1 ≤ m := wo_len (x := p) (by simp) hb.1 hb.2.1
  rw [h.tre hm5 hb.1 hb.2.1, detZ_perm r (by omega)]
theorem for_list {L : List (List Int)} {m : Nat} (hm5 : m ≤ 5) {p q : Int} {l : List Int} (hp : (wo m []).Perm (p :: q :: l)) : forZ L m p q = detZ L l l := by
  have hb := mem_wo.1 ((hp.mem_iff (a := p)).2 (by simp))
  have hq := mem_wo.1 ((hp.mem_iff (a := q)).2 (by simp))
  have hne : p ≠ q := by
    have := List.nodup_cons.1 (hp.nodup_iff.1 (wo_nd m []))
    exact fun e => this.1 (by simp [e])
  have r1 : (wo m []).Perm (p :: q :: wo m [q, p]) := (wo_cons hb.1 hb.2.1 (by simp)).trans ((wo_cons hq.1 hq.2.1 (by simpa using hne.symm)).cons _)
  have r : (wo m [q, p]).Perm l := (r1.symm.trans hp).cons_inv.cons_inv
  have lp : (wo m [q, p]).length + 1 ≤ m := wo_len (x := p) (by simp) hb.1 hb.2.1
  unfold forZ
  rw [if_neg hne, wo_two, detZ_perm r (by omega)]
end Go.Sx.R
namespace Go.Sx.R
open Go Go.Sx
section
variable {n : TNet} {m : Nat} {L : List (List Int)}
theorem Lk.p_Res (h : Lk n m L) {a b : Int} (ha : 0 ≤ a ∧ a < m) (hb : 0 ≤ b ∧ b < m) : e_impl_ResistanceOf (n, a, b, ()) = some (ratZ (n.2.2.1 * forZ L m a b) (treZ L m), true) := by
  have f := h.for_le (b := b) ha
  have t := h.tre_le
  have t1 := h.tre_pos
  have sb := mul_bd (x := forZ L m a b) h.sc (k := 10497600000000) (by omega)
  simp only [e_impl_ResistanceOf, r_impl_ResistanceOf, p_NetOk n h.hn, h.ok, h.p_node ha, h.p_node hb, h.p_For ha hb, h.p_Tree, Option.bind_some, Bool.not_true, cond_false]
  rw [wr_id (by omega) (by omega), p_Ratio (by omega) (by omega) (by omega)]
  rfl
end
theorem intEq_self (a : Int) : intEq a a = true := by simp [intEq]
end Go.Sx.R
namespace Go.Sx.R
open Go Go.Sx
theorem p_CloneW (x : List W3) (hl : x.length ≤ 17179869184) : e_slices_Clone_impl_Wire (x, ()) = some x := by
  have h : Nat.ble (List.length ([] : List W3) + x.length) 17179869184 = true := ble_true (by simp; omega)
  simp only [e_slices_Clone_impl_Wire, r_slices_Clone_impl_Wire, h, cond_true, List.nil_append]
  cases x with
  | nil => exact agree_same
  | cons a l => rfl
theorem p_copyNet (n : TNet) (hn : Sm.sm B1 n) : e_impl_copyNet (n, ()) = some n := by
  have hlen : n.2.2.2.length ≤ 1073741824 := hn.2.2.2.1
  simp only [e_impl_copyNet, r_impl_copyNet, p_CloneW n.2.2.2 (by omega), Option.bind_some]
end Go.Sx.R
namespace Go.Sx.R
open Go Go.Sx
theorem wiresOf_wbt {f : Nat → Nat → Int} {m : Nat} {l : List W3} (h : WiresOf f m (fun _ _ => True) l) {a b : Nat} (hab : a < b) (hb : b < m) : wbt l (a : Int) (b : Int) = f a b := by
  by_cases hz : f a b = 0
  · rw [hz]
    apply Classical.byContradiction
    intro hw
    have := (wbt_mem h.srt (show (a : Int) < b by omega) hw).1 rfl
    obtain ⟨a', b', _, h1, h2, h3, h4⟩ := (h.mem _).1 this
    simp only [Prod.mk.injEq] at h4
    have e1 : a' = a := by omega
    have e2 : b' = b := by omega
    subst e1 e2
    omega
  · exact (wbt_mem h.srt (show (a : Int) < b by omega) hz).2 ((h.mem _).2 ⟨a, b, trivial, hab, hb, hz, rfl⟩)
section
variable {n : TNet} {m : Nat} {L : List (List Int)} {a b : Nat}
theorem nodup_map_on {β γ : Type} (g : β → γ) : ∀ {l : List β}, l.Nodup → (∀ x ∈ l, ∀ y ∈ l, g x = g y → x = y) → (l.map g).Nodup
  | [], _, _ => by simp
  | x :: l, hn, h => by
    have hn := List.nodup_cons.1 hn
    rw [List.map_cons, List.nodup_cons]
    refine ⟨fun hm => ?_, nodup_map_on g hn.2 fun a ha b hb => h a (by simp [ha]) b (by simp [hb])⟩
    obtain ⟨y, hy, e⟩ := List.mem_map.1 hm
    have := h y (by simp [hy]) x (by simp) e
    subst this
    exact hn.1 hy
theorem un_lo {v i : Nat} (h : i < v) : un v i = i := by unfold un; rw [if_pos h]
end
end Go.Sx.R
namespace Go.Sx.R
open Go Go.Sx
theorem foldI_near (ws : List W3) (v : Int) : ∀ (l : List Nat) (i : Nat) (q : List Int), foldI (nearG ws v) l i q = q ++ ((List.range' i l.length).filter fun (u : Nat) => decide (wbt ws v (u : Int) > 0)).map fun (u : Nat) => (u : Int)
  | [], _, q => by simp [foldI]
  | x :: l, i, q => by
    simp only [foldI, foldI_near ws v l (i + 1), nearG, List.length_cons, List.range'_succ, List.filter_cons]
    by_cases h : wbt ws v (i : Int) > 0
    · simp [h]
    · simp [h]
theorem near_nat (ws : List W3) (v : Int) (m : Nat) : ∃ nl : List Nat, near ws v m = nl.map (fun (u : Nat) => (u : Int)) ∧ nl.Pairwise (· < ·) ∧ ∀ u : Nat, u ∈ nl ↔ u < m ∧ 0 < wbt ws v (u : Int) := by
  refine ⟨(List.range' 0 m).filter fun (u : Nat) => decide (wbt ws v (u : Int) > 0), ?_, List.Pairwise.filter _ List.pairwise_lt_range', fun u => ?_⟩
  · simp only [near, foldI_near, List.length_range, List.nil_append]
  · rw [List.mem_filter, List.mem_range'_1]; simp
def F1 (ws : List W3) (v : Nat) (s : Int) (l : List W3) (a b : Nat) : Int := if l.any (keyB (un v a : Int) (un v b : Int)) = true then wbt ws (un v a : Int) (un v b : Int) * s else 0
def F2 (ws : List W3) (v : Nat) (s : Int) (q : List Nat) (a b : Nat) : Int := wbt ws (un v a : Int) (un v b : Int) * s + if un v a ∈ q then wbt ws (v : Int) (un v a : Int) * wbt ws (v : Int) (un v b : Int) else 0
def F3 (ws : List W3) (v : Nat) (s : Int) (q : List Nat) (u : Nat) (r : List Nat) (a b : Nat) : Int := F2 ws v s q a b + if un v a = u ∧ un v b ∈ r then wbt ws (v : Int) (un v a : Int) * wbt ws (v : Int) (un v b : Int) else 0
section
variable {ws : List W3} {m v : Nat} {s : Int}
theorem F1_bd (hW : ∀ e ∈ ws, 1 ≤ e.2.2 ∧ e.2.2 ≤ 200) (hs : 0 ≤ s ∧ s ≤ 1000) (l : List W3) (a b : Nat) : 0 ≤ F1 ws v s l a b ∧ F1 ws v s l a b ≤ 200000 := by
  have := mesh_bd (wbt_bd hW (un v a : Int) (un v b : Int)) hs (wbt_bd hW (v : Int) (un v a : Int)) (wbt_bd hW (v : Int) (un v b : Int))
  simp only [F1]; split <;> omega
theorem F2_bd (hW : ∀ e ∈ ws, 1 ≤ e.2.2 ∧ e.2.2 ≤ 200) (hs : 0 ≤ s ∧ s ≤ 1000) (q : List Nat) (a b : Nat) : 0 ≤ F2 ws v s q a b ∧ F2 ws v s q a b ≤ 240000 := by
  have := mesh_bd (wbt_bd hW (un v a : Int) (un v b : Int)) hs (wbt_bd hW (v : Int) (un v a : Int)) (wbt_bd hW (v : Int) (un v b : Int))
  simp only [F2]; split <;> omega
theorem F3_bd (hW : ∀ e ∈ ws, 1 ≤ e.2.2 ∧ e.2.2 ≤ 200) (hs : 0 ≤ s ∧ s ≤ 1000) (q : List Nat) (u : Nat) (r : List Nat) (a b : Nat) : 0 ≤ F3 ws v s q u r a b ∧ F3 ws v s q u r a b ≤ 280000 := by
  have h1 := mesh_bd (wbt_bd hW (un v a : Int) (un v b : Int)) hs (wbt_bd hW (v : Int) (un v a : Int)) (wbt_bd hW (v : Int) (un v b : Int))
  have h2 := F2_bd (v := v) hW hs q a b
  simp only [F3]; split <;> omega
theorem any_take {p : W3 → Bool} {l : List W3} {i : Nat} {x : W3} (h : l[i]? = some x) : (l.take (i + 1)).any p = ((l.take i).any p || p x) := by
  rw [List.take_add_one, h]; simp
theorem F1_skip {i : Nat} {x : W3} (hx : ws[i]? = some x) (h : x.1 = (v : Int) ∨ x.2.1 = (v : Int)) (a b : Nat) : F1 ws v s (ws.take i) a b = F1 ws v s (ws.take (i + 1)) a b := by
  have hk : keyB (un v a : Int) (un v b : Int) x = false := by
    have : ¬ keyB (un v a : Int) (un v b : Int) x = true := by
      rw [keyB_iff]
      have := un_ne v a; have := un_ne v b
      omega
    simpa using this
  simp only [F1, any_take hx, hk, Bool.or_false]
theorem F1_put {i : Nat} {x : W3} (hS : Srt ws) (hx : ws[i]? = some x) {A B : Nat} (hA : x.1 = (A : Int)) (hB : x.2.1 = (B : Int)) (hAB : A < B) (hAv : A ≠ v) (hBv : B ≠ v) (hw0 : x.2.2 ≠ 0) (a b : Nat) :
    (if a = ix v A ∧ b = ix v B then F1 ws v s (ws.take i) a b + x.2.2 * s else F1 ws v s (ws.take i) a b) = F1 ws v s (ws.take (i + 1)) a b := by
  have hxm := List.mem_of_getElem? hx
  have hi := get_lt hx
  by_cases e : a = ix v A ∧ b = ix v B
  · rw [if_pos e]
    have ua : un v a = A := (un_iff hAv).2 e.1
    have ub : un v b = B := (un_iff hBv).2 e.2
    have hk : keyB (A : Int) (B : Int) x = true := keyB_iff.2 ⟨hA, hB⟩
    have hn : (ws.take i).any (keyB (A : Int) (B : Int)) = false := by
      rw [List.any_eq_false]
      intro y hy hk2
      obtain ⟨j, hj⟩ := List.getElem?_of_mem hy
      rw [List.getElem?_take] at hj
      split at hj
      · rename_i hji
        have hjl := get_lt hj
        have := List.pairwise_iff_getElem.1 hS j i hjl hi hji
        rw [List.getElem?_eq_getElem hjl] at hj
        rw [List.getElem?_eq_getElem hi] at hx
        simp only [Option.some.injEq] at hj hx
        rw [hj, hx, lex_iff] at this
        rw [keyB_iff] at hk2
        omega
      · simp at hj
    have hwb : wbt ws (A : Int) (B : Int) = x.2.2 := (wbt_mem hS (by omega) hw0).2 (by
      have : x = ((A : Int), (B : Int), x.2.2) := by rw [← hA, ← hB]
      rw [← this]; exact hxm)
    simp only [F1, any_take hx, ua, ub, hk, hn, Bool.or_true, if_true, hwb]
    simp
  · rw [if_neg e]
    have hk : keyB (un v a : Int) (un v b : Int) x = false := by
      have : ¬ keyB (un v a : Int) (un v b : Int) x = true := by
        rw [keyB_iff]
        rintro ⟨q1, q2⟩
        exact e ⟨(un_iff hAv).1 (by omega), (un_iff hBv).1 (by omega)⟩
      simpa using this
    simp only [F1, any_take hx, hk, Bool.or_false]
theorem F1_all (hS : Srt ws) {a b : Nat} (hab : a < b) : F1 ws v s ws a b = F2 ws v s [] a b := by
  simp only [F1, F2, List.not_mem_nil, if_false, Int.add_zero]
  split
  · rfl
  · rename_i h
    have hz : wbt ws (un v a : Int) (un v b : Int) = 0 := by
      by_cases hz : wbt ws (un v a : Int) (un v b : Int) = 0
      · exact hz
      · refine absurd ?_ h
        have hm := (wbt_mem hS (a := (un v a : Int)) (b := (un v b : Int)) (by have := un_lt (v := v) hab; omega) hz).1 rfl
        rw [List.any_eq_true]
        exact ⟨_, hm, keyB_iff.2 ⟨rfl, rfl⟩⟩
    rw [hz, Int.zero_mul]
theorem F3_put {q r : List Nat} {u x j : Nat} (hu : u ≠ v) (hxv : x ≠ v) (hr : r.Pairwise (· < ·)) (hx : r[j]? = some x) (a b : Nat) :
    (if a = ix v u ∧ b = ix v x then F3 ws v s q u (r.take j) a b + wbt ws (v : Int) (u : Int) * wbt ws (v : Int) (x : Int) else F3 ws v s q u (r.take j) a b) = F3 ws v s q u (r.take (j + 1)) a b := by
  have ht : r.take (j + 1) = r.take j ++ [x] := by rw [List.take_add_one, hx]; rfl
  have hj := get_lt hx
  have hnx : x ∉ r.take j := fun hm => by
    obtain ⟨k, hk⟩ := List.getElem?_of_mem hm
    rw [List.getElem?_take] at hk
    split at hk
    · rename_i hkj
      have hkl := get_lt hk
      have := List.pairwise_iff_getElem.1 hr k j hkl hj hkj
      rw [List.getElem?_eq_getElem hkl] at hk
      rw [List.getElem?_eq_getElem hj] at hx
      simp only [Option.some.injEq] at hk hx
      omega
    · simp at hk
  by_cases e : a = ix v u ∧ b = ix v x
  · have ua : un v a = u := (un_iff hu).2 e.1
    have ub : un v b = x := (un_iff hxv).2 e.2
    rw [if_pos e]
    simp only [F3, ua, ub, ht, hnx, List.mem_append, List.mem_singleton, or_true, and_false, and_true, if_true, if_false, Int.add_zero]
  · rw [if_neg e]
    have : (un v a = u ∧ un v b ∈ r.take (j + 1)) ↔ (un v a = u ∧ un v b ∈ r.take j) := by
      rw [ht, List.mem_append, List.mem_singleton]
      constructor
      · rintro ⟨h1, h2 | h2⟩
        · exact ⟨h1, h2⟩
        · exact absurd ⟨(un_iff hu).1 h1, (un_iff hxv).1 h2⟩ e
      · rintro ⟨h1, h2⟩; exact ⟨h1, .inl h2⟩
    simp only [F3, this]
theorem F3_end {nl : List Nat} (hp : nl.Pairwise (· < ·)) (hm : ∀ u : Nat, u ∈ nl ↔ u < m ∧ 0 < wbt ws (v : Int) (u : Int)) (hW : ∀ e ∈ ws, 1 ≤ e.2.2 ∧ e.2.2 ≤ 200) {i u : Nat} (hu : nl[i]? = some u) (hv : v < m) {a b : Nat} (hab : a < b) (hb : b < m - 1) :
    F3 ws v s (nl.take i) u (nl.drop (i + 1)) a b = F2 ws v s (nl.take (i + 1)) a b := by
  have ht : nl.take (i + 1) = nl.take i ++ [u] := by rw [List.take_add_one, hu]; rfl
  have hi := get_lt hu
  have hd : nl.drop i = u :: nl.drop (i + 1) := by
    rw [List.drop_eq_getElem_cons hi]
    rw [List.getElem?_eq_getElem hi] at hu
    simp only [Option.some.injEq] at hu
    rw [hu]
  have hnl : nl = nl.take i ++ u :: nl.drop (i + 1) := by rw [← hd, List.take_append_drop]
  have hlt : ∀ y ∈ nl.take i, y < u := fun y hy => by
    rw [hnl] at hp
    exact (List.pairwise_append.1 hp).2.2 y hy u (by simp)
  by_cases e : un v a = u
  · have hn : u ∉ nl.take i := fun h => by have := hlt u h; omega
    have hub := un_lt (v := v) hab
    have hubm := un_bd hv hb
    have key : (if un v b ∈ nl.drop (i + 1) then wbt ws (v : Int) (u : Int) * wbt ws (v : Int) (un v b : Int) else 0) = wbt ws (v : Int) (u : Int) * wbt ws (v : Int) (un v b : Int) := by
      split
      · rfl
      · rename_i hnd
        have hz : ¬ 0 < wbt ws (v : Int) (un v b : Int) := fun h => by
          have hmem := (hm (un v b)).2 ⟨hubm, h⟩
          rw [hnl] at hmem
          rcases List.mem_append.1 hmem with h1 | h1
          · have := hlt _ h1; omega
          · rcases List.mem_cons.1 h1 with h1 | h1
            · omega
            · exact hnd h1
        have := wbt_bd hW (v : Int) (un v b : Int)
        have hz0 : wbt ws (v : Int) (un v b : Int) = 0 := by omega
        rw [hz0, Int.mul_zero]
    simp only [F3, F2, e, hn, ht, List.mem_append, List.mem_singleton, or_true, true_and, if_true, if_false, Int.add_zero, key]
  · simp only [F3, F2, e, ht, List.mem_append, List.mem_singleton, or_false, false_and, if_false, Int.add_zero]
theorem F2_all {nl : List Nat} (hm : ∀ u : Nat, u ∈ nl ↔ u < m ∧ 0 < wbt ws (v : Int) (u : Int)) (hW : ∀ e ∈ ws, 1 ≤ e.2.2 ∧ e.2.2 ≤ 200) (hv : v < m) {a b : Nat} (ha : a < m - 1) : F2 ws v (wAt ws (v : Int)) nl a b = meshF ws v a b := by
  simp only [F2, meshF]
  split
  · rfl
  · rename_i h
    have hub := un_bd hv ha
    have hz : ¬ 0 < wbt ws (v : Int) (un v a : Int) := fun q => h ((hm _).2 ⟨hub, q⟩)
    have := wbt_bd hW (v : Int) (un v a : Int)
    have hz0 : wbt ws (v : Int) (un v a : Int) = 0 := by omega
    rw [hz0, Int.zero_mul]
end
def MeshQ (n : TNet) (m v : Nat) (o : Option (TNet × Bool)) : Prop := ∃ l, WiresOf (meshF n.2.2.2 v) (m - 1) (fun _ _ => True) l ∧ Fine (meshN n m v l) ∧ o = some (cond (netok (canon (meshN n m v l))) (canon (meshN n m v l), true) ((0, 0, 0, []), false))
theorem Acc.small {m : Nat} {F : Nat → Nat → Int} {l : List W3} (h : Acc m F l) (hm5 : m ≤ 5) (hF : ∀ a b, 0 ≤ F a b ∧ F a b ≤ 1000000000000) : l.length ≤ 1000 ∧ ∀ e ∈ l, 0 ≤ e.2.2 ∧ e.2.2 ≤ 1000000000000 := by
  have := h.len
  have h25 : m * m ≤ 25 := Nat.mul_le_mul hm5 hm5
  refine ⟨by omega, fun e he => ?_⟩
  obtain ⟨a, b, _, _, rfl⟩ := h.val e he
  exact hF a b
theorem s_Mesh (n : TNet) (hn : Sm.sm B1 n) (hok : netok n = true) (m : Nat) (hm : n.1 = m) (v : Nat) (hv0 : 1 ≤ v) (hv : v < m) : MeshQ n m v (e_spec_l07Mesh (n, (v : Int), ())) := by
  obtain ⟨m', hm', hm1, hm5, hin, he1, he2⟩ := netok_facts hok
  have hmm : m' = m := by omega
  subst hmm
  have hlen : n.2.2.2.length ≤ 1073741824 := hn.2.2.2.1
  have hW := wiresW hok
  have hS := netok_srt hok
  have hA := wAt_le hS hin hm5 hW (v : Int)
  have hA1 := wAt_pos hok (v := (v : Int)) (by omega) (by omega)
  have hsc := scale_ok hok
  obtain ⟨nl, hnl, hnp, hnm⟩ := near_nat n.2.2.2 (v : Int) m'
  have hnl5 : nl.length ≤ 5 := by
    have := near_len n.2.2.2 (v : Int) m'
    rw [hnl] at this; simp at this; omega
  have hnv : ∀ u ∈ nl, u ≠ v := fun u hu e => by
    have := ((hnm u).1 hu).2
    rw [e] at this; simp [wbt] at this
  have hsb : 1 ≤ n.2.2.1 * wAt n.2.2.2 (v : Int) ∧ n.2.2.1 * wAt n.2.2.2 (v : Int) ≤ 1000000 := by
    constructor
    · have := Int.mul_le_mul hsc.1 hA1 (by omega) (show 0 ≤ n.2.2.1 by omega); omega
    · have := Int.mul_le_mul hsc.2 hA.2 hA.1 (by omega); omega
  have ws : wr (n.2.2.1 * wAt n.2.2.2 (v : Int)) = n.2.2.1 * wAt n.2.2.2 (v : Int) := wr_id (by omega) (by omega)
  have wm : wr (n.1 - 1) = ((m' - 1 : Nat) : Int) := by rw [wr_id (by omega) (by omega)]; omega
  simp only [e_spec_l07Mesh, r_spec_l07Mesh, s_Near n m' hn hm hm5, e_WeightAt, p_WeightAt n hn hW, Option.bind_some, hnl, ws, wm]
  generalize hSS : n.2.2.1 * wAt n.2.2.2 (v : Int) = S at hsb
  refine iter_rule (R := TNet × Bool) (MeshQ n m' v) n.2.2.2 (fun (q : List W3) i => ((v : Int), n, (0, 0, 0, []), nl.map (fun (u : Nat) => (u : Int)), wAt n.2.2.2 (v : Int), (((m' - 1 : Nat) : Int), n.2.1, S, q), n.2.2.2, (n.2.2.2.length : Int), i, ()))
    (fun i q => Acc (m' - 1) (F1 n.2.2.2 v (wAt n.2.2.2 (v : Int)) (n.2.2.2.take i)) q) (fun q i x kc hq hx hi hk => ?_) (fun q kc hq => ?_) (N := N0) (by have := N0_big; omega) [] ((Acc.nil _).congr fun a b _ _ => by simp [F1])
  · have hxm := List.mem_of_getElem? hx
    have hx3 := hin x hxm
    have hxw := hW x hxm
    simp only [r_spec_l07Mesh_L0, lt_len, hi, decide_true, cond_true, getI_nat, hx, Option.bind_some, wr_succ hi (show n.2.2.2.length ≤ 9223372036854775807 by omega)]
    by_cases c1 : x.1 = (v : Int)
    · simp only [c1, decide_true, Bool.not_true, cond_false]
      exact hk q (hq.congr fun a b _ _ => F1_skip hx (.inl c1) a b)
    · by_cases c2 : x.2.1 = (v : Int)
      · simp only [c1, c2, decide_true, decide_false, Bool.not_true, Bool.not_false, cond_true, cond_false]
        exact hk q (hq.congr fun a b _ _ => F1_skip hx (.inr c2) a b)
      · obtain ⟨A, hA'⟩ : ∃ A : Nat, x.1 = A := ⟨x.1.toNat, by omega⟩
        obtain ⟨B, hB'⟩ : ∃ B : Nat, x.2.1 = B := ⟨x.2.1.toNat, by omega⟩
        have hAv : A ≠ v := fun e => c1 (by omega)
        have hBv : B ≠ v := fun e => c2 (by omega)
        have iA := s_Index A v (by omega)
        have iB := s_Index B v (by omega)
        have hlt := ix_lt hAv hBv (show A < B by omega)
        have hbd := ix_bd hBv hv (show B < m' by omega)
        have bm := mesh_bd (x := x.2.2) (s := wAt n.2.2.2 (v : Int)) (y := 0) (z := 0) (by omega) hA (by omega) (by omega)
        have ww : wr (x.2.2 * wAt n.2.2.2 (v : Int)) = x.2.2 * wAt n.2.2.2 (v : Int) := wr_id (by omega) (by omega)
        have hsmall := hq.small (by omega) (fun a b => by have := F1_bd (v := v) hW hA (n.2.2.2.take i) a b; omega)
        have hp := s_Put q (ix v A : Int) (ix v B : Int) (x.2.2 * wAt n.2.2.2 (v : Int)) (by omega) hsmall.1 hsmall.2 (by omega)
        have d1 : decide ((A : Int) = (v : Int)) = false := by rw [decide_eq_false_iff_not]; omega
        have d2 : decide ((B : Int) = (v : Int)) = false := by rw [decide_eq_false_iff_not]; omega
        simp only [d1, d2, Bool.not_false, cond_true, hA', hB', iA, iB, ww, hp, Option.bind_some]
        exact hk _ ((hq.put hlt hbd _).congr fun a b _ _ => F1_put hS hx hA' hB' (by omega) hAv hBv (by omega) a b)
  · rw [List.take_length] at hq
    simp only [r_spec_l07Mesh_L0, not_lt_self, cond_false]
    refine iter_rule (R := TNet × Bool) (MeshQ n m' v) nl (fun (q : List W3) i => ((v : Int), n, (0, 0, 0, []), nl.map (fun (u : Nat) => (u : Int)), (((m' - 1 : Nat) : Int), n.2.1, S, q), nl.map (fun (u : Nat) => (u : Int)), ((nl.map fun (u : Nat) => (u : Int)).length : Int), i, ()))
      (fun i q => Acc (m' - 1) (F2 n.2.2.2 v (wAt n.2.2.2 (v : Int)) (nl.take i)) q) (fun q i u kc hq hu hi hk => ?_) (fun q kc hq => ?_) (N := N0) (by have := N0_big; omega) q (hq.congr fun a b hab _ => F1_all hS hab)
    · have hum := List.mem_of_getElem? hu
      have hub := (hnm u).1 hum
      have huv := hnv u hum
      have d1 : decide ((i : Int) < (((nl.map fun (u : Nat) => (u : Int)).length : Nat) : Int)) = true := by rw [decide_eq_true_eq, List.length_map]; omega
      have g1 : (nl.map fun (u : Nat) => (u : Int))[i]? = some (u : Int) := by rw [List.getElem?_map, hu]; rfl
      have w1 : wr ((i : Int) + 1) = ((i + 1 : Nat) : Int) := wr_succ hi (by omega)
      have d2 : decide ((0 : Int) ≤ ((i + 1 : Nat) : Int)) = true := by rw [decide_eq_true_eq]; omega
      have d3 : decide (((i + 1 : Nat) : Int) ≤ (((nl.map fun (u : Nat) => (u : Int)).length : Nat) : Int)) = true := by rw [decide_eq_true_eq, List.length_map]; omega
      have hdr : List.take ((((nl.map fun (u : Nat) => (u : Int)).length : Nat) : Int).toNat - (((i + 1 : Nat) : Int)).toNat) (List.drop (((i + 1 : Nat) : Int)).toNat (nl.map fun (u : Nat) => (u : Int))) = (nl.drop (i + 1)).map fun (u : Nat) => (u : Int) := by
        rw [Int.toNat_natCast, Int.toNat_natCast, List.take_of_length_le (by simp), List.map_drop]
      simp only [r_spec_l07Mesh_L2, d1, d2, d3, cond_true, getI_nat, g1, Option.bind_some, w1, Int.le_refl, decide_true, hdr]
      have hrp : (nl.drop (i + 1)).Pairwise (· < ·) := List.Pairwise.sublist (List.drop_sublist _ _) hnp
      refine iter_rule (R := TNet × Bool) (MeshQ n m' v) (nl.drop (i + 1)) (fun (q : List W3) j => ((v : Int), n, (0, 0, 0, []), nl.map (fun (u : Nat) => (u : Int)), (((m' - 1 : Nat) : Int), n.2.1, S, q), (u : Int), nl.map (fun (u : Nat) => (u : Int)), ((nl.map fun (u : Nat) => (u : Int)).length : Int), (i : Int), (nl.drop (i + 1)).map (fun (u : Nat) => (u : Int)), (((nl.drop (i + 1)).map fun (u : Nat) => (u : Int)).length : Int), j, ()))
        (fun j q => Acc (m' - 1) (F3 n.2.2.2 v (wAt n.2.2.2 (v : Int)) (nl.take i) u ((nl.drop (i + 1)).take j)) q) (fun q j y kc2 hq hy hj hk2 => ?_) (fun q kc2 hq => ?_) (N := N0) (by have := N0_big; simp; omega) q (hq.congr fun a b _ _ => by simp [F3])
      · have hym : y ∈ nl := List.mem_of_mem_drop (List.mem_of_getElem? hy)
        have hyb := (hnm y).1 hym
        have hyv := hnv y hym
        have huy : u < y := by
          rw [List.getElem?_drop] at hy
          have hl := get_lt hy
          have := List.pairwise_iff_getElem.1 hnp i (i + 1 + j) hi hl (by omega)
          rw [List.getElem?_eq_getElem hl] at hy
          rw [List.getElem?_eq_getElem hi] at hu
          simp only [Option.some.injEq] at hy hu
          omega
        have d4 : decide ((j : Int) < ((((nl.drop (i + 1)).map fun (u : Nat) => (u : Int)).length : Nat) : Int)) = true := by rw [decide_eq_true_eq, List.length_map]; omega
        have g2 : ((nl.drop (i + 1)).map fun (u : Nat) => (u : Int))[j]? = some (y : Int) := by rw [List.getElem?_map, hy]; rfl
        have iU := s_Index u v (by omega)
        have iY := s_Index y v (by omega)
        have bm := mesh_bd (x := 0) (s := 0) (by omega) (by omega) (wbt_bd hW (v : Int) (u : Int)) (wbt_bd hW (v : Int) (y : Int))
        have ww : wr (wbt n.2.2.2 (v : Int) (u : Int) * wbt n.2.2.2 (v : Int) (y : Int)) = wbt n.2.2.2 (v : Int) (u : Int) * wbt n.2.2.2 (v : Int) (y : Int) := wr_id (by omega) (by omega)
        have hlt := ix_lt huv hyv huy
        have hbd := ix_bd hyv hv hyb.1
        have hsmall := hq.small (by omega) (fun a b => by have := F3_bd (v := v) hW hA (nl.take i) u ((nl.drop (i + 1)).take j) a b; omega)
        have hp := s_Put q (ix v u : Int) (ix v y : Int) (wbt n.2.2.2 (v : Int) (u : Int) * wbt n.2.2.2 (v : Int) (y : Int)) (by omega) hsmall.1 hsmall.2 (by omega)
        have w2 : wr ((j : Int) + 1) = ((j + 1 : Nat) : Int) := wr_succ hj (by simp; omega)
        simp only [r_spec_l07Mesh_L4, d4, cond_true, getI_nat, g2, Option.bind_some, iU, iY, s_WB n hn, ww, hp, w2]
        exact hk2 _ ((hq.put hlt hbd _).congr fun a b _ _ => F3_put huv hyv hrp hy a b)
      · have d4 : decide ((((nl.drop (i + 1)).length : Nat) : Int) < ((((nl.drop (i + 1)).map fun (u : Nat) => (u : Int)).length : Nat) : Int)) = false := by rw [decide_eq_false_iff_not, List.length_map]; omega
        rw [List.take_length] at hq
        simp only [r_spec_l07Mesh_L4, d4, cond_false, w1]
        exact hk q (hq.congr fun a b hab hb => F3_end hnp hnm hW hu hv hab hb)
    · have d1 : decide (((nl.length : Nat) : Int) < (((nl.map fun (u : Nat) => (u : Int)).length : Nat) : Int)) = false := by rw [decide_eq_false_iff_not, List.length_map]; omega
      rw [List.take_length] at hq
      simp only [r_spec_l07Mesh_L2, d1, cond_false]
      have hq2 : Acc (m' - 1) (meshF n.2.2.2 v) q := hq.congr fun a b hab hb => F2_all hnm hW hv (by omega)
      obtain ⟨l, l1, l2, l3⟩ := s_Reduced n.2.1 S (m' - 1) (by omega) hq2 ⟨hsb.1, by omega⟩ hn.2.1 (fun a b _ _ => by have := meshF_bd hS hin hm5 hW v a b; omega)
      have hN : meshN n m' v l = (((m' - 1 : Nat) : Int), n.2.1, S, l) := by simp only [meshN, hSS]
      refine ⟨l, l1, by rw [hN]; exact l2, ?_⟩
      simp only [l3, Option.bind_some, hN]
theorem mesh_same {n : TNet} {m v : Nat} {o o' : Option (TNet × Bool)} (h : MeshQ n m v o) (h' : MeshQ n m v o') : o = o' := by
  obtain ⟨l, l1, _, e⟩ := h
  obtain ⟨l', l1', _, e'⟩ := h'
  have : l = l' := l1.uniq l1' fun _ _ _ _ => rfl
  rw [e, e', this]
end Go.Sx.R
namespace Go.Sx.R
open Go Go.Sx
theorem zero_sm : Sm.sm B1 ((0, 0, 0, []) : TNet) := ⟨sm_z0, sm_z0, sm_z0, by simp [sm_list]⟩
structure Red (n : TNet) (r : TNet × Bool) : Prop where
  sm : Sm.sm B1 r.1
  ok : r.2 = true → netok r.1 = true ∧ r.1.1 = n.1 - 1 ∧ r.1.2.1 = n.2.1
theorem Red.zero (n : TNet) : Red n ((0, 0, 0, []), false) := ⟨zero_sm, by simp⟩
theorem MeshQ.red {n : TNet} {m v : Nat} {o : Option (TNet × Bool)} (hm : n.1 = m) (hm1 : 1 ≤ m) (h : MeshQ n m v o) : ∃ r, o = some r ∧ Red n r := by
  obtain ⟨l, l1, l2, e⟩ := h
  cases hq : netok (canon (meshN n m v l)) with
  | false => rw [hq] at e; exact ⟨_, e, Red.zero n⟩
  | true =>
    rw [hq] at e
    refine ⟨_, e, l2.canon_sm, fun _ => ⟨hq, ?_, rfl⟩⟩
    show ((m - 1 : Nat) : Int) = n.1 - 1
    omega
theorem s_inE (n : TNet) (hok : netok n = true) (v : Int) : e_spec_l01In (v, n.2.1, wr (n.1 - 1), ()) = some (decide (n.2.1 ≤ v) && decide (v < n.1)) := by
  obtain ⟨m, hm, hm1, hm5, hin, he1, he2⟩ := netok_facts hok
  have w : wr (n.1 - 1) = n.1 - 1 := wr_id (by omega) (by omega)
  have e : decide (v ≤ n.1 - 1) = decide (v < n.1) := by rw [decide_eq_decide]; omega
  simp only [w, p_l01In, n_l01In, e]
theorem star_both (n : TNet) (hn : Sm.sm B1 n) (v : Int) : ∃ r : TNet × Bool, e_impl_StarMesh (n, v, ()) = some r ∧ e_spec_StarMesh (n, v, ()) = some r ∧ Red n r := by
  cases hok : netok n with
  | false =>
    refine ⟨((0, 0, 0, []), false), ?_, ?_, Red.zero n⟩
    · simp only [e_impl_StarMesh, r_impl_StarMesh, p_NetOk n hn, hok, Option.bind_some, Bool.not_false, cond_true]
    · simp only [e_spec_StarMesh, r_spec_StarMesh, s_NetOk n hn, hok, Option.bind_some, Bool.not_false, cond_true]
  | true =>
    obtain ⟨m, hm, hm1, hm5, hin, he1, he2⟩ := netok_facts hok
    by_cases hv : n.2.1 ≤ v ∧ v < n.1
    · obtain ⟨k, rfl⟩ : ∃ k : Nat, v = k := ⟨v.toNat, by omega⟩
      have h1 : MeshQ n m k (e_impl_StarMesh (n, (k : Int), ())) := p_Star n hn hok m hm k hv.1 (by omega)
      have h2 := s_Mesh n hn hok m hm k (by omega) (by omega)
      obtain ⟨r, hr, hR⟩ := h1.red hm hm1
      have d1 : decide (n.2.1 ≤ (k : Int)) = true := by rw [decide_eq_true_eq]; exact hv.1
      have d2 : decide ((k : Int) < n.1) = true := by rw [decide_eq_true_eq]; exact hv.2
      refine ⟨r, hr, ?_, hR⟩
      have := mesh_same h2 h1
      rw [hr] at this
      simp only [e_spec_StarMesh, r_spec_StarMesh, s_NetOk n hn, hok, Option.bind_some, Bool.not_true, cond_false, s_inE n hok, d1, d2, Bool.and_self, this]
    · refine ⟨((0, 0, 0, []), false), ?_, ?_, Red.zero n⟩
      · simp only [e_impl_StarMesh, r_impl_StarMesh, p_NetOk n hn, hok, Option.bind_some, Bool.not_true, cond_false]
        by_cases h0 : v < n.2.1
        · simp [h0]
        · have d : decide (v ≥ n.1) = true := by rw [decide_eq_true_eq]; omega
          simp [h0, d]
      · have d : (decide (n.2.1 ≤ v) && decide (v < n.1)) = false := by simp only [Bool.and_eq_false_iff, decide_eq_false_iff_not]; omega
        simp only [e_spec_StarMesh, r_spec_StarMesh, s_NetOk n hn, hok, Option.bind_some, Bool.not_true, cond_false, s_inE n hok, d, Bool.not_false, cond_true]
theorem drop_both (n : TNet) (hn : Sm.sm B1 n) (v : Int) : ∃ r : TNet × Bool, e_impl_DropNode (n, v, ()) = some r ∧ e_spec_DropNode (n, v, ()) = some r ∧ Red n r ∧ (r.2 = true → 0 ≤ v) := by
  cases hok : netok n with
  | false =>
    refine ⟨((0, 0, 0, []), false), ?_, ?_, Red.zero n, by simp⟩
    · simp only [e_impl_DropNode, r_impl_DropNode, p_NetOk n hn, hok, Option.bind_some, Bool.not_false, cond_true]
    · simp only [e_spec_DropNode, r_spec_DropNode, s_NetOk n hn, hok, Option.bind_some, Bool.not_false, cond_true]
  | true =>
    obtain ⟨m, hm, hm1, hm5, hin, he1, he2⟩ := netok_facts hok
    by_cases hv : n.2.1 ≤ v ∧ v < n.1
    · obtain ⟨k, rfl⟩ : ∃ k : Nat, v = k := ⟨v.toNat, by omega⟩
      have h1 : MeshQ n m k (e_impl_StarMesh (n, (k : Int), ())) := p_Star n hn hok m hm k hv.1 (by omega)
      have h2 := s_Mesh n hn hok m hm k (by omega) (by omega)
      obtain ⟨r, hr, hR⟩ := h1.red hm hm1
      have hs := mesh_same h2 h1
      rw [hr] at hs
      have d1 : decide (n.2.1 ≤ (k : Int)) = true := by rw [decide_eq_true_eq]; exact hv.1
      have d2 : decide ((k : Int) < n.1) = true := by rw [decide_eq_true_eq]; exact hv.2
      have d3 : decide ((k : Int) < n.2.1) = false := by rw [decide_eq_false_iff_not]; omega
      have d4 : decide ((k : Int) ≥ n.1) = false := by rw [decide_eq_false_iff_not]; omega
      simp only [e_impl_DropNode, r_impl_DropNode, p_NetOk n hn, hok, e_spec_DropNode, r_spec_DropNode, s_NetOk n hn, Option.bind_some, Bool.not_true, cond_false, s_inE n hok, d1, d2, d3, d4, Bool.and_self, p_WiresAt n m hn hm hok (k : Int) (by omega) (by omega), s_Near n m hn hm hm5, p_l01In, n_l01In, hr, hs]
      by_cases c1 : ((near n.2.2.2 (k : Int) m).length : Int) < 1
      · have c2 : (decide (1 ≤ ((near n.2.2.2 (k : Int) m).length : Int)) && decide (((near n.2.2.2 (k : Int) m).length : Int) ≤ 2)) = false := by simp only [Bool.and_eq_false_iff, decide_eq_false_iff_not]; omega
        exact ⟨((0, 0, 0, []), false), by simp only [c1, decide_true, cond_true], by simp only [c2, Bool.not_false, cond_true], Red.zero n, by simp⟩
      · by_cases c3 : ((near n.2.2.2 (k : Int) m).length : Int) > 2
        · have c2 : (decide (1 ≤ ((near n.2.2.2 (k : Int) m).length : Int)) && decide (((near n.2.2.2 (k : Int) m).length : Int) ≤ 2)) = false := by simp only [Bool.and_eq_false_iff, decide_eq_false_iff_not]; omega
          exact ⟨((0, 0, 0, []), false), by simp only [c1, c3, decide_true, decide_false, cond_false, cond_true], by simp only [c2, Bool.not_false, cond_true], Red.zero n, by simp⟩
        · have c2 : (decide (1 ≤ ((near n.2.2.2 (k : Int) m).length : Int)) && decide (((near n.2.2.2 (k : Int) m).length : Int) ≤ 2)) = true := by simp only [Bool.and_eq_true, decide_eq_true_eq]; omega
          exact ⟨r, by simp only [c1, c3, decide_false, cond_false], by simp only [c2, Bool.not_true, cond_false], hR, fun _ => by omega⟩
    · refine ⟨((0, 0, 0, []), false), ?_, ?_, Red.zero n, by simp⟩
      · simp only [e_impl_DropNode, r_impl_DropNode, p_NetOk n hn, hok, Option.bind_some, Bool.not_true, cond_false]
        by_cases h0 : v < n.2.1
        · simp [h0]
        · have d : decide (v ≥ n.1) = true := by rw [decide_eq_true_eq]; omega
          simp [h0, d]
      · have d : (decide (n.2.1 ≤ v) && decide (v < n.1)) = false := by simp only [Bool.and_eq_false_iff, decide_eq_false_iff_not]; omega
        simp only [e_spec_DropNode, r_spec_DropNode, s_NetOk n hn, hok, Option.bind_some, Bool.not_true, cond_false, s_inE n hok, d, Bool.not_false, cond_true]
end Go.Sx.R
namespace Go.Sx.R
open Go Go.Sx
theorem detZ_perm2 {M : List (List Int)} {l l' : List Int} (h : l.Perm l') : ∀ pr pc : List Int, pr.length = pc.length → pr.length + l.length ≤ 4 → detZ M (pr ++ l) (pc ++ l) = detZ M (pr ++ l') (pc ++ l') := by
  induction h with
  | nil => intro pr pc _ _; rfl
  | cons x _ ih =>
    intro pr pc he hl
    have := ih (pr ++ [x]) (pc ++ [x]) (by simp [he]) (by simp at hl ⊢; omega)
    simpa using this
  | swap x y l =>
    intro pr pc he hl
    simp only [List.length_cons] at hl
    match pr, pc, l, he, hl with
    | [], [], [], _, _ => simp only [List.nil_append, detZ2] <;> grind
    | [], [], [a], _, _ => simp only [List.nil_append, detZ3] <;> grind
    | [], [], [a, b], _, _ => simp only [List.nil_append, detZ4] <;> grind
    | [p], [p'], [], _, _ => simp only [List.cons_append, List.nil_append, detZ3] <;> grind
    | [p], [p'], [a], _, _ => simp only [List.cons_append, List.nil_append, detZ4] <;> grind
    | [p, q], [p', q'], [], _, _ => simp only [List.cons_append, List.nil_append, detZ4] <;> grind
    | [], [], _ :: _ :: _ :: _, _, hl => simp at hl <;> omega
    | [_], [_], _ :: _ :: _, _, hl => simp at hl <;> omega
    | [_, _], [_, _], _ :: _, _, hl => simp at hl <;> omega
    | _ :: _ :: _ :: _, _, _, _, hl => simp at hl <;> omega
    | [], _ :: _, _, he, _ => simp at he
    | _ :: _, [], _, he, _ => simp at he
    | [_], _ :: _ :: _, _, he, _ => simp at he
    | _ :: _ :: _, [_], _, he, _ => simp at he
    | [_, _], _ :: _ :: _ :: _, _, he, _ => simp at he
  | trans h1 _ ih1 ih2 =>
    intro pr pc he hl
    rw [ih1 pr pc he hl, ih2 pr pc he (by rw [← h1.length_eq]; exact hl)]
theorem schur {M M' : List (List Int)} {v g : Int} {f : Int → Int} : ∀ (R C : List Int), R.length = C.length → R.length ≤ 3 → (∀ r ∈ R, ∀ c ∈ C, at2 M' r c * g = at2 M v v * at2 M (f r) (f c) - at2 M (f r) v * at2 M v (f c)) →
    detZ M' R C * g ^ R.length * at2 M v v = at2 M v v ^ R.length * detZ M (R.map f ++ [v]) (C.map f ++ [v]) := by
  intro R C he hl h
  match R, C, he, hl with
  | [], [], _, _ =>
    have : detZ M' [] [] = 1 := by simp [detZ]
    simp only [List.map_nil, List.nil_append, List.length_nil, detZ1, this]; grind
  | [r], [c], _, _ =>
    have h1 := h r (by simp) c (by simp)
    simp only [List.map_cons, List.map_nil, List.cons_append, List.nil_append, List.length_cons, List.length_nil, detZ1, detZ2]
    generalize at2 M v v = A at *
    generalize at2 M' r c = X at *
    grind
  | [r, s], [c, d], _, _ =>
    have h1 := h r (by simp) c (by simp)
    have h2 := h r (by simp) d (by simp)
    have h3 := h s (by simp) c (by simp)
    have h4 := h s (by simp) d (by simp)
    simp only [List.map_cons, List.map_nil, List.cons_append, List.nil_append, List.length_cons, List.length_nil, detZ2, detZ3]
    have e : (at2 M' r c * at2 M' s d - at2 M' r d * at2 M' s c) * g ^ (0 + 1 + 1) = (at2 M' r c * g) * (at2 M' s d * g) - (at2 M' r d * g) * (at2 M' s c * g) := by grind
    rw [e, h1, h2, h3, h4]
    generalize at2 M v v = A at *
    grind
  | [r, s, t], [c, d, e], _, _ =>
    have h1 := h r (by simp) c (by simp)
    have h2 := h r (by simp) d (by simp)
    have h3 := h r (by simp) e (by simp)
    have h4 := h s (by simp) c (by simp)
    have h5 := h s (by simp) d (by simp)
    have h6 := h s (by simp) e (by simp)
    have h7 := h t (by simp) c (by simp)
    have h8 := h t (by simp) d (by simp)
    have h9 := h t (by simp) e (by simp)
    simp only [List.map_cons, List.map_nil, List.cons_append, List.nil_append, List.length_cons, List.length_nil, detZ3, detZ4]
    have e' : (at2 M' r c * (at2 M' s d * at2 M' t e - at2 M' s e * at2 M' t d) - at2 M' r d * (at2 M' s c * at2 M' t e - at2 M' s e * at2 M' t c) + at2 M' r e * (at2 M' s c * at2 M' t d - at2 M' s d * at2 M' t c)) * g ^ (0 + 1 + 1 + 1)
        = (at2 M' r c * g) * ((at2 M' s d * g) * (at2 M' t e * g) - (at2 M' s e * g) * (at2 M' t d * g)) - (at2 M' r d * g) * ((at2 M' s c * g) * (at2 M' t e * g) - (at2 M' s e * g) * (at2 M' t c * g)) + (at2 M' r e * g) * ((at2 M' s c * g) * (at2 M' t d * g) - (at2 M' s d * g) * (at2 M' t c * g)) := by grind
    rw [e', h1, h2, h3, h4, h5, h6, h7, h8, h9]
    clear h1 h2 h3 h4 h5 h6 h7 h8 h9 h e'
    generalize at2 M v v = A at *
    generalize at2 M (f r) (f c) = x1
    generalize at2 M (f r) (f d) = x2
    generalize at2 M (f r) (f e) = x3
    generalize at2 M (f s) (f c) = x4
    generalize at2 M (f s) (f d) = x5
    generalize at2 M (f s) (f e) = x6
    generalize at2 M (f t) (f c) = x7
    generalize at2 M (f t) (f d) = x8
    generalize at2 M (f t) (f e) = x9
    generalize at2 M (f r) v = y1
    generalize at2 M (f s) v = y2
    generalize at2 M (f t) v = y3
    generalize at2 M v (f c) = z1
    generalize at2 M v (f d) = z2
    generalize at2 M v (f e) = z3
    grind
  | [], _ :: _, he, _ => simp at he
  | _ :: _, [], he, _ => simp at he
  | [_], _ :: _ :: _, he, _ => simp at he
  | _ :: _ :: _, [_], he, _ => simp at he
  | [_, _], _ :: _ :: _ :: _, he, _ => simp at he
  | _ :: _ :: _ :: _, [_, _], he, _ => simp at he
  | [_, _, _], _ :: _ :: _ :: _ :: _, he, _ => simp at he
  | _ :: _ :: _ :: _ :: _, _, _, hl => simp at hl <;> omega
section
variable {n : TNet} {m E : Nat} {L : List (List Int)} {inn : List Int}
theorem Nk.lk (h : Nk n m E L inn) : Lk n m L := ⟨h.hn, h.ok, h.hm, h.m1, h.m5, h.sc, h.lp, h.ls, h.tab, h.srt, h.inw, h.hw⟩
theorem Nk.down1 (h : Nk n m E L inn) (hE : 2 ≤ E) : 1 ≤ detZ L inn inn ∧ detZ L inn inn ≤ 5832000000 := by
  have lk := h.lk
  have l := h.len_inn
  have hm5 := h.m5
  have hem := h.em
  refine ⟨lk.lapZ.pos lk.hang _ inn rfl (by omega) h.nd_inn (fun i hi => mem_wo.2 ⟨(h.inn_in i hi).1, (h.inn_in i hi).2, by simp⟩) ⟨0, mem_wo.2 ⟨by omega, by omega, by simp⟩, fun hh => by have := h.mem_inn.1 hh; omega⟩, ?_⟩
  have := det_lap h.srt h.inw h.m5 h.hw h.tab h.inn_in h.inn_in h.nd_inn
  have p : 1800 ^ inn.length ≤ 5832000000 := Nat.le_trans (Nat.pow_le_pow_right (by omega) (show inn.length ≤ 3 by omega)) (by decide)
  omega
theorem Nk.dOf1 (h : Nk n m E L inn) (hE : 2 ≤ E) : 1 ≤ dOf n L inn ∧ dOf n L inn ≤ 5832000000000 := by
  have d := h.down1 hE
  have s := h.sc
  simp only [dOf]
  constructor
  · have : 1 * 1 ≤ n.2.2.1 * detZ L inn inn := Int.mul_le_mul s.1 d.1 (by omega) (by omega)
    omega
  · have : n.2.2.1 * detZ L inn inn ≤ 1000 * 5832000000 := Int.mul_le_mul s.2 d.2 (by omega) (by omega)
    omega
theorem Nk.rtZ (h : Nk n m E L inn) (hE : 2 ≤ E) {i j : Nat} (hi : i < E) (hj : j < E) : rtF n L inn i j = ratZ (detZ L ((i : Int) :: inn) ((j : Int) :: inn)) (dOf n L inn) := by
  have d := h.dOf1 hE
  have t := h.top_le hi hj
  have r := (h.rt hi hj).1
  rw [p_Ratio (by omega) d.1 (by omega)] at r
  exact (Option.some.inj r).symm
theorem Nk.respV (h : Nk n m E L inn) : respV n = respT n L inn E := by
  simp only [Go.Sx.R.respV, h.sResp, Option.map_some, Option.getD_some]
theorem star_resp (h : Nk n m E L inn) (hE : 2 ≤ E) {v : Nat} (hEv : E ≤ v) (hv : v < m) {l : List W3} (l1 : WiresOf (meshF n.2.2.2 v) (m - 1) (fun _ _ => True) l) (hF : Fine (meshN n m v l)) (hok : netok (canon (meshN n m v l)) = true) (hsm : Sm.sm B1 (canon (meshN n m v l))) :
    Go.Sx.R.respV (canon (meshN n m v l)) = Go.Sx.R.respV n := by
  have lk := h.lk
  have hm5 := h.m5
  have hem := h.em
  have hm := h.hm
  obtain ⟨m', E', L', inn', h'⟩ := nk_of _ hsm hok
  have em : m' = m - 1 := by have := h'.hm; simp only [canon, meshN] at this; omega
  have eE : E' = E := by have := h'.he; have := h.he; simp only [canon, meshN] at *; omega
  subst em eE
  have lk' := h'.lk
  have hg := hF.g_pos
  have mc := mul_canon hF
  generalize hc : canon (meshN n m v l) = c at *
  generalize gN (meshN n m v l) = g at *
  have ws : c.2.2.2.map (mulW g) = l := congrArg (fun n : TNet => n.2.2.2) mc
  have scl : c.2.2.1 * (g : Int) = n.2.2.1 * wAt n.2.2.2 (v : Int) := congrArg (fun n : TNet => n.2.2.1) mc
  have vin : (v : Int) ∈ wo m [] := mem_wo.2 ⟨by omega, by omega, by simp⟩
  have A := lk.a2 (i := (v : Int)) (j := (v : Int)) (by omega) (by omega)
  rw [if_pos rfl] at A
  let f : Int → Int := fun x => ((un v x.toNat : Nat) : Int)
  have fu : ∀ k : Nat, f (k : Int) = ((un v k : Nat) : Int) := fun k => by show ((un v ((k : Int).toNat) : Nat) : Int) = _; rw [Int.toNat_natCast]
  have fin : ∀ x : Int, 0 ≤ x ∧ x < ((m - 1 : Nat) : Int) → 0 ≤ f x ∧ f x < m ∧ f x ≠ v := by
    intro x hx
    obtain ⟨k, rfl⟩ : ∃ k : Nat, x = k := ⟨x.toNat, by omega⟩
    have ub := un_bd (i := k) hv (by omega)
    have := un_ne v k
    rw [fu]; omega
  have finj : ∀ x y : Int, 0 ≤ x → 0 ≤ y → f x = f y → x = y := by
    intro x y hx hy e
    obtain ⟨k, rfl⟩ : ∃ k : Nat, x = k := ⟨x.toNat, by omega⟩
    obtain ⟨j, rfl⟩ : ∃ j : Nat, y = j := ⟨y.toNat, by omega⟩
    rw [fu, fu] at e
    have := un_inj (v := v) (i := k) (j := j) (by omega)
    omega
  have wl : ∀ i j : Nat, i < m - 1 → j < m - 1 → i ≠ j → wbt l (i : Int) (j : Int) = meshF n.2.2.2 v i j := by
    intro i j hi hj hij
    rcases Nat.lt_or_gt_of_ne hij with hl | hl
    · exact wiresOf_wbt l1 hl hj
    · rw [wbt_comm, wiresOf_wbt l1 hl hi]
      simp only [meshF]
      rw [wbt_comm _ (un v j : Int) (un v i : Int), Int.mul_comm (wbt n.2.2.2 (v : Int) (un v j : Int))]
  have off : ∀ x y : Int, (0 ≤ x ∧ x < ((m - 1 : Nat) : Int)) → (0 ≤ y ∧ y < ((m - 1 : Nat) : Int)) → x ≠ y → at2 L' x y * (g : Int) = at2 L v v * at2 L (f x) (f y) - at2 L (f x) v * at2 L v (f y) := by
    intro x y hx hy hxy
    have fx := fin x hx
    have fy := fin y hy
    have fne : f x ≠ f y := fun e => hxy (finj x y hx.1 hy.1 e)
    rw [lk'.a2 hx hy, if_neg hxy, A, lk.a2 ⟨fx.1, fx.2.1⟩ ⟨fy.1, fy.2.1⟩, if_neg fne, lk.a2 ⟨fx.1, fx.2.1⟩ (by omega), if_neg fx.2.2, lk.a2 (by omega) ⟨fy.1, fy.2.1⟩, if_neg (Ne.symm fy.2.2)]
    obtain ⟨k, rfl⟩ : ∃ k : Nat, x = k := ⟨x.toNat, by omega⟩
    obtain ⟨j, rfl⟩ : ∃ j : Nat, y = j := ⟨y.toNat, by omega⟩
    have e := wl k j (by omega) (by omega) (by omega)
    rw [← ws, wbt_mul] at e
    simp only [meshF] at e
    rw [fu, fu, wbt_comm _ (un v k : Int) (v : Int), Int.neg_mul, e]
    grind
  have pV : (wo m []).Perm ((v : Int) :: (wo (m - 1) []).map f) := by
    refine (wo_cons (by omega) (by omega) (by simp)).trans ((perm_of (wo_nd _ _) (nodup_map_on f (wo_nd _ _) fun x hx y hy e => finj x y (mem_wo.1 hx).1 (mem_wo.1 hy).1 e) fun c => ?_).cons _)
    rw [mem_wo, List.mem_map]
    simp only [List.mem_cons, List.not_mem_nil, or_false]
    constructor
    · rintro ⟨c0, c1, c2⟩
      obtain ⟨k, rfl⟩ : ∃ k : Nat, c = k := ⟨c.toNat, by omega⟩
      exact ⟨((ix v k : Nat) : Int), mem_wo.2 ⟨by omega, by have := ix_bd (a := k) (v := v) (by omega) hv (by omega); omega, by simp⟩, by rw [fu, un_ix (by omega)]⟩
    · rintro ⟨x, hx, rfl⟩
      have hx := mem_wo.1 hx
      exact fin x ⟨hx.1, hx.2.1⟩
  have smul : ∀ (k : Int) (l : List Int) (F : Int → Int), (l.map fun y => F y * k).sum = (l.map F).sum * k := by
    intro k l F
    induction l with
    | nil => simp
    | cons y l ih => simp only [List.map_cons, List.sum_cons, ih, Int.add_mul]
  have slin : ∀ (a b : Int) (l : List Int) (F G : Int → Int), (l.map fun y => a * F y - b * G y).sum = a * (l.map F).sum - b * (l.map G).sum := by
    intro a b l F G
    induction l with
    | nil => simp
    | cons y l ih => simp only [List.map_cons, List.sum_cons, ih, Int.mul_add]; omega
  have ent : ∀ x y : Int, (0 ≤ x ∧ x < ((m - 1 : Nat) : Int)) → (0 ≤ y ∧ y < ((m - 1 : Nat) : Int)) → at2 L' x y * (g : Int) = at2 L v v * at2 L (f x) (f y) - at2 L (f x) v * at2 L v (f y) := by
    intro x y hx hy
    by_cases hxy : x = y
    · subst hxy
      have fx := fin x hx
      have xin := mem_wo.2 (show 0 ≤ x ∧ x < ((m - 1 : Nat) : Int) ∧ x ∉ ([] : List Int) from ⟨hx.1, hx.2, by simp⟩)
      have s1 := lk'.lapZ.sum x xin
      have s2 := lk.lapZ.sum (f x) (mem_wo.2 ⟨fx.1, fx.2.1, by simp⟩)
      have s3 := lk.lapZ.sum v vin
      rw [perm_sum (pV.map (at2 L (f x)))] at s2
      rw [perm_sum (pV.map (at2 L v))] at s3
      simp only [List.map_cons, List.sum_cons, List.map_map] at s2 s3
      have pe := List.perm_cons_erase xin
      have nde := List.nodup_cons.1 (pe.nodup_iff.1 (wo_nd _ _))
      have t1 : ((wo (m - 1) []).map fun y => at2 L' x y * (g : Int)).sum = 0 := by rw [smul]; have e : ((wo (m - 1) []).map fun y => at2 L' x y) = (wo (m - 1) []).map (at2 L' x) := rfl; rw [e, s1, Int.zero_mul]
      have t2 : ((wo (m - 1) []).map fun y => at2 L v v * (at2 L (f x) ∘ f) y - at2 L (f x) v * (at2 L v ∘ f) y).sum = 0 := by
        rw [slin]
        have q2 : ((wo (m - 1) []).map (at2 L (f x) ∘ f)).sum = -at2 L (f x) v := by omega
        have q3 : ((wo (m - 1) []).map (at2 L v ∘ f)).sum = -at2 L v v := by omega
        rw [q2, q3]; grind
      rw [perm_sum (pe.map fun y => at2 L' x y * (g : Int))] at t1
      rw [perm_sum (pe.map fun y => at2 L v v * (at2 L (f x) ∘ f) y - at2 L (f x) v * (at2 L v ∘ f) y)] at t2
      simp only [List.map_cons, List.sum_cons] at t1 t2
      have e : ((wo (m - 1) []).erase x).map (fun y => at2 L' x y * (g : Int)) = ((wo (m - 1) []).erase x).map (fun y => at2 L v v * (at2 L (f x) ∘ f) y - at2 L (f x) v * (at2 L v ∘ f) y) := List.map_congr_left fun z hz => by
        have hzm := mem_wo.1 (List.mem_of_mem_erase hz)
        have hne : x ≠ z := by rintro rfl; exact nde.1 hz
        exact off x z hx ⟨hzm.1, hzm.2.1⟩ hne
      rw [e] at t1
      have e2 : (at2 L (f x) ∘ f) x = at2 L (f x) (f x) := rfl
      have e3 : (at2 L v ∘ f) x = at2 L v (f x) := rfl
      rw [e2, e3] at t2
      omega
    · exact off x y hx hy hxy
  have lw : (wo m [(v : Int)]).length + 1 ≤ m := wo_len (x := (v : Int)) (by simp) (by omega) (by omega)
  have pI : inn.Perm (inn'.map f ++ [(v : Int)]) := by
    refine perm_of h.nd_inn ?_ fun c => ?_
    · rw [List.nodup_append]
      refine ⟨nodup_map_on f h'.nd_inn fun x hx y hy e => finj x y (h'.inn_in x hx).1 (h'.inn_in y hy).1 e, by simp, ?_⟩
      intro a ha b hb
      simp at hb; subst hb
      obtain ⟨x, hx, rfl⟩ := List.mem_map.1 ha
      exact (fin x (h'.inn_in x hx)).2.2
    · rw [h.mem_inn, List.mem_append, List.mem_map]
      simp only [List.mem_cons, List.not_mem_nil, or_false]
      constructor
      · rintro ⟨c0, c1⟩
        by_cases hcv : c = v
        · exact .inr hcv
        · left
          obtain ⟨k, rfl⟩ : ∃ k : Nat, c = k := ⟨c.toNat, by omega⟩
          refine ⟨((ix v k : Nat) : Int), h'.mem_inn.2 ⟨?_, by have := ix_bd (a := k) (v := v) (by omega) hv (by omega); omega⟩, by rw [fu, un_ix (by omega)]⟩
          unfold ix; split <;> omega
      · rintro (⟨x, hx, rfl⟩ | rfl)
        · have hx := h'.mem_inn.1 hx
          obtain ⟨k, rfl⟩ : ∃ k : Nat, x = k := ⟨x.toNat, by omega⟩
          have := fin (k : Int) (by omega)
          rw [fu] at this ⊢
          refine ⟨?_, this.2.1⟩
          unfold un; split <;> omega
        · omega
  have l' := h'.len_inn
  have l0 := h.len_inn
  have f0 : ∀ i : Nat, i < E' → f (i : Int) = i := fun i hi => by rw [fu, un_lo (by omega)]
  have Dn := schur (M := L) (M' := L') (v := (v : Int)) (g := (g : Int)) (f := f) inn' inn' rfl (by omega) fun r hr c hc => ent r c (h'.inn_in r hr) (h'.inn_in c hc)
  rw [← detZ_perm pI (by omega)] at Dn
  have Tp : ∀ i j : Nat, i < E' → j < E' → detZ L' ((i : Int) :: inn') ((j : Int) :: inn') * (g : Int) ^ (inn'.length + 1) * at2 L v v = at2 L v v ^ (inn'.length + 1) * detZ L ((i : Int) :: inn) ((j : Int) :: inn) := by
    intro i j hi hj
    have q := schur (M := L) (M' := L') (v := (v : Int)) (g := (g : Int)) (f := f) ((i : Int) :: inn') ((j : Int) :: inn') rfl (by simp; omega) fun r hr c hc => by
      have hr' : 0 ≤ r ∧ r < ((m - 1 : Nat) : Int) := by
        rcases List.mem_cons.1 hr with rfl | hr
        · omega
        · exact h'.inn_in r hr
      have hc' : 0 ≤ c ∧ c < ((m - 1 : Nat) : Int) := by
        rcases List.mem_cons.1 hc with rfl | hc
        · omega
        · exact h'.inn_in c hc
      exact ent r c hr' hc'
    have e := detZ_perm2 (M := L) pI [(i : Int)] [(j : Int)] rfl (by simp; omega)
    simp only [List.cons_append, List.nil_append] at e
    simp only [List.map_cons, List.cons_append, List.length_cons, f0 i hi, f0 j hj] at q
    rw [e]; exact q
  have hA1 : 1 ≤ at2 L v v := by
    have := lk.lapZ.pos lk.hang 1 [(v : Int)] rfl (by omega) (by simp) (by simpa using vin) ⟨0, mem_wo.2 ⟨by omega, by omega, by simp⟩, by simp; omega⟩
    rwa [detZ1] at this
  rw [h.respV, h'.respV]
  simp only [respT]
  refine List.map_congr_left fun i hi => List.map_congr_left fun j hj => ?_
  have hi : i < E' := by rw [List.mem_range'_1] at hi; omega
  have hj : j < E' := by rw [List.mem_range'_1] at hj; omega
  rw [h.rtZ hE hi hj, h'.rtZ hE hi hj, ratZ_eq (h'.dOf1 hE).1 (h.dOf1 hE).1]
  have T := Tp i j hi hj
  simp only [dOf]
  have dd : c.2.2.1 * detZ L' inn' inn' * ((g : Int) ^ (inn'.length + 1) * at2 L v v) = at2 L v v ^ (inn'.length + 1) * (n.2.2.1 * detZ L inn inn) := by
    have e1 : c.2.2.1 * detZ L' inn' inn' * ((g : Int) ^ (inn'.length + 1) * at2 L v v) = (c.2.2.1 * (g : Int)) * (detZ L' inn' inn' * (g : Int) ^ inn'.length * at2 L v v) := by rw [Int.pow_succ]; grind
    rw [e1, Dn, scl, ← A, Int.pow_succ]; grind
  have hX : 0 < (g : Int) ^ (inn'.length + 1) * at2 L v v := Int.mul_pos (Int.pow_pos (by omega)) (by omega)
  have hY : 0 < at2 L v v ^ (inn'.length + 1) := Int.pow_pos (by omega)
  generalize at2 L v v ^ (inn'.length + 1) = Y at *
  rw [Int.mul_assoc] at T
  generalize (g : Int) ^ (inn'.length + 1) * at2 L v v = X at *
  generalize detZ L' ((i : Int) :: inn') ((j : Int) :: inn') = a at *
  generalize detZ L ((i : Int) :: inn) ((j : Int) :: inn) = b at *
  generalize c.2.2.1 * detZ L' inn' inn' = p at *
  generalize n.2.2.1 * detZ L inn inn = q at *
  have hXY : X * Y ≠ 0 := by have := Int.mul_pos hX hY; omega
  refine Int.eq_of_mul_eq_mul_right hXY ?_
  have e1 : a * q * (X * Y) = (a * X) * (Y * q) := by grind
  have e2 : b * p * (X * Y) = (Y * b) * (p * X) := by grind
  rw [e1, e2, T, dd]
end
end Go.Sx.R
namespace Go.Sx.R
open Go Go.Sx
theorem star_keep (n : TNet) (hn : Sm.sm B1 n) (hok : netok n = true) (h2 : 2 ≤ n.2.1) {v : Int} (hv0 : n.2.1 ≤ v) (hv1 : v < n.1) :
    ∃ r : TNet × Bool, e_impl_StarMesh (n, v, ()) = some r ∧ e_spec_StarMesh (n, v, ()) = some r ∧ Red n r ∧ (r.2 = false → r.1 = Z0) ∧ (r.2 = true → respV r.1 = respV n) := by
  obtain ⟨r, r1, r2, r3⟩ := star_both n hn v
  refine ⟨r, r1, r2, r3, ?_⟩
  obtain ⟨m, E, L, inn, h⟩ := nk_of n hn hok
  have hm := h.hm
  have he := h.he
  obtain ⟨k, rfl⟩ : ∃ k : Nat, v = k := ⟨v.toNat, by omega⟩
  obtain ⟨l, l1, l2, l3⟩ := p_Star n hn hok m hm k hv0 (by omega)
  rw [r1] at l3
  cases hq : netok (canon (meshN n m k l)) with
  | false =>
    rw [hq] at l3
    have e := Option.some.inj l3
    subst e
    exact ⟨fun _ => rfl, fun h => by simp at h⟩
  | true =>
    rw [hq] at l3
    have e := Option.some.inj l3
    subst e
    exact ⟨fun h => by simp at h, fun _ => star_resp h (by omega) (by omega) (by omega) l1 l2 hq l2.canon_sm⟩
theorem makeInner_ok {A : Option (Nat × Obj)} {v : Value} (hc : CodeOk A v) : ∃ n, e_spec_MakeInner A (v, ()) = some n ∧ Drawn 5 6 n ∧ n.2.1 = 2 ∧ 3 ≤ n.1 := by
  obtain ⟨y, e, g⟩ := new_ok hc
  obtain ⟨y', n, e2, g2, hd⟩ := draw_ok g (most := 5) (by omega) (by omega)
  simp only [e_spec_MakeInner, r_spec_MakeInner, e, e2, Option.bind_some]
  have h2 := hd.n2
  by_cases hn : n.1 = 2
  · obtain ⟨y3, x, e3, g3, x0, x1⟩ := below_ok g2 (n := 3) (by omega) (by omega)
    have w : wr (1 + x) = 1 + x := wr_id (by omega) (by omega)
    simp only [hn, decide_true, cond_true, e3, Option.bind_some, w]
    refine ⟨_, rfl, ⟨by simp, by simp, by simp, by simp, by simp, by simp, ⟨?_, ?_, ?_⟩, ?_, by simp⟩, rfl, by simp⟩
    · simp [Srt, lex]
    · intro e he
      simp only [List.mem_cons, List.not_mem_nil, or_false] at he
      rcases he with rfl | rfl <;> simp
    · intro e he
      simp only [List.mem_cons, List.not_mem_nil, or_false] at he
      rcases he with rfl | rfl
      · show 1 ≤ 1 + x ∧ 1 + x ≤ 6; omega
      · show (1 : Int) ≤ 2 ∧ (2 : Int) ≤ 6; omega
    · intro u h0 h1
      have h1 : u < 3 := h1
      have r2 : Rc [((0 : Int), (2 : Int), 1 + x), (1, 2, 2)] 2 := Rc.ab (e := (0, 2, 1 + x)) (by simp) .zero
      have r1 : Rc [((0 : Int), (2 : Int), 1 + x), (1, 2, 2)] 1 := Rc.ba (e := (1, 2, 2)) (by simp) r2
      rcases (show u = 0 ∨ u = 1 ∨ u = 2 by omega) with rfl | rfl | rfl
      · exact .zero
      · exact r1
      · exact r2
  · simp only [hn, decide_false, cond_false]
    exact ⟨_, rfl, ⟨hd.n2, hd.most, by simp, hd.n2, hd.s1, hd.s3, hd.wok, hd.con, hd.len⟩, rfl, by show 3 ≤ n.1; omega⟩
end Go.Sx.R
namespace Go.Sx.R
open Go Go.Sx
theorem drop_keep (n : TNet) (hn : Sm.sm B1 n) (hok : netok n = true) (h2 : 2 ≤ n.2.1) (v : Int) (r : TNet × Bool) (e : e_impl_DropNode (n, v, ()) = some r) (ht : r.2 = true) : respV r.1 = respV n := by
  obtain ⟨m, hm, hm1, hm5, hin, he1, he2⟩ := netok_facts hok
  simp only [e_impl_DropNode, r_impl_DropNode, p_NetOk n hn, hok, Option.bind_some, Bool.not_true, cond_false] at e
  by_cases c1 : v < n.2.1
  · simp only [c1, decide_true, cond_true] at e
    have e := Option.some.inj e; subst e; cases ht
  simp only [c1, decide_false, cond_false] at e
  by_cases c2 : v ≥ n.1
  · simp only [c2, decide_true, cond_true] at e
    have e := Option.some.inj e; subst e; cases ht
  simp only [c2, decide_false, cond_false, p_WiresAt n m hn hm hok v (by omega) (by omega), Option.bind_some] at e
  obtain ⟨q, q1, _, _, _, q5⟩ := star_keep n hn hok h2 (v := v) (by omega) (by omega)
  by_cases c3 : ((near n.2.2.2 v m).length : Int) < 1
  · simp only [c3, decide_true, cond_true] at e
    have e := Option.some.inj e; subst e; cases ht
  simp only [c3, decide_false, cond_false] at e
  by_cases c4 : ((near n.2.2.2 v m).length : Int) > 2
  · simp only [c4, decide_true, cond_true] at e
    have e := Option.some.inj e; subst e; cases ht
  simp only [c4, decide_false, cond_false, q1, Option.bind_some] at e
  have e := Option.some.inj e
  subst e
  exact q5 ht
structure RedEnd (n : TNet) (steps : Nat) (R : TNet × Int × Bool) : Prop where
  ok2 : R.2.2 = true
  sm : Sm.sm B1 R.1
  ok : netok R.1 = true
  nodes : R.1.1 + R.2.1 = n.1 + steps
  ends : R.1.2.1 = n.2.1
  resp : respV R.1 = respV n
  steps0 : 0 ≤ R.2.1 ∧ R.2.1 ≤ 1000
  last : ∃ (a b : Int) (p q : TNet × Bool), e_impl_LeafOf (R.1, ()) = some a ∧ e_impl_SeriesOf (R.1, ()) = some b ∧ e_impl_DropNode (R.1, a, ()) = some p ∧ e_spec_DropNode (R.1, a, ()) = some p ∧ e_impl_DropNode (R.1, b, ()) = some q ∧ e_spec_DropNode (R.1, b, ()) = some q ∧
    (0 ≤ a → p.2 = false) ∧ (a < 0 → 0 ≤ b → q.2 = false)
theorem red_keep : ∀ (k : Nat) (n : TNet) (steps : Nat) (N : Nat), Sm.sm B1 n → netok n = true → 2 ≤ n.2.1 → n.1 ≤ k → k < N → steps + k ≤ 1000 →
    ∃ R : TNet × Int × Bool, iterK (r_impl_ReduceAll_L0 e_impl_NetOk e_impl_copyNet e_impl_LeafOf e_impl_SeriesOf e_impl_DropNode N0) N (n, (0, 0, 0, []), 0, false, (steps : Int), ()) (fun s3 => some (s3.2.1, s3.2.2.1, s3.2.2.2.1)) = some R ∧ RedEnd n steps R
  | 0, n, steps, N, hn, hok, h2, hk, _, _ => by obtain ⟨m, hm, hm1, _⟩ := netok_facts hok; omega
  | k + 1, n, steps, N, hn, hok, h2, hk, hN, hst => by
    obtain ⟨M, rfl⟩ : ∃ M, N = M + 1 := ⟨N - 1, by omega⟩
    obtain ⟨a, a1, a2⟩ := p_nodeWith n hn 1
    obtain ⟨b, b1, b2⟩ := p_nodeWith n hn 2
    obtain ⟨p, p1, p2, p3, p4⟩ := drop_both n hn a
    obtain ⟨q, q1, q2, q3, q4⟩ := drop_both n hn b
    have ws : wr ((steps : Int) + 1) = ((steps + 1 : Nat) : Int) := by rw [wr_id (by omega) (by omega)]; omega
    have la : e_impl_LeafOf (n, ()) = some a := by simp only [e_impl_LeafOf, r_impl_LeafOf, a1, Option.bind_some]
    have lb : e_impl_SeriesOf (n, ()) = some b := by simp only [e_impl_SeriesOf, r_impl_SeriesOf, b1, Option.bind_some]
    have stop : (0 ≤ a → p.2 = false) → (a < 0 → 0 ≤ b → q.2 = false) → RedEnd n steps (n, (steps : Int), true) := fun h3 h4 =>
      ⟨rfl, hn, hok, rfl, rfl, rfl, by show (0 : Int) ≤ (steps : Int) ∧ (steps : Int) ≤ 1000; omega, a, b, p, q, la, lb, p1, p2, q1, q2, h3, h4⟩
    have more : ∀ r : TNet × Bool, Red n r → r.2 = true → respV r.1 = respV n → ∃ R : TNet × Int × Bool, iterK (r_impl_ReduceAll_L0 e_impl_NetOk e_impl_copyNet e_impl_LeafOf e_impl_SeriesOf e_impl_DropNode N0) M (r.1, (0, 0, 0, []), 0, false, ((steps + 1 : Nat) : Int), ()) (fun s3 => some (s3.2.1, s3.2.2.1, s3.2.2.2.1)) = some R ∧ RedEnd n steps R := by
      intro r hr ht hre
      obtain ⟨k1, k2, k3⟩ := hr.ok ht
      obtain ⟨R, e, hR⟩ := red_keep k r.1 (steps + 1) M hr.sm k1 (by omega) (by omega) (by omega) (by omega)
      exact ⟨R, e, hR.ok2, hR.sm, hR.ok, by have := hR.nodes; omega, by rw [hR.ends, k3], by rw [hR.resp, hre], hR.steps0, hR.last⟩
    simp only [iterK]
    unfold r_impl_ReduceAll_L0
    simp only [la, lb, p1, q1, Option.bind_some, ws]
    by_cases c1 : a < 0
    · simp only [c1, decide_true, cond_true]
      by_cases c2 : b < 0
      · simp only [c2, decide_true, cond_true]
        exact ⟨_, rfl, stop (fun h => by omega) (fun _ h => by omega)⟩
      · simp only [c2, decide_false, cond_false]
        cases h : q.2 with
        | false => exact ⟨_, rfl, stop (fun h => by omega) (fun _ _ => h)⟩
        | true => exact more q q3 h (drop_keep n hn hok h2 b q q1 h)
    · simp only [c1, decide_false, cond_false]
      cases h : p.2 with
      | false => exact ⟨_, rfl, stop (fun _ => h) (fun h => by omega)⟩
      | true => exact more p p3 h (drop_keep n hn hok h2 a p p1 h)
theorem p_RedAll (n : TNet) (hn : Sm.sm B1 n) (hok : netok n = true) (h2 : 2 ≤ n.2.1) : ∃ R : TNet × Int × Bool, e_impl_ReduceAll (n, ()) = some R ∧ RedEnd n 0 R := by
  obtain ⟨m, hm, hm1, hm5, _⟩ := netok_facts hok
  simp only [e_impl_ReduceAll, r_impl_ReduceAll, p_NetOk n hn, hok, Option.bind_some, Bool.not_true, cond_false, p_copyNet n hn]
  exact red_keep 5 n 0 N0 hn hok h2 (by omega) (by have := N0_big; omega) (by omega)
end Go.Sx.R
namespace Go.Sx.R
open Go Go.Sx
def vBad (v : List Int) : Bool := v.any fun x => decide (x < -100) || decide (x > 100)
theorem vBad_false {v : List Int} (h : vBad v = false) : ∀ x ∈ v, x.natAbs ≤ 100 := by
  intro x hx
  have := List.any_eq_false.1 h x hx
  simp only [Bool.not_eq_true, Bool.or_eq_false_iff, decide_eq_false_iff_not] at this
  omega
section
variable {n : TNet} {m E : Nat} {L : List (List Int)} {inn : List Int}
theorem Nk.top_le' (h : Nk n m E L inn) {i j : Nat} (hi : i < E) (hj : j < E) : (detZ L ((i : Int) :: inn) ((j : Int) :: inn)).natAbs ≤ 1800 ^ (inn.length + 1) :=
  det_lap h.srt h.inw h.m5 h.hw h.tab (h.with hi).1 (h.with hj).1 (h.with hj).2.1
theorem Nk.cap (h : Nk n m E L inn) : E * (100 * 1800 ^ (inn.length + 1)) ≤ 9000000000000000000 := by
  have l := h.len_inn
  have hm5 := h.m5
  have h1 := h.e1
  have hem := h.em
  have hp : 1800 ^ (inn.length + 1) ≤ 1800 ^ (6 - E) := Nat.pow_le_pow_right (by omega) (by omega)
  have hE : E = 1 ∨ E = 2 ∨ E = 3 ∨ E = 4 ∨ E = 5 := by omega
  have c : E * (100 * 1800 ^ (6 - E)) ≤ 9000000000000000000 := by
    rcases hE with rfl | rfl | rfl | rfl | rfl <;> decide
  exact Nat.le_trans (Nat.mul_le_mul_left _ (Nat.mul_le_mul_left _ hp)) c
def stepC (L : List (List Int)) (inn : List Int) (i : Nat) (s : Int) (j : Nat) (x : Int) : Int := wr (s + wr (x * detZ L ((i : Int) :: inn) ((j : Int) :: inn)))
theorem Nk.stepC_le (h : Nk n m E L inn) {i j : Nat} (hi : i < E) (hj : j < E) {s x : Int} (hx : x.natAbs ≤ 100) (hs : s.natAbs ≤ j * (100 * 1800 ^ (inn.length + 1))) : (stepC L inn i s j x).natAbs ≤ (j + 1) * (100 * 1800 ^ (inn.length + 1)) := by
  have b := h.top_le' hi hj
  have c := h.cap
  have t : (x * detZ L ((i : Int) :: inn) ((j : Int) :: inn)).natAbs ≤ 100 * 1800 ^ (inn.length + 1) := by
    rw [Int.natAbs_mul]; exact Nat.mul_le_mul hx b
  have hj1 : (j + 1) * (100 * 1800 ^ (inn.length + 1)) ≤ E * (100 * 1800 ^ (inn.length + 1)) := Nat.mul_le_mul_right _ (by omega)
  have e : (j + 1) * (100 * 1800 ^ (inn.length + 1)) = j * (100 * 1800 ^ (inn.length + 1)) + 100 * 1800 ^ (inn.length + 1) := by rw [Nat.add_mul, Nat.one_mul]
  unfold stepC
  generalize x * detZ L ((i : Int) :: inn) ((j : Int) :: inn) = y at *
  generalize 100 * 1800 ^ (inn.length + 1) = X at *
  generalize (j + 1) * X = Y at *
  generalize j * X = Z at *
  generalize E * X = W at *
  rw [wr_id (x := y) (by omega) (by omega), wr_id (by omega) (by omega)]
  omega
def curS (L : List (List Int)) (inn : List Int) (v : List Int) (i : Nat) : Int := foldI (stepC L inn i) v 0 0
theorem Nk.cur (h : Nk n m E L inn) {v : List Int} (hv : v.length = E) (hb : vBad v = false) {i : Nat} (hi : i < E) : e_spec_l06Current (n, v, (i : Int), ()) = some (curS L inn v i) ∧ (curS L inn v i).natAbs ≤ 9000000000000000000 := by
  have hem := h.em; have hm5 := h.m5
  simp only [e_spec_l06Current, r_spec_l06Current]
  have a := iter_fold (R := Int) (body := r_spec_l06Current_L0 e_spec_l06Top N0) v (fun (s : Int) j => ((i : Int), n, s, v, (v.length : Int), j, ())) (fun j s => s.natAbs ≤ j * (100 * 1800 ^ (inn.length + 1))) (stepC L inn i)
    (fun s j x kc ke hs hx hj => by
      rw [hv] at hj
      refine ⟨?_, h.stepC_le hi hj (vBad_false hb x (List.mem_of_getElem? hx)) hs⟩
      have d : decide ((j : Int) < (v.length : Int)) = true := by rw [decide_eq_true_eq]; omega
      simp only [r_spec_l06Current_L0, d, cond_true, getI_nat, hx, Option.bind_some, h.sTop hi hj, wr_succ hj (show E ≤ 9223372036854775807 by omega)]
      rfl)
    (fun s kc ke _ => by simp only [r_spec_l06Current_L0, not_lt_self, cond_false]) (N := N0) (by have := N0_big; omega) 0 (by simp) (fun s1 => some s1.2.2.1)
  refine ⟨a.1, ?_⟩
  have := a.2
  rw [hv] at this
  exact Nat.le_trans this h.cap
noncomputable def ctF (n : TNet) (L : List (List Int)) (inn : List Int) (v : List Int) (i : Nat) : Int × Int := (e_spec_RatioOf (curS L inn v i, dOf n L inn, ())).getD (0, 0)
theorem Nk.ct (h : Nk n m E L inn) {v : List Int} (hv : v.length = E) (hb : vBad v = false) {i : Nat} (hi : i < E) : e_impl_RatioOf (curS L inn v i, dOf n L inn, ()) = some (ctF n L inn v i) ∧ e_spec_RatioOf (curS L inn v i, dOf n L inn, ()) = some (ctF n L inn v i) ∧ Sm.sm B1 (ctF n L inn v i) := by
  have b1 := (h.cur hv hb hi).2
  have b2 := h.d_le
  obtain ⟨r, h1, h2, h3⟩ := ratio_all (curS L inn v i) (dOf n L inn) (by omega) (by omega) (by omega) (by omega)
  have e : ctF n L inn v i = r := by simp only [ctF, h2, Option.getD_some]
  rw [e]; exact ⟨h1, h2, h3⟩
theorem Nk.pCur (h : Nk n m E L inn) {v : List Int} (hv : v.length = E) : e_impl_CurrentsFor (n, v, ()) = cond (vBad v) (some ([], false)) (some ((List.range' 0 E).map (ctF n L inn v), true)) := by
  have hem := h.em; have hm5 := h.m5; have he := h.he
  have d : decide ((v.length : Int) = n.2.1) = true := by rw [decide_eq_true_eq]; omega
  simp only [e_impl_CurrentsFor, r_impl_CurrentsFor, p_NetOk n h.hn, h.ok, Option.bind_some, Bool.not_true, cond_false, d]
  rw [iter_range (R := List (Int × Int) × Bool) v (fun (_ : Unit) j => (v, n, v, (v.length : Int), j, ())) (fun _ _ x k => cond (decide (x < -100) || decide (x > 100)) (some ([], false)) (k ())) ?_ ?_ (by have := N0_big; omega) ()]
  · rw [rangeK_stop' (fun x => decide (x < -100) || decide (x > 100)) (some ([], false)) _ _ _ (fun _ _ _ _ => rfl)]
    show cond (vBad v) _ _ = _
    cases hb : vBad v with
    | true => rfl
    | false =>
      have hRl : (((List.range' 0 E).map fun (i : Nat) => (List.range' 0 E).map fun (j : Nat) => detZ L ((i : Int) :: inn) ((j : Int) :: inn)).length) = E := by simp
      simp only [cond_false, h.resp, Option.bind_some, hRl]
      generalize hD : ((List.range' 0 E).map fun (i : Nat) => (List.range' 0 E).map fun (j : Nat) => detZ L ((i : Int) :: inn) ((j : Int) :: inn)) = Dm
      have hd : (List.range E).length = E := by simp
      have a := iter_fold (R := List (Int × Int) × Bool) (body := r_impl_CurrentsFor_L2 e_impl_NetOk e_impl_response e_impl_RatioOf N0) (List.range E) (fun (st : List (Int × Int)) i => (v, Dm, dOf n L inn, st, (E : Int), i, ())) (fun i st => st.length = i) (fun st i _ => st ++ [ctF n L inn v i])
        (fun st i y kc ke hs hy hi => by
          rw [hd] at hi
          refine ⟨?_, by simp [hs]⟩
          have hrow : Dm[i]? = some ((List.range' 0 E).map fun (j : Nat) => detZ L ((i : Int) :: inn) ((j : Int) :: inn)) := by
            rw [← hD, List.getElem?_map, range'_get0 hi]; rfl
          have d1 : decide ((i : Int) < (E : Int)) = true := by rw [decide_eq_true_eq]; omega
          have b := iter_fold (R := List (Int × Int) × Bool) (body := r_impl_CurrentsFor_L4 e_impl_NetOk e_impl_response e_impl_RatioOf N0) v (fun (s : Int) j => (v, Dm, dOf n L inn, st, (i : Int), s, (E : Int), (i : Int), v, (v.length : Int), j, ())) (fun _ _ => True) (stepC L inn i)
            (fun s j x kc ke _ hx hj => by
              refine ⟨?_, trivial⟩
              have hjE : j < E := by omega
              have hc : ((List.range' 0 E).map fun (j : Nat) => detZ L ((i : Int) :: inn) ((j : Int) :: inn))[j]? = some (detZ L ((i : Int) :: inn) ((j : Int) :: inn)) := by
                rw [List.getElem?_map, range'_get0 hjE]; rfl
              simp only [r_impl_CurrentsFor_L4, lt_len, hj, decide_true, cond_true, getI_nat, hx, hrow, hc, Option.bind_some, wr_succ hj (show v.length ≤ 9223372036854775807 by omega)]
              rw [Int.mul_comm (detZ L ((i : Int) :: inn) ((j : Int) :: inn)) x]
              rfl)
            (fun s kc ke _ => by simp only [r_impl_CurrentsFor_L4, not_lt_self, cond_false]) (N := N0) (by have := N0_big; omega) 0 trivial
          have bl : ∀ y : Int × Int, Nat.ble (st.length + List.length (y :: ([] : List (Int × Int)))) 17179869184 = true := fun y => ble_true (by simp; omega)
          simp only [r_impl_CurrentsFor_L2, d1, cond_true]
          rw [(b _).1]
          show Option.bind (e_impl_RatioOf (curS L inn v i, dOf n L inn, ())) _ = _
          simp only [(h.ct hv hb hi).1, Option.bind_some, bl, cond_true, wr_succ hi (show E ≤ 9223372036854775807 by omega)])
        (fun st kc ke _ => by
          have d2 : decide ((((List.range E).length : Nat) : Int) < (E : Int)) = false := by rw [decide_eq_false_iff_not, hd]; omega
          simp only [r_impl_CurrentsFor_L2, d2, cond_false]) (N := N0) (by have := N0_big; omega) [] rfl (fun s4 => some (s4.2.2.2.1, true))
      rw [a.1]
      simp only [foldI_ixmap (ctF n L inn v), List.nil_append, hd]
  · intro st j x kc ke hx hj
    simp only [r_impl_CurrentsFor_L0, lt_len, hj, decide_true, cond_true, getI_nat, hx, Option.bind_some, wr_succ hj (show v.length ≤ 9223372036854775807 by omega)]
    cases decide (x < -100) <;> rfl
  · intro st kc ke
    simp only [r_impl_CurrentsFor_L0, not_lt_self, cond_false]
end
end Go.Sx.R
namespace Go.Sx.R
open Go Go.Sx
def exS (T : Nat → Int) : List Int → Nat → Int
  | [], _ => 0
  | x :: l, j => x * T j + exS T l (j + 1)
theorem foldI_exS (a : Int) (T : Nat → Int) : ∀ (l : List Int) (j : Nat) (s : Int), foldI (fun s j x => s + a * (x * T j)) l j s = s + a * exS T l j
  | [], _, s => by simp [foldI, exS]
  | x :: l, j, s => by simp only [foldI, foldI_exS a T l (j + 1), exS, Int.mul_add, Int.add_assoc]
theorem foldI_exS1 (T : Nat → Int) : ∀ (l : List Int) (j : Nat) (s : Int), foldI (fun s j x => s + x * T j) l j s = s + exS T l j
  | [], _, s => by simp [foldI, exS]
  | x :: l, j, s => by simp only [foldI, foldI_exS1 T l (j + 1), exS, Int.add_assoc]
theorem foldI_eq {β σ : Type} {g g' : σ → Nat → β → σ} (p : Nat → σ → Prop) (l : List β) (h : ∀ st j x, p j st → l[j]? = some x → g st j x = g' st j x ∧ p (j + 1) (g' st j x)) (st : σ) (h0 : p 0 st) : foldI g l 0 st = foldI g' l 0 st := by
  have gen : ∀ (r : List β) (i : Nat) (st : σ), l.drop i = r → p i st → foldI g r i st = foldI g' r i st := by
    intro r
    induction r with
    | nil => intro i st _ _; rfl
    | cons x r ih =>
      intro i st hd hp
      have hx : l[i]? = some x := by
        have := congrArg (fun l => l[0]?) hd
        simpa using this
      obtain ⟨e, hp'⟩ := h st i x hp hx
      simp only [foldI]
      rw [e]
      exact ih (i + 1) _ (by rw [← List.drop_drop, hd]; simp) hp'
  exact gen l 0 st (by simp) h0
theorem exS_le {T : Nat → Int} {X : Nat} : ∀ (l : List Int) (j : Nat), (∀ x ∈ l, x.natAbs ≤ 100) → (∀ i, i < j + l.length → (T i).natAbs ≤ X) → (exS T l j).natAbs ≤ l.length * (100 * X)
  | [], _, _, _ => by simp [exS]
  | x :: l, j, hx, hT => by
    have ih := exS_le (T := T) (X := X) l (j + 1) (fun y hy => hx y (List.mem_cons_of_mem _ hy)) (fun i hi => hT i (by simp only [List.length_cons]; omega))
    have t : (x * T j).natAbs ≤ 100 * X := by rw [Int.natAbs_mul]; exact Nat.mul_le_mul (hx x List.mem_cons_self) (hT j (by simp))
    have e : (l.length + 1) * (100 * X) = l.length * (100 * X) + 100 * X := by rw [Nat.add_mul, Nat.one_mul]
    simp only [exS, List.length_cons]
    rw [e]
    have := Int.natAbs_add_le (x * T j) (exS T l (j + 1))
    omega
section
variable {n : TNet} {m E : Nat} {L : List (List Int)} {inn : List Int}
theorem Nk.top2 (h : Nk n m E L inn) : ∃ B : Nat, E * (E * (100 * (100 * B))) ≤ 9000000000000000000 ∧ ∀ i j, i < E → j < E → (detZ L ((i : Int) :: inn) ((j : Int) :: inn)).natAbs ≤ B := by
  have l := h.len_inn
  have hm5 := h.m5
  have h1 := h.e1
  have hem := h.em
  by_cases e1 : E = 1
  · refine ⟨0, by omega, fun i j hi hj => ?_⟩
    obtain rfl : i = 0 := by omega
    obtain rfl : j = 0 := by omega
    have hmem : ∀ c, c ∈ ((0 : Nat) : Int) :: inn ↔ 0 ≤ c ∧ c < m := fun c => by
      rw [List.mem_cons, h.mem_inn]; omega
    have := detZ_zero L (((0 : Nat) : Int) :: inn) (((0 : Nat) : Int) :: inn) rfl (by simp) fun r hr => lap_zero h.srt h.inw h.tab (h.with (i := 0) (by omega)).2.1 hmem ((hmem r).1 hr)
    rw [this]; simp
  · refine ⟨1800 ^ (inn.length + 1), ?_, fun i j hi hj => h.top_le' hi hj⟩
    have hp : 1800 ^ (inn.length + 1) ≤ 1800 ^ (6 - E) := Nat.pow_le_pow_right (by omega) (by omega)
    have hE : E = 2 ∨ E = 3 ∨ E = 4 ∨ E = 5 := by omega
    have c : E * (E * (100 * (100 * 1800 ^ (6 - E)))) ≤ 9000000000000000000 := by
      rcases hE with rfl | rfl | rfl | rfl <;> decide
    exact Nat.le_trans (Nat.mul_le_mul_left _ (Nat.mul_le_mul_left _ (Nat.mul_le_mul_left _ (Nat.mul_le_mul_left _ hp)))) c
def topF (L : List (List Int)) (inn : List Int) (i j : Nat) : Int := detZ L ((i : Int) :: inn) ((j : Int) :: inn)
theorem Nk.cur_ex (h : Nk n m E L inn) {v : List Int} (hv : v.length = E) (hb : vBad v = false) {i : Nat} (hi : i < E) : curS L inn v i = exS (topF L inn i) v 0 := by
  have c := h.cap
  have e := foldI_eq (g := stepC L inn i) (g' := fun s j x => s + x * topF L inn i j) (fun j s => s.natAbs ≤ j * (100 * 1800 ^ (inn.length + 1))) v (fun s j x hs hx => by
    have hj : j < E := by have := get_lt hx; omega
    have st := h.stepC_le hi hj (vBad_false hb x (List.mem_of_getElem? hx)) hs
    have b := h.top_le' hi hj
    have t : (x * topF L inn i j).natAbs ≤ 100 * 1800 ^ (inn.length + 1) := by
      rw [Int.natAbs_mul]; exact Nat.mul_le_mul (vBad_false hb x (List.mem_of_getElem? hx)) b
    have hj1 : (j + 1) * (100 * 1800 ^ (inn.length + 1)) ≤ E * (100 * 1800 ^ (inn.length + 1)) := Nat.mul_le_mul_right _ (by omega)
    have e : (j + 1) * (100 * 1800 ^ (inn.length + 1)) = j * (100 * 1800 ^ (inn.length + 1)) + 100 * 1800 ^ (inn.length + 1) := by rw [Nat.add_mul, Nat.one_mul]
    have key : stepC L inn i s j x = s + x * topF L inn i j := by
      unfold stepC
      show wr (s + wr (x * topF L inn i j)) = _
      generalize x * topF L inn i j = y at *
      generalize 100 * 1800 ^ (inn.length + 1) = X at *
      generalize (j + 1) * X = Y at *
      generalize j * X = Z at *
      generalize E * X = W at *
      rw [wr_id (x := y) (by omega) (by omega), wr_id (by omega) (by omega)]
    exact ⟨key, by rw [← key]; exact st⟩) 0 (by simp)
  unfold curS
  rw [e, foldI_exS1, Int.zero_add]
def powS (L : List (List Int)) (inn : List Int) (v : List Int) : Int := exS (fun i => exS (topF L inn i) v 0) v 0
theorem Nk.pPow (h : Nk n m E L inn) {v : List Int} (hv : v.length = E) (hb : vBad v = false) (k : _ → Option ((Int × Int) × Bool)) :
    iterK (r_impl_PowerFor_L0 e_impl_CurrentsFor e_impl_response e_impl_RatioOf N0) N0 (v, ((0 : Int), (0 : Int)), ((List.range' 0 E).map fun (i : Nat) => (List.range' 0 E).map fun (j : Nat) => detZ L ((i : Int) :: inn) ((j : Int) :: inn)), dOf n L inn, 0, v, (v.length : Int), 0, ()) k =
      k (v, (0, 0), ((List.range' 0 E).map fun (i : Nat) => (List.range' 0 E).map fun (j : Nat) => detZ L ((i : Int) :: inn) ((j : Int) :: inn)), dOf n L inn, powS L inn v, v, (v.length : Int), (v.length : Int), ()) := by
  obtain ⟨B, hc, hB⟩ := h.top2
  have hem := h.em; have hm5 := h.m5
  generalize hD : ((List.range' 0 E).map fun (i : Nat) => (List.range' 0 E).map fun (j : Nat) => detZ L ((i : Int) :: inn) ((j : Int) :: inn)) = Dm
  have a := iter_fold (R := (Int × Int) × Bool) (body := r_impl_PowerFor_L0 e_impl_CurrentsFor e_impl_response e_impl_RatioOf N0) v (fun (s : Int) i => (v, ((0 : Int), (0 : Int)), Dm, dOf n L inn, s, v, (v.length : Int), i, ())) (fun i s => s.natAbs ≤ i * (E * (100 * (100 * B)))) (fun s i x => s + x * exS (topF L inn i) v 0)
    (fun s i x kc ke hs hx hi => by
      have hiE : i < E := by omega
      have hx100 := vBad_false hb x (List.mem_of_getElem? hx)
      have hrow : Dm[i]? = some ((List.range' 0 E).map fun (j : Nat) => detZ L ((i : Int) :: inn) ((j : Int) :: inn)) := by
        rw [← hD, List.getElem?_map, range'_get0 hiE]; rfl
      have hi1 : (i + 1) * (E * (100 * (100 * B))) ≤ E * (E * (100 * (100 * B))) := Nat.mul_le_mul_right _ (by omega)
      have ei : (i + 1) * (E * (100 * (100 * B))) = i * (E * (100 * (100 * B))) + E * (100 * (100 * B)) := by rw [Nat.add_mul, Nat.one_mul]
      have b := iter_fold (R := (Int × Int) × Bool) (body := r_impl_PowerFor_L2 e_impl_CurrentsFor e_impl_response e_impl_RatioOf N0) v (fun (s : Int) j => (v, ((0 : Int), (0 : Int)), Dm, dOf n L inn, s, (i : Int), x, v, (v.length : Int), (i : Int), v, (v.length : Int), j, ()))
        (fun j s => s.natAbs ≤ i * (E * (100 * (100 * B))) + j * (100 * (100 * B))) (fun s j y => s + x * (y * topF L inn i j))
        (fun s j y kc ke hs hy hj => by
          have hjE : j < E := by omega
          have hy100 := vBad_false hb y (List.mem_of_getElem? hy)
          have hT := hB i j hiE hjE
          have hc' : ((List.range' 0 E).map fun (j : Nat) => detZ L ((i : Int) :: inn) ((j : Int) :: inn))[j]? = some (topF L inn i j) := by
            rw [List.getElem?_map, range'_get0 hjE]; rfl
          have t1 : (topF L inn i j * x).natAbs ≤ 100 * B := by rw [Int.natAbs_mul, Nat.mul_comm]; exact Nat.mul_le_mul hx100 hT
          have e1 : topF L inn i j * x * y = x * (y * topF L inn i j) := by rw [Int.mul_comm (topF L inn i j) x, Int.mul_assoc, Int.mul_comm (topF L inn i j) y]
          have t2 : (topF L inn i j * x * y).natAbs ≤ 100 * (100 * B) := by rw [Int.natAbs_mul, Nat.mul_comm]; exact Nat.mul_le_mul hy100 t1
          rw [← e1]
          have hj1 : (j + 1) * (100 * (100 * B)) ≤ E * (100 * (100 * B)) := Nat.mul_le_mul_right _ (by omega)
          have ej : (j + 1) * (100 * (100 * B)) = j * (100 * (100 * B)) + 100 * (100 * B) := by rw [Nat.add_mul, Nat.one_mul]
          have eB : 100 * B ≤ 100 * (100 * B) := by omega
          generalize hp : topF L inn i j * x = p at *
          generalize hq : p * y = q at *
          generalize 100 * (100 * B) = X at *
          generalize (j + 1) * X = Y at *
          generalize j * X = Z at *
          generalize E * X = W at *
          generalize (i + 1) * W = V at *
          generalize i * W = U at *
          generalize E * W = T at *
          have w0 : wr p = p := wr_id (by omega) (by omega)
          have w1 : wr q = q := wr_id (by omega) (by omega)
          have w2 : wr (s + q) = s + q := wr_id (by omega) (by omega)
          refine ⟨?_, by omega⟩
          simp only [r_impl_PowerFor_L2, lt_len, hj, decide_true, cond_true, getI_nat, hy, hrow, hc', Option.bind_some, hp, w0, hq, w1, w2, wr_succ hj (show v.length ≤ 9223372036854775807 by omega)])
        (fun s kc ke _ => by simp only [r_impl_PowerFor_L2, not_lt_self, cond_false]) (N := N0) (by have := N0_big; omega) s (by simpa using hs)
      refine ⟨?_, ?_⟩
      · simp only [r_impl_PowerFor_L0, lt_len, hi, decide_true, cond_true, getI_nat, hx, Option.bind_some]
        rw [(b _).1, foldI_exS x (topF L inn i), wr_succ hi (show v.length ≤ 9223372036854775807 by omega)]
      · have := (b fun _ => none).2
        rw [foldI_exS x (topF L inn i), hv] at this
        rw [ei]; exact this)
    (fun s kc ke _ => by simp only [r_impl_PowerFor_L0, not_lt_self, cond_false]) (N := N0) (by have := N0_big; omega) 0 (by simp) k
  rw [a.1, foldI_exS1 (fun i => exS (topF L inn i) v 0), Int.zero_add]
  rfl
end
end Go.Sx.R
namespace Go.Sx.R
open Go Go.Sx
theorem exS_cross {T T' : Nat → Int} {d d' : Int} : ∀ (l : List Int) (j : Nat), (∀ i, i < j + l.length → T i * d' = T' i * d) → exS T l j * d' = exS T' l j * d
  | [], j, _ => by simp [exS]
  | x :: l, j, h => by
    have ih := exS_cross (T := T) (T' := T') (d := d) (d' := d') l (j + 1) fun i hi => h i (by simp; omega)
    have h0 := h j (by simp)
    simp only [exS]
    rw [Int.add_mul, Int.add_mul, ih, Int.mul_assoc, Int.mul_assoc, h0]
section
variable {n : TNet} {m E : Nat} {L : List (List Int)} {inn : List Int}
theorem Nk.topB (h : Nk n m E L inn) (hE : 2 ≤ E) {i j : Nat} (hi : i < E) (hj : j < E) : (topF L inn i j).natAbs ≤ 10497600000000 := by
  have l := h.len_inn
  have hm5 := h.m5
  have hem := h.em
  refine Nat.le_trans (h.top_le' hi hj) (Nat.le_trans (Nat.pow_le_pow_right (by omega) (show inn.length + 1 ≤ 4 by omega)) (by decide))
theorem Nk.curB (h : Nk n m 2 L inn) {v : List Int} (hv : v.length = 2) (hb : vBad v = false) {i : Nat} (hi : i < 2) : (exS (topF L inn i) v 0).natAbs ≤ 2099520000000000 := by
  have := exS_le (T := topF L inn i) (X := 10497600000000) v 0 (vBad_false hb) (fun j hj => h.topB (by omega) hi (by omega))
  rw [hv] at this; omega
theorem Nk.powB (h : Nk n m 2 L inn) {v : List Int} (hv : v.length = 2) (hb : vBad v = false) : (powS L inn v).natAbs ≤ 419904000000000000 := by
  have := exS_le (T := fun i => exS (topF L inn i) v 0) (X := 2099520000000000) v 0 (vBad_false hb) (fun i hi => h.curB hv hb (by omega))
  rw [hv] at this
  show (exS (fun i => exS (topF L inn i) v 0) v 0).natAbs ≤ _
  omega
theorem Nk.p_Curs (h : Nk n m 2 L inn) {v : List Int} (hv : v.length = 2) (hb : vBad v = false) : e_impl_CurrentsFor (n, v, ()) = some ((List.range' 0 2).map (fun i => ratZ (exS (topF L inn i) v 0) (dOf n L inn)), true) := by
  rw [h.pCur hv, hb]
  simp only [cond_false]
  congr 2
  refine List.map_congr_left fun i hi => ?_
  have hi : i < 2 := by rw [List.mem_range'_1] at hi; omega
  have c := (h.ct hv hb hi).1
  rw [h.cur_ex hv hb hi] at c
  have b := h.curB hv hb hi
  have d := h.dOf1 (by omega)
  rw [p_Ratio (by omega) d.1 (by omega)] at c
  exact (Option.some.inj c).symm
theorem Nk.p_Pow (h : Nk n m 2 L inn) {v : List Int} (hv : v.length = 2) (hb : vBad v = false) : e_impl_PowerFor (n, v, ()) = some (ratZ (powS L inn v) (dOf n L inn), true) := by
  have b := h.powB hv hb
  have d := h.dOf1 (by omega)
  simp only [e_impl_PowerFor, r_impl_PowerFor, h.p_Curs hv hb, Option.bind_some, Bool.not_true, cond_false, h.resp]
  rw [h.pPow hv hb]
  simp only [p_Ratio (show (powS L inn v).natAbs ≤ 1000000000000000000 by omega) d.1 (by omega), Option.bind_some]
theorem Nk.p_Res01 (h : Nk n m 2 L inn) : e_impl_ResistanceOf (n, 0, 1, ()) = some (ratZ (dOf n L inn) (topF L inn 0 0), true) ∧ 1 ≤ topF L inn 0 0 := by
  have lk := h.lk
  have hem := h.em
  have hm5 := h.m5
  have pV : (wo m []).Perm (0 :: 1 :: inn) := by
    refine perm_of (wo_nd _ _) (List.nodup_cons.2 ⟨fun hh => ?_, List.nodup_cons.2 ⟨fun hh => by have := h.mem_inn.1 hh; omega, h.nd_inn⟩⟩) fun c => ?_
    · rcases List.mem_cons.1 hh with hh | hh
      · omega
      · have := h.mem_inn.1 hh; omega
    · simp only [mem_wo, List.mem_cons, h.mem_inn, List.not_mem_nil, not_false_eq_true, and_true]
      omega
  have pV' : (wo m []).Perm (1 :: 0 :: inn) := pV.trans (List.Perm.swap _ _ _)
  have f := for_list (L := L) hm5 pV
  have t := tre_list lk.lapZ hm5 pV'
  have r := lk.p_Res (a := 0) (b := 1) (by omega) (by omega)
  have tp := lk.tre_pos
  rw [f, t] at r
  rw [t] at tp
  exact ⟨r, tp⟩
theorem resp_cross {n' : TNet} {m' : Nat} {L' : List (List Int)} {inn' : List Int} (h : Nk n m E L inn) (h' : Nk n' m' E L' inn') (hE : 2 ≤ E) (e : Go.Sx.R.respV n' = Go.Sx.R.respV n) {i j : Nat} (hi : i < E) (hj : j < E) :
    topF L inn i j * dOf n' L' inn' = topF L' inn' i j * dOf n L inn := by
  rw [h.respV, h'.respV] at e
  simp only [respT] at e
  have e1 := congrArg (fun l : List (List (Int × Int)) => l[i]?) e
  simp only [List.getElem?_map, range'_get0 hi, Option.map_some, Option.some.injEq] at e1
  have e2 := congrArg (fun l : List (Int × Int) => l[j]?) e1
  simp only [List.getElem?_map, range'_get0 hj, Option.map_some, Option.some.injEq] at e2
  rw [h.rtZ hE hi hj, h'.rtZ hE hi hj] at e2
  exact ((ratZ_eq (h'.dOf1 hE).1 (h.dOf1 hE).1).1 e2).symm
end
theorem volts_ok {A : Option (Nat × Obj)} {v : Value} (hc : CodeOk A v) (n : TNet) (hE : n.2.1 = 2) : ∃ l, e_spec_MakeVolts A (v, 30, n, ()) = some l ∧ l.length = 2 ∧ vBad l = false := by
  obtain ⟨y, e, g⟩ := new18_ok hc (n := 30) (by omega)
  simp only [e_spec_MakeVolts, r_spec_MakeVolts, e, Option.bind_some]
  refine iter_while (Q := fun o => ∃ l, o = some l ∧ l.length = 2 ∧ vBad l = false) (p := fun s : TNet × CurV × List Int × Int × Unit => s.1 = n ∧ CurGood A s.2.1 ∧ (s.2.2.1.length : Int) = s.2.2.2.1 ∧ s.2.2.2.1 ≤ 2 ∧ vBad s.2.2.1 = false) (mu := fun s => (2 - s.2.2.2.1).toNat) ?_ N0 _ ⟨rfl, g, by simp, by simp, rfl⟩ (by have := N0_big; show (2 - (0 : Int)).toNat < N0; omega)
  rintro ⟨n', y, l, k, u⟩ kc ⟨rfl, g, hl, hk, hb⟩ hkc
  simp only at g hl hk hb hE
  simp only [r_spec_MakeVolts_L0, hE]
  by_cases h2 : k < 2
  · obtain ⟨y1, x, e1, g1, x0, x1⟩ := below_ok g (n := 11) (by omega) (by omega)
    have w1 : wr (x - 5) = x - 5 := wr_id (by omega) (by omega)
    have w2 : wr (k + 1) = k + 1 := wr_id (by omega) (by omega)
    have bl : Nat.ble (l.length + List.length ((x - 5) :: ([] : List Int))) 17179869184 = true := ble_true (by simp; omega)
    simp only [h2, decide_true, cond_true, e1, Option.bind_some, w1, w2, bl]
    refine hkc (n', y1, l ++ [x - 5], k + 1, ()) ⟨rfl, g1, ?_, by show k + 1 ≤ 2; omega, ?_⟩ (by show (2 - (k + 1)).toNat < (2 - k).toNat; omega)
    · show ((l ++ [x - 5]).length : Int) = k + 1
      simp; omega
    · show vBad (l ++ [x - 5]) = false
      have d1 : decide (x - 5 < -100) = false := by rw [decide_eq_false_iff_not]; omega
      have d2 : decide (x - 5 > 100) = false := by rw [decide_eq_false_iff_not]; omega
      have e : vBad (l ++ [x - 5]) = (vBad l || (decide (x - 5 < -100) || decide (x - 5 > 100) || false)) := by
        unfold vBad; rw [List.any_append]; rfl
      rw [e, hb, d1, d2]; rfl
  · simp only [h2, decide_false, cond_false]
    exact ⟨l, rfl, by omega, hb⟩
theorem law_FnTop (A : Option (Nat × Obj)) (v : Value) (hc : CodeOk A v) : e_laws_FnTop A (v, ()) = some true := by
  obtain ⟨p, len, c, rfl, _⟩ := id hc
  simp only [e_laws_FnTop, r_laws_FnTop, rawLen, Option.bind_some]
  by_cases hlen : (len : Int) > 1048576
  · simp only [hlen, decide_true, cond_true]
  simp only [hlen, decide_false, cond_false]
  obtain ⟨n, e1, hd, hE, h3⟩ := makeInner_ok hc
  obtain ⟨hok, h0⟩ := hd.ok (by omega) (by omega)
  have hn : Sm.sm B1 n := up_net B01 h0
  have hm5 := hd.most
  obtain ⟨R, r1, hR⟩ := p_RedAll n hn hok (by omega)
  have w1 : wr (n.1 - 1) = n.1 - 1 := wr_id (by omega) (by omega)
  obtain ⟨q, q1, q2, q3, _, q5⟩ := star_keep n hn hok (by omega) (v := n.1 - 1) (by omega) (by omega)
  obtain ⟨vs, f1, f2, f3⟩ := volts_ok hc n hE
  obtain ⟨m, E, L, inn, h⟩ := nk_of n hn hok
  have eE : E = 2 := by have := h.he; omega
  subst eE
  simp only [e1, r1, w1, q1, q2, hR.ok2, beqB_self, f1, Option.bind_some, Bool.not_true, cond_false, List.length_cons, List.length_nil]
  have main : ∀ l : List TNet, (∀ x ∈ l, Sm.sm B1 x ∧ netok x = true ∧ x.2.1 = 2 ∧ respV x = respV n) → l.length ≤ 1000 → ∀ K : Int, K = (l.length : Int) →
      iterK (r_laws_FnTop_L0 (e_spec_MakeInner A) e_impl_ReduceAll e_spec_StarMesh e_impl_StarMesh (e_spec_MakeVolts A) e_impl_CurrentsFor e_impl_PowerFor e_impl_ResistanceOf e_impl_AreAlike N0) N0 (n, vs, l, K, 0, ()) (fun _ => some true) = some true := by
    intro l hl hll K hK
    subst hK
    refine iter_rule (R := Bool) (fun o => o = some true) l (fun (_ : Unit) i => (n, vs, l, (l.length : Int), i, ())) (fun _ _ => True) (fun st i x kc _ hx hi hk => ?_) (fun st kc _ => ?_) (N := N0) (by have := N0_big; omega) () trivial
    · obtain ⟨x1, x2, x3, x4⟩ := hl x (List.mem_of_getElem? hx)
      obtain ⟨m', E', L', inn', h'⟩ := nk_of x x1 x2
      have eE' : E' = 2 := by have := h'.he; omega
      subst eE'
      have cr := fun {i j : Nat} (hi : i < 2) (hj : j < 2) => resp_cross h h' (by omega) x4 hi hj
      have d1 := h.dOf1 (by omega)
      have d2 := h'.dOf1 (by omega)
      have ec : ∀ i, i < 2 → ratZ (exS (topF L inn i) vs 0) (dOf n L inn) = ratZ (exS (topF L' inn' i) vs 0) (dOf x L' inn') := fun i hi => by
        rw [ratZ_eq d1.1 d2.1]
        exact exS_cross vs 0 fun j hj => cr hi (by omega)
      have ep : ratZ (powS L inn vs) (dOf n L inn) = ratZ (powS L' inn' vs) (dOf x L' inn') := by
        rw [ratZ_eq d1.1 d2.1]
        exact exS_cross vs 0 fun j hj => exS_cross vs 0 fun k hk => cr (by omega) (by omega)
      obtain ⟨ra, ta⟩ := h.p_Res01
      obtain ⟨rb, tb⟩ := h'.p_Res01
      have er : ratZ (dOf n L inn) (topF L inn 0 0) = ratZ (dOf x L' inn') (topF L' inn' 0 0) := by
        rw [ratZ_eq ta tb]
        have := cr (i := 0) (j := 0) (by omega) (by omega)
        rw [Int.mul_comm (dOf n L inn), Int.mul_comm (dOf x L' inn'), this]
      have emap : (List.range' 0 2).map (fun i => ratZ (exS (topF L inn i) vs 0) (dOf n L inn)) = (List.range' 0 2).map (fun i => ratZ (exS (topF L' inn' i) vs 0) (dOf x L' inn')) := List.map_congr_left fun i hi => ec i (by rw [List.mem_range'_1] at hi; omega)
      have hal : e_impl_AreAlike (n, x, ()) = some true := by
        rw [p_Alike n x hn x1, hok, x2, x4]; simp
      have two : decide (((2 : Nat) : Int) = n.2.1) = true := by rw [decide_eq_true_eq]; omega
      simp only [r_laws_FnTop_L0, lt_len, hi, decide_true, cond_true, getI_nat, hx, Option.bind_some, h.p_Curs f2 f3, h'.p_Curs f2 f3, h.p_Pow f2 f3, h'.p_Pow f2 f3, ra, rb, Bool.not_true, cond_false, List.length_map, List.length_range', two, ep, er, intEq_self, Bool.and_self, hal, emap, wr_succ hi (show l.length ≤ 9223372036854775807 by omega)]
      generalize hC : (List.range' 0 2).map (fun i => ratZ (exS (topF L' inn' i) vs 0) (dOf x L' inn')) = C
      have hCl : C.length = 2 := by rw [← hC]; simp
      refine iter_rule (R := Bool) (fun o => o = some true) C (fun (_ : Unit) j => (n, vs, C, C, l, (l.length : Int), (i : Int), ((2 : Nat) : Int), j, ())) (fun _ _ => True) (fun st j y kc2 _ hy hj hk2 => ?_) (fun st kc2 _ => ?_) (N := N0) (by have := N0_big; omega) () trivial
      · have l1 : decide ((j : Int) < ((2 : Nat) : Int)) = true := by rw [decide_eq_true_eq]; omega
        simp only [r_laws_FnTop_L2, l1, cond_true, getI_nat, hy, Option.bind_some, intEq_self, Bool.and_self, Bool.not_true, cond_false, wr_succ (show j < 2 by omega) (by omega)]
        exact hk2 () trivial
      · have l1 : decide (((C.length : Nat) : Int) < ((2 : Nat) : Int)) = false := by rw [decide_eq_false_iff_not]; omega
        simp only [r_laws_FnTop_L2, l1, cond_false, wr_succ hi (show l.length ≤ 9223372036854775807 by omega)]
        exact hk () trivial
    · simp only [r_laws_FnTop_L0, not_lt_self, cond_false]
  have hR1 : Sm.sm B1 R.1 ∧ netok R.1 = true ∧ R.1.2.1 = 2 ∧ respV R.1 = respV n := ⟨hR.sm, hR.ok, by rw [hR.ends, hE], hR.resp⟩
  cases ht : q.2 with
  | false =>
    simp only [Bool.not_false, cond_true]
    exact main [R.1, n] (fun x hx => by
      simp only [List.mem_cons, List.not_mem_nil, or_false] at hx
      rcases hx with rfl | rfl
      · exact hR1
      · exact ⟨hn, hok, hE, rfl⟩) (by simp) _ (by simp)
  | true =>
    simp only [Bool.not_true, cond_false]
    obtain ⟨k1, k2, k3⟩ := q3.ok ht
    exact main [R.1, q.1] (fun x hx => by
      simp only [List.mem_cons, List.not_mem_nil, or_false] at hx
      rcases hx with rfl | rfl
      · exact hR1
      · exact ⟨q3.sm, k1, by rw [k3, hE], q5 ht⟩) (by simp) _ (by simp)
end Go.Sx.R
namespace Go.Sx.R
open Go Go.Sx
def bnd : Nat → Nat
  | 0 => 1
  | n + 1 => 5 * bnd n
end Go.Sx.R
namespace Go.Sx.R
open Go Go.Sx
abbrev Mat := List (List (Int × Int))
def en (m : Mat) (i j : Nat) : Int × Int := (((m[i]?).getD [])[j]?).getD (0, 0)
end Go.Sx.R
namespace Go.Sx.R
open Go Go.Sx
def fstN (i : Nat) : Nat := if i = 0 then 1 else 0
def sndN (i : Nat) : Nat := if i = 0 then 2 else if i = 1 then 2 else 1
theorem nb {K i : Nat} (hK : 3 ≤ K) (_hi : i < K) : fstN i < K ∧ sndN i < K := by unfold fstN sndN; split <;> (try split) <;> omega
end Go.Sx.R
