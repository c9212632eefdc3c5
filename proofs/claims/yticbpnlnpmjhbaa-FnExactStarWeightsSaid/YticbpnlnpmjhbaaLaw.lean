/- The laws in plain words. Conditions: none. -/
import Derived.Test.YticbpnlnpmjhbaaRes
/- Rules for loops. Conditions: none. -/
namespace Go.Sx

/-- The rule of loops, with a measure. -/
theorem iter_while {S R : Type} {body : S → (S → Option R) → (S → Option R) → Option R} {ke : S → Option R} (Q : Option R → Prop) (p : S → Prop) (mu : S → Nat)
    (h : ∀ s kc, p s → (∀ s', p s' → mu s' < mu s → Q (kc s')) → Q (body s kc ke)) : ∀ (N : Nat) (s : S), p s → mu s < N → Q (iterK body N s ke)
  | 0, _, _, hN => absurd hN (Nat.not_lt_zero _)
  | N + 1, s, hp, hN => by
    simp only [iterK]
    exact h s _ hp fun s' hp' hlt => iter_while Q p mu h N s' hp' (by omega)

/-- A loop over a list that ends with a fold's state. -/
theorem iter_fold {β σ S R : Type} {body : S → (S → Option R) → (S → Option R) → Option R} (l : List β) (mk : σ → Int → S) (p : Nat → σ → Prop) (g : σ → Nat → β → σ)
    (h : ∀ st (i : Nat) x kc ke, p i st → l[i]? = some x → i < l.length → body (mk st i) kc ke = kc (mk (g st i x) ((i + 1 : Nat) : Int)) ∧ p (i + 1) (g st i x))
    (h2 : ∀ st kc ke, p l.length st → body (mk st l.length) kc ke = ke (mk st l.length)) {N : Nat} (hN : l.length < N) (st : σ) (hp : p 0 st) (ke : S → Option R) :
    iterK body N (mk st 0) ke = ke (mk (foldI g l 0 st) l.length) ∧ p l.length (foldI g l 0 st) := by
  have gen : ∀ (r : List β) (i N : Nat) (st : σ), i + r.length = l.length → l.drop i = r → r.length < N → p i st → iterK body N (mk st i) ke = ke (mk (foldI g r i st) l.length) ∧ p l.length (foldI g r i st) := by
    intro r
    induction r with
    | nil =>
      intro i N st hi hd hN hp
      obtain ⟨m, rfl⟩ : ∃ m, N = m + 1 := ⟨N - 1, by omega⟩
      simp only [iterK, foldI]
      have e : i = l.length := by simpa using hi
      subst e
      exact ⟨h2 _ _ _ hp, hp⟩
    | cons x r ih =>
      intro i N st hi hd hN hp
      obtain ⟨m, rfl⟩ : ∃ m, N = m + 1 := ⟨N - 1, by omega⟩
      simp only [List.length_cons] at hi hN
      have hx : l[i]? = some x := by
        have := congrArg (fun l => l[0]?) hd
        simpa using this
      have q := h st i x (fun s' => iterK body m s' ke) ke hp hx (by omega)
      simp only [iterK, foldI]
      rw [q.1]
      exact ih (i + 1) m _ (by omega) (by rw [← List.drop_drop, hd]; simp) (by omega) q.2
  exact gen l 0 N st (by simp) (by simp) hN hp

/-- A loop over a list: the rule. -/
theorem iter_rule {β σ S R : Type} {body : S → (S → Option R) → (S → Option R) → Option R} {ke : S → Option R} (Q : Option R → Prop) (l : List β) (mk : σ → Int → S) (p : Nat → σ → Prop)
    (h : ∀ st (i : Nat) x kc, p i st → l[i]? = some x → i < l.length → (∀ st', p (i + 1) st' → Q (kc (mk st' ((i + 1 : Nat) : Int)))) → Q (body (mk st i) kc ke))
    (h2 : ∀ st kc, p l.length st → Q (body (mk st l.length) kc ke)) {N : Nat} (hN : l.length < N) (st : σ) (hp : p 0 st) : Q (iterK body N (mk st 0) ke) := by
  have gen : ∀ (d i N : Nat) (st : σ), i + d = l.length → d < N → p i st → Q (iterK body N (mk st i) ke) := by
    intro d
    induction d with
    | zero =>
      intro i N st hi hN hp
      obtain ⟨m, rfl⟩ : ∃ m, N = m + 1 := ⟨N - 1, by omega⟩
      have e : i = l.length := by omega
      subst e
      exact h2 _ _ hp
    | succ d ih =>
      intro i N st hi hN hp
      obtain ⟨m, rfl⟩ : ∃ m, N = m + 1 := ⟨N - 1, by omega⟩
      have hlt : i < l.length := by omega
      exact h st i l[i] _ hp (List.getElem?_eq_getElem hlt) hlt fun st' hp' => ih (i + 1) m st' (by omega) (by omega) hp'
  exact gen l.length 0 N st (by omega) hN hp

end Go.Sx

/- The laws' helpers: sizes, copies, comparisons. Conditions: none. -/
namespace Go.Sx.R
open Go Go.Sx

theorem wr_sub_len {n : Int} {len : Nat} (h0 : 0 ≤ n) (h1 : n ≤ 1048576) (hl : len ≤ 9223372036854775807) : wr (n - (len : Int)) = n - len := wr_id (by omega) (by omega)

theorem beqB_self (b : Bool) : beqB b b = true := by cases b <;> rfl

theorem sm_up {α : Type} [Sm α] (up : ∀ {B B' : Nat} {x : α}, B ≤ B' → Sm.sm B x → Sm.sm B' x) {B B' : Nat} {x : List α} (h : B ≤ B') (hx : Sm.sm B x) : Sm.sm B' x := ⟨Nat.le_trans hx.1 h, fun y hy => up h (hx.2 y hy)⟩
theorem up_int {B B' : Nat} {x : Int} (h : B ≤ B') (hx : Sm.sm B x) : Sm.sm B' x := hx
theorem up_intS {B B' : Nat} {x : List Int} (h : B ≤ B') (hx : Sm.sm B x) : Sm.sm B' x := sm_up up_int h hx
theorem up_intSS {B B' : Nat} {x : List (List Int)} (h : B ≤ B') (hx : Sm.sm B x) : Sm.sm B' x := sm_up up_intS h hx
theorem up_pair {B B' : Nat} {x : Int × Int} (h : B ≤ B') (hx : Sm.sm B x) : Sm.sm B' x := hx
theorem up_wire {B B' : Nat} {x : Int × Int × Int} (h : B ≤ B') (hx : Sm.sm B x) : Sm.sm B' x := hx
theorem up_wireS {B B' : Nat} {x : List (Int × Int × Int)} (h : B ≤ B') (hx : Sm.sm B x) : Sm.sm B' x := sm_up up_wire h hx
theorem up_pairS {B B' : Nat} {x : List (Int × Int)} (h : B ≤ B') (hx : Sm.sm B x) : Sm.sm B' x := sm_up up_pair h hx
theorem up_pairSS {B B' : Nat} {x : List (List (Int × Int))} (h : B ≤ B') (hx : Sm.sm B x) : Sm.sm B' x := sm_up up_pairS h hx
abbrev TNet := Int × Int × Int × List (Int × Int × Int)
theorem up_net {B B' : Nat} {x : TNet} (h : B ≤ B') (hx : Sm.sm B x) : Sm.sm B' x := ⟨hx.1, hx.2.1, hx.2.2.1, up_wireS h hx.2.2.2⟩
abbrev B0 : Nat := 1048576
theorem B01 : B0 ≤ B1 := by decide

end Go.Sx.R

/- Matrices of weights: the program's test and the reference's are one. Conditions: none. -/
namespace Go.Sx.R
open Go Go.Sx

def n_l01In (a : Int × Int × Int × Unit) : Bool := decide (a.2.1 ≤ a.1) && decide (a.1 ≤ a.2.2.1)

theorem p_l01In (a : Int × Int × Int × Unit) : e_spec_l01In a = some (n_l01In a) := by
  obtain ⟨a0, a1, a2, _⟩ := a
  simp only [e_spec_l01In, r_spec_l01In, n_l01In]
  by_cases h : a1 ≤ a0 <;> simp [h]

theorem e_l01In : e_spec_l01In = fun a => some (n_l01In a) := funext p_l01In

/-- Square, of numbers up to a bound, not too large. -/
def n_sq (a : List (List Int)) : Bool := !decide (a.length > 5) && !(a.any fun x => !decide (x.length = a.length) || x.any fun v => decide (v < -1000) || decide (v > 1000))

theorem len_range (a : List (List Int)) (h : a.length ≤ 5) : n_l01In ((a.length : Int), 1, 5, ()) = !decide ((a.length : Int) < 1) := by
  rw [Bool.eq_iff_iff]
  simp [n_l01In]; omega

theorem sq_row {a : List (List Int)} (h : n_sq a = true) {x : List Int} (hx : x ∈ a) : x.length = a.length ∧ ∀ v ∈ x, -1000 ≤ v ∧ v ≤ 1000 := by
  simp only [n_sq, Bool.and_eq_true, Bool.not_eq_true', List.any_eq_false, Bool.or_eq_true, not_or, decide_eq_false_iff_not, Bool.not_eq_true, decide_eq_true_eq] at h
  have := h.2 x hx
  refine ⟨by simpa using this.1, fun v hv => ?_⟩
  have := this.2 v hv
  omega

end Go.Sx.R

/- Networks: the program's test and the reference's are one. Conditions: none. -/
namespace Go.Sx.R
open Go Go.Sx

-- lists without doubles
theorem nodup_len {α : Type} [DecidableEq α] : ∀ {l m : List α}, l.Nodup → (∀ x ∈ l, x ∈ m) → l.length ≤ m.length
  | [], m, _, _ => Nat.zero_le _
  | x :: l, m, h, hs => by
    have hx : x ∈ m := hs x (by simp)
    have hd := List.nodup_cons.1 h
    have := nodup_len (l := l) (m := m.erase x) hd.2 fun y hy => (List.mem_erase_of_ne (by rintro rfl; exact hd.1 hy)).2 (hs y (by simp [hy]))
    rw [List.length_erase_of_mem hx] at this
    have hp : 0 < m.length := List.length_pos_of_mem hx
    simp only [List.length_cons]; omega

theorem nodup_all {α : Type} [DecidableEq α] {l m : List α} (h : l.Nodup) (hs : ∀ x ∈ l, x ∈ m) (hl : m.length ≤ l.length) : ∀ x ∈ m, x ∈ l := by
  intro x hx
  by_cases hxl : x ∈ l
  · exact hxl
  · have := nodup_len (l := x :: l) (m := m) (List.nodup_cons.2 ⟨hxl, h⟩) (by
      intro y hy
      rcases List.mem_cons.1 hy with rfl | hy
      · exact hx
      · exact hs y hy)
    simp at this; omega

/-- The numbers below n. -/
def ints (n : Nat) : List Int := (List.range n).map Int.ofNat
theorem mem_ints {n : Nat} {x : Int} : x ∈ ints n ↔ 0 ≤ x ∧ x < n := by
  simp only [ints, List.mem_map, List.mem_range]
  constructor
  · rintro ⟨i, hi, rfl⟩
    simp only [Int.ofNat_eq_natCast]; omega
  · intro h; exact ⟨x.toNat, by omega, by simp only [Int.ofNat_eq_natCast]; omega⟩
theorem len_ints {n : Nat} : (ints n).length = n := by simp [ints]
theorem nodup_ints {n : Nat} : (ints n).Nodup := by
  refine List.Pairwise.map Int.ofNat (fun (a b : Nat) (h : a ≠ b) => ?_) (List.nodup_range (n := n))
  intro e
  simp only [Int.ofNat_eq_natCast] at e
  exact h (by omega)

abbrev W3 := Int × Int × Int

-- looking in lists
def n_cmp (x y : Int) : Int := if x < y then -1 else if x > y then 1 else 0
theorem N0_big : 9223372036854775807 < N0 := N0_gt
theorem N0_succ : ∃ m, N0 = m + 5 := ⟨N0 - 5, by have := N0_big; omega⟩

def n_byEnds (x y : W3) : Int := if n_cmp x.1 y.1 = 0 then n_cmp x.2.1 y.2.1 else n_cmp x.1 y.1
/-- Strictly before. -/
def lex (x y : W3) : Bool := decide (x.1 < y.1) || (decide (x.1 = y.1) && decide (x.2.1 < y.2.1))
theorem byEnds_lex (x y : W3) : decide (n_byEnds x y ≥ 0) = !lex x y := by
  rw [Bool.eq_iff_iff]
  by_cases a : x.1 < y.1
  · have a2 : ¬ x.1 > y.1 := by omega
    simp [n_byEnds, n_cmp, lex, a]
  · by_cases b : x.1 > y.1
    · have e : ¬ x.1 = y.1 := by omega
      simp [n_byEnds, n_cmp, lex, a, b, e]
    · have e : x.1 = y.1 := by omega
      by_cases c : x.2.1 < y.2.1
      · simp [n_byEnds, n_cmp, lex, e, c]
      · by_cases d : x.2.1 > y.2.1 <;> simp [n_byEnds, n_cmp, lex, e, c, d]

/-- A wire at place i that does not fit. -/
def badW (nodes : Int) (ws : List W3) (i : Nat) (x : W3) : Bool :=
  !(decide (0 ≤ x.1) && decide (x.1 < x.2.1) && decide (x.2.1 < nodes) && decide (1 ≤ x.2.2) && decide (x.2.2 ≤ 200)) || (match i with | 0 => false | j + 1 => match ws[j]? with | some y => !lex y x | none => false)

def wiresBad (n : TNet) : Bool := (n.2.2.2.zipIdx 0).any fun p => badW n.1 n.2.2.2 p.2 p.1
def hdrOk (n : TNet) : Bool := decide (1 ≤ n.1) && decide (n.1 ≤ 5) && decide (1 ≤ n.2.1) && decide (n.2.1 ≤ n.1) && decide (1 ≤ n.2.2.1) && decide (n.2.2.1 ≤ 1000)

inductive Rc (ws : List W3) : Int → Prop
  | zero : Rc ws 0
  | ab {e : W3} : e ∈ ws → Rc ws e.1 → Rc ws e.2.1
  | ba {e : W3} : e ∈ ws → Rc ws e.2.1 → Rc ws e.1

/-- The wires lie among the nodes. -/
def InW (nodes : Nat) (ws : List W3) : Prop := ∀ e ∈ ws, 0 ≤ e.1 ∧ e.1 < e.2.1 ∧ e.2.1 < nodes

theorem Rc.inn {nodes : Nat} {ws : List W3} (h0 : 0 < nodes) (hw : InW nodes ws) {v : Int} (h : Rc ws v) : 0 ≤ v ∧ v < nodes := by
  cases h with
  | zero => omega
  | ab he _ => have := hw _ he; omega
  | ba he _ => have := hw _ he; omega

-- the program's marks
def gt (st : List Bool) (v : Int) : Bool := (st[v.toNat]?).getD false
def upd (st : List Bool) (e : W3) : List Bool := if gt st e.1 = true ∨ gt st e.2.1 = true then (st.set e.1.toNat true).set e.2.1.toNat true else st
def cnt (st : List Bool) : Nat := (st.filter id).length

theorem cnt_le (st : List Bool) : cnt st ≤ st.length := List.length_filter_le _ _

theorem cnt_set : ∀ (st : List Bool) (i : Nat), cnt st ≤ cnt (st.set i true) ∧ (st[i]? = some false → cnt st + 1 ≤ cnt (st.set i true))
  | [], i => by simp [cnt]
  | b :: st, 0 => by cases b <;> simp [cnt]
  | b :: st, i + 1 => by
    have := cnt_set st i
    cases b <;> simp_all [cnt]

theorem gt_set (st : List Bool) (i : Nat) (v : Int) : gt (st.set i true) v = (gt st v || (decide (i = v.toNat) && decide (i < st.length))) := by
  simp only [gt, List.getElem?_set]
  by_cases e : i = v.toNat
  · subst e
    by_cases h : v.toNat < st.length
    · simp [h]
    · simp [h]
  · simp [e]

theorem upd_len (st : List Bool) (e : W3) : (upd st e).length = st.length := by
  unfold upd; split <;> simp

theorem upd_mono {st : List Bool} {e : W3} {v : Int} (h : gt st v = true) : gt (upd st e) v = true := by
  unfold upd; split
  · simp [gt_set, h]
  · exact h

theorem upd_sound {ws : List W3} {st : List Bool} {e : W3} {nodes : Nat} (hl : st.length = nodes) (hw : InW nodes ws) (he : e ∈ ws) (h : ∀ v, 0 ≤ v → gt st v = true → Rc ws v) : ∀ v, 0 ≤ v → gt (upd st e) v = true → Rc ws v := by
  intro v hv hg
  obtain ⟨h1, h2, h3⟩ := hw e he
  unfold upd at hg
  split at hg
  · rename_i hor
    have ha : Rc ws e.1 ∧ Rc ws e.2.1 := by
      rcases hor with hor | hor
      · have := h _ h1 hor; exact ⟨this, .ab he this⟩
      · have := h _ (by omega) hor; exact ⟨.ba he this, this⟩
    simp only [gt_set, Bool.or_eq_true, Bool.and_eq_true, decide_eq_true_eq] at hg
    rcases hg with (hg | hg) | hg
    · exact h v hv hg
    · have : e.1 = v := by omega
      rw [← this]; exact ha.1
    · have : e.2.1 = v := by omega
      rw [← this]; exact ha.2
  · exact h v hv hg

theorem gt_false {st : List Bool} {v : Int} (h : gt st v = false) (hl : v.toNat < st.length) : st[v.toNat]? = some false := by
  have : st[v.toNat]? = some st[v.toNat] := List.getElem?_eq_getElem hl
  unfold gt at h
  rw [this] at h ⊢
  simpa using h

theorem upd_cnt (st : List Bool) (e : W3) : cnt st ≤ cnt (upd st e) := by
  unfold upd; split
  · exact Nat.le_trans (cnt_set st _).1 (cnt_set _ _).1
  · exact Nat.le_refl _

theorem upd_grow {st : List Bool} {e : W3} {nodes : Nat} (hl : st.length = nodes) (hi : 0 ≤ e.1 ∧ e.1 < e.2.1 ∧ e.2.1 < nodes) (h : gt st e.1 ≠ gt st e.2.1) : cnt st + 1 ≤ cnt (upd st e) := by
  have hor : gt st e.1 = true ∨ gt st e.2.1 = true := by
    revert h; cases gt st e.1 <;> cases gt st e.2.1 <;> simp
  unfold upd
  rw [if_pos hor]
  by_cases h1 : gt st e.1 = true
  · have h2 : gt st e.2.1 = false := by
      revert h; rw [h1]; cases gt st e.2.1 <;> simp
    have : gt (st.set e.1.toNat true) e.2.1 = false := by
      rw [gt_set, h2]; simp; omega
    have hs := gt_false this (by simp; omega)
    exact Nat.le_trans (Nat.add_le_add_right (cnt_set st _).1 1) ((cnt_set _ _).2 hs)
  · have h1' : gt st e.1 = false := by simpa using h1
    have hs := gt_false h1' (by omega)
    exact Nat.le_trans ((cnt_set st _).2 hs) (cnt_set _ _).1

theorem upd_fix {st : List Bool} {e : W3} {nodes : Nat} (hl : st.length = nodes) (hi : 0 ≤ e.1 ∧ e.1 < e.2.1 ∧ e.2.1 < nodes) (h : gt st e.1 = gt st e.2.1) : upd st e = st := by
  unfold upd
  split
  · rename_i hor
    have hb : gt st e.1 = true ∧ gt st e.2.1 = true := by
      rw [h] at hor ⊢; rcases hor with hor | hor <;> exact ⟨hor, hor⟩
    have one : ∀ (v : Int), gt st v = true → st.set v.toNat true = st := by
      intro v hv
      apply List.ext_getElem?; intro j
      rw [List.getElem?_set]
      split
      · rename_i ej; subst ej
        unfold gt at hv
        split
        · rename_i hlt
          rw [List.getElem?_eq_getElem hlt] at hv ⊢
          simp at hv; rw [hv]
        · rename_i hlt
          rw [List.getElem?_eq_none (by omega)]
      · rfl
    rw [one _ hb.1, one _ hb.2]
  · rfl

def Closed (ws : List W3) (st : List Bool) : Prop := ∀ e ∈ ws, gt st e.1 = gt st e.2.1

theorem round_fix {nodes : Nat} : ∀ {ws : List W3} {st : List Bool}, st.length = nodes → InW nodes ws → Closed ws st → ws.foldl upd st = st
  | [], _, _, _, _ => rfl
  | e :: ws, st, hl, hw, hc => by
    simp only [List.foldl_cons]
    rw [upd_fix hl (hw e (by simp)) (hc e (by simp))]
    exact round_fix hl (fun x hx => hw x (by simp [hx])) fun x hx => hc x (by simp [hx])

theorem round_mono {nodes : Nat} : ∀ {ws : List W3} {st : List Bool}, cnt st ≤ cnt (ws.foldl upd st)
  | [], _ => Nat.le_refl _
  | e :: ws, st => Nat.le_trans (upd_cnt st e) (round_mono (nodes := nodes) (ws := ws))

theorem round_grow {nodes : Nat} : ∀ {ws : List W3} {st : List Bool}, st.length = nodes → InW nodes ws → Closed ws st ∨ cnt st + 1 ≤ cnt (ws.foldl upd st)
  | [], _, _, _ => .inl fun _ h => by simp at h
  | e :: ws, st, hl, hw => by
    by_cases h : gt st e.1 = gt st e.2.1
    · simp only [List.foldl_cons, upd_fix hl (hw e (by simp)) h]
      rcases round_grow (ws := ws) hl (fun x hx => hw x (by simp [hx])) with hc | hg
      · refine .inl fun x hx => ?_
        rcases List.mem_cons.1 hx with rfl | hx
        · exact h
        · exact hc x hx
      · exact .inr hg
    · refine .inr ?_
      simp only [List.foldl_cons]
      exact Nat.le_trans (upd_grow hl (hw e (by simp)) h) (round_mono (nodes := nodes))

theorem round_len : ∀ {ws : List W3} {st : List Bool}, (ws.foldl upd st).length = st.length
  | [], _ => rfl
  | e :: ws, st => by simp only [List.foldl_cons]; rw [round_len, upd_len]

theorem round_keep {v : Int} : ∀ {ws : List W3} {st : List Bool}, gt st v = true → gt (ws.foldl upd st) v = true
  | [], _, h => h
  | e :: ws, st, h => by simp only [List.foldl_cons]; exact round_keep (upd_mono h)

theorem round_sound {ws0 : List W3} {nodes : Nat} (hw : InW nodes ws0) : ∀ {ws : List W3} {st : List Bool}, (∀ e ∈ ws, e ∈ ws0) → st.length = nodes → (∀ v, 0 ≤ v → gt st v = true → Rc ws0 v) → ∀ v, 0 ≤ v → gt (ws.foldl upd st) v = true → Rc ws0 v
  | [], _, _, _, h => h
  | e :: ws, st, hs, hl, h => by
    simp only [List.foldl_cons]
    exact round_sound hw (fun x hx => hs x (by simp [hx])) ((upd_len st e).trans hl) (upd_sound hl hw (hs e (by simp)) h)

/-- All nodes can be reached. -/
noncomputable def conn (n : TNet) : Bool := open Classical in decide (∀ v : Int, 0 ≤ v → v < n.1 → Rc n.2.2.2 v)

theorem closed_all {ws : List W3} {st : List Bool} (hc : Closed ws st) (h0 : gt st 0 = true) : ∀ v, Rc ws v → gt st v = true := by
  intro v h
  induction h with
  | zero => exact h0
  | ab he _ ih => rw [← hc _ he]; exact ih
  | ba he _ ih => rw [hc _ he]; exact ih

theorem all_true {st : List Bool} {nodes : Nat} (hl : st.length = nodes) : decide (false ∈ st) = false ↔ ∀ v : Int, 0 ≤ v → v < nodes → gt st v = true := by
  constructor
  · intro h v h0 h1
    simp only [decide_eq_false_iff_not] at h
    cases hg : gt st v with
    | true => rfl
    | false => exact absurd (List.mem_of_getElem? (gt_false hg (by omega))) h
  · intro h
    simp only [decide_eq_false_iff_not]
    intro hm
    obtain ⟨i, hi⟩ := List.getElem?_of_mem hm
    have := h (i : Int) (by omega) (by have := get_lt hi; omega)
    simp [gt, hi] at this

end Go.Sx.R

/- Networks: connected or not, by the program's marks and by the reference's queue. Conditions: none. -/
namespace Go.Sx.R
open Go Go.Sx

theorem getI_gt {st : List Bool} {v : Int} (h0 : 0 ≤ v) (h1 : v < st.length) : getI st v = some (gt st v) := by
  have e : v = ((v.toNat : Nat) : Int) := by omega
  have hl : v.toNat < st.length := by omega
  rw [e, getI_nat, gt, Int.toNat_natCast, List.getElem?_eq_getElem hl]; rfl

def met4 (st : List Bool) (_ : Nat) (x : W3) (k : List Bool → Option Bool) : Option Bool :=
  Option.bind (getI st x.1) fun b => cond b (Option.bind (getI st x.1) fun _ => Option.bind (getI (st.set x.1.toNat true) x.2.1) fun _ => k ((st.set x.1.toNat true).set x.2.1.toNat true))
    (Option.bind (getI st x.2.1) fun b2 => cond b2 (Option.bind (getI st x.1) fun _ => Option.bind (getI (st.set x.1.toNat true) x.2.1) fun _ => k ((st.set x.1.toNat true).set x.2.1.toNat true)) (k st))

theorem met4_upd {st : List Bool} {j : Nat} {x : W3} {k : List Bool → Option Bool} (hi : 0 ≤ x.1 ∧ x.1 < x.2.1 ∧ x.2.1 < st.length) : met4 st j x k = k (upd st x) := by
  have g1 := getI_gt (st := st) (v := x.1) (by omega) (by omega)
  have g2 := getI_gt (st := st) (v := x.2.1) (by omega) (by omega)
  have g3 := getI_gt (st := st.set x.1.toNat true) (v := x.2.1) (by omega) (by simp; omega)
  simp only [met4, g1, g2, g3, Option.bind_some, upd]
  cases h1 : gt st x.1 <;> cases h2 : gt st x.2.1 <;> simp

theorem wiresOk {n : TNet} {m : Nat} (hm : n.1 = m) (h : wiresBad n = false) : InW m n.2.2.2 := by
  intro e he
  obtain ⟨i, hi⟩ := List.getElem?_of_mem he
  simp only [wiresBad, List.any_eq_false] at h
  have := h (e, i) (by rw [List.mem_zipIdx_iff_getElem?]; exact hi)
  simp only [badW, Bool.not_eq_true, Bool.or_eq_false_iff, Bool.not_eq_false', Bool.and_eq_true, decide_eq_true_eq] at this
  omega

noncomputable def netok (n : TNet) : Bool := hdrOk n && !wiresBad n && conn n

end Go.Sx.R

/- Networks: the reference's queue. Conditions: none. -/
namespace Go.Sx.R
open Go Go.Sx

def addIf (c : Bool) (v : Int) (q : List Int) : List Int := if c = true ∧ v ∉ q then q ++ [v] else q

theorem addIf_mem {c : Bool} {v u : Int} {q : List Int} (h : u ∈ q) : u ∈ addIf c v q := by
  unfold addIf; split
  · simp [h]
  · exact h
theorem addIf_in {v : Int} {q : List Int} : v ∈ addIf true v q := by
  unfold addIf; split
  · simp
  · rename_i h; simpa using h
theorem addIf_get {c : Bool} {v u : Int} {q : List Int} {i : Nat} (h : q[i]? = some u) : (addIf c v q)[i]? = some u := by
  unfold addIf; split
  · rw [List.getElem?_append_left (get_lt h)]; exact h
  · exact h
theorem addIf_len {c : Bool} {v : Int} {q : List Int} : q.length ≤ (addIf c v q).length := by
  unfold addIf; split <;> simp

/-- What holds of the queue. -/
structure QOk (ws : List W3) (q : List Int) : Prop where
  nodup : q.Nodup
  rc : ∀ v ∈ q, Rc ws v
  zero : (0 : Int) ∈ q

theorem QOk.add {ws : List W3} {q : List Int} (h : QOk ws q) {c : Bool} {v : Int} (hv : c = true → Rc ws v) : QOk ws (addIf c v q) := by
  unfold addIf; split
  · rename_i hc
    refine ⟨?_, fun u hu => ?_, by simp [h.zero]⟩
    · rw [List.nodup_append]
      refine ⟨h.nodup, by simp, fun a ha b hb e => ?_⟩
      simp at hb; subst hb; subst e; exact hc.2 ha
    · rcases List.mem_append.1 hu with hu | hu
      · exact h.rc u hu
      · simp at hu; subst hu; exact hv hc.1
  · exact h

theorem QOk.len {ws : List W3} {q : List Int} {m : Nat} (h : QOk ws q) (h0 : 0 < m) (hw : InW m ws) : q.length ≤ m := by
  have := nodup_len (m := ints m) h.nodup fun v hv => mem_ints.2 ((h.rc v hv).inn h0 hw)
  rwa [len_ints] at this

def Done (ws : List W3) (v : Int) (q : List Int) : Prop := ∀ e ∈ ws, (e.1 = v → e.2.1 ∈ q) ∧ (e.2.1 = v → e.1 ∈ q)

def reachG (x : Int) (q : List Int) (_ : Nat) (e : W3) : List Int := addIf (decide (e.2.1 = x)) e.1 (addIf (decide (e.1 = x)) e.2.1 q)

theorem addT {v : Int} {q : List Int} (h : v ∉ q) : addIf true v q = q ++ [v] := by simp [addIf, h]
theorem addN {c : Bool} {v : Int} {q : List Int} (h : v ∈ q) : addIf c v q = q := by simp [addIf, h]
theorem addF {v : Int} {q : List Int} : addIf false v q = q := by simp [addIf]

theorem reach_all {ws : List W3} {q : List Int} (hq : QOk ws q) (hd : ∀ v ∈ q, Done ws v q) : ∀ v, Rc ws v → v ∈ q := by
  intro v h
  induction h with
  | zero => exact hq.zero
  | ab he _ ih => exact (hd _ ih _ he).1 rfl
  | ba he _ ih => exact (hd _ ih _ he).2 rfl

end Go.Sx.R

/- Bounds; weights between nodes, neighbours, leaves and series. Conditions: none. -/
namespace Go.Sx.R
open Go Go.Sx

-- bounds
def badB (low high : List Int) (i : Nat) (x : W3) : Bool := match low[i]?, high[i]? with
  | some l, some h => !(decide (1 ≤ l) && decide (l ≤ x.2.2) && (decide (x.2.2 ≤ h) && decide (h ≤ 200)))
  | _, _ => false

noncomputable def n_BoundsOk (n : TNet) (low high : List Int) : Bool := netok n && decide (low.length = n.2.2.2.length) && decide (high.length = n.2.2.2.length) && !(n.2.2.2.zipIdx 0).any fun p => badB low high p.2 p.1

theorem sm_intS {B : Nat} {l : List Int} (h : Sm.sm BB l) (hl : l.length ≤ B) : Sm.sm B l := ⟨hl, fun y hy => h.2 y hy⟩

end Go.Sx.R

/- Weights between nodes, neighbours, leaves and series. Conditions: none. -/
namespace Go.Sx.R
open Go Go.Sx

theorem find_first {β : Type} (p : β → Bool) : ∀ (l : List β) (i : Nat) (x : β), (∀ (j : Nat) (y : β), j < i → l[j]? = some y → p y = false) → l[i]? = some x → p x = true → l.find? p = some x
  | [], i, x, _, hx, _ => by simp at hx
  | y :: l, 0, x, _, hx, hp => by
    simp at hx; subst hx; simp [hp]
  | y :: l, i + 1, x, h, hx, hp => by
    have h0 := h 0 y (by omega) (by simp)
    simp only [List.find?_cons, h0]
    exact find_first p l i x (fun j z hj hz => h (j + 1) z (by omega) (by simpa using hz)) (by simpa using hx) hp

theorem find_none {β : Type} (p : β → Bool) (l : List β) (h : ∀ (j : Nat) (y : β), l[j]? = some y → p y = false) : l.find? p = none := by
  rw [List.find?_eq_none]
  intro x hx
  obtain ⟨j, hj⟩ := List.getElem?_of_mem hx
  simp [h j x hj]

/-- A wire between two nodes. -/
def isW (a b : Int) (x : W3) : Bool := decide (x.1 = if b < a then b else a) && decide (x.2.1 = if b > a then b else a)
def wbt (ws : List W3) (a b : Int) : Int := if a = b then 0 else match ws.find? (isW a b) with
  | some x => x.2.2
  | none => 0

def nearG (ws : List W3) (v : Int) (q : List Int) (j : Nat) (_ : Nat) : List Int := if wbt ws v j > 0 then q ++ [(j : Int)] else q
def near (ws : List W3) (v : Int) (m : Nat) : List Int := foldI (nearG ws v) (List.range m) 0 []

theorem range_get {m i x : Nat} (h : (List.range m)[i]? = some x) : x = i ∧ i < m := by
  have := get_lt h
  simp at this
  rw [List.getElem?_range this] at h
  simp at h; exact ⟨h.symm, this⟩

theorem near_len (ws : List W3) (v : Int) (m : Nat) : (near ws v m).length ≤ m := by
  have key : ∀ (l : List Nat) (i : Nat) (q : List Int), (foldI (nearG ws v) l i q).length ≤ q.length + l.length := by
    intro l
    induction l with
    | nil => intros; simp [foldI]
    | cons x l ih =>
      intro i q
      simp only [foldI]
      have := ih (i + 1) (nearG ws v q i x)
      have h2 : (nearG ws v q i x).length ≤ q.length + 1 := by unfold nearG; split <;> simp
      simp only [List.length_cons]; omega
  have := key (List.range m) 0 []
  simpa [near] using this

theorem near_mem {ws : List W3} {v : Int} {m : Nat} : ∀ u ∈ near ws v m, 0 ≤ u ∧ u < m := by
  have key : ∀ (l : List Nat) (i : Nat) (q : List Int), (∀ u ∈ q, 0 ≤ u ∧ u < ((i + l.length : Nat) : Int)) → ∀ u ∈ foldI (nearG ws v) l i q, 0 ≤ u ∧ u < ((i + l.length : Nat) : Int) := by
    intro l
    induction l with
    | nil => intro i q h; simpa [foldI] using h
    | cons x l ih =>
      intro i q h
      simp only [foldI]
      have e : i + (x :: l).length = i + 1 + l.length := by simp; omega
      rw [e] at h ⊢
      refine ih (i + 1) _ fun u hu => ?_
      unfold nearG at hu
      split at hu
      · rcases List.mem_append.1 hu with hu | hu
        · exact h u hu
        · simp at hu; subst hu; omega
      · exact h u hu
  have := key (List.range m) 0 [] (by simp)
  simpa [near] using this

/-- What a good network is. -/
theorem netok_facts {n : TNet} (h : netok n = true) : ∃ m : Nat, n.1 = m ∧ 1 ≤ m ∧ m ≤ 5 ∧ InW m n.2.2.2 ∧ 1 ≤ n.2.1 ∧ n.2.1 ≤ m := by
  have hh : hdrOk n = true := by revert h; simp only [netok]; cases hdrOk n <;> simp
  have hb : wiresBad n = false := by revert h; simp only [netok]; cases wiresBad n <;> simp
  simp only [hdrOk, Bool.and_eq_true, decide_eq_true_eq] at hh
  obtain ⟨m, hm⟩ : ∃ m : Nat, n.1 = m := ⟨n.1.toNat, by omega⟩
  exact ⟨m, hm, by omega, by omega, wiresOk hm hb, by omega, by omega⟩

end Go.Sx.R

/- Leaves and series. Conditions: none. -/
namespace Go.Sx.R
open Go Go.Sx

/-- The nodes that are no terminals. -/
def rng (lo : Int) (d : Nat) : List Int := (List.range d).map fun i => lo + Int.ofNat i

theorem rng_get {lo : Int} {d i : Nat} {v : Int} (h : (rng lo d)[i]? = some v) : v = lo + i ∧ i < d := by
  have hlt := get_lt h
  simp [rng] at hlt
  simp only [rng, List.getElem?_map, List.getElem?_range hlt, Option.map_some, Option.some.injEq] at h
  exact ⟨h.symm, hlt⟩

theorem rng_len {lo : Int} {d : Nat} : (rng lo d).length = d := by simp [rng]

theorem rng_succ (lo : Int) (d : Nat) : rng lo (d + 1) = rng lo d ++ [lo + d] := by
  simp [rng, List.range_succ]

def firstWith (n : TNet) (m : Nat) (count : Int) : Int := match (rng n.2.1 (m - n.2.1.toNat)).find? fun v => decide (((near n.2.2.2 v m).length : Int) = count) with
  | some v => v
  | none => -1

end Go.Sx.R

/- Marks, and marks found again. Conditions: none. -/
namespace Go.Sx.R
open Go Go.Sx

theorem getI_ok {β : Type} {l : List β} {n i : Nat} (h : l.length = n) (hi : i < n) : ∃ y, getI l (i : Int) = some y := getI_has h hi

end Go.Sx.R

/- The wires at a node: the law. Conditions: none. -/
namespace Go.Sx.R
open Go Go.Sx

end Go.Sx.R

/- Shares: the greatest common divisor, ratios, weights at nodes. Conditions: none. -/
namespace Go.Sx.R
open Go Go.Sx

theorem u64_id {x : Int} (h0 : 0 ≤ x) (h1 : x ≤ 18446744073709551615) : Go.IntKind.wrap Go.IntKind.u64 x = x := by
  simp only [IntKind.wrap, IntKind.bits, IntKind.signed]
  simp
  omega

theorem common_L0 : r_spec_GcdOf_L0 e_spec_l02Turn N0 = r_impl_common_L0 N0 := by
  funext s kc ke
  simp only [r_spec_GcdOf_L0, r_impl_common_L0, e_spec_l02Turn, r_spec_l02Turn]
  cases decide (s.2.1 = 0) <;> rfl

theorem common_loop (a b : Nat) (hb : b ≤ 9223372036854775807) : (iterK (r_impl_common_L0 N0) N0 ((a : Int), (b : Int), ()) fun s1 => some s1.1) = some ((Nat.gcd a b : Nat) : Int) := by
  refine iter_while (fun o => o = some ((Nat.gcd a b : Nat) : Int)) (fun s : Int × Int × Unit => ∃ x y : Nat, s = ((x : Int), (y : Int), ()) ∧ Nat.gcd x y = Nat.gcd a b) (fun s => s.2.1.toNat) ?_ N0 _ ⟨a, b, rfl, rfl⟩ (by have := N0_big; simp only [Int.toNat_natCast]; omega)
  rintro _ kc ⟨x, y, rfl, hg⟩ hk
  simp only [r_impl_common_L0]
  by_cases hy : y = 0
  · subst hy
    simp at hg
    simp [hg]
  · have d : decide ((y : Int) = 0) = false := by rw [decide_eq_false_iff_not]; omega
    simp only [d, Bool.not_false, cond_true, cond_false]
    have e : Int.tmod (x : Int) (y : Int) = ((x % y : Nat) : Int) := by rw [Int.tmod_eq_emod_of_nonneg (by omega)]; simp
    rw [e]
    refine hk _ ⟨y, x % y, rfl, ?_⟩ ?_
    · rw [← hg, Nat.gcd_comm y, ← Nat.gcd_rec, Nat.gcd_comm]
    · simp only [Int.toNat_natCast]
      exact Nat.mod_lt _ (by omega)

theorem p_common (a b : Nat) (hb : b ≤ 9223372036854775807) : e_impl_common ((a : Int), (b : Int), ()) = some ((Nat.gcd a b : Nat) : Int) := by
  simp only [e_impl_common, r_impl_common]
  exact common_loop a b hb

theorem s_Gcd (a b : Nat) (ha : a ≤ 9223372036854775807) (hb : b ≤ 9223372036854775807) : e_spec_GcdOf ((a : Int), (b : Int), ()) = some ((Nat.gcd a b : Nat) : Int) := by
  simp only [e_spec_GcdOf, r_spec_GcdOf, common_L0]
  have d1 : decide ((a : Int) < -9223372036854775807) = false := by rw [decide_eq_false_iff_not]; omega
  have d2 : decide ((b : Int) < -9223372036854775807) = false := by rw [decide_eq_false_iff_not]; omega
  have w1 : wr (0 - (a : Int)) = 0 - (a : Int) := wr_id (by omega) (by omega)
  have w2 : wr (0 - (b : Int)) = 0 - (b : Int) := wr_id (by omega) (by omega)
  rw [d1, d2, w1, w2]
  simp only [cond_false]
  rw [if_neg (by omega), if_neg (by omega)]
  exact common_loop a b hb

theorem p_size (a : Nat) (ha : a ≤ 9223372036854775807) : e_impl_size ((a : Int), ()) = some (a : Int) := by
  simp only [e_impl_size, r_impl_size]
  have d1 : decide ((a : Int) < 0) = false := by rw [decide_eq_false_iff_not]; omega
  rw [d1, cond_false, u64_id (by omega) (by omega)]

/-- The ratio of two small numbers. -/
theorem ratio_both (a b : Nat) (ha : a ≤ 1000000000000000) (hb : b ≤ 1000000000000000) : ∃ r, e_impl_RatioOf ((a : Int), (b : Int), ()) = some r ∧ e_spec_RatioOf ((a : Int), (b : Int), ()) = some r ∧ Sm.sm B1 r := by
  simp only [e_impl_RatioOf, r_impl_RatioOf, e_spec_RatioOf, r_spec_RatioOf, p_size a (by omega), p_size b (by omega), p_common a b (by omega), s_Gcd a b (by omega) (by omega), Option.bind_some]
  by_cases h0 : b = 0
  · subst h0
    refine ⟨(0, 0), by simp, ?_, ⟨⟨by omega, by omega⟩, ⟨by omega, by omega⟩⟩⟩
    simp
  · have hg : 0 < Nat.gcd a b := Nat.gcd_pos_of_pos_right _ (by omega)
    have hga : Nat.gcd a b ∣ a := Nat.gcd_dvd_left _ _
    have hgb : Nat.gcd a b ∣ b := Nat.gcd_dvd_right _ _
    have d1 : decide ((b : Int) = 0) = false := by rw [decide_eq_false_iff_not]; omega
    have d2 : decide (((Nat.gcd a b : Nat) : Int) = 0) = false := by rw [decide_eq_false_iff_not]; omega
    have d3 : decide ((b : Int) < 0) = false := by rw [decide_eq_false_iff_not]; omega
    have d4 : decide ((a : Int) < 0) = false := by rw [decide_eq_false_iff_not]; omega
    have qa : Int.tdiv (a : Int) ((Nat.gcd a b : Nat) : Int) = ((a / Nat.gcd a b : Nat) : Int) := by rw [Int.tdiv_eq_ediv_of_nonneg (by omega)]; simp
    have qb : Int.tdiv (b : Int) ((Nat.gcd a b : Nat) : Int) = ((b / Nat.gcd a b : Nat) : Int) := by rw [Int.tdiv_eq_ediv_of_nonneg (by omega)]; simp
    have la : a / Nat.gcd a b ≤ a := Nat.div_le_self _ _
    have lb : b / Nat.gcd a b ≤ b := Nat.div_le_self _ _
    have pb : 0 < b / Nat.gcd a b := Nat.div_pos (Nat.le_of_dvd (by omega) hgb) hg
    have cop : Nat.gcd (a / Nat.gcd a b) (b / Nat.gcd a b) = 1 := by rw [Nat.gcd_div hga hgb, Nat.div_self hg]
    generalize a / Nat.gcd a b = p at *
    generalize b / Nat.gcd a b = q at *
    have ua : Go.IntKind.wrap Go.IntKind.u64 ((p : Nat) : Int) = ((p : Nat) : Int) := u64_id (by omega) (by omega)
    have ub : Go.IntKind.wrap Go.IntKind.u64 ((q : Nat) : Int) = ((q : Nat) : Int) := u64_id (by omega) (by omega)
    have wa : wr ((p : Nat) : Int) = ((p : Nat) : Int) := wr_id (by omega) (by omega)
    have wb : wr ((q : Nat) : Int) = ((q : Nat) : Int) := wr_id (by omega) (by omega)
    have g1 : decide (((p : Nat) : Int) > 1000000000000000000) = false := by rw [decide_eq_false_iff_not]; omega
    have g2 : decide (((q : Nat) : Int) > 1000000000000000) = false := by rw [decide_eq_false_iff_not]; omega
    have r1 : (decide (1 ≤ ((q : Nat) : Int)) && decide (((q : Nat) : Int) ≤ 1000000000000000)) = true := by simp only [Bool.and_eq_true, decide_eq_true_eq]; omega
    have r2 : (decide (-1000000000000000000 ≤ ((p : Nat) : Int)) && decide (((p : Nat) : Int) ≤ 1000000000000000000)) = true := by simp only [Bool.and_eq_true, decide_eq_true_eq]; omega
    refine ⟨(((p : Nat) : Int), ((q : Nat) : Int)), ?_, ?_, ⟨⟨by omega, by omega⟩, ⟨by omega, by omega⟩⟩⟩
    · simp only [d1, d2, d3, d4, qa, qb, ua, ub, g1, g2, wa, wb, cond_false, beqB_self, Bool.not_true]
    · simp only [d1, d2, d3, cond_false, qa, qb, wa, wb, e_spec_RatioOk, r_spec_RatioOk, p_l01In, n_l01In, r1, r2, cond_true, Option.bind_some, s_Gcd (p) (q) (by omega) (by omega), cop]
      simp

-- weights at nodes
def touch (v : Int) (e : W3) : Int := if e.1 = v ∨ e.2.1 = v then e.2.2 else 0
def wAt (ws : List W3) (v : Int) : Int := (ws.map (touch v)).sum
def dbl (e : W3) : Int := 2 * e.2.2
def wAll (ws : List W3) : Int := (ws.map dbl).sum

theorem foldI_sum {β : Type} (h : β → Int) : ∀ (l : List β) (i : Nat) (s : Int), foldI (fun s _ x => s + h x) l i s = s + (l.map h).sum
  | [], _, s => by simp [foldI]
  | x :: l, i, s => by simp only [foldI, foldI_sum h l (i + 1), List.map_cons, List.sum_cons]; omega

/-- Sums of numbers that are small and not negative. -/
theorem sum_bounds {β : Type} (h : β → Int) (M : Int) : ∀ (l : List β), (∀ x ∈ l, 0 ≤ h x ∧ h x ≤ M) → 0 ≤ (l.map h).sum ∧ (l.map h).sum ≤ M * l.length
  | [], _ => by simp
  | x :: l, hx => by
    have h1 := sum_bounds h M l fun y hy => hx y (by simp [hy])
    have h2 := hx x (by simp)
    simp only [List.map_cons, List.sum_cons, List.length_cons]
    have : M * ((l.length + 1 : Nat) : Int) = M * l.length + M := by rw [Int.natCast_add, Int.mul_add]; simp
    rw [this]; omega

theorem take_sum {β : Type} (h : β → Int) (M : Int) (l : List β) (hx : ∀ x ∈ l, 0 ≤ h x ∧ h x ≤ M) (i : Nat) : 0 ≤ ((l.take i).map h).sum ∧ ((l.take i).map h).sum ≤ M * l.length := by
  have h1 := sum_bounds h M (l.take i) fun y hy => hx y (List.mem_of_mem_take hy)
  refine ⟨h1.1, Int.le_trans h1.2 ?_⟩
  cases l with
  | nil => simp
  | cons x l =>
    have hM : 0 ≤ M := by have := hx x (by simp); omega
    refine Int.mul_le_mul_of_nonneg_left ?_ hM
    have : ((x :: l).take i).length ≤ (x :: l).length := by simp; omega
    omega

theorem take_succ_sum {β : Type} (h : β → Int) (l : List β) (i : Nat) (x : β) (hx : l[i]? = some x) : ((l.take (i + 1)).map h).sum = ((l.take i).map h).sum + h x := by
  rw [List.take_add_one, hx]
  simp

end Go.Sx.R

/- The ratio of two numbers of any sign. Conditions: none. -/
namespace Go.Sx.R
open Go Go.Sx

theorem p_sizeI (n : Int) (h1 : -9223372036854775807 ≤ n) (h2 : n ≤ 9223372036854775807) : e_impl_size (n, ()) = some (n.natAbs : Int) := by
  simp only [e_impl_size, r_impl_size]
  by_cases h : n < 0
  · have e : Go.IntKind.wrap Go.IntKind.u64 (0 - Go.IntKind.wrap Go.IntKind.u64 n) = (n.natAbs : Int) := by
      simp only [IntKind.wrap, IntKind.bits, IntKind.signed]
      simp
      omega
    simp only [h, decide_true, cond_true, e]
  · simp only [h, decide_false, cond_false]
    rw [u64_id (by omega) (by omega)]
    congr 1; omega

theorem s_GcdI (a b : Int) (ha : -9223372036854775807 ≤ a) (ha2 : a ≤ 9223372036854775807) (hb : -9223372036854775807 ≤ b) (hb2 : b ≤ 9223372036854775807) : e_spec_GcdOf (a, b, ()) = some ((Nat.gcd a.natAbs b.natAbs : Nat) : Int) := by
  simp only [e_spec_GcdOf, r_spec_GcdOf, common_L0]
  have d1 : decide (a < -9223372036854775807) = false := by rw [decide_eq_false_iff_not]; omega
  have d2 : decide (b < -9223372036854775807) = false := by rw [decide_eq_false_iff_not]; omega
  have w1 : wr (0 - a) = 0 - a := wr_id (by omega) (by omega)
  have w2 : wr (0 - b) = 0 - b := wr_id (by omega) (by omega)
  have e1 : (if 0 - a > a then 0 - a else a) = (a.natAbs : Int) := by split <;> omega
  have e2 : (if 0 - b > b then 0 - b else b) = (b.natAbs : Int) := by split <;> omega
  rw [d1, d2, w1, w2]
  simp only [cond_false]
  rw [e1, e2]
  exact common_loop a.natAbs b.natAbs (by omega)

theorem ok_core (N : Int) (p q : Nat) (hN : N.natAbs = p) (hq : 1 ≤ q) (hq2 : q ≤ 9223372036854775807) (hp : p ≤ 9223372036854775807) (hc : Nat.gcd p q = 1) :
    e_spec_RatioOk ((N, (q : Int)), ()) = some (decide (q ≤ 1000000000000000) && decide (p ≤ 1000000000000000000)) := by
  simp only [e_spec_RatioOk, r_spec_RatioOk, p_l01In, n_l01In, Option.bind_some, s_GcdI N (q : Int) (by omega) (by omega) (by omega) (by omega), Int.natAbs_natCast, hN, hc]
  by_cases h1 : q ≤ 1000000000000000
  · have r1 : (decide (1 ≤ (q : Int)) && decide ((q : Int) ≤ 1000000000000000)) = true := by simp only [Bool.and_eq_true, decide_eq_true_eq]; omega
    by_cases h2 : p ≤ 1000000000000000000
    · have r2 : (decide (-1000000000000000000 ≤ N) && decide (N ≤ 1000000000000000000)) = true := by simp only [Bool.and_eq_true, decide_eq_true_eq]; omega
      simp [r1, r2, h1, h2]
    · have r2 : (decide (-1000000000000000000 ≤ N) && decide (N ≤ 1000000000000000000)) = false := by simp only [Bool.and_eq_false_iff, decide_eq_false_iff_not]; omega
      simp [r1, r2, h2]
  · have r1 : (decide (1 ≤ (q : Int)) && decide ((q : Int) ≤ 1000000000000000)) = false := by simp only [Bool.and_eq_false_iff, decide_eq_false_iff_not]; omega
    simp [r1, h1]

theorem tdiv_abs (n : Int) (g : Nat) : (0 ≤ n → Int.tdiv n (g : Int) = ((n.natAbs / g : Nat) : Int)) ∧ (n < 0 → Int.tdiv n (g : Int) = -((n.natAbs / g : Nat) : Int)) := by
  refine ⟨fun h => ?_, fun h => ?_⟩
  · have e : n = ((n.natAbs : Nat) : Int) := by omega
    rw [e, Int.tdiv_eq_ediv_of_nonneg (by omega)]; simp
  · have e : n = -((n.natAbs : Nat) : Int) := by omega
    have : Int.tdiv (-((n.natAbs : Nat) : Int)) (g : Int) = -((n.natAbs / g : Nat) : Int) := by
      rw [Int.neg_tdiv, Int.tdiv_eq_ediv_of_nonneg (by omega)]; simp
    rw [← e] at this; exact this

/-- The ratio of two numbers. -/
theorem ratio_all (n d : Int) (hn : -9223372036854775807 ≤ n) (hn2 : n ≤ 9223372036854775807) (hd : -9223372036854775807 ≤ d) (hd2 : d ≤ 9223372036854775807) : ∃ r, e_impl_RatioOf (n, d, ()) = some r ∧ e_spec_RatioOf (n, d, ()) = some r ∧ Sm.sm B1 r := by
  have zz : Sm.sm B1 (((0 : Int), (0 : Int))) := ⟨⟨by omega, by omega⟩, ⟨by omega, by omega⟩⟩
  simp only [e_impl_RatioOf, r_impl_RatioOf, e_spec_RatioOf, r_spec_RatioOf, p_sizeI n hn hn2, p_sizeI d hd hd2, p_common n.natAbs d.natAbs (by omega), s_GcdI n d hn hn2 hd hd2, Option.bind_some]
  by_cases h0 : d = 0
  · subst h0
    exact ⟨(0, 0), by simp, by simp, zz⟩
  · have hg : 0 < Nat.gcd n.natAbs d.natAbs := Nat.gcd_pos_of_pos_right _ (by omega)
    have hga : Nat.gcd n.natAbs d.natAbs ∣ n.natAbs := Nat.gcd_dvd_left _ _
    have hgb : Nat.gcd n.natAbs d.natAbs ∣ d.natAbs := Nat.gcd_dvd_right _ _
    have hgl : Nat.gcd n.natAbs d.natAbs ≤ d.natAbs := Nat.le_of_dvd (by omega) hgb
    have la : n.natAbs / Nat.gcd n.natAbs d.natAbs ≤ n.natAbs := Nat.div_le_self _ _
    have lb : d.natAbs / Nat.gcd n.natAbs d.natAbs ≤ d.natAbs := Nat.div_le_self _ _
    have pb : 0 < d.natAbs / Nat.gcd n.natAbs d.natAbs := Nat.div_pos hgl hg
    have cop : Nat.gcd (n.natAbs / Nat.gcd n.natAbs d.natAbs) (d.natAbs / Nat.gcd n.natAbs d.natAbs) = 1 := by rw [Nat.gcd_div hga hgb, Nat.div_self hg]
    have tn := tdiv_abs n (Nat.gcd n.natAbs d.natAbs)
    have td := tdiv_abs d (Nat.gcd n.natAbs d.natAbs)
    have ta : Int.tdiv (n.natAbs : Int) ((Nat.gcd n.natAbs d.natAbs : Nat) : Int) = ((n.natAbs / Nat.gcd n.natAbs d.natAbs : Nat) : Int) := by rw [Int.tdiv_eq_ediv_of_nonneg (by omega)]; simp
    have tb : Int.tdiv (d.natAbs : Int) ((Nat.gcd n.natAbs d.natAbs : Nat) : Int) = ((d.natAbs / Nat.gcd n.natAbs d.natAbs : Nat) : Int) := by rw [Int.tdiv_eq_ediv_of_nonneg (by omega)]; simp
    rw [ta, tb]
    generalize hG : Nat.gcd n.natAbs d.natAbs = g at *
    generalize hP : n.natAbs / g = p at *
    generalize hQ : d.natAbs / g = q at *
    have d1 : decide (d = 0) = false := by rw [decide_eq_false_iff_not]; exact h0
    have d2 : decide ((g : Int) = 0) = false := by rw [decide_eq_false_iff_not]; omega
    have ua : Go.IntKind.wrap Go.IntKind.u64 ((p : Nat) : Int) = ((p : Nat) : Int) := u64_id (by omega) (by omega)
    have ub : Go.IntKind.wrap Go.IntKind.u64 ((q : Nat) : Int) = ((q : Nat) : Int) := u64_id (by omega) (by omega)
    have wa : wr ((p : Nat) : Int) = ((p : Nat) : Int) := wr_id (by omega) (by omega)
    have wb : wr ((q : Nat) : Int) = ((q : Nat) : Int) := wr_id (by omega) (by omega)
    have wn : wr (0 - ((p : Nat) : Int)) = -((p : Nat) : Int) := by rw [wr_id (by omega) (by omega)]; omega
    have wa' : wr (-((p : Nat) : Int)) = -((p : Nat) : Int) := wr_id (by omega) (by omega)
    have wg : wr (0 - (g : Int)) = -(g : Int) := by rw [wr_id (by omega) (by omega)]; omega
    have dg : decide (-(g : Int) = 0) = false := by rw [decide_eq_false_iff_not]; omega
    have k1 : decide ((p : Int) > 1000000000000000000) = !decide (p ≤ 1000000000000000000) := by rw [Bool.eq_iff_iff]; simp; omega
    have k2 : decide ((q : Int) > 1000000000000000) = !decide (q ≤ 1000000000000000) := by rw [Bool.eq_iff_iff]; simp; omega
    have ok1 := ok_core (p : Int) p q (by omega) (by omega) (by omega) (by omega) cop
    have ok2 := ok_core (-(p : Int)) p q (by omega) (by omega) (by omega) (by omega) cop
    have fin : ∀ N : Int, N.natAbs = p → ∃ r : Int × Int, (cond (decide ((p : Int) > 1000000000000000000)) (some ((0 : Int), (0 : Int))) (cond (decide ((q : Int) > 1000000000000000)) (some (0, 0)) (some (N, (q : Int))))) = some r ∧
        (cond (!(decide (q ≤ 1000000000000000) && decide (p ≤ 1000000000000000000))) (some ((0 : Int), (0 : Int))) (some (N, (q : Int)))) = some r ∧ Sm.sm B1 r := by
      intro N hN
      rw [k1, k2]
      cases decide (p ≤ 1000000000000000000) with
      | false => exact ⟨(0, 0), rfl, by simp, zz⟩
      | true =>
        cases decide (q ≤ 1000000000000000) with
        | false => exact ⟨(0, 0), rfl, rfl, zz⟩
        | true => exact ⟨(N, (q : Int)), rfl, rfl, ⟨by omega, by omega⟩, ⟨by omega, by omega⟩⟩
    simp only [d1, d2, cond_false, ua, ub, wa, wb, wn]
    by_cases sn : n < 0
    · have t1 := tn.2 sn
      by_cases sd : d < 0
      · have t2 := td.2 sd
        have e1 : Int.tdiv n (-(g : Int)) = (p : Int) := by rw [Int.tdiv_neg, t1]; omega
        have e2 : Int.tdiv d (-(g : Int)) = (q : Int) := by rw [Int.tdiv_neg, t2]; omega
        simp only [sn, sd, decide_true, beqB_self, Bool.not_true, cond_false, cond_true, wg, dg, e1, e2, wa, wb, ok1, Option.bind_some]
        exact fin _ (by omega)
      · have t2 := td.1 (by omega)
        simp only [sn, sd, decide_true, decide_false, beqB, Bool.not_false, cond_false, cond_true, t1, t2, wa', wb, ok2, Option.bind_some]
        exact fin _ (by omega)
    · have t1 := tn.1 (by omega)
      by_cases sd : d < 0
      · have t2 := td.2 sd
        have e1 : Int.tdiv n (-(g : Int)) = -(p : Int) := by rw [Int.tdiv_neg, t1]
        have e2 : Int.tdiv d (-(g : Int)) = (q : Int) := by rw [Int.tdiv_neg, t2]; omega
        simp only [sn, sd, decide_true, decide_false, beqB, Bool.not_false, cond_false, cond_true, wg, dg, e1, e2, wa', wb, ok2, Option.bind_some]
        exact fin _ (by omega)
      · have t2 := td.1 (by omega)
        simp only [sn, sd, decide_false, beqB_self, Bool.not_true, cond_false, t1, t2, wa, wb, ok1, Option.bind_some]
        exact fin _ (by omega)

end Go.Sx.R

/- Sums, differences, products and inverses of fractions: both sides compute the same. Conditions: none. -/
namespace Go.Sx.R
open Go Go.Sx

theorem p_GcdI2 (a b : Int) (ha : -1000000000000000000 ≤ a) (ha2 : a ≤ 1000000000000000000) (hb : -1000000000000000000 ≤ b) (hb2 : b ≤ 1000000000000000000) : e_impl_GcdOf (a, b, ()) = some ((Nat.gcd a.natAbs b.natAbs : Nat) : Int) := by
  have d1 : decide (a = -9223372036854775808) = false := by rw [decide_eq_false_iff_not]; omega
  have d2 : decide (b = -9223372036854775808) = false := by rw [decide_eq_false_iff_not]; omega
  have hg : Nat.gcd a.natAbs b.natAbs ≤ 1000000000000000000 := by
    by_cases h : b.natAbs = 0
    · rw [h, Nat.gcd_zero_right]; omega
    · exact Nat.le_trans (Nat.gcd_le_right _ (by omega)) (by omega)
  have w : wr ((Nat.gcd a.natAbs b.natAbs : Nat) : Int) = ((Nat.gcd a.natAbs b.natAbs : Nat) : Int) := wr_id (by omega) (by omega)
  simp only [e_impl_GcdOf, r_impl_GcdOf, d1, d2, cond_false, p_sizeI a (by omega) (by omega), p_sizeI b (by omega) (by omega), p_common a.natAbs b.natAbs (by omega), Option.bind_some, w]

/-- A fraction in lowest terms that is not too large. -/
def rOk (r : Int × Int) : Bool := decide (1 ≤ r.2) && decide (r.2 ≤ 1000000000000000) && (decide (-1000000000000000000 ≤ r.1) && decide (r.1 ≤ 1000000000000000000)) && decide (((Nat.gcd r.1.natAbs r.2.natAbs : Nat) : Int) = 1)

theorem rOk_bd {r : Int × Int} (h : rOk r = true) : 1 ≤ r.2 ∧ r.2 ≤ 1000000000000000 ∧ -1000000000000000000 ≤ r.1 ∧ r.1 ≤ 1000000000000000000 := by
  simp only [rOk, Bool.and_eq_true, decide_eq_true_eq] at h; omega

theorem p_rOk (r : Int × Int) : e_impl_RatioOk (r, ()) = some (rOk r) := by
  simp only [e_impl_RatioOk, r_impl_RatioOk, rOk]
  by_cases h1 : 1 ≤ r.2
  · by_cases h2 : r.2 ≤ 1000000000000000
    · by_cases h3 : -1000000000000000000 ≤ r.1
      · by_cases h4 : r.1 ≤ 1000000000000000000
        · have g1 := p_GcdI2 r.1 r.2 h3 h4 (by omega) (by omega)
          simp [h1, h2, h3, h4, g1]
        · simp [h1, h2, h3, h4]
      · simp [h1, h2, h3]
    · simp [h1, h2]
  · simp [h1]

theorem s_rOk (r : Int × Int) : e_spec_RatioOk (r, ()) = some (rOk r) := by
  simp only [e_spec_RatioOk, r_spec_RatioOk, p_l01In, n_l01In, Option.bind_some, rOk]
  by_cases h1 : 1 ≤ r.2
  · by_cases h2 : r.2 ≤ 1000000000000000
    · by_cases h3 : -1000000000000000000 ≤ r.1
      · by_cases h4 : r.1 ≤ 1000000000000000000
        · have g2 := s_GcdI r.1 r.2 (by omega) (by omega) (by omega) (by omega)
          simp [h1, h2, h3, h4, g2]
        · simp [h1, h2, h3, h4]
      · simp [h1, h2, h3]
    · simp [h1, h2]
  · simp [h1]

/-- Whether a product is small enough. -/
def fitP (a b : Int) : Bool := decide (a = 0) || decide (b = 0) || decide (a.natAbs ≤ 1000000000000000000 / b.natAbs)

theorem fit_bd {a b : Int} (h : fitP a b = true) : (a * b).natAbs ≤ 1000000000000000000 := by
  simp only [fitP, Bool.or_eq_true, decide_eq_true_eq] at h
  rw [Int.natAbs_mul]
  rcases h with (h | h) | h
  · subst h; simp
  · subst h; simp
  · exact Nat.le_trans (Nat.mul_le_mul_right _ h) (Nat.div_mul_le_self _ _)

theorem p_fits (a b : Int) (ha : -1000000000000000000 ≤ a) (ha2 : a ≤ 1000000000000000000) (hb : -1000000000000000000 ≤ b) (hb2 : b ≤ 1000000000000000000) : e_impl_fits (a, b, ()) = some (fitP a b) := by
  simp only [e_impl_fits, r_impl_fits, fitP]
  by_cases h1 : a = 0
  · simp [h1]
  · by_cases h2 : b = 0
    · simp [h1, h2]
    · have z : decide (((b.natAbs : Nat) : Int) = 0) = false := by rw [decide_eq_false_iff_not]; omega
      have t : Int.tdiv 1000000000000000000 ((b.natAbs : Nat) : Int) = ((1000000000000000000 / b.natAbs : Nat) : Int) := by rw [Int.tdiv_eq_ediv_of_nonneg (by omega)]; rfl
      have hle : 1000000000000000000 / b.natAbs ≤ 1000000000000000000 := Nat.div_le_self _ _
      generalize 1000000000000000000 / b.natAbs = Q at t hle ⊢
      have u := u64_id (x := (Q : Int)) (by omega) (by omega)
      have e : decide (((a.natAbs : Nat) : Int) ≤ (Q : Int)) = decide (a.natAbs ≤ Q) := by rw [decide_eq_decide]; omega
      simp only [h1, h2, decide_false, cond_false, p_sizeI a (by omega) (by omega), p_sizeI b (by omega) (by omega), Option.bind_some, z, t, u, e, Bool.false_or]

theorem s_prod (a b : Int) (ha : -1000000000000000000 ≤ a) (ha2 : a ≤ 1000000000000000000) (hb : -1000000000000000000 ≤ b) (hb2 : b ≤ 1000000000000000000) : e_spec_l05Product (a, b, ()) = some (if fitP a b = true then (a * b, true) else (0, false)) := by
  simp only [e_spec_l05Product, r_spec_l05Product]
  by_cases h1 : a = 0
  · subst h1; simp [fitP]
  · by_cases h2 : b = 0
    · subst h2; simp [fitP]
    · have wa : wr (0 - a) = 0 - a := wr_id (by omega) (by omega)
      have wb : wr (0 - b) = 0 - b := wr_id (by omega) (by omega)
      have ea : (@ite Int (0 - a > a) (Int.decLt a (0 - a)) (0 - a) a) = ((a.natAbs : Nat) : Int) := by split <;> omega
      have eb : (@ite Int (0 - b > b) (Int.decLt b (0 - b)) (0 - b) b) = ((b.natAbs : Nat) : Int) := by split <;> omega
      have z : decide (((b.natAbs : Nat) : Int) = 0) = false := by rw [decide_eq_false_iff_not]; omega
      have t : Int.tdiv 1000000000000000000 ((b.natAbs : Nat) : Int) = ((1000000000000000000 / b.natAbs : Nat) : Int) := by rw [Int.tdiv_eq_ediv_of_nonneg (by omega)]; rfl
      have hle : 1000000000000000000 / b.natAbs ≤ 1000000000000000000 := Nat.div_le_self _ _
      have hfq : fitP a b = (decide (a = 0) || decide (b = 0) || decide (a.natAbs ≤ 1000000000000000000 / b.natAbs)) := rfl
      generalize 1000000000000000000 / b.natAbs = Q at t hle hfq ⊢
      have wt : wr (Q : Int) = (Q : Int) := wr_id (by omega) (by omega)
      rw [wa, wb, ea, eb, z, t, wt]
      simp only [h1, h2, decide_false, cond_false]
      by_cases h3 : a.natAbs ≤ Q
      · have hf : fitP a b = true := by simp only [hfq, h3, decide_true, Bool.or_true]
        have bd := fit_bd hf
        have w : wr (a * b) = a * b := wr_id (by omega) (by omega)
        have d : decide (((a.natAbs : Nat) : Int) > (Q : Int)) = false := by rw [decide_eq_false_iff_not]; omega
        rw [d, w, if_pos hf]; rfl
      · have hf : ¬ fitP a b = true := by simp only [hfq, h1, h2, h3, decide_false, Bool.or_false, Bool.false_eq_true, not_false_eq_true]
        have d : decide (((a.natAbs : Nat) : Int) > (Q : Int)) = true := by rw [decide_eq_true_eq]; omega
        rw [d, if_neg hf]; rfl

/-- Whether two fractions can be calculated with. -/
def calc2 (a b : Int × Int) : Bool := rOk a && rOk b && fitP a.1 b.2 && fitP b.1 a.2 && fitP a.2 b.2 && fitP a.1 b.1

theorem p_calc (a b : Int × Int) : e_impl_calculable (a, b, ()) = some (calc2 a b) := by
  simp only [e_impl_calculable, r_impl_calculable, p_rOk, Option.bind_some, calc2]
  cases h1 : rOk a with
  | false => rfl
  | true =>
    cases h2 : rOk b with
    | false => rfl
    | true =>
      have b1 := rOk_bd h1
      have b2 := rOk_bd h2
      simp only [cond_true, p_fits a.1 b.2 (by omega) (by omega) (by omega) (by omega), p_fits b.1 a.2 (by omega) (by omega) (by omega) (by omega), p_fits a.2 b.2 (by omega) (by omega) (by omega) (by omega), p_fits a.1 b.1 (by omega) (by omega) (by omega) (by omega), Option.bind_some]
      cases fitP a.1 b.2 <;> cases fitP b.1 a.2 <;> cases fitP a.2 b.2 <;> cases fitP a.1 b.1 <;> rfl

theorem calc_parts {a b : Int × Int} (h : calc2 a b = true) : rOk a = true ∧ rOk b = true ∧ fitP a.1 b.2 = true ∧ fitP b.1 a.2 = true ∧ fitP a.2 b.2 = true ∧ fitP a.1 b.1 = true := by
  simp only [calc2, Bool.and_eq_true] at h
  exact ⟨h.1.1.1.1.1, h.1.1.1.1.2, h.1.1.1.2, h.1.1.2, h.1.2, h.2⟩

theorem z_sm : Sm.sm B1 ((0, 0) : Int × Int) := ⟨⟨by omega, by omega⟩, ⟨by omega, by omega⟩⟩

/-- The sum (sign 1) or the difference (sign -1). -/
noncomputable def sumV (sg : Int) (a b : Int × Int) : Int × Int := if calc2 a b = true then (e_spec_RatioOf (a.1 * b.2 + sg * (b.1 * a.2), a.2 * b.2, ())).getD (0, 0) else (0, 0)
noncomputable def timV (a b : Int × Int) : Int × Int := if calc2 a b = true then (e_spec_RatioOf (a.1 * b.1, a.2 * b.2, ())).getD (0, 0) else (0, 0)
noncomputable def invV (a : Int × Int) : Int × Int := if rOk a = true then (e_spec_RatioOf (a.2, a.1, ())).getD (0, 0) else (0, 0)

theorem s_Combine (a b : Int × Int) (sg : Int) (hsg : sg = 1 ∨ sg = -1) : e_spec_l05Combine (a, b, sg, ()) = some (sumV sg a b) ∧ Sm.sm B1 (sumV sg a b) ∧
    (calc2 a b = true → e_impl_RatioOf (a.1 * b.2 + sg * (b.1 * a.2), a.2 * b.2, ()) = some (sumV sg a b)) := by
  simp only [e_spec_l05Combine, r_spec_l05Combine, s_rOk, Option.bind_some]
  cases hc : calc2 a b with
  | true =>
    obtain ⟨k1, k2, k3, k4, k5, k6⟩ := calc_parts hc
    have b1 := rOk_bd k1
    have b2 := rOk_bd k2
    have f1 := fit_bd k3
    have f2 := fit_bd k4
    have f3 := fit_bd k5
    have f4 := fit_bd k6
    have w1 : wr (sg * (b.1 * a.2)) = sg * (b.1 * a.2) := by rcases hsg with rfl | rfl <;> exact wr_id (by omega) (by omega)
    have hb : (a.1 * b.2 + sg * (b.1 * a.2)).natAbs ≤ 2000000000000000000 := by rcases hsg with rfl | rfl <;> omega
    have w2 : wr (a.1 * b.2 + sg * (b.1 * a.2)) = a.1 * b.2 + sg * (b.1 * a.2) := wr_id (by omega) (by omega)
    obtain ⟨r, r1, r2, r3⟩ := ratio_all (a.1 * b.2 + sg * (b.1 * a.2)) (a.2 * b.2) (by omega) (by omega) (by omega) (by omega)
    have e : sumV sg a b = r := by simp only [sumV, hc, if_true, r2, Option.getD_some]
    rw [e]
    refine ⟨?_, r3, fun _ => r1⟩
    simp only [k1, k2, Bool.not_true, cond_false, s_prod a.1 b.2 (by omega) (by omega) (by omega) (by omega), s_prod b.1 a.2 (by omega) (by omega) (by omega) (by omega), s_prod a.2 b.2 (by omega) (by omega) (by omega) (by omega), s_prod a.1 b.1 (by omega) (by omega) (by omega) (by omega), Option.bind_some, k3, k4, k5, k6, if_true, w1, w2, r2]
  | false =>
    have e : sumV sg a b = (0, 0) := by simp [sumV, hc]
    rw [e]
    refine ⟨?_, z_sm, by simp⟩
    cases h1 : rOk a with
    | false => rfl
    | true =>
      cases h2 : rOk b with
      | false => rfl
      | true =>
        have b1 := rOk_bd h1
        have b2 := rOk_bd h2
        simp only [Bool.not_true, cond_false, s_prod a.1 b.2 (by omega) (by omega) (by omega) (by omega), s_prod b.1 a.2 (by omega) (by omega) (by omega) (by omega), s_prod a.2 b.2 (by omega) (by omega) (by omega) (by omega), s_prod a.1 b.1 (by omega) (by omega) (by omega) (by omega), Option.bind_some]
        simp only [calc2, h1, h2, Bool.true_and] at hc
        cases q1 : fitP a.1 b.2 with
        | false => simp
        | true =>
          cases q2 : fitP b.1 a.2 with
          | false => simp
          | true =>
            cases q3 : fitP a.2 b.2 with
            | false => simp
            | true =>
              cases q4 : fitP a.1 b.1 with
              | false => simp
              | true => simp [q1, q2, q3, q4] at hc

theorem sum_both (a b : Int × Int) : e_impl_RatioSum (a, b, ()) = some (sumV 1 a b) ∧ e_spec_RatioSum (a, b, ()) = some (sumV 1 a b) ∧ Sm.sm B1 (sumV 1 a b) := by
  obtain ⟨s1, s2, s3⟩ := s_Combine a b 1 (.inl rfl)
  refine ⟨?_, ?_, s2⟩
  · simp only [e_impl_RatioSum, r_impl_RatioSum, p_calc, Option.bind_some]
    cases hc : calc2 a b with
    | false => simp [sumV, hc]
    | true =>
      obtain ⟨k1, k2, k3, k4, k5, k6⟩ := calc_parts hc
      have f1 := fit_bd k3
      have f2 := fit_bd k4
      have f3 := fit_bd k5
      have w1 : wr (a.1 * b.2) = a.1 * b.2 := wr_id (by omega) (by omega)
      have w2 : wr (b.1 * a.2) = b.1 * a.2 := wr_id (by omega) (by omega)
      have w3 : wr (a.2 * b.2) = a.2 * b.2 := wr_id (by omega) (by omega)
      have w4 : wr (a.1 * b.2 + b.1 * a.2) = a.1 * b.2 + 1 * (b.1 * a.2) := by rw [Int.one_mul]; exact wr_id (by omega) (by omega)
      simp only [Bool.not_true, cond_false, w1, w2, w3, w4, s3 hc, Option.bind_some]
  · simp only [e_spec_RatioSum, r_spec_RatioSum, s1, Option.bind_some]

theorem diff_both (a b : Int × Int) : e_impl_RatioDiff (a, b, ()) = some (sumV (-1) a b) ∧ e_spec_RatioDiff (a, b, ()) = some (sumV (-1) a b) ∧ Sm.sm B1 (sumV (-1) a b) := by
  obtain ⟨s1, s2, s3⟩ := s_Combine a b (-1) (.inr rfl)
  refine ⟨?_, ?_, s2⟩
  · simp only [e_impl_RatioDiff, r_impl_RatioDiff, p_calc, Option.bind_some]
    cases hc : calc2 a b with
    | false => simp [sumV, hc]
    | true =>
      obtain ⟨k1, k2, k3, k4, k5, k6⟩ := calc_parts hc
      have f1 := fit_bd k3
      have f2 := fit_bd k4
      have f3 := fit_bd k5
      have w1 : wr (a.1 * b.2) = a.1 * b.2 := wr_id (by omega) (by omega)
      have w2 : wr (b.1 * a.2) = b.1 * a.2 := wr_id (by omega) (by omega)
      have w3 : wr (a.2 * b.2) = a.2 * b.2 := wr_id (by omega) (by omega)
      have w4 : wr (a.1 * b.2 - b.1 * a.2) = a.1 * b.2 + -1 * (b.1 * a.2) := by rw [wr_id (by omega) (by omega)]; omega
      simp only [Bool.not_true, cond_false, w1, w2, w3, w4, s3 hc, Option.bind_some]
  · simp only [e_spec_RatioDiff, r_spec_RatioDiff, s1, Option.bind_some]

theorem s_Fits (a b : Int × Int) : e_spec_l05Fits (a, b, ()) = some (calc2 a b) := by
  simp only [e_spec_l05Fits, r_spec_l05Fits, s_rOk, Option.bind_some, calc2]
  cases h1 : rOk a with
  | false => rfl
  | true =>
    cases h2 : rOk b with
    | false => rfl
    | true =>
      have b1 := rOk_bd h1
      have b2 := rOk_bd h2
      simp only [Bool.not_true, cond_false, s_prod a.1 b.2 (by omega) (by omega) (by omega) (by omega), s_prod b.1 a.2 (by omega) (by omega) (by omega) (by omega), s_prod a.2 b.2 (by omega) (by omega) (by omega) (by omega), s_prod a.1 b.1 (by omega) (by omega) (by omega) (by omega), Option.bind_some]
      cases fitP a.1 b.2 <;> cases fitP b.1 a.2 <;> cases fitP a.2 b.2 <;> cases fitP a.1 b.1 <;> rfl

theorem times_both (a b : Int × Int) : e_impl_RatioTimes (a, b, ()) = some (timV a b) ∧ e_spec_RatioTimes (a, b, ()) = some (timV a b) ∧ Sm.sm B1 (timV a b) := by
  simp only [e_impl_RatioTimes, r_impl_RatioTimes, e_spec_RatioTimes, r_spec_RatioTimes, p_calc, s_Fits, Option.bind_some]
  cases hc : calc2 a b with
  | false =>
    have e : timV a b = (0, 0) := by simp [timV, hc]
    rw [e]; exact ⟨rfl, rfl, z_sm⟩
  | true =>
    obtain ⟨k1, k2, k3, k4, k5, k6⟩ := calc_parts hc
    have f3 := fit_bd k5
    have f4 := fit_bd k6
    have w1 : wr (a.1 * b.1) = a.1 * b.1 := wr_id (by omega) (by omega)
    have w3 : wr (a.2 * b.2) = a.2 * b.2 := wr_id (by omega) (by omega)
    obtain ⟨r, r1, r2, r3⟩ := ratio_all (a.1 * b.1) (a.2 * b.2) (by omega) (by omega) (by omega) (by omega)
    have e : timV a b = r := by simp only [timV, hc, if_true, r2, Option.getD_some]
    rw [e]
    exact ⟨by simp only [Bool.not_true, cond_false, w1, w3, r1, Option.bind_some], by simp only [Bool.not_true, cond_false, w1, w3, r2, Option.bind_some], r3⟩

theorem inv_both (a : Int × Int) : e_impl_RatioInverse (a, ()) = some (invV a) ∧ e_spec_RatioInverse (a, ()) = some (invV a) ∧ Sm.sm B1 (invV a) := by
  simp only [e_impl_RatioInverse, r_impl_RatioInverse, e_spec_RatioInverse, r_spec_RatioInverse, p_rOk, s_rOk, Option.bind_some]
  cases hc : rOk a with
  | false =>
    have e : invV a = (0, 0) := by simp [invV, hc]
    rw [e]; exact ⟨rfl, rfl, z_sm⟩
  | true =>
    have b1 := rOk_bd hc
    obtain ⟨r, r1, r2, r3⟩ := ratio_all a.2 a.1 (by omega) (by omega) (by omega) (by omega)
    have e : invV a = r := by simp only [invV, hc, if_true, r2, Option.getD_some]
    rw [e]
    exact ⟨by simp only [Bool.not_true, cond_false, r1, Option.bind_some], by simp only [Bool.not_true, cond_false, r2, Option.bind_some], r3⟩

end Go.Sx.R

/- Sizes, copies and comparisons of matrices of fractions. Conditions: none. -/
namespace Go.Sx.R
open Go Go.Sx

theorem to_RatioS (a : List (Int × Int)) (ha : Sm.sm B1 a) : e_laws_toRatioS (a, ()) = some a := by
  simp only [e_laws_toRatioS, r_laws_toRatioS, Int.toNat_natCast]
  rw [ble_true (by have := ha.1; simp only [B1] at this; omega), cond_true]
  rw [iter_range (R := List (Int × Int)) a (fun (st : List (Int × Int)) i => (a, st, i, ())) (fun st i x k => Option.bind (st[i]?) fun _ => k (st.set i x)) ?_ ?_ (len_lt ha N0_gt)]
  · rw [rangeK_copy (fun x => x) ((0, 0) : Int × Int)]
    · simp
    · intro st j x k hs hx
      have : st[j]? = some (st[j]'(by rw [hs]; exact get_lt hx)) := List.getElem?_eq_getElem _
      rw [this]; rfl
  · intro st i x kc ke hx hi
    have e : e_laws_toRatio (x, ()) = some x := rfl
    simp only [r_laws_toRatioS_L0, lt_len, hi, decide_true, cond_true, getI_nat, hx, e, Option.bind_some]
    rw [wr_len hi ha, Int.toNat_natCast]
  · intro st kc ke
    simp only [r_laws_toRatioS_L0, not_lt_self, cond_false]

theorem sz_RatioS (a : List (Int × Int)) (n : Int) (ha : Sm.sm BB a) (h0 : 0 ≤ n) (h1 : n ≤ 1048576) : ∃ r, e_laws_szRatioS (a, n, ()) = some r ∧ r ≤ n ∧ (0 ≤ r → Sm.sm B0 a) := by
  simp only [e_laws_szRatioS, r_laws_szRatioS]
  rw [wr_sub_len h0 h1 ha.1]
  by_cases h : n - (a.length : Int) < 0
  · refine ⟨-1, ?_, by omega, by omega⟩
    simp [h]
  · refine ⟨n - a.length, ?_, by omega, fun _ => ⟨by simp only [B0]; omega, ha.2⟩⟩
    simp [h]

theorem to_RatioSS (a : List (List (Int × Int))) (ha : Sm.sm B1 a) : e_laws_toRatioSS (a, ()) = some a := by
  simp only [e_laws_toRatioSS, r_laws_toRatioSS, Int.toNat_natCast]
  rw [ble_true (by have := ha.1; simp only [B1] at this; omega), cond_true]
  rw [iter_range (R := List (List (Int × Int))) a (fun (st : List (List (Int × Int))) i => (a, st, i, ())) (fun st i x k => Option.bind (st[i]?) fun _ => k (st.set i x)) ?_ ?_ (len_lt ha N0_gt)]
  · rw [rangeK_copy (fun x => x) ([] : List (Int × Int))]
    · simp
    · intro st j x k hs hx
      have : st[j]? = some (st[j]'(by rw [hs]; exact get_lt hx)) := List.getElem?_eq_getElem _
      rw [this]; rfl
  · intro st i x kc ke hx hi
    simp only [r_laws_toRatioSS_L0, lt_len, hi, decide_true, cond_true, getI_nat, hx, Option.bind_some, to_RatioS _ (sm_get ha hx)]
    rw [wr_len hi ha, Int.toNat_natCast]
  · intro st kc ke
    simp only [r_laws_toRatioSS_L0, not_lt_self, cond_false]

theorem sz_RatioSS (a : List (List (Int × Int))) (n : Int) (ha : Sm.sm BB a) (h0 : 0 ≤ n) (h1 : n ≤ 1048576) : ∃ r, e_laws_szRatioSS (a, n, ()) = some r ∧ r ≤ n ∧ (0 ≤ r → Sm.sm B0 a) := by
  simp only [e_laws_szRatioSS, r_laws_szRatioSS]
  rw [wr_sub_len h0 h1 ha.1]
  by_cases h : n - (a.length : Int) < 0
  · refine ⟨-1, ?_, by omega, by omega⟩
    simp [h]
  · have hd : decide (n - (a.length : Int) < 0) = false := by simp; omega
    rw [hd, cond_false]
    rw [iter_range (R := Int) a (fun (st : Int) i => (a, st, i, ())) (fun st i x k => Option.bind (e_laws_szRatioS (x, st, ())) fun x2 => cond (decide (x2 < 0)) (some (-1)) (k x2)) ?_ ?_ (len_ltB ha N0_gt)]
    · refine rangeK_rule (fun o => ∃ r, o = some r ∧ r ≤ n ∧ (0 ≤ r → Sm.sm B0 a)) (fun i st => 0 ≤ st ∧ st ≤ n ∧ ∀ j x, j < i → a[j]? = some x → Sm.sm B0 x) a 0 _ ⟨by omega, by omega, by simp⟩ ?_ ?_
      · intro st j x k ⟨q0, q1, q2⟩ hx hk
        simp only [Nat.zero_add] at *
        obtain ⟨r, e1, e2, e3⟩ := sz_RatioS x st (sm_get ha hx) q0 (by omega)
        simp only [e1, Option.bind_some]
        by_cases hr : r < 0
        · refine ⟨-1, by simp [hr], by omega, by omega⟩
        · have hd : decide (r < 0) = false := by simp; omega
          simp only [hd, cond_false]
          refine hk r ⟨by omega, by omega, fun i y hi hy => ?_⟩
          by_cases e : i = j
          · subst e; rw [hx] at hy; simp only [Option.some.injEq] at hy; subst hy; exact e3 (by omega)
          · exact q2 i y (by omega) hy
      · intro st ⟨q0, q1, q2⟩
        refine ⟨st, rfl, q1, fun _ => ⟨by simp only [B0]; omega, fun y hy => ?_⟩⟩
        obtain ⟨j, hj⟩ := List.getElem?_of_mem hy
        exact q2 j y (by have := get_lt hj; omega) hj
    · intro st i x kc ke hx hi
      simp only [r_laws_szRatioSS_L0, lt_len, hi, decide_true, cond_true, getI_nat, hx, Option.bind_some]
      rw [wr_lenB hi ha]
    · intro st kc ke
      simp only [r_laws_szRatioSS_L0, not_lt_self, cond_false]

theorem eq_Ratio1 (a : Int × Int) : e_laws_eqRatio (a, a, ()) = some true := by
  simp [e_laws_eqRatio, r_laws_eqRatio]

theorem eq_RatioS (a : List (Int × Int)) (ha : Sm.sm B1 a) : e_laws_eqRatioS (a, a, ()) = some true := by
  simp only [e_laws_eqRatioS, r_laws_eqRatioS, decide_true, Bool.not_true, cond_false]
  rw [iter_range (R := Bool) a (fun (_ : Unit) i => (a, a, i, ())) (fun st i x k => k ()) ?_ ?_ (len_lt ha N0_gt) ()]
  · rw [rangeK_fold (fun _ _ _ => ()) _ _ _ _ (fun _ _ _ _ _ => rfl)]
  · intro st i x kc ke hx hi
    simp only [r_laws_eqRatioS_L0, lt_len, hi, decide_true, cond_true, getI_nat, hx, Option.bind_some, eq_Ratio1, Bool.not_true, cond_false]
    rw [wr_len hi ha]
  · intro st kc ke
    simp only [r_laws_eqRatioS_L0, not_lt_self, cond_false]

theorem mh_RatioS (x : List (Int × Int)) (k : Int) (hx : Sm.sm B1 x) (h0 : 0 ≤ k) (h1 : k ≤ 1099511627776) : ∃ x' k', e_laws_markRatioS x (k, ()) = some (x', k') ∧ e_laws_heldRatioS (x', k, ()) = some k' ∧ k ≤ k' ∧ k' ≤ k + 2 * x.length ∧ x'.length = x.length := by
  have hlen : x.length ≤ 1073741824 := hx.1
  have m := iter_fold (R := List (Int × Int) × Int) (body := r_laws_markRatioS_L0 N0) x (fun (st : List (Int × Int) × Int) i => (st.1, st.2, i, ()))
    (fun i st => st.2 = k + 2 * i ∧ st.1.length = x.length ∧ ∀ (j : Nat), j < i → st.1[j]? = some (k + 2 * j, k + 2 * j + 1)) (fun st i _ => (st.1.set i (st.2, st.2 + 1), st.2 + 2))
    (fun st i y kc ke ⟨p1, p2, p3⟩ hy hi => by
      refine ⟨?_, ?_, by simpa using p2, fun j hj => ?_⟩
      · have hlt : decide ((i : Int) < (st.1.length : Int)) = true := by rw [decide_eq_true_eq, p2]; exact Int.ofNat_lt.2 hi
        have g1 : st.1[i]? = some (st.1[i]'(by omega)) := List.getElem?_eq_getElem _
        have w1 : wr (st.2 + 1) = st.2 + 1 := wr_id (by omega) (by omega)
        have w2 : wr (st.2 + 1 + 1) = st.2 + 1 + 1 := wr_id (by omega) (by omega)
        have e1 : st.2 + 1 + 1 = st.2 + 2 := by omega
        have hl : i < st.1.length := by omega
        have w2' : wr (st.2 + 2) = st.2 + 2 := wr_id (by omega) (by omega)
        simp only [r_laws_markRatioS_L0, hlt, cond_true, getI_nat, g1, Option.bind_some, Int.toNat_natCast, w1, w2, w2', List.getElem?_set_self, List.length_set, hl, List.set_set, wr_len hi hx, e1]
      · simp only; omega
      · simp only
        rw [List.getElem?_set]
        by_cases e : i = j
        · subst e; rw [if_pos rfl, if_pos (by omega), p1]
        · rw [if_neg e]; exact p3 j (by omega))
    (fun st kc ke ⟨p1, p2, p3⟩ => by
      have hlt : decide ((x.length : Int) < (st.1.length : Int)) = false := by rw [decide_eq_false_iff_not, p2]; omega
      simp only [r_laws_markRatioS_L0, hlt, cond_false]) (N := N0) (len_lt hx N0_gt) (x, k) ⟨by simp, rfl, by simp⟩ (fun s1 => some (s1.1, s1.2.1))
  obtain ⟨e1, p1, p2, p3⟩ := m
  generalize (foldI (fun (st : List (Int × Int) × Int) (i : Nat) (_ : Int × Int) => (st.1.set i (st.2, st.2 + 1), st.2 + 2)) x 0 (x, k)) = st at e1 p1 p2 p3
  refine ⟨st.1, st.2, e1, ?_, by omega, by omega, p2⟩
  have hh := iter_fold (R := Int) (body := r_laws_heldRatioS_L0 N0) st.1 (fun (c : Int) i => (st.1, c, i, ())) (fun i c => c = k + 2 * i) (fun c _ _ => c + 2)
    (fun c i y kc ke pc hy hi => by
      have h2 := p3 i (by omega)
      rw [hy] at h2; simp only [Option.some.injEq] at h2
      refine ⟨?_, by omega⟩
      have w1 : wr (c + 1) = c + 1 := wr_id (by omega) (by omega)
      have w2 : wr (c + 1 + 1) = c + 1 + 1 := wr_id (by omega) (by omega)
      have d1 : decide (y.1 = c) = true := by rw [decide_eq_true_eq, h2]; simp only; omega
      have d2 : decide (y.2 = c + 1) = true := by rw [decide_eq_true_eq, h2]; simp only; omega
      have e2 : c + 1 + 1 = c + 2 := by omega
      have w4 : wr (c + 2) = c + 2 := wr_id (by omega) (by omega)
      simp only [r_laws_heldRatioS_L0, lt_len, hi, decide_true, cond_true, getI_nat, hy, Option.bind_some, d1, Bool.not_true, cond_false, w1, w2, w4, d2, wr_succ hi (show st.1.length ≤ 9223372036854775807 by omega), e2])
    (fun c kc ke _ => by simp only [r_laws_heldRatioS_L0, not_lt_self, cond_false]) (N := N0) (by have := N0_big; omega) k (by simp) (fun s1 => some s1.2.1)
  simp only [e_laws_heldRatioS, r_laws_heldRatioS]
  rw [hh.1, hh.2, p1, p2]

theorem eq_RatioSS (a : List (List (Int × Int))) (ha : Sm.sm B1 a) : e_laws_eqRatioSS (a, a, ()) = some true := by
  simp only [e_laws_eqRatioSS, r_laws_eqRatioSS, decide_true, Bool.not_true, cond_false]
  rw [iter_range (R := Bool) a (fun (_ : Unit) i => (a, a, i, ())) (fun st i x k => k ()) ?_ ?_ (len_lt ha N0_gt) ()]
  · rw [rangeK_fold (fun _ _ _ => ()) _ _ _ _ (fun _ _ _ _ _ => rfl)]
  · intro st i x kc ke hx hi
    simp only [r_laws_eqRatioSS_L0, lt_len, hi, decide_true, cond_true, getI_nat, hx, Option.bind_some, eq_RatioS _ (sm_get ha hx), Bool.not_true, cond_false]
    rw [wr_len hi ha]
  · intro st kc ke
    simp only [r_laws_eqRatioSS_L0, not_lt_self, cond_false]

theorem mm_RatioS (x : List (Int × Int)) (k : Int) (hx : Sm.sm B1 x) (h0 : 0 ≤ k) (h1 : k ≤ 1152921504606846976) : ∃ x' k', e_laws_markRatioS x (k, ()) = some (x', k') ∧ k ≤ k' ∧ k' ≤ k + 2 * x.length := by
  have hlen : x.length ≤ 1073741824 := hx.1
  have m := iter_fold (R := List (Int × Int) × Int) (body := r_laws_markRatioS_L0 N0) x (fun (st : List (Int × Int) × Int) i => (st.1, st.2, i, ()))
    (fun i st => st.2 = k + 2 * i ∧ st.1.length = x.length) (fun st i _ => (st.1.set i (st.2, st.2 + 1), st.2 + 2))
    (fun st i y kc ke ⟨p1, p2⟩ hy hi => by
      refine ⟨?_, ?_, by simpa using p2⟩
      · have hlt : decide ((i : Int) < (st.1.length : Int)) = true := by rw [decide_eq_true_eq, p2]; exact Int.ofNat_lt.2 hi
        have g1 : st.1[i]? = some (st.1[i]'(by omega)) := List.getElem?_eq_getElem _
        have w1 : wr (st.2 + 1) = st.2 + 1 := wr_id (by omega) (by omega)
        have w2 : wr (st.2 + 1 + 1) = st.2 + 1 + 1 := wr_id (by omega) (by omega)
        have e1 : st.2 + 1 + 1 = st.2 + 2 := by omega
        have hl : i < st.1.length := by omega
        have w2' : wr (st.2 + 2) = st.2 + 2 := wr_id (by omega) (by omega)
        simp only [r_laws_markRatioS_L0, hlt, cond_true, getI_nat, g1, Option.bind_some, Int.toNat_natCast, w1, w2, w2', List.getElem?_set_self, List.length_set, hl, List.set_set, wr_len hi hx, e1]
      · simp only; omega)
    (fun st kc ke ⟨p1, p2⟩ => by
      have hlt : decide ((x.length : Int) < (st.1.length : Int)) = false := by rw [decide_eq_false_iff_not, p2]; omega
      simp only [r_laws_markRatioS_L0, hlt, cond_false]) (N := N0) (len_lt hx N0_gt) (x, k) ⟨by simp, rfl⟩ (fun s1 => some (s1.1, s1.2.1))
  obtain ⟨e1, p1, p2⟩ := m
  refine ⟨_, _, e1, ?_, ?_⟩
  · dsimp only; omega
  · dsimp only; omega

/-- Marks row by row. -/
theorem mm_RatioSS (x : List (List (Int × Int))) (k : Int) (hx0 : Sm.sm B0 x) (h0 : 0 ≤ k) (h1 : k ≤ 1048576) : ∃ x' k', e_laws_markRatioSS x (k, ()) = some (x', k') ∧ k ≤ k' := by
  have hx : Sm.sm B1 x := up_pairSS B01 hx0
  have hl : x.length ≤ 1048576 := hx0.1
  have m := iter_fold (R := List (List (Int × Int)) × Int) (body := r_laws_markRatioSS_L0 e_laws_markRatioS N0) x (fun (st : List (List (Int × Int)) × Int) i => (st.1, st.2, i, ()))
    (fun i st => k ≤ st.2 ∧ st.2 ≤ k + 2097152 * i ∧ st.1.length = x.length ∧ (∀ j, i ≤ j → st.1[j]? = x[j]?))
    (fun st i y => ((st.1.set i (((e_laws_markRatioS y (st.2, ())).getD ([], 0)).1)), ((e_laws_markRatioS y (st.2, ())).getD ([], 0)).2))
    (fun st i y kc ke ⟨p1, p2, p3, p4⟩ hy hi => by
      have hym := List.mem_of_getElem? hy
      have hyl : y.length ≤ 1048576 := (hx0.2 y hym).1
      obtain ⟨y', k2, q1, q3, q4⟩ := mm_RatioS y st.2 (hx.2 y hym) (by omega) (by omega)
      have hlt : decide ((i : Int) < (st.1.length : Int)) = true := by rw [decide_eq_true_eq, p3]; exact Int.ofNat_lt.2 hi
      have hg : getI st.1 (i : Int) = some y := by rw [getI_nat, p4 i (Nat.le_refl _), hy]
      simp only [q1, Option.getD_some]
      refine ⟨?_, by omega, ?_, by simpa using p3, fun j hj => ?_⟩
      · simp only [r_laws_markRatioSS_L0, hlt, cond_true, hg, Option.bind_some, q1, Int.toNat_natCast]
        rw [wr_len hi hx]
      · omega
      · rw [List.getElem?_set_ne (by omega)]; exact p4 j (by omega))
    (fun st kc ke ⟨p1, p2, p3, _⟩ => by
      have hlt : decide ((x.length : Int) < (st.1.length : Int)) = false := by rw [decide_eq_false_iff_not, p3]; omega
      simp only [r_laws_markRatioSS_L0, hlt, cond_false]) (N := N0) (len_lt hx N0_gt) (x, k) ⟨by simp, by simp, rfl, fun _ _ => rfl⟩ (fun s1 => some (s1.1, s1.2.1))
  obtain ⟨e1, p1, p2, p3, _⟩ := m
  exact ⟨_, _, e1, p1⟩

end Go.Sx.R

/- Response matrices, matrices of stars: the laws. Conditions: none. -/
namespace Go.Sx.R
open Go Go.Sx

abbrev Mat := List (List (Int × Int))
/-- An entry. -/
def en (m : Mat) (i j : Nat) : Int × Int := (((m[i]?).getD [])[j]?).getD (0, 0)
def Sq (m : Mat) : Prop := ∀ row ∈ m, row.length = m.length

theorem Sq.get {m : Mat} (h : Sq m) {i j : Nat} (hi : i < m.length) (hj : j < m.length) : ∃ row, m[i]? = some row ∧ row.length = m.length ∧ row[j]? = some (en m i j) := by
  obtain ⟨row, hr⟩ : ∃ row, m[i]? = some row := ⟨_, List.getElem?_eq_getElem hi⟩
  have hl := h row (List.mem_of_getElem? hr)
  obtain ⟨x, hx⟩ : ∃ x, row[j]? = some x := ⟨_, List.getElem?_eq_getElem (by omega)⟩
  exact ⟨row, hr, hl, by simp only [en, hr, Option.getD_some, hx]⟩

theorem en_row {m : Mat} {i j : Nat} {row : List (Int × Int)} {x : Int × Int} (hr : m[i]? = some row) (hx : row[j]? = some x) : en m i j = x := by simp only [en, hr, Option.getD_some, hx]

/-- The sum of a row. -/
noncomputable def rowS (row : List (Int × Int)) : Int × Int := row.foldl (sumV 1) (0, 1)

theorem take_foldl {β σ : Type} (g : σ → β → σ) (s : σ) {l : List β} {i : Nat} {x : β} (h : l[i]? = some x) : (l.take (i + 1)).foldl g s = g ((l.take i).foldl g s) x := by
  rw [List.take_add_one, h, List.foldl_append]; rfl

/-- A response matrix. -/
def IsR (m : Mat) : Prop := 1 ≤ m.length ∧ m.length ≤ 5 ∧ Sq m ∧ (∀ row ∈ m, ∀ x ∈ row, rOk x = true) ∧ (∀ i j, i < m.length → j < m.length → en m i j = en m j i ∧ (i ≠ j → (en m i j).1 ≤ 0)) ∧ ∀ row ∈ m, rowS row = (0, 1)
noncomputable def isRB (m : Mat) : Bool := open Classical in decide (IsR m)
theorem isRB_false {m : Mat} (h : ¬ IsR m) : isRB m = false := by simp only [isRB, decide_eq_false_iff_not]; exact h
theorem isRB_true {m : Mat} (h : IsR m) : isRB m = true := by simp only [isRB, decide_eq_true_eq]; exact h

theorem intEq2 {x y : Int × Int} : (intEq x.1 y.1 && intEq x.2 y.2) = decide (x = y) := by
  rw [Bool.eq_iff_iff]
  simp only [intEq, Bool.and_eq_true, decide_eq_true_eq]
  exact ⟨fun h => Prod.ext h.1 h.2, fun h => by rw [h]; exact ⟨rfl, rfl⟩⟩

theorem p_ContR (row : List (Int × Int)) (hl : row.length ≤ 1073741824) : e_slices_ContainsFunc_impl_Ratio (row, (), ()) = some (row.any fun r => !rOk r) := by
  simp only [e_slices_ContainsFunc_impl_Ratio, r_slices_ContainsFunc_impl_Ratio, e_slices_IndexFunc_impl_Ratio, r_slices_IndexFunc_impl_Ratio]
  have q := iter_rule (R := Int) (body := r_slices_IndexFunc_impl_Ratio_L0 e_impl_IsResponse_1 N0) (ke := fun _ => some (-1)) (fun o => ∃ v, o = some v ∧ decide (v ≥ 0) = row.any fun r => !rOk r) row (fun (_ : Unit) i => (row, (), (row.length : Int), i, ())) (fun i _ => ∀ x ∈ row.take i, rOk x = true) (fun st i x kc hp hx hi hk => ?_) (fun st kc hp => ?_) (N := N0) (by have := N0_big; omega) () (by simp)
  · obtain ⟨v, e1, e2⟩ := q
    rw [e1]; simp only [Option.bind_some, e2]
  · simp only [r_slices_IndexFunc_impl_Ratio_L0, lt_len, hi, decide_true, cond_true, getI_nat, hx, Option.bind_some, e_impl_IsResponse_1, r_impl_IsResponse_1, p_rOk, wr_succ hi (show row.length ≤ 9223372036854775807 by omega)]
    cases h : rOk x with
    | false =>
      simp only [Bool.not_false, cond_true]
      refine ⟨_, rfl, ?_⟩
      have : (row.any fun r => !rOk r) = true := by
        rw [List.any_eq_true]; exact ⟨x, List.mem_of_getElem? hx, by rw [h]; rfl⟩
      rw [this, decide_eq_true_eq]; omega
    | true =>
      simp only [Bool.not_true, cond_false]
      refine hk () fun y hy => ?_
      rw [List.take_add_one, hx] at hy
      simp only [List.mem_append, Option.toList_some, List.mem_singleton] at hy
      rcases hy with hy | rfl
      · exact hp y hy
      · exact h
  · rw [List.take_length] at hp
    simp only [r_slices_IndexFunc_impl_Ratio_L0, not_lt_self, cond_false]
    refine ⟨-1, rfl, ?_⟩
    have : (row.any fun r => !rOk r) = false := by
      rw [List.any_eq_false]; intro x hx; rw [hp x hx]; simp
    rw [this]; decide

theorem p_IsR (m : Mat) : e_impl_IsResponse (m, ()) = some (isRB m) := by
  simp only [e_impl_IsResponse, r_impl_IsResponse]
  by_cases h1 : m.length < 1
  · have d : decide (((m.length : Nat) : Int) < 1) = true := by rw [decide_eq_true_eq]; omega
    rw [d, cond_true, isRB_false fun h => by have := h.1; omega]
  have d1 : decide (((m.length : Nat) : Int) < 1) = false := by rw [decide_eq_false_iff_not]; omega
  by_cases h2 : m.length > 5
  · have d : decide (((m.length : Nat) : Int) > 5) = true := by rw [decide_eq_true_eq]; omega
    rw [d1, cond_false, d, cond_true, isRB_false fun h => by have := h.2.1; omega]
  have d2 : decide (((m.length : Nat) : Int) > 5) = false := by rw [decide_eq_false_iff_not]; omega
  simp only [d1, d2, cond_false]
  have hB : m.length ≤ 9223372036854775807 := by omega
  have hN := N0_big
  refine iter_rule (R := Bool) (fun o => o = some (isRB m)) m (fun (_ : Unit) i => (m, m, (m.length : Int), i, ())) (fun i _ => ∀ row ∈ m.take i, row.length = m.length ∧ ∀ x ∈ row, rOk x = true) (fun st i row kc hp hr hi hk => ?_) (fun st kc hp => ?_) (N := N0) (by omega) () (by simp)
  · have hrm := List.mem_of_getElem? hr
    simp only [r_impl_IsResponse_L0, lt_len, hi, decide_true, cond_true, getI_nat, hr, Option.bind_some, wr_succ hi hB]
    by_cases hl : row.length = m.length
    · have d : decide (((row.length : Nat) : Int) = ((m.length : Nat) : Int)) = true := by rw [decide_eq_true_eq]; omega
      simp only [d, Bool.not_true, cond_false, p_ContR row (by omega), Option.bind_some]
      cases ha : row.any fun r => !rOk r with
      | true =>
        simp only [cond_true]
        obtain ⟨x, hx, hk2⟩ := List.any_eq_true.1 ha
        rw [isRB_false fun h => by have := h.2.2.2.1 row hrm x hx; rw [this] at hk2; cases hk2]
      | false =>
        simp only [cond_false]
        refine hk () fun y hy => ?_
        rw [List.take_add_one, hr] at hy
        simp only [List.mem_append, Option.toList_some, List.mem_singleton] at hy
        rcases hy with hy | rfl
        · exact hp y hy
        · refine ⟨hl, fun x hx => ?_⟩
          have := List.any_eq_false.1 ha x hx
          simpa using this
    · have d : decide (((row.length : Nat) : Int) = ((m.length : Nat) : Int)) = false := by rw [decide_eq_false_iff_not]; omega
      simp only [d, Bool.not_false, cond_true]
      rw [isRB_false fun h => hl (h.2.2.1 row hrm)]
  · rw [List.take_length] at hp
    simp only [r_impl_IsResponse_L0, not_lt_self, cond_false]
    have hSq : Sq m := fun row hr => (hp row hr).1
    refine iter_rule (R := Bool) (fun o => o = some (isRB m)) m (fun (_ : Unit) i => (m, m, (m.length : Int), i, ())) (fun i _ => (∀ i', i' < i → ∀ j, j < m.length → en m i' j = en m j i' ∧ (i' ≠ j → (en m i' j).1 ≤ 0)) ∧ ∀ row ∈ m.take i, rowS row = (0, 1)) (fun st i row kc hq hr hi hk => ?_) (fun st kc hq => ?_) (N := N0) (by omega) () ⟨fun _ h => absurd h (Nat.not_lt_zero _), by simp⟩
    · have hrm := List.mem_of_getElem? hr
      have hrl := hSq row hrm
      simp only [r_impl_IsResponse_L2, lt_len, hi, decide_true, cond_true, getI_nat, hr, Option.bind_some]
      refine iter_rule (R := Bool) (fun o => o = some (isRB m)) row (fun (s : Int × Int) j => (m, (i : Int), s, m, (m.length : Int), (i : Int), row, (row.length : Int), j, ())) (fun j s => s = (row.take j).foldl (sumV 1) (0, 1) ∧ ∀ j', j' < j → en m i j' = en m j' i ∧ (i ≠ j' → (en m i j').1 ≤ 0)) (fun s j x kc2 ⟨s1, s2⟩ hx hj hk2 => ?_) (fun s kc2 ⟨s1, s2⟩ => ?_) (N := N0) (by omega) (0, 1) ⟨by simp, fun _ h => absurd h (Nat.not_lt_zero _)⟩
      · have hjm : j < m.length := by omega
        obtain ⟨row2, g1, g2, g3⟩ := hSq.get hjm hi
        have hex := en_row hr hx
        simp only [r_impl_IsResponse_L4, lt_len, hj, decide_true, cond_true, getI_nat, hx, g1, g3, Option.bind_some, intEq2, (sum_both s x).1, wr_succ hj (show row.length ≤ 9223372036854775807 by omega)]
        by_cases e1 : x = en m j i
        · simp only [e1, decide_true, Bool.not_true, cond_false]
          have fin : (i ≠ j → x.1 ≤ 0) → (fun o => o = some (isRB m)) (kc2 (m, (i : Int), sumV 1 s x, m, (m.length : Int), (i : Int), row, (row.length : Int), ((j + 1 : Nat) : Int), ())) := fun hle => hk2 _ ⟨by rw [take_foldl _ _ hx, ← s1], fun j' hj' => by
            by_cases e : j' = j
            · subst e; rw [hex]; exact ⟨e1, hle⟩
            · exact s2 j' (by omega)⟩
          rw [← e1]
          by_cases e2 : i = j
          · have d : decide ((i : Int) = (j : Int)) = true := by rw [decide_eq_true_eq]; omega
            simp only [d, Bool.not_true, cond_false]
            exact fin fun h => absurd e2 h
          · have d : decide ((i : Int) = (j : Int)) = false := by rw [decide_eq_false_iff_not]; omega
            simp only [d, Bool.not_false, cond_true]
            by_cases e3 : x.1 > 0
            · simp only [e3, decide_true, cond_true]
              rw [isRB_false fun h => by have := (h.2.2.2.2.1 i j hi hjm).2 e2; rw [hex] at this; omega]
            · simp only [e3, decide_false, cond_false]
              exact fin fun _ => by omega
        · simp only [e1, decide_false, Bool.not_false, cond_true]
          rw [isRB_false fun h => e1 (by have := (h.2.2.2.2.1 i j hi hjm).1; rw [hex] at this; exact this)]
      · rw [List.take_length] at s1
        simp only [r_impl_IsResponse_L4, not_lt_self, cond_false, wr_succ hi hB]
        have hsum : (intEq s.1 0 && intEq s.2 1) = decide (s = (0, 1)) := intEq2 (x := s) (y := (0, 1))
        rw [hsum]
        by_cases e : s = (0, 1)
        · simp only [e, decide_true, Bool.not_true, cond_false]
          refine hk () ⟨fun i' hi' j hj => ?_, fun y hy => ?_⟩
          · by_cases e2 : i' = i
            · subst e2; exact s2 j (by omega)
            · exact hq.1 i' (by omega) j hj
          · rw [List.take_add_one, hr] at hy
            simp only [List.mem_append, Option.toList_some, List.mem_singleton] at hy
            rcases hy with hy | rfl
            · exact hq.2 y hy
            · rw [rowS, ← s1, e]
        · simp only [e, decide_false, Bool.not_false, cond_true]
          rw [isRB_false fun h => e (by have := h.2.2.2.2.2 row hrm; rw [rowS, ← s1] at this; exact this)]
    · rw [List.take_length] at hq
      simp only [r_impl_IsResponse_L2, not_lt_self, cond_false]
      rw [isRB_true ⟨by omega, by omega, hSq, fun row hr => (hp row hr).2, fun i j hi hj => hq.1 i hi j hj, hq.2⟩]

theorem s_IsR (m : Mat) (hm : m.length ≤ 1073741824) : e_spec_IsResponse (m, ()) = some (isRB m) := by
  simp only [e_spec_IsResponse, r_spec_IsResponse, p_l01In, n_l01In, Option.bind_some]
  by_cases h1 : 1 ≤ m.length ∧ m.length ≤ 5
  case neg =>
    have d : (decide ((1 : Int) ≤ ((m.length : Nat) : Int)) && decide (((m.length : Nat) : Int) ≤ 5)) = false := by simp only [Bool.and_eq_false_iff, decide_eq_false_iff_not]; omega
    simp only [d, Bool.not_false, cond_true]
    rw [isRB_false fun h => h1 ⟨h.1, h.2.1⟩]
  have d : (decide ((1 : Int) ≤ ((m.length : Nat) : Int)) && decide (((m.length : Nat) : Int) ≤ 5)) = true := by simp only [Bool.and_eq_true, decide_eq_true_eq]; omega
  simp only [d, Bool.not_true, cond_false]
  have hB : m.length ≤ 9223372036854775807 := by omega
  have hN := N0_big
  refine iter_rule (R := Bool) (fun o => o = some (isRB m)) m (fun (_ : Unit) i => (m, m, (m.length : Int), i, ())) (fun i _ => ∀ row ∈ m.take i, row.length = m.length) (fun st i row kc hp hr hi hk => ?_) (fun st kc hp => ?_) (N := N0) (by omega) () (by simp)
  · have hrm := List.mem_of_getElem? hr
    simp only [r_spec_IsResponse_L0, lt_len, hi, decide_true, cond_true, getI_nat, hr, Option.bind_some, wr_succ hi hB]
    by_cases hl : row.length = m.length
    · have d : decide (((row.length : Nat) : Int) = ((m.length : Nat) : Int)) = true := by rw [decide_eq_true_eq]; omega
      simp only [d, Bool.not_true, cond_false]
      refine hk () fun y hy => ?_
      rw [List.take_add_one, hr] at hy
      simp only [List.mem_append, Option.toList_some, List.mem_singleton] at hy
      rcases hy with hy | rfl
      · exact hp y hy
      · exact hl
    · have d : decide (((row.length : Nat) : Int) = ((m.length : Nat) : Int)) = false := by rw [decide_eq_false_iff_not]; omega
      simp only [d, Bool.not_false, cond_true]
      rw [isRB_false fun h => hl (h.2.2.1 row hrm)]
  · rw [List.take_length] at hp
    simp only [r_spec_IsResponse_L0, not_lt_self, cond_false]
    have hSq : Sq m := hp
    refine iter_rule (R := Bool) (fun o => o = some (isRB m)) m (fun (_ : Unit) i => (m, m, (m.length : Int), i, ())) (fun i _ => (∀ i', i' < i → ∀ j, j < m.length → en m i' j = en m j i' ∧ (i' ≠ j → (en m i' j).1 ≤ 0)) ∧ ∀ row ∈ m.take i, (∀ x ∈ row, rOk x = true) ∧ rowS row = (0, 1)) (fun st i row kc hq hr hi hk => ?_) (fun st kc hq => ?_) (N := N0) (by omega) () ⟨fun _ h => absurd h (Nat.not_lt_zero _), by simp⟩
    · have hrm := List.mem_of_getElem? hr
      have hrl := hSq row hrm
      simp only [r_spec_IsResponse_L2, lt_len, hi, decide_true, cond_true, getI_nat, hr, Option.bind_some]
      refine iter_rule (R := Bool) (fun o => o = some (isRB m)) row (fun (s : Int × Int) j => (m, (i : Int), s, m, (m.length : Int), (i : Int), row, (row.length : Int), j, ())) (fun j s => s = (row.take j).foldl (sumV 1) (0, 1) ∧ (∀ j', j' < j → en m i j' = en m j' i ∧ (i ≠ j' → (en m i j').1 ≤ 0)) ∧ ∀ x ∈ row.take j, rOk x = true) (fun s j x kc2 ⟨s1, s2, s3⟩ hx hj hk2 => ?_) (fun s kc2 ⟨s1, s2, s3⟩ => ?_) (N := N0) (by omega) (0, 1) ⟨by simp, fun _ h => absurd h (Nat.not_lt_zero _), by simp⟩
      · have hjm : j < m.length := by omega
        obtain ⟨row2, g1, g2, g3⟩ := hSq.get hjm hi
        have hex := en_row hr hx
        have hxm := List.mem_of_getElem? hx
        simp only [r_spec_IsResponse_L4, lt_len, hj, decide_true, cond_true, getI_nat, hx, g1, g3, Option.bind_some, intEq2, (sum_both s x).2.1, s_rOk, wr_succ hj (show row.length ≤ 9223372036854775807 by omega)]
        cases hok : rOk x with
        | false =>
          simp only [Bool.not_false, cond_true]
          rw [isRB_false fun h => by have := h.2.2.2.1 row hrm x hxm; rw [hok] at this; cases this]
        | true =>
          simp only [Bool.not_true, cond_false]
          by_cases e1 : x = en m j i
          · simp only [e1, decide_true, Bool.not_true, cond_false]
            have fin : (i ≠ j → x.1 ≤ 0) → (fun o => o = some (isRB m)) (kc2 (m, (i : Int), sumV 1 s x, m, (m.length : Int), (i : Int), row, (row.length : Int), ((j + 1 : Nat) : Int), ())) := fun hle => hk2 _ ⟨by rw [take_foldl _ _ hx, ← s1], fun j' hj' => by
              by_cases e : j' = j
              · subst e; rw [hex]; exact ⟨e1, hle⟩
              · exact s2 j' (by omega), fun y hy => by
              rw [List.take_add_one, hx] at hy
              simp only [List.mem_append, Option.toList_some, List.mem_singleton] at hy
              rcases hy with hy | rfl
              · exact s3 y hy
              · exact hok⟩
            rw [← e1]
            by_cases e2 : i = j
            · have d : decide ((i : Int) = (j : Int)) = true := by rw [decide_eq_true_eq]; omega
              simp only [d, Bool.not_true, cond_false]
              exact fin fun h => absurd e2 h
            · have d : decide ((i : Int) = (j : Int)) = false := by rw [decide_eq_false_iff_not]; omega
              simp only [d, Bool.not_false, cond_true]
              by_cases e3 : x.1 > 0
              · simp only [e3, decide_true, cond_true]
                rw [isRB_false fun h => by have := (h.2.2.2.2.1 i j hi hjm).2 e2; rw [hex] at this; omega]
              · simp only [e3, decide_false, cond_false]
                exact fin fun _ => by omega
          · simp only [e1, decide_false, Bool.not_false, cond_true]
            rw [isRB_false fun h => e1 (by have := (h.2.2.2.2.1 i j hi hjm).1; rw [hex] at this; exact this)]
      · rw [List.take_length] at s1 s3
        simp only [r_spec_IsResponse_L4, not_lt_self, cond_false, wr_succ hi hB]
        by_cases e : s = (0, 1)
        · have e1 : decide (s.1 = 0) = true := by rw [e]; rfl
          have e2 : decide (s.2 = 1) = true := by rw [e]; rfl
          simp only [e1, e2, Bool.not_true, cond_false]
          refine hk () ⟨fun i' hi' j hj => ?_, fun y hy => ?_⟩
          · by_cases e2 : i' = i
            · subst e2; exact s2 j (by omega)
            · exact hq.1 i' (by omega) j hj
          · rw [List.take_add_one, hr] at hy
            simp only [List.mem_append, Option.toList_some, List.mem_singleton] at hy
            rcases hy with hy | rfl
            · exact hq.2 y hy
            · exact ⟨s3, by rw [rowS, ← s1, e]⟩
        · have hf : isRB m = false := isRB_false fun h => e (by have := h.2.2.2.2.2 row hrm; rw [rowS, ← s1] at this; exact this)
          rw [hf]
          by_cases e1 : s.1 = 0
          · have e2 : ¬ s.2 = 1 := fun h => e (Prod.ext e1 h)
            simp only [e1, e2, decide_true, decide_false, Bool.not_true, Bool.not_false, cond_true, cond_false]
          · simp only [e1, decide_false, Bool.not_false, cond_true]
    · rw [List.take_length] at hq
      simp only [r_spec_IsResponse_L2, not_lt_self, cond_false]
      rw [isRB_true ⟨by omega, by omega, hSq, fun row hr => (hq.2 row hr).1, fun i j hi hj => hq.1 i hi j hj, fun row hr => (hq.2 row hr).2⟩]

end Go.Sx.R

/- Matrices of stars: the laws. Conditions: none. -/
namespace Go.Sx.R
open Go Go.Sx

/-- The products of two pairs of entries agree. -/
def Crs (m : Mat) (i j k l : Nat) : Prop := rOk (timV (en m i j) (en m k l)) = true ∧ timV (en m i j) (en m k l) = timV (en m i l) (en m k j)
def Dst (m : Mat) (i j k l : Nat) : Prop := i ≠ j → i ≠ k → i ≠ l → j ≠ k → j ≠ l → k ≠ l → Crs m i j k l
def IsS (m : Mat) : Prop := IsR m ∧ 3 ≤ m.length ∧ (∀ i j, i < m.length → j < m.length → (en m i j).1 ≠ 0) ∧ ∀ i j k l, i < m.length → j < m.length → k < m.length → l < m.length → Dst m i j k l
noncomputable def isSB (m : Mat) : Bool := open Classical in decide (IsS m)
theorem isSB_false {m : Mat} (h : ¬ IsS m) : isSB m = false := by simp only [isSB, decide_eq_false_iff_not]; exact h
theorem isSB_true {m : Mat} (h : IsS m) : isSB m = true := by simp only [isSB, decide_eq_true_eq]; exact h
theorem isRB_iff {m : Mat} : isRB m = true ↔ IsR m := by simp only [isRB, decide_eq_true_eq]
theorem isSB_iff {m : Mat} : isSB m = true ↔ IsS m := by simp only [isSB, decide_eq_true_eq]

theorem p_IsS (m : Mat) : e_impl_IsStarMatrix (m, ()) = some (isSB m) := by
  simp only [e_impl_IsStarMatrix, r_impl_IsStarMatrix, p_IsR, Option.bind_some]
  cases hR : isRB m with
  | false =>
    simp only [Bool.not_false, cond_true]
    rw [isSB_false fun h => by have := isRB_iff.2 h.1; rw [hR] at this; cases this]
  | true =>
    have h := isRB_iff.1 hR
    obtain ⟨k1, k5, hSq, _⟩ := h
    simp only [Bool.not_true, cond_false]
    by_cases h3 : m.length < 3
    · have d : decide (((m.length : Nat) : Int) < 3) = true := by rw [decide_eq_true_eq]; omega
      simp only [d, cond_true]
      rw [isSB_false fun h => by have := h.2.1; omega]
    have d : decide (((m.length : Nat) : Int) < 3) = false := by rw [decide_eq_false_iff_not]; omega
    simp only [d, cond_false]
    have hB : m.length ≤ 9223372036854775807 := by omega
    have hN := N0_big
    have hd : (List.range m.length).length = m.length := by simp
    refine iter_rule (R := Bool) (fun o => o = some (isSB m)) m (fun (_ : Unit) i => (m, m, (m.length : Int), i, ())) (fun i _ => ∀ i' j, i' < i → j < m.length → (en m i' j).1 ≠ 0) (fun st i row kc hp hr hi hk => ?_) (fun st kc hp => ?_) (N := N0) (by omega) () (fun _ _ h => absurd h (Nat.not_lt_zero _))
    · have hrl := hSq row (List.mem_of_getElem? hr)
      simp only [r_impl_IsStarMatrix_L0, lt_len, hi, decide_true, cond_true, getI_nat, hr, Option.bind_some]
      refine iter_rule (R := Bool) (fun o => o = some (isSB m)) row (fun (_ : Unit) j => (m, m, (m.length : Int), (i : Int), row, (row.length : Int), j, ())) (fun j _ => ∀ j', j' < j → (en m i j').1 ≠ 0) (fun st j x kc2 hq hx hj hk2 => ?_) (fun st kc2 hq => ?_) (N := N0) (by omega) () (fun _ h => absurd h (Nat.not_lt_zero _))
      · have hex := en_row hr hx
        simp only [r_impl_IsStarMatrix_L2, lt_len, hj, decide_true, cond_true, getI_nat, hx, Option.bind_some, wr_succ hj (show row.length ≤ 9223372036854775807 by omega)]
        by_cases e : x.1 = 0
        · simp only [e, decide_true, cond_true]
          rw [isSB_false fun h => h.2.2.1 i j hi (by omega) (by rw [hex]; exact e)]
        · simp only [e, decide_false, cond_false]
          refine hk2 () fun j' hj' => ?_
          by_cases e2 : j' = j
          · subst e2; rw [hex]; exact e
          · exact hq j' (by omega)
      · simp only [r_impl_IsStarMatrix_L2, not_lt_self, cond_false, wr_succ hi hB]
        refine hk () fun i' j hi' hj => ?_
        by_cases e2 : i' = i
        · subst e2; exact hq j (by omega)
        · exact hp i' j (by omega) hj
    · simp only [r_impl_IsStarMatrix_L0, not_lt_self, cond_false]
      refine iter_rule (R := Bool) (fun o => o = some (isSB m)) (List.range m.length) (fun (_ : Unit) i => (m, (m.length : Int), i, ())) (fun i _ => ∀ i' j k l, i' < i → j < m.length → k < m.length → l < m.length → Dst m i' j k l) (fun st i _ kc hq _ hi hk => ?_) (fun st kc hq => ?_) (N := N0) (by omega) () (fun _ _ _ _ h => absurd h (Nat.not_lt_zero _))
      · rw [hd] at hi
        simp only [r_impl_IsStarMatrix_L4, lt_len, hi, decide_true, cond_true]
        refine iter_rule (R := Bool) (fun o => o = some (isSB m)) (List.range m.length) (fun (_ : Unit) j => (m, (i : Int), (m.length : Int), (i : Int), (m.length : Int), j, ())) (fun j _ => ∀ j' k l, j' < j → k < m.length → l < m.length → Dst m i j' k l) (fun st j _ kc2 hq2 _ hj hk2 => ?_) (fun st kc2 hq2 => ?_) (N := N0) (by omega) () (fun _ _ _ h => absurd h (Nat.not_lt_zero _))
        · rw [hd] at hj
          simp only [r_impl_IsStarMatrix_L6, lt_len, hj, decide_true, cond_true]
          refine iter_rule (R := Bool) (fun o => o = some (isSB m)) (List.range m.length) (fun (_ : Unit) k => (m, (i : Int), (j : Int), (m.length : Int), (i : Int), (m.length : Int), (j : Int), (m.length : Int), k, ())) (fun k _ => ∀ k' l, k' < k → l < m.length → Dst m i j k' l) (fun st k _ kc3 hq3 _ hkk hk3 => ?_) (fun st kc3 hq3 => ?_) (N := N0) (by omega) () (fun _ _ h => absurd h (Nat.not_lt_zero _))
          · rw [hd] at hkk
            simp only [r_impl_IsStarMatrix_L8, lt_len, hkk, decide_true, cond_true]
            refine iter_rule (R := Bool) (fun o => o = some (isSB m)) (List.range m.length) (fun (_ : Unit) l => (m, (i : Int), (j : Int), (k : Int), (m.length : Int), (i : Int), (m.length : Int), (j : Int), (m.length : Int), (k : Int), (m.length : Int), l, ())) (fun l _ => ∀ l', l' < l → Dst m i j k l') (fun st l _ kc4 hq4 _ hl hk4 => ?_) (fun st kc4 hq4 => ?_) (N := N0) (by omega) () (fun _ h => absurd h (Nat.not_lt_zero _))
            · rw [hd] at hl
              have skip : (i = j ∨ i = k ∨ i = l ∨ j = k ∨ j = l ∨ k = l) → (fun o => o = some (isSB m)) (kc4 (m, (i : Int), (j : Int), (k : Int), (m.length : Int), (i : Int), (m.length : Int), (j : Int), (m.length : Int), (k : Int), (m.length : Int), ((l + 1 : Nat) : Int), ())) := fun hc => hk4 () fun l' hl' => by
                by_cases e : l' = l
                · subst e; intro h1 h2 h3 h4 h5 h6; omega
                · exact hq4 l' (by omega)
              simp only [r_impl_IsStarMatrix_L10, lt_len, hl, decide_true, cond_true, wr_succ hl hB]
              by_cases c1 : i = j
              · have d : decide ((i : Int) = (j : Int)) = true := by rw [decide_eq_true_eq]; omega
                simp only [d, cond_true]; exact skip (by omega)
              · have d1 : decide ((i : Int) = (j : Int)) = false := by rw [decide_eq_false_iff_not]; omega
                simp only [d1, cond_false]
                by_cases c2 : i = k
                · have d : decide ((i : Int) = (k : Int)) = true := by rw [decide_eq_true_eq]; omega
                  simp only [d, cond_true]; exact skip (by omega)
                · have d2 : decide ((i : Int) = (k : Int)) = false := by rw [decide_eq_false_iff_not]; omega
                  simp only [d2, cond_false]
                  by_cases c3 : i = l
                  · have d : decide ((i : Int) = (l : Int)) = true := by rw [decide_eq_true_eq]; omega
                    simp only [d, cond_true]; exact skip (by omega)
                  · have d3 : decide ((i : Int) = (l : Int)) = false := by rw [decide_eq_false_iff_not]; omega
                    simp only [d3, cond_false]
                    by_cases c4 : j = k
                    · have d : decide ((j : Int) = (k : Int)) = true := by rw [decide_eq_true_eq]; omega
                      simp only [d, cond_true]; exact skip (by omega)
                    · have d4 : decide ((j : Int) = (k : Int)) = false := by rw [decide_eq_false_iff_not]; omega
                      simp only [d4, cond_false]
                      by_cases c5 : j = l
                      · have d : decide ((j : Int) = (l : Int)) = true := by rw [decide_eq_true_eq]; omega
                        simp only [d, cond_true]; exact skip (by omega)
                      · have d5 : decide ((j : Int) = (l : Int)) = false := by rw [decide_eq_false_iff_not]; omega
                        simp only [d5, cond_false]
                        by_cases c6 : k = l
                        · have d : decide ((k : Int) = (l : Int)) = true := by rw [decide_eq_true_eq]; omega
                          simp only [d, cond_true]; exact skip (by omega)
                        · have d6 : decide ((k : Int) = (l : Int)) = false := by rw [decide_eq_false_iff_not]; omega
                          obtain ⟨ri, a1, a2, a3⟩ := hSq.get hi hj
                          obtain ⟨rk, b1, b2, b3⟩ := hSq.get hkk hl
                          obtain ⟨ri', a1', _, a4⟩ := hSq.get hi hl
                          obtain ⟨rk', b1', _, b4⟩ := hSq.get hkk hj
                          have er : ri' = ri := by rw [a1] at a1'; simpa using a1'.symm
                          have ek : rk' = rk := by rw [b1] at b1'; simpa using b1'.symm
                          subst er; subst ek
                          have bad : ¬ Crs m i j k l → isSB m = false := fun hc => isSB_false fun h => hc (h.2.2.2 i j k l hi hj hkk hl c1 c2 c3 c4 c5 c6)
                          simp only [d6, cond_false, getI_nat, a1, a3, a4, b1, b3, b4, Option.bind_some, (times_both _ _).1, p_rOk, intEq2]
                          cases hok : rOk (timV (en m i j) (en m k l)) with
                          | false =>
                            simp only [Bool.not_false, cond_true]
                            rw [bad fun hc => by have := hc.1; rw [hok] at this; cases this]
                          | true =>
                            simp only [Bool.not_true, cond_false]
                            by_cases e : timV (en m i j) (en m k l) = timV (en m i l) (en m k j)
                            · simp only [e, decide_true, Bool.not_true, cond_false]
                              refine hk4 () fun l' hl' => ?_
                              by_cases e2 : l' = l
                              · subst e2; exact fun _ _ _ _ _ _ => ⟨hok, e⟩
                              · exact hq4 l' (by omega)
                            · simp only [e, decide_false, Bool.not_false, cond_true]
                              rw [bad fun hc => e hc.2]
            · rw [hd] at hq4
              have dl : decide ((((List.range m.length).length : Nat) : Int) < ((m.length : Nat) : Int)) = false := by rw [decide_eq_false_iff_not, hd]; omega
              simp only [r_impl_IsStarMatrix_L10, dl, cond_false, wr_succ hkk hB]
              refine hk3 () fun k' l hk' hl => ?_
              by_cases e2 : k' = k
              · subst e2; exact hq4 l hl
              · exact hq3 k' l (by omega) hl
          · rw [hd] at hq3
            have dl : decide ((((List.range m.length).length : Nat) : Int) < ((m.length : Nat) : Int)) = false := by rw [decide_eq_false_iff_not, hd]; omega
            simp only [r_impl_IsStarMatrix_L8, dl, cond_false, wr_succ hj hB]
            refine hk2 () fun j' k l hj' hk' hl => ?_
            by_cases e2 : j' = j
            · subst e2; exact hq3 k l hk' hl
            · exact hq2 j' k l (by omega) hk' hl
        · rw [hd] at hq2
          have dl : decide ((((List.range m.length).length : Nat) : Int) < ((m.length : Nat) : Int)) = false := by rw [decide_eq_false_iff_not, hd]; omega
          simp only [r_impl_IsStarMatrix_L6, dl, cond_false, wr_succ hi hB]
          refine hk () fun i' j k l hi' hj hk' hl => ?_
          by_cases e2 : i' = i
          · subst e2; exact hq2 j k l hj hk' hl
          · exact hq i' j k l (by omega) hj hk' hl
      · rw [hd] at hq
        have dl : decide ((((List.range m.length).length : Nat) : Int) < ((m.length : Nat) : Int)) = false := by rw [decide_eq_false_iff_not, hd]; omega
        simp only [r_impl_IsStarMatrix_L4, dl, cond_false]
        rw [isSB_true ⟨isRB_iff.1 hR, by omega, hp, hq⟩]

theorem s_Cross (m : Mat) (hSq : Sq m) {i j k l : Nat} (hi : i < m.length) (hj : j < m.length) (hk : k < m.length) (hl : l < m.length) : ∃ b : Bool, e_spec_l08Cross (m, (i : Int), (j : Int), (k : Int), (l : Int), ()) = some b ∧ (b = true ↔ Crs m i j k l) := by
  obtain ⟨ri, a1, a2, a3⟩ := hSq.get hi hj
  obtain ⟨rk, b1, b2, b3⟩ := hSq.get hk hl
  obtain ⟨ri', a1', _, a4⟩ := hSq.get hi hl
  obtain ⟨rk', b1', _, b4⟩ := hSq.get hk hj
  have er : ri' = ri := by rw [a1] at a1'; simpa using a1'.symm
  have ek : rk' = rk := by rw [b1] at b1'; simpa using b1'.symm
  subst er; subst ek
  simp only [e_spec_l08Cross, r_spec_l08Cross, getI_nat, a1, a3, a4, b1, b3, b4, Option.bind_some, (times_both _ _).2.1, s_rOk, intEq2]
  by_cases e : timV (en m i j) (en m k l) = timV (en m i l) (en m k j)
  · simp only [e, decide_true, cond_true]
    exact ⟨_, rfl, ⟨fun h => ⟨by rw [e]; exact h, e⟩, fun h => by have := h.1; rw [e] at this; exact this⟩⟩
  · simp only [e, decide_false, cond_false]
    exact ⟨false, rfl, by simp only [Bool.false_eq_true, false_iff]; exact fun h => e h.2⟩

/-- The parts of a number to the base K. -/
theorem parts_lt {K t : Nat} (hK : 0 < K) (ht : t < K * K * K * K) : t / K / K / K < K := by
  rw [Nat.div_lt_iff_lt_mul hK, Nat.div_lt_iff_lt_mul hK, Nat.div_lt_iff_lt_mul hK]; exact ht

theorem parts_of {K a b c d : Nat} (ha : a < K) (hb : b < K) (hc : c < K) (hd : d < K) : ∃ t, t < K * K * K * K ∧ t % K = a ∧ t / K % K = b ∧ t / K / K % K = c ∧ t / K / K / K = d := by
  have hK : 0 < K := by omega
  have m1 : ∀ x y : Nat, x < K → (x + K * y) % K = x := fun x y hx => by rw [Nat.add_mul_mod_self_left, Nat.mod_eq_of_lt hx]
  have q1 : ∀ x y : Nat, x < K → (x + K * y) / K = y := fun x y hx => by rw [Nat.add_mul_div_left _ _ hK, Nat.div_eq_of_lt hx, Nat.zero_add]
  refine ⟨a + K * (b + K * (c + K * d)), ?_, m1 _ _ ha, ?_, ?_, ?_⟩
  · have h1 : c + K * d < K * K := by
      have : K * (d + 1) ≤ K * K := Nat.mul_le_mul_left K hd
      rw [Nat.mul_add] at this; omega
    have h2 : b + K * (c + K * d) < K * K * K := by
      have : K * (c + K * d + 1) ≤ K * (K * K) := Nat.mul_le_mul_left K h1
      rw [Nat.mul_add, ← Nat.mul_assoc] at this; omega
    have h3 : K * (b + K * (c + K * d) + 1) ≤ K * (K * K * K) := Nat.mul_le_mul_left K h2
    have e : K * (K * K * K) = K * K * K * K := by rw [Nat.mul_comm]
    rw [e, Nat.mul_add] at h3; omega
  · rw [q1 _ _ ha, m1 _ _ hb]
  · rw [q1 _ _ ha, q1 _ _ hb, m1 _ _ hc]
  · rw [q1 _ _ ha, q1 _ _ hb, q1 _ _ hc]

theorem s_IsS (m : Mat) (hm : m.length ≤ 1073741824) : e_spec_IsStarMatrix (m, ()) = some (isSB m) := by
  simp only [e_spec_IsStarMatrix, r_spec_IsStarMatrix, s_IsR m hm, Option.bind_some]
  cases hR : isRB m with
  | false =>
    simp only [Bool.not_false, cond_true]
    rw [isSB_false fun h => by have := isRB_iff.2 h.1; rw [hR] at this; cases this]
  | true =>
    have h := isRB_iff.1 hR
    obtain ⟨k1, k5, hSq, _⟩ := h
    simp only [Bool.not_true, cond_false]
    by_cases h3 : m.length < 3
    · have d : decide (((m.length : Nat) : Int) < 3) = true := by rw [decide_eq_true_eq]; omega
      simp only [d, cond_true]
      rw [isSB_false fun h => by have := h.2.1; omega]
    have d : decide (((m.length : Nat) : Int) < 3) = false := by rw [decide_eq_false_iff_not]; omega
    simp only [d, cond_false]
    have hN := N0_big
    generalize hK : m.length = K at *
    have hK0 : 0 < K := by omega
    have p2 : K * K ≤ 25 := Nat.mul_le_mul k5 k5
    have p3 : K * K * K ≤ 125 := Nat.mul_le_mul p2 k5
    have p4 : K * K * K * K ≤ 625 := Nat.mul_le_mul p3 k5
    have c2 : (K : Int) * (K : Int) = ((K * K : Nat) : Int) := by rw [Int.natCast_mul]
    have c3 : ((K * K : Nat) : Int) * (K : Int) = ((K * K * K : Nat) : Int) := by rw [Int.natCast_mul (K * K)]
    have c4 : ((K * K * K : Nat) : Int) * (K : Int) = ((K * K * K * K : Nat) : Int) := by rw [Int.natCast_mul (K * K * K)]
    have w2 : wr ((K : Int) * (K : Int)) = ((K * K : Nat) : Int) := by rw [c2]; exact wr_id (by omega) (by omega)
    have w3 : wr (((K * K : Nat) : Int) * (K : Int)) = ((K * K * K : Nat) : Int) := by rw [c3]; exact wr_id (by omega) (by omega)
    have w4 : wr (((K * K * K : Nat) : Int) * (K : Int)) = ((K * K * K * K : Nat) : Int) := by rw [c4]; exact wr_id (by omega) (by omega)
    generalize hT : K * K * K * K = T at *
    have hd : (List.range T).length = T := by simp
    have dk : decide ((K : Int) = 0) = false := by rw [decide_eq_false_iff_not]; omega
    refine iter_rule (R := Bool) (fun o => o = some (isSB m)) (List.range T) (fun (_ : Unit) t => (m, (K : Int), t, ())) (fun t _ => ∀ t', t' < t → (en m (t' % K) (t' / K % K)).1 ≠ 0 ∧ Dst m (t' % K) (t' / K % K) (t' / K / K % K) (t' / K / K / K)) (fun st t _ kc hq _ ht hk => ?_) (fun st kc hq => ?_) (N := N0) (by omega) () (fun _ h => absurd h (Nat.not_lt_zero _))
    · rw [hd] at ht
      have dt : decide ((t : Int) < (T : Int)) = true := by rw [decide_eq_true_eq]; omega
      have t1 : ∀ x : Nat, Int.tmod (x : Int) (K : Int) = ((x % K : Nat) : Int) := fun x => by rw [Int.tmod_eq_emod_of_nonneg (by omega)]; simp
      have t2 : ∀ x : Nat, Int.tdiv (x : Int) (K : Int) = ((x / K : Nat) : Int) := fun x => by rw [Int.tdiv_eq_ediv_of_nonneg (by omega)]; simp
      have l1 : t / K ≤ t := Nat.div_le_self _ _
      have l2 : t / K / K ≤ t := Nat.le_trans (Nat.div_le_self _ _) l1
      have l3 : t / K / K / K ≤ t := Nat.le_trans (Nat.div_le_self _ _) l2
      have u1 : wr ((t / K : Nat) : Int) = ((t / K : Nat) : Int) := by generalize t / K = q at *; exact wr_id (by omega) (by omega)
      have u2 : wr ((t / K / K : Nat) : Int) = ((t / K / K : Nat) : Int) := by generalize t / K / K = q at *; exact wr_id (by omega) (by omega)
      have u3 : wr ((t / K / K / K : Nat) : Int) = ((t / K / K / K : Nat) : Int) := by generalize t / K / K / K = q at *; exact wr_id (by omega) (by omega)
      have ha : t % K < K := Nat.mod_lt _ hK0
      have hb : t / K % K < K := Nat.mod_lt _ hK0
      have hc : t / K / K % K < K := Nat.mod_lt _ hK0
      have hdd : t / K / K / K < K := parts_lt hK0 (by omega)
      have ws : wr ((t : Int) + 1) = ((t + 1 : Nat) : Int) := wr_succ ht (by omega)
      simp only [r_spec_IsStarMatrix_L0, w2, w3, w4, dt, cond_true, dk, cond_false, t1, t2, u1, u2, u3, ws]
      have keep : (en m (t % K) (t / K % K)).1 ≠ 0 → Dst m (t % K) (t / K % K) (t / K / K % K) (t / K / K / K) → (fun o => o = some (isSB m)) (kc (m, (K : Int), ((t + 1 : Nat) : Int), ())) := fun z1 z2 => hk () fun t' ht' => by
        by_cases e : t' = t
        · subst e; exact ⟨z1, z2⟩
        · exact hq t' (by omega)
      generalize t % K = a at *
      generalize t / K % K = b at *
      generalize t / K / K % K = c at *
      generalize t / K / K / K = dd at *
      obtain ⟨row, g1, _, g3⟩ := hSq.get (i := a) (j := b) (by omega) (by omega)
      simp only [getI_nat, g1, g3, Option.bind_some]
      by_cases z : (en m a b).1 = 0
      · simp only [z, decide_true, cond_true]
        rw [isSB_false fun h => h.2.2.1 a b (by omega) (by omega) z]
      · simp only [z, decide_false, cond_false]
        have skip : (a = b ∨ a = c ∨ a = dd ∨ b = c ∨ b = dd ∨ c = dd) → (fun o => o = some (isSB m)) (kc (m, (K : Int), ((t + 1 : Nat) : Int), ())) := fun hcs => keep z (by intro h1 h2 h3 h4 h5 h6; omega)
        by_cases c1 : a = b
        · have d : decide ((a : Int) = (b : Int)) = true := by rw [decide_eq_true_eq]; omega
          simp only [d, Bool.not_true, cond_false]; exact skip (by omega)
        · have d1 : decide ((a : Int) = (b : Int)) = false := by rw [decide_eq_false_iff_not]; omega
          simp only [d1, Bool.not_false, cond_true]
          by_cases c2 : a = c
          · have d : decide ((a : Int) = (c : Int)) = true := by rw [decide_eq_true_eq]; omega
            simp only [d, Bool.not_true, cond_false]; exact skip (by omega)
          · have d2 : decide ((a : Int) = (c : Int)) = false := by rw [decide_eq_false_iff_not]; omega
            simp only [d2, Bool.not_false, cond_true]
            by_cases c3 : a = dd
            · have d : decide ((a : Int) = (dd : Int)) = true := by rw [decide_eq_true_eq]; omega
              simp only [d, Bool.not_true, cond_false]; exact skip (by omega)
            · have d3 : decide ((a : Int) = (dd : Int)) = false := by rw [decide_eq_false_iff_not]; omega
              simp only [d3, Bool.not_false, cond_true]
              by_cases c4 : b = c
              · have d : decide ((b : Int) = (c : Int)) = true := by rw [decide_eq_true_eq]; omega
                simp only [d, Bool.not_true, cond_false]; exact skip (by omega)
              · have d4 : decide ((b : Int) = (c : Int)) = false := by rw [decide_eq_false_iff_not]; omega
                simp only [d4, Bool.not_false, cond_true]
                by_cases c5 : b = dd
                · have d : decide ((b : Int) = (dd : Int)) = true := by rw [decide_eq_true_eq]; omega
                  simp only [d, Bool.not_true, cond_false]; exact skip (by omega)
                · have d5 : decide ((b : Int) = (dd : Int)) = false := by rw [decide_eq_false_iff_not]; omega
                  simp only [d5, Bool.not_false, cond_true]
                  by_cases c6 : c = dd
                  · have d : decide ((c : Int) = (dd : Int)) = true := by rw [decide_eq_true_eq]; omega
                    simp only [d, Bool.not_true, cond_false]; exact skip (by omega)
                  · have d6 : decide ((c : Int) = (dd : Int)) = false := by rw [decide_eq_false_iff_not]; omega
                    obtain ⟨bb, e1, e2⟩ := s_Cross m hSq (i := a) (j := b) (k := c) (l := dd) (by omega) (by omega) (by omega) (by omega)
                    simp only [d6, Bool.not_false, cond_true, e1, Option.bind_some]
                    cases hbb : bb with
                    | false =>
                      simp only [Bool.not_false, cond_true]
                      rw [isSB_false fun h => by
                        have := e2.2 (h.2.2.2 a b c dd (by omega) (by omega) (by omega) (by omega) c1 c2 c3 c4 c5 c6)
                        rw [hbb] at this; cases this]
                    | true =>
                      simp only [Bool.not_true, cond_false]
                      exact keep z fun _ _ _ _ _ _ => e2.1 hbb
    · rw [hd] at hq
      have dt : decide ((((List.range T).length : Nat) : Int) < (T : Int)) = false := by rw [decide_eq_false_iff_not, hd]; omega
      simp only [r_spec_IsStarMatrix_L0, w2, w3, w4, dt, cond_false]
      rw [isSB_true ⟨isRB_iff.1 hR, by omega, fun i j hi hj => ?_, fun i j k l hi hj hk hl => ?_⟩]
      · obtain ⟨t, ht, e1, e2, _⟩ := parts_of (K := K) (a := i) (b := j) (c := 0) (d := 0) (by omega) (by omega) hK0 hK0
        have := (hq t (by omega)).1
        rw [e1, e2] at this; exact this
      · obtain ⟨t, ht, e1, e2, e3, e4⟩ := parts_of (K := K) (a := i) (b := j) (c := k) (d := l) (by omega) (by omega) (by omega) (by omega)
        have := (hq t (by omega)).2
        rw [e1, e2, e3, e4] at this; exact this

theorem law_IsStarMatrix (m : Mat) (hm : Sm.sm BB m) : e_laws_FnExactIsStarMatrix (m, ()) = some true := by
  simp only [e_laws_FnExactIsStarMatrix, r_laws_FnExactIsStarMatrix]
  obtain ⟨r, e1, e2, e3⟩ := sz_RatioSS m 1048576 hm (by omega) (by omega)
  simp only [e1, Option.bind_some]
  by_cases hr : r < 0
  · simp [hr]
  · have hd : decide (r < 0) = false := by simp; omega
    have h0 : Sm.sm B0 m := e3 (by omega)
    have hb : Sm.sm B1 m := up_pairSS B01 h0
    simp only [hd, cond_false, to_RatioSS m hb, Option.bind_some, p_IsS m, s_IsS m hb.1, eq_RatioSS m hb, Bool.not_true, beqB_self]

end Go.Sx.R

/- The weights of a star: the law. Conditions: none. -/
namespace Go.Sx.R
open Go Go.Sx

def pairG (i : Nat) (q : List Int) (j : Nat) (_ : Nat) : List Int := if j ≠ i ∧ q.length < 2 then q ++ [(j : Int)] else q
/-- The two nodes beside a node. -/
def fstN (i : Nat) : Nat := if i = 0 then 1 else 0
def sndN (i : Nat) : Nat := if i = 0 then 2 else if i = 1 then 2 else 1

theorem pairs_ok : ∀ K, K < 6 → 3 ≤ K → ∀ i, i < K → foldI (pairG i) (List.range K) 0 [] = [(fstN i : Int), (sndN i : Int)] := by decide

/-- The weight of a wire of a star. -/
noncomputable def wtV (m : Mat) (i : Nat) : Int × Int := sumV (-1) (en m i i) (timV (timV (en m i (fstN i)) (en m i (sndN i))) (invV (en m (fstN i) (sndN i))))

theorem nb {K i : Nat} (hK : 3 ≤ K) (_hi : i < K) : fstN i < K ∧ sndN i < K := by unfold fstN sndN; split <;> (try split) <;> omega

theorem Sq.two {m : Mat} (h : Sq m) {i j k : Nat} (hi : i < m.length) (hj : j < m.length) (hk : k < m.length) : ∃ row, m[i]? = some row ∧ row[j]? = some (en m i j) ∧ row[k]? = some (en m i k) := by
  obtain ⟨r, a1, _, a3⟩ := h.get hi hj
  obtain ⟨r', b1, _, b3⟩ := h.get hi hk
  have : r' = r := by rw [a1] at b1; simpa using b1.symm
  subst this
  exact ⟨_, a1, a3, b3⟩

theorem s_Wt (m : Mat) (hSq : Sq m) (h3 : 3 ≤ m.length) {i : Nat} (hi : i < m.length) (hm : m.length ≤ 5) : e_spec_l08Weight (m, (i : Int), ()) = some (wtV m i) := by
  have hn := nb h3 hi
  obtain ⟨ri, a1, a2, a3⟩ := hSq.two hi hn.1 hn.2
  obtain ⟨ri', a1', a4, _⟩ := hSq.two hi hi hi
  have er : ri' = ri := by rw [a1] at a1'; simpa using a1'.symm
  subst er
  obtain ⟨rj, b1, b2, _⟩ := hSq.two hn.1 hn.2 hn.2
  have w1 : wr (1 + 1) = ((2 : Nat) : Int) := by decide
  have w0 : wr (0 + 1) = ((1 : Nat) : Int) := by decide
  have w2 : wr (((1 : Nat) : Int) + 1) = ((2 : Nat) : Int) := by decide
  simp only [e_spec_l08Weight, r_spec_l08Weight, w0, w1]
  by_cases c0 : i = 0
  · subst c0
    have d : decide (((0 : Nat) : Int) = 0) = true := by decide
    have d2 : decide (((2 : Nat) : Int) = ((0 : Nat) : Int)) = false := by decide
    have f1 : fstN 0 = 1 := rfl
    have f2 : sndN 0 = 2 := rfl
    simp only [f1, f2] at a2 a3 b1 b2
    have g1 : ∀ l : Mat, getI l (1 : Int) = l[1]? := fun l => getI_nat l 1
    have g2 : ∀ l : List (Int × Int), getI l (1 : Int) = l[1]? := fun l => getI_nat l 1
    simp only [d, d2, cond_true, cond_false, getI_nat, g1, g2, a1, a2, a3, a4, b1, b2, Option.bind_some, (times_both _ _).2.1, (inv_both _).2.1, (diff_both _ _).2.1]
    simp only [wtV, f1, f2]
  · have d : decide ((i : Int) = 0) = false := by rw [decide_eq_false_iff_not]; omega
    have g1 : ∀ l : Mat, getI l (0 : Int) = l[0]? := fun l => getI_nat l 0
    have g2 : ∀ l : List (Int × Int), getI l (0 : Int) = l[0]? := fun l => getI_nat l 0
    have f1 : fstN i = 0 := if_neg c0
    by_cases c1 : i = 1
    · subst c1
      have f2 : sndN 1 = 2 := rfl
      simp only [f1, f2] at a2 a3 b1 b2
      have d2 : decide (((1 : Nat) : Int) = ((1 : Nat) : Int)) = true := by decide
      simp only [d, d2, decide_true, cond_true, cond_false, w2, getI_nat, g1, g2, a1, a2, a3, a4, b1, b2, Option.bind_some, (times_both _ _).2.1, (inv_both _).2.1, (diff_both _ _).2.1]
      simp only [wtV, f1, f2]
    · have f2 : sndN i = 1 := by unfold sndN; rw [if_neg c0, if_neg c1]
      simp only [f1, f2] at a2 a3 b1 b2
      have d2 : decide (((1 : Nat) : Int) = (i : Int)) = false := by rw [decide_eq_false_iff_not]; omega
      simp only [d, d2, cond_false, getI_nat, g1, g2, a1, a2, a3, a4, b1, b2, Option.bind_some, (times_both _ _).2.1, (inv_both _).2.1, (diff_both _ _).2.1]
      simp only [wtV, f1, f2]

/-- What both sides answer. -/
noncomputable def wsV (m : Mat) : List (Int × Int) × Bool := if ∀ i, i < m.length → rOk (wtV m i) = true then ((List.range m.length).map (wtV m), true) else ([], false)

theorem wsV_bad {m : Mat} {i : Nat} (hi : i < m.length) (h : rOk (wtV m i) = false) : wsV m = ([], false) := by
  rw [wsV, if_neg]; intro q; have := q i hi; rw [h] at this; cases this

theorem weights_both (m : Mat) (hm : m.length ≤ 1073741824) : ∃ q : List (Int × Int) × Bool, e_impl_StarWeights (m, ()) = some q ∧ e_spec_StarWeights (m, ()) = some q ∧ Sm.sm B1 q.1 := by
  simp only [e_impl_StarWeights, r_impl_StarWeights, e_spec_StarWeights, r_spec_StarWeights, p_IsS, s_IsS m hm, Option.bind_some]
  cases hS : isSB m with
  | false => exact ⟨([], false), rfl, rfl, by simp [sm_list]⟩
  | true =>
    obtain ⟨⟨k1, k5, hSq, _⟩, h3, _⟩ := isSB_iff.1 hS
    have hN := N0_big
    have hB : m.length ≤ 9223372036854775807 := by omega
    have hd : (List.range m.length).length = m.length := by simp
    simp only [Bool.not_true, cond_false]
    have tk : ∀ i, i < m.length → (List.range (i + 1)).map (wtV m) = (List.range i).map (wtV m) ++ [wtV m i] := fun i _ => by rw [List.range_succ, List.map_append]; rfl
    have fin : ∀ q : List (Int × Int), q = (List.range m.length).map (wtV m) → (∀ i, i < m.length → rOk (wtV m i) = true) → (q, true) = wsV m := fun q hq hok => by rw [wsV, if_pos hok, hq]
    refine ⟨wsV m, ?_, ?_, ?_⟩
    · refine iter_rule (R := List (Int × Int) × Bool) (fun o => o = some (wsV m)) (List.range m.length) (fun (q : List (Int × Int)) i => (m, q, (m.length : Int), i, ())) (fun i q => q = (List.range i).map (wtV m) ∧ ∀ j, j < i → rOk (wtV m j) = true) (fun q i _ kc ⟨hq, hok⟩ _ hi hk => ?_) (fun q kc ⟨hq, hok⟩ => ?_) (N := N0) (by omega) [] ⟨rfl, fun _ h => absurd h (Nat.not_lt_zero _)⟩
      · rw [hd] at hi
        have hn := nb h3 hi
        obtain ⟨ri, a1, a2, a3⟩ := hSq.two hi hn.1 hn.2
        obtain ⟨ri', a1', a4, _⟩ := hSq.two hi hi hi
        have er : ri' = ri := by rw [a1] at a1'; simpa using a1'.symm
        subst er
        obtain ⟨rj, b1, b2, _⟩ := hSq.two hn.1 hn.2 hn.2
        have a := iter_fold (R := List (Int × Int) × Bool) (body := r_impl_StarWeights_L2 e_impl_IsStarMatrix e_impl_RatioTimes e_impl_RatioInverse e_impl_RatioDiff e_impl_RatioOk N0) (List.range m.length) (fun (p : List Int) j => (m, q, (i : Int), p, (m.length : Int), (i : Int), (m.length : Int), j, ())) (fun _ p => p.length ≤ 2) (pairG i)
          (fun p j x kc ke hp _ hj => by
            rw [hd] at hj
            have bl : Nat.ble (p.length + List.length ((j : Int) :: ([] : List Int))) 17179869184 = true := ble_true (by simp; omega)
            refine ⟨?_, by simp only [pairG]; split; · simp; omega
                           · omega⟩
            simp only [r_impl_StarWeights_L2, lt_len, hj, decide_true, cond_true, wr_succ hj hB, pairG]
            by_cases c1 : j = i
            · have dd : decide ((j : Int) = (i : Int)) = true := by rw [decide_eq_true_eq]; omega
              rw [if_neg (by omega)]
              simp only [dd, Bool.not_true, cond_false]
            · have dd : decide ((j : Int) = (i : Int)) = false := by rw [decide_eq_false_iff_not]; omega
              simp only [dd, Bool.not_false, cond_true]
              by_cases c2 : p.length < 2
              · have d2 : decide (((p.length : Nat) : Int) < 2) = true := by rw [decide_eq_true_eq]; omega
                rw [if_pos ⟨c1, c2⟩]
                simp only [d2, cond_true, bl]
              · have d2 : decide (((p.length : Nat) : Int) < 2) = false := by rw [decide_eq_false_iff_not]; omega
                rw [if_neg (by omega)]
                simp only [d2, cond_false])
          (fun p kc ke _ => by
            have dl : decide ((((List.range m.length).length : Nat) : Int) < ((m.length : Nat) : Int)) = false := by rw [decide_eq_false_iff_not, hd]; omega
            simp only [r_impl_StarWeights_L2, dl, cond_false]) (N := N0) (by omega) [] (by simp)
        simp only [r_impl_StarWeights_L0, lt_len, hi, decide_true, cond_true]
        rw [(a _).1, pairs_ok m.length (by omega) h3 i hi]
        have g0 : getI [((fstN i : Nat) : Int), ((sndN i : Nat) : Int)] 0 = some ((fstN i : Nat) : Int) := rfl
        have g1 : getI [((fstN i : Nat) : Int), ((sndN i : Nat) : Int)] 1 = some ((sndN i : Nat) : Int) := rfl
        have hql : q.length ≤ 5 := by rw [hq]; simp; omega
        have bl : ∀ v : Int × Int, Nat.ble (q.length + List.length (v :: ([] : List (Int × Int)))) 17179869184 = true := fun v => ble_true (by simp; omega)
        have hw : sumV (-1) (en m i i) (timV (timV (en m i (fstN i)) (en m i (sndN i))) (invV (en m (fstN i) (sndN i)))) = wtV m i := rfl
        simp only [g0, g1, getI_nat, a1, a2, a3, a4, b1, b2, Option.bind_some, (times_both _ _).1, (inv_both _).1, (diff_both _ _).1, p_rOk, bl, cond_true, wr_succ hi hB, hw]
        cases hr : rOk (wtV m i) with
        | false => simp only [Bool.not_false, cond_true, wsV_bad hi hr]
        | true =>
          simp only [Bool.not_true, cond_false]
          refine hk _ ⟨by rw [tk i hi, hq], fun j hj => ?_⟩
          by_cases e : j = i
          · subst e; exact hr
          · exact hok j (by omega)
      · rw [hd] at hq hok
        have dl : decide ((((List.range m.length).length : Nat) : Int) < ((m.length : Nat) : Int)) = false := by rw [decide_eq_false_iff_not, hd]; omega
        simp only [r_impl_StarWeights_L0, dl, cond_false, fin q hq hok]
    · refine iter_rule (R := List (Int × Int) × Bool) (fun o => o = some (wsV m)) (List.range m.length) (fun (q : List (Int × Int)) i => (m, q, (m.length : Int), i, ())) (fun i q => q = (List.range i).map (wtV m) ∧ ∀ j, j < i → rOk (wtV m j) = true) (fun q i _ kc ⟨hq, hok⟩ _ hi hk => ?_) (fun q kc ⟨hq, hok⟩ => ?_) (N := N0) (by omega) [] ⟨rfl, fun _ h => absurd h (Nat.not_lt_zero _)⟩
      · rw [hd] at hi
        have hql : q.length ≤ 5 := by rw [hq]; simp; omega
        have bl : ∀ v : Int × Int, Nat.ble (q.length + List.length (v :: ([] : List (Int × Int)))) 17179869184 = true := fun v => ble_true (by simp; omega)
        simp only [r_spec_StarWeights_L0, lt_len, hi, decide_true, cond_true, s_Wt m hSq h3 hi k5, s_rOk, Option.bind_some, bl, wr_succ hi hB]
        cases hr : rOk (wtV m i) with
        | false => simp only [Bool.not_false, cond_true, wsV_bad hi hr]
        | true =>
          simp only [Bool.not_true, cond_false]
          refine hk _ ⟨by rw [tk i hi, hq], fun j hj => ?_⟩
          by_cases e : j = i
          · subst e; exact hr
          · exact hok j (by omega)
      · rw [hd] at hq hok
        have dl : decide ((((List.range m.length).length : Nat) : Int) < ((m.length : Nat) : Int)) = false := by rw [decide_eq_false_iff_not, hd]; omega
        simp only [r_spec_StarWeights_L0, dl, cond_false, fin q hq hok]
    · rw [wsV]
      split
      · refine ⟨by simp only [List.length_map, List.length_range, B1]; omega, fun x hx => ?_⟩
        obtain ⟨i, _, rfl⟩ := List.mem_map.1 hx
        exact (diff_both _ _).2.2
      · simp [sm_list]

theorem law_StarWeights (m : Mat) (hm : Sm.sm BB m) : e_laws_FnExactStarWeights (m, ()) = some true := by
  simp only [e_laws_FnExactStarWeights, r_laws_FnExactStarWeights]
  obtain ⟨r, e1, e2, e3⟩ := sz_RatioSS m 1048576 hm (by omega) (by omega)
  simp only [e1, Option.bind_some]
  by_cases hr : r < 0
  · simp [hr]
  · have hd : decide (r < 0) = false := by simp; omega
    have h0 : Sm.sm B0 m := e3 (by omega)
    have hb : Sm.sm B1 m := up_pairSS B01 h0
    obtain ⟨q, q1, q2, q3⟩ := weights_both m hb.1
    obtain ⟨m', k', m1, m2⟩ := mm_RatioSS m 1 h0 (by omega) (by omega)
    obtain ⟨n2, k2, h1, h2, h3, _⟩ := mh_RatioS q.1 1 q3 (by omega) (by omega)
    have d1 : decide (k' < 0) = false := by rw [decide_eq_false_iff_not]; omega
    have d2 : decide (k2 < 0) = false := by rw [decide_eq_false_iff_not]; omega
    simp only [hd, cond_false, to_RatioSS m hb, Option.bind_some, q1, q2, eq_RatioS q.1 q3, eq_RatioSS m hb, Bool.not_true, beqB_self, m1, d1, h1, h2, d2, decide_true]

end Go.Sx.R
