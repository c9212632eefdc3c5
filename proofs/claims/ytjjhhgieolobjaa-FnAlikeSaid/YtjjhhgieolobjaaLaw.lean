/- The law in plain words, part 2. Conditions: none. -/
import Derived.Test.YtjjhhgieolobjaaLawa
namespace Go.Sx.R
open Go Go.Sx

theorem foldI_near (ws : List W3) (v : Int) : ∀ (l : List Nat) (i : Nat) (q : List Int), foldI (nearG ws v) l i q = q ++ ((List.range' i l.length).filter fun (u : Nat) => decide (wbt ws v (u : Int) > 0)).map fun (u : Nat) => (u : Int)
  | [], _, q => by simp [foldI]
  | x :: l, i, q => by
    simp only [foldI, foldI_near ws v l (i + 1), nearG, List.length_cons, List.range'_succ, List.filter_cons]
    by_cases h : wbt ws v (i : Int) > 0
    · simp [h]
    · simp [h]

theorem near_nat (ws : List W3) (v : Int) (m : Nat) : ∃ nl : List Nat, near ws v m = nl.map (fun (u : Nat) => (u : Int)) ∧ nl.Pairwise (· < ·) ∧ ∀ u : Nat, u ∈ nl ↔ u < m ∧ 0 < wbt ws v (u : Int) := by
  refine ⟨(List.range' 0 m).filter fun (u : Nat) => decide (wbt ws v (u : Int) > 0), ?_, List.Pairwise.filter _ List.pairwise_lt_range', fun u => ?_⟩
  · simp only [near, foldI_near, List.length_range, List.nil_append]
  · rw [List.mem_filter, List.mem_range'_1]; simp

def F1 (ws : List W3) (v : Nat) (s : Int) (l : List W3) (a b : Nat) : Int := if l.any (keyB (un v a : Int) (un v b : Int)) = true then wbt ws (un v a : Int) (un v b : Int) * s else 0
def F2 (ws : List W3) (v : Nat) (s : Int) (q : List Nat) (a b : Nat) : Int := wbt ws (un v a : Int) (un v b : Int) * s + if un v a ∈ q then wbt ws (v : Int) (un v a : Int) * wbt ws (v : Int) (un v b : Int) else 0
def F3 (ws : List W3) (v : Nat) (s : Int) (q : List Nat) (u : Nat) (r : List Nat) (a b : Nat) : Int := F2 ws v s q a b + if un v a = u ∧ un v b ∈ r then wbt ws (v : Int) (un v a : Int) * wbt ws (v : Int) (un v b : Int) else 0

section
variable {ws : List W3} {m v : Nat} {s : Int}

theorem F1_bd (hW : ∀ e ∈ ws, 1 ≤ e.2.2 ∧ e.2.2 ≤ 200) (hs : 0 ≤ s ∧ s ≤ 1000) (l : List W3) (a b : Nat) : 0 ≤ F1 ws v s l a b ∧ F1 ws v s l a b ≤ 200000 := by
  have := mesh_bd (wbt_bd hW (un v a : Int) (un v b : Int)) hs (wbt_bd hW (v : Int) (un v a : Int)) (wbt_bd hW (v : Int) (un v b : Int))
  simp only [F1]; split <;> omega
theorem F2_bd (hW : ∀ e ∈ ws, 1 ≤ e.2.2 ∧ e.2.2 ≤ 200) (hs : 0 ≤ s ∧ s ≤ 1000) (q : List Nat) (a b : Nat) : 0 ≤ F2 ws v s q a b ∧ F2 ws v s q a b ≤ 240000 := by
  have := mesh_bd (wbt_bd hW (un v a : Int) (un v b : Int)) hs (wbt_bd hW (v : Int) (un v a : Int)) (wbt_bd hW (v : Int) (un v b : Int))
  simp only [F2]; split <;> omega
theorem F3_bd (hW : ∀ e ∈ ws, 1 ≤ e.2.2 ∧ e.2.2 ≤ 200) (hs : 0 ≤ s ∧ s ≤ 1000) (q : List Nat) (u : Nat) (r : List Nat) (a b : Nat) : 0 ≤ F3 ws v s q u r a b ∧ F3 ws v s q u r a b ≤ 280000 := by
  have h1 := mesh_bd (wbt_bd hW (un v a : Int) (un v b : Int)) hs (wbt_bd hW (v : Int) (un v a : Int)) (wbt_bd hW (v : Int) (un v b : Int))
  have h2 := F2_bd (v := v) hW hs q a b
  simp only [F3]; split <;> omega

theorem any_take {p : W3 → Bool} {l : List W3} {i : Nat} {x : W3} (h : l[i]? = some x) : (l.take (i + 1)).any p = ((l.take i).any p || p x) := by
  rw [List.take_add_one, h]; simp

theorem F1_skip {i : Nat} {x : W3} (hx : ws[i]? = some x) (h : x.1 = (v : Int) ∨ x.2.1 = (v : Int)) (a b : Nat) : F1 ws v s (ws.take i) a b = F1 ws v s (ws.take (i + 1)) a b := by
  have hk : keyB (un v a : Int) (un v b : Int) x = false := by
    have : ¬ keyB (un v a : Int) (un v b : Int) x = true := by
      rw [keyB_iff]
      have := un_ne v a; have := un_ne v b
      omega
    simpa using this
  simp only [F1, any_take hx, hk, Bool.or_false]

theorem F1_put {i : Nat} {x : W3} (hS : Srt ws) (hx : ws[i]? = some x) {A B : Nat} (hA : x.1 = (A : Int)) (hB : x.2.1 = (B : Int)) (hAB : A < B) (hAv : A ≠ v) (hBv : B ≠ v) (hw0 : x.2.2 ≠ 0) (a b : Nat) :
    (if a = ix v A ∧ b = ix v B then F1 ws v s (ws.take i) a b + x.2.2 * s else F1 ws v s (ws.take i) a b) = F1 ws v s (ws.take (i + 1)) a b := by
  have hxm := List.mem_of_getElem? hx
  have hi := get_lt hx
  by_cases e : a = ix v A ∧ b = ix v B
  · rw [if_pos e]
    have ua : un v a = A := (un_iff hAv).2 e.1
    have ub : un v b = B := (un_iff hBv).2 e.2
    have hk : keyB (A : Int) (B : Int) x = true := keyB_iff.2 ⟨hA, hB⟩
    have hn : (ws.take i).any (keyB (A : Int) (B : Int)) = false := by
      rw [List.any_eq_false]
      intro y hy hk2
      obtain ⟨j, hj⟩ := List.getElem?_of_mem hy
      rw [List.getElem?_take] at hj
      split at hj
      · rename_i hji
        have hjl := get_lt hj
        have := List.pairwise_iff_getElem.1 hS j i hjl hi hji
        rw [List.getElem?_eq_getElem hjl] at hj
        rw [List.getElem?_eq_getElem hi] at hx
        simp only [Option.some.injEq] at hj hx
        rw [hj, hx, lex_iff] at this
        rw [keyB_iff] at hk2
        omega
      · simp at hj
    have hwb : wbt ws (A : Int) (B : Int) = x.2.2 := (wbt_mem hS (by omega) hw0).2 (by
      have : x = ((A : Int), (B : Int), x.2.2) := by rw [← hA, ← hB]
      rw [← this]; exact hxm)
    simp only [F1, any_take hx, ua, ub, hk, hn, Bool.or_true, if_true, hwb]
    simp
  · rw [if_neg e]
    have hk : keyB (un v a : Int) (un v b : Int) x = false := by
      have : ¬ keyB (un v a : Int) (un v b : Int) x = true := by
        rw [keyB_iff]
        rintro ⟨q1, q2⟩
        exact e ⟨(un_iff hAv).1 (by omega), (un_iff hBv).1 (by omega)⟩
      simpa using this
    simp only [F1, any_take hx, hk, Bool.or_false]

theorem F1_all (hS : Srt ws) {a b : Nat} (hab : a < b) : F1 ws v s ws a b = F2 ws v s [] a b := by
  simp only [F1, F2, List.not_mem_nil, if_false, Int.add_zero]
  split
  · rfl
  · rename_i h
    have hz : wbt ws (un v a : Int) (un v b : Int) = 0 := by
      by_cases hz : wbt ws (un v a : Int) (un v b : Int) = 0
      · exact hz
      · refine absurd ?_ h
        have hm := (wbt_mem hS (a := (un v a : Int)) (b := (un v b : Int)) (by have := un_lt (v := v) hab; omega) hz).1 rfl
        rw [List.any_eq_true]
        exact ⟨_, hm, keyB_iff.2 ⟨rfl, rfl⟩⟩
    rw [hz, Int.zero_mul]

theorem F3_put {q r : List Nat} {u x j : Nat} (hu : u ≠ v) (hxv : x ≠ v) (hr : r.Pairwise (· < ·)) (hx : r[j]? = some x) (a b : Nat) :
    (if a = ix v u ∧ b = ix v x then F3 ws v s q u (r.take j) a b + wbt ws (v : Int) (u : Int) * wbt ws (v : Int) (x : Int) else F3 ws v s q u (r.take j) a b) = F3 ws v s q u (r.take (j + 1)) a b := by
  have ht : r.take (j + 1) = r.take j ++ [x] := by rw [List.take_add_one, hx]; rfl
  have hj := get_lt hx
  have hnx : x ∉ r.take j := fun hm => by
    obtain ⟨k, hk⟩ := List.getElem?_of_mem hm
    rw [List.getElem?_take] at hk
    split at hk
    · rename_i hkj
      have hkl := get_lt hk
      have := List.pairwise_iff_getElem.1 hr k j hkl hj hkj
      rw [List.getElem?_eq_getElem hkl] at hk
      rw [List.getElem?_eq_getElem hj] at hx
      simp only [Option.some.injEq] at hk hx
      omega
    · simp at hk
  by_cases e : a = ix v u ∧ b = ix v x
  · have ua : un v a = u := (un_iff hu).2 e.1
    have ub : un v b = x := (un_iff hxv).2 e.2
    rw [if_pos e]
    simp only [F3, ua, ub, ht, hnx, List.mem_append, List.mem_singleton, or_true, and_false, and_true, if_true, if_false, Int.add_zero]
  · rw [if_neg e]
    have : (un v a = u ∧ un v b ∈ r.take (j + 1)) ↔ (un v a = u ∧ un v b ∈ r.take j) := by
      rw [ht, List.mem_append, List.mem_singleton]
      constructor
      · rintro ⟨h1, h2 | h2⟩
        · exact ⟨h1, h2⟩
        · exact absurd ⟨(un_iff hu).1 h1, (un_iff hxv).1 h2⟩ e
      · rintro ⟨h1, h2⟩; exact ⟨h1, .inl h2⟩
    simp only [F3, this]

theorem F3_end {nl : List Nat} (hp : nl.Pairwise (· < ·)) (hm : ∀ u : Nat, u ∈ nl ↔ u < m ∧ 0 < wbt ws (v : Int) (u : Int)) (hW : ∀ e ∈ ws, 1 ≤ e.2.2 ∧ e.2.2 ≤ 200) {i u : Nat} (hu : nl[i]? = some u) (hv : v < m) {a b : Nat} (hab : a < b) (hb : b < m - 1) :
    F3 ws v s (nl.take i) u (nl.drop (i + 1)) a b = F2 ws v s (nl.take (i + 1)) a b := by
  have ht : nl.take (i + 1) = nl.take i ++ [u] := by rw [List.take_add_one, hu]; rfl
  have hi := get_lt hu
  have hd : nl.drop i = u :: nl.drop (i + 1) := by
    rw [List.drop_eq_getElem_cons hi]
    rw [List.getElem?_eq_getElem hi] at hu
    simp only [Option.some.injEq] at hu
    rw [hu]
  have hnl : nl = nl.take i ++ u :: nl.drop (i + 1) := by rw [← hd, List.take_append_drop]
  have hlt : ∀ y ∈ nl.take i, y < u := fun y hy => by
    rw [hnl] at hp
    exact (List.pairwise_append.1 hp).2.2 y hy u (by simp)
  by_cases e : un v a = u
  · have hn : u ∉ nl.take i := fun h => by have := hlt u h; omega
    have hub := un_lt (v := v) hab
    have hubm := un_bd hv hb
    have key : (if un v b ∈ nl.drop (i + 1) then wbt ws (v : Int) (u : Int) * wbt ws (v : Int) (un v b : Int) else 0) = wbt ws (v : Int) (u : Int) * wbt ws (v : Int) (un v b : Int) := by
      split
      · rfl
      · rename_i hnd
        have hz : ¬ 0 < wbt ws (v : Int) (un v b : Int) := fun h => by
          have hmem := (hm (un v b)).2 ⟨hubm, h⟩
          rw [hnl] at hmem
          rcases List.mem_append.1 hmem with h1 | h1
          · have := hlt _ h1; omega
          · rcases List.mem_cons.1 h1 with h1 | h1
            · omega
            · exact hnd h1
        have := wbt_bd hW (v : Int) (un v b : Int)
        have hz0 : wbt ws (v : Int) (un v b : Int) = 0 := by omega
        rw [hz0, Int.mul_zero]
    simp only [F3, F2, e, hn, ht, List.mem_append, List.mem_singleton, or_true, true_and, if_true, if_false, Int.add_zero, key]
  · simp only [F3, F2, e, ht, List.mem_append, List.mem_singleton, or_false, false_and, if_false, Int.add_zero]

theorem F2_all {nl : List Nat} (hm : ∀ u : Nat, u ∈ nl ↔ u < m ∧ 0 < wbt ws (v : Int) (u : Int)) (hW : ∀ e ∈ ws, 1 ≤ e.2.2 ∧ e.2.2 ≤ 200) (hv : v < m) {a b : Nat} (ha : a < m - 1) : F2 ws v (wAt ws (v : Int)) nl a b = meshF ws v a b := by
  simp only [F2, meshF]
  split
  · rfl
  · rename_i h
    have hub := un_bd hv ha
    have hz : ¬ 0 < wbt ws (v : Int) (un v a : Int) := fun q => h ((hm _).2 ⟨hub, q⟩)
    have := wbt_bd hW (v : Int) (un v a : Int)
    have hz0 : wbt ws (v : Int) (un v a : Int) = 0 := by omega
    rw [hz0, Int.zero_mul]
end

/-- What a mesh comes to. -/
def MeshQ (n : TNet) (m v : Nat) (o : Option (TNet × Bool)) : Prop := ∃ l, WiresOf (meshF n.2.2.2 v) (m - 1) (fun _ _ => True) l ∧ Fine (meshN n m v l) ∧ o = some (cond (netok (canon (meshN n m v l))) (canon (meshN n m v l), true) ((0, 0, 0, []), false))

theorem Acc.small {m : Nat} {F : Nat → Nat → Int} {l : List W3} (h : Acc m F l) (hm5 : m ≤ 5) (hF : ∀ a b, 0 ≤ F a b ∧ F a b ≤ 1000000000000) : l.length ≤ 1000 ∧ ∀ e ∈ l, 0 ≤ e.2.2 ∧ e.2.2 ≤ 1000000000000 := by
  have := h.len
  have h25 : m * m ≤ 25 := Nat.mul_le_mul hm5 hm5
  refine ⟨by omega, fun e he => ?_⟩
  obtain ⟨a, b, _, _, rfl⟩ := h.val e he
  exact hF a b

theorem s_Mesh (n : TNet) (hn : Sm.sm B1 n) (hok : netok n = true) (m : Nat) (hm : n.1 = m) (v : Nat) (hv0 : 1 ≤ v) (hv : v < m) : MeshQ n m v (e_spec_l07Mesh (n, (v : Int), ())) := by
  obtain ⟨m', hm', hm1, hm5, hin, he1, he2⟩ := netok_facts hok
  have hmm : m' = m := by omega
  subst hmm
  have hlen : n.2.2.2.length ≤ 1073741824 := hn.2.2.2.1
  have hW := wiresW hok
  have hS := netok_srt hok
  have hA := wAt_le hS hin hm5 hW (v : Int)
  have hA1 := wAt_pos hok (v := (v : Int)) (by omega) (by omega)
  have hsc := scale_ok hok
  obtain ⟨nl, hnl, hnp, hnm⟩ := near_nat n.2.2.2 (v : Int) m'
  have hnl5 : nl.length ≤ 5 := by
    have := near_len n.2.2.2 (v : Int) m'
    rw [hnl] at this; simp at this; omega
  have hnv : ∀ u ∈ nl, u ≠ v := fun u hu e => by
    have := ((hnm u).1 hu).2
    rw [e] at this; simp [wbt] at this
  have hsb : 1 ≤ n.2.2.1 * wAt n.2.2.2 (v : Int) ∧ n.2.2.1 * wAt n.2.2.2 (v : Int) ≤ 1000000 := by
    constructor
    · have := Int.mul_le_mul hsc.1 hA1 (by omega) (show 0 ≤ n.2.2.1 by omega); omega
    · have := Int.mul_le_mul hsc.2 hA.2 hA.1 (by omega); omega
  have ws : wr (n.2.2.1 * wAt n.2.2.2 (v : Int)) = n.2.2.1 * wAt n.2.2.2 (v : Int) := wr_id (by omega) (by omega)
  have wm : wr (n.1 - 1) = ((m' - 1 : Nat) : Int) := by rw [wr_id (by omega) (by omega)]; omega
  simp only [e_spec_l07Mesh, r_spec_l07Mesh, s_Near n m' hn hm hm5, e_WeightAt, p_WeightAt n hn hW, Option.bind_some, hnl, ws, wm]
  generalize hSS : n.2.2.1 * wAt n.2.2.2 (v : Int) = S at hsb
  refine iter_rule (R := TNet × Bool) (MeshQ n m' v) n.2.2.2 (fun (q : List W3) i => ((v : Int), n, (0, 0, 0, []), nl.map (fun (u : Nat) => (u : Int)), wAt n.2.2.2 (v : Int), (((m' - 1 : Nat) : Int), n.2.1, S, q), n.2.2.2, (n.2.2.2.length : Int), i, ()))
    (fun i q => Acc (m' - 1) (F1 n.2.2.2 v (wAt n.2.2.2 (v : Int)) (n.2.2.2.take i)) q) (fun q i x kc hq hx hi hk => ?_) (fun q kc hq => ?_) (N := N0) (by have := N0_big; omega) [] ((Acc.nil _).congr fun a b _ _ => by simp [F1])
  · have hxm := List.mem_of_getElem? hx
    have hx3 := hin x hxm
    have hxw := hW x hxm
    simp only [r_spec_l07Mesh_L0, lt_len, hi, decide_true, cond_true, getI_nat, hx, Option.bind_some, wr_succ hi (show n.2.2.2.length ≤ 9223372036854775807 by omega)]
    by_cases c1 : x.1 = (v : Int)
    · simp only [c1, decide_true, Bool.not_true, cond_false]
      exact hk q (hq.congr fun a b _ _ => F1_skip hx (.inl c1) a b)
    · by_cases c2 : x.2.1 = (v : Int)
      · simp only [c1, c2, decide_true, decide_false, Bool.not_true, Bool.not_false, cond_true, cond_false]
        exact hk q (hq.congr fun a b _ _ => F1_skip hx (.inr c2) a b)
      · obtain ⟨A, hA'⟩ : ∃ A : Nat, x.1 = A := ⟨x.1.toNat, by omega⟩
        obtain ⟨B, hB'⟩ : ∃ B : Nat, x.2.1 = B := ⟨x.2.1.toNat, by omega⟩
        have hAv : A ≠ v := fun e => c1 (by omega)
        have hBv : B ≠ v := fun e => c2 (by omega)
        have iA := s_Index A v (by omega)
        have iB := s_Index B v (by omega)
        have hlt := ix_lt hAv hBv (show A < B by omega)
        have hbd := ix_bd hBv hv (show B < m' by omega)
        have bm := mesh_bd (x := x.2.2) (s := wAt n.2.2.2 (v : Int)) (y := 0) (z := 0) (by omega) hA (by omega) (by omega)
        have ww : wr (x.2.2 * wAt n.2.2.2 (v : Int)) = x.2.2 * wAt n.2.2.2 (v : Int) := wr_id (by omega) (by omega)
        have hsmall := hq.small (by omega) (fun a b => by have := F1_bd (v := v) hW hA (n.2.2.2.take i) a b; omega)
        have hp := s_Put q (ix v A : Int) (ix v B : Int) (x.2.2 * wAt n.2.2.2 (v : Int)) (by omega) hsmall.1 hsmall.2 (by omega)
        have d1 : decide ((A : Int) = (v : Int)) = false := by rw [decide_eq_false_iff_not]; omega
        have d2 : decide ((B : Int) = (v : Int)) = false := by rw [decide_eq_false_iff_not]; omega
        simp only [d1, d2, Bool.not_false, cond_true, hA', hB', iA, iB, ww, hp, Option.bind_some]
        exact hk _ ((hq.put hlt hbd _).congr fun a b _ _ => F1_put hS hx hA' hB' (by omega) hAv hBv (by omega) a b)
  · rw [List.take_length] at hq
    simp only [r_spec_l07Mesh_L0, not_lt_self, cond_false]
    refine iter_rule (R := TNet × Bool) (MeshQ n m' v) nl (fun (q : List W3) i => ((v : Int), n, (0, 0, 0, []), nl.map (fun (u : Nat) => (u : Int)), (((m' - 1 : Nat) : Int), n.2.1, S, q), nl.map (fun (u : Nat) => (u : Int)), ((nl.map fun (u : Nat) => (u : Int)).length : Int), i, ()))
      (fun i q => Acc (m' - 1) (F2 n.2.2.2 v (wAt n.2.2.2 (v : Int)) (nl.take i)) q) (fun q i u kc hq hu hi hk => ?_) (fun q kc hq => ?_) (N := N0) (by have := N0_big; omega) q (hq.congr fun a b hab _ => F1_all hS hab)
    · have hum := List.mem_of_getElem? hu
      have hub := (hnm u).1 hum
      have huv := hnv u hum
      have d1 : decide ((i : Int) < (((nl.map fun (u : Nat) => (u : Int)).length : Nat) : Int)) = true := by rw [decide_eq_true_eq, List.length_map]; omega
      have g1 : (nl.map fun (u : Nat) => (u : Int))[i]? = some (u : Int) := by rw [List.getElem?_map, hu]; rfl
      have w1 : wr ((i : Int) + 1) = ((i + 1 : Nat) : Int) := wr_succ hi (by omega)
      have d2 : decide ((0 : Int) ≤ ((i + 1 : Nat) : Int)) = true := by rw [decide_eq_true_eq]; omega
      have d3 : decide (((i + 1 : Nat) : Int) ≤ (((nl.map fun (u : Nat) => (u : Int)).length : Nat) : Int)) = true := by rw [decide_eq_true_eq, List.length_map]; omega
      have hdr : List.take ((((nl.map fun (u : Nat) => (u : Int)).length : Nat) : Int).toNat - (((i + 1 : Nat) : Int)).toNat) (List.drop (((i + 1 : Nat) : Int)).toNat (nl.map fun (u : Nat) => (u : Int))) = (nl.drop (i + 1)).map fun (u : Nat) => (u : Int) := by
        rw [Int.toNat_natCast, Int.toNat_natCast, List.take_of_length_le (by simp), List.map_drop]
      simp only [r_spec_l07Mesh_L2, d1, d2, d3, cond_true, getI_nat, g1, Option.bind_some, w1, Int.le_refl, decide_true, hdr]
      have hrp : (nl.drop (i + 1)).Pairwise (· < ·) := List.Pairwise.sublist (List.drop_sublist _ _) hnp
      refine iter_rule (R := TNet × Bool) (MeshQ n m' v) (nl.drop (i + 1)) (fun (q : List W3) j => ((v : Int), n, (0, 0, 0, []), nl.map (fun (u : Nat) => (u : Int)), (((m' - 1 : Nat) : Int), n.2.1, S, q), (u : Int), nl.map (fun (u : Nat) => (u : Int)), ((nl.map fun (u : Nat) => (u : Int)).length : Int), (i : Int), (nl.drop (i + 1)).map (fun (u : Nat) => (u : Int)), (((nl.drop (i + 1)).map fun (u : Nat) => (u : Int)).length : Int), j, ()))
        (fun j q => Acc (m' - 1) (F3 n.2.2.2 v (wAt n.2.2.2 (v : Int)) (nl.take i) u ((nl.drop (i + 1)).take j)) q) (fun q j y kc2 hq hy hj hk2 => ?_) (fun q kc2 hq => ?_) (N := N0) (by have := N0_big; simp; omega) q (hq.congr fun a b _ _ => by simp [F3])
      · have hym : y ∈ nl := List.mem_of_mem_drop (List.mem_of_getElem? hy)
        have hyb := (hnm y).1 hym
        have hyv := hnv y hym
        have huy : u < y := by
          rw [List.getElem?_drop] at hy
          have hl := get_lt hy
          have := List.pairwise_iff_getElem.1 hnp i (i + 1 + j) hi hl (by omega)
          rw [List.getElem?_eq_getElem hl] at hy
          rw [List.getElem?_eq_getElem hi] at hu
          simp only [Option.some.injEq] at hy hu
          omega
        have d4 : decide ((j : Int) < ((((nl.drop (i + 1)).map fun (u : Nat) => (u : Int)).length : Nat) : Int)) = true := by rw [decide_eq_true_eq, List.length_map]; omega
        have g2 : ((nl.drop (i + 1)).map fun (u : Nat) => (u : Int))[j]? = some (y : Int) := by rw [List.getElem?_map, hy]; rfl
        have iU := s_Index u v (by omega)
        have iY := s_Index y v (by omega)
        have bm := mesh_bd (x := 0) (s := 0) (by omega) (by omega) (wbt_bd hW (v : Int) (u : Int)) (wbt_bd hW (v : Int) (y : Int))
        have ww : wr (wbt n.2.2.2 (v : Int) (u : Int) * wbt n.2.2.2 (v : Int) (y : Int)) = wbt n.2.2.2 (v : Int) (u : Int) * wbt n.2.2.2 (v : Int) (y : Int) := wr_id (by omega) (by omega)
        have hlt := ix_lt huv hyv huy
        have hbd := ix_bd hyv hv hyb.1
        have hsmall := hq.small (by omega) (fun a b => by have := F3_bd (v := v) hW hA (nl.take i) u ((nl.drop (i + 1)).take j) a b; omega)
        have hp := s_Put q (ix v u : Int) (ix v y : Int) (wbt n.2.2.2 (v : Int) (u : Int) * wbt n.2.2.2 (v : Int) (y : Int)) (by omega) hsmall.1 hsmall.2 (by omega)
        have w2 : wr ((j : Int) + 1) = ((j + 1 : Nat) : Int) := wr_succ hj (by simp; omega)
        simp only [r_spec_l07Mesh_L4, d4, cond_true, getI_nat, g2, Option.bind_some, iU, iY, s_WB n hn, ww, hp, w2]
        exact hk2 _ ((hq.put hlt hbd _).congr fun a b _ _ => F3_put huv hyv hrp hy a b)
      · have d4 : decide ((((nl.drop (i + 1)).length : Nat) : Int) < ((((nl.drop (i + 1)).map fun (u : Nat) => (u : Int)).length : Nat) : Int)) = false := by rw [decide_eq_false_iff_not, List.length_map]; omega
        rw [List.take_length] at hq
        simp only [r_spec_l07Mesh_L4, d4, cond_false, w1]
        exact hk q (hq.congr fun a b hab hb => F3_end hnp hnm hW hu hv hab hb)
    · have d1 : decide (((nl.length : Nat) : Int) < (((nl.map fun (u : Nat) => (u : Int)).length : Nat) : Int)) = false := by rw [decide_eq_false_iff_not, List.length_map]; omega
      rw [List.take_length] at hq
      simp only [r_spec_l07Mesh_L2, d1, cond_false]
      have hq2 : Acc (m' - 1) (meshF n.2.2.2 v) q := hq.congr fun a b hab hb => F2_all hnm hW hv (by omega)
      obtain ⟨l, l1, l2, l3⟩ := s_Reduced n.2.1 S (m' - 1) (by omega) hq2 ⟨hsb.1, by omega⟩ hn.2.1 (fun a b _ _ => by have := meshF_bd hS hin hm5 hW v a b; omega)
      have hN : meshN n m' v l = (((m' - 1 : Nat) : Int), n.2.1, S, l) := by simp only [meshN, hSS]
      refine ⟨l, l1, by rw [hN]; exact l2, ?_⟩
      simp only [l3, Option.bind_some, hN]

/-- A star replaced by a mesh: both sides. -/
theorem mesh_same {n : TNet} {m v : Nat} {o o' : Option (TNet × Bool)} (h : MeshQ n m v o) (h' : MeshQ n m v o') : o = o' := by
  obtain ⟨l, l1, _, e⟩ := h
  obtain ⟨l', l1', _, e'⟩ := h'
  have : l = l' := l1.uniq l1' fun _ _ _ _ => rfl
  rw [e, e', this]

end Go.Sx.R
namespace Go.Sx.R
open Go Go.Sx

theorem zero_sm : Sm.sm B1 ((0, 0, 0, []) : TNet) := ⟨sm_z0, sm_z0, sm_z0, by simp [sm_list]⟩

/-- What a reduced network is. -/
structure Red (n : TNet) (r : TNet × Bool) : Prop where
  sm : Sm.sm B1 r.1
  ok : r.2 = true → netok r.1 = true ∧ r.1.1 = n.1 - 1 ∧ r.1.2.1 = n.2.1

theorem Red.zero (n : TNet) : Red n ((0, 0, 0, []), false) := ⟨zero_sm, by simp⟩

theorem MeshQ.red {n : TNet} {m v : Nat} {o : Option (TNet × Bool)} (hm : n.1 = m) (hm1 : 1 ≤ m) (h : MeshQ n m v o) : ∃ r, o = some r ∧ Red n r := by
  obtain ⟨l, l1, l2, e⟩ := h
  cases hq : netok (canon (meshN n m v l)) with
  | false => rw [hq] at e; exact ⟨_, e, Red.zero n⟩
  | true =>
    rw [hq] at e
    refine ⟨_, e, l2.canon_sm, fun _ => ⟨hq, ?_, rfl⟩⟩
    show ((m - 1 : Nat) : Int) = n.1 - 1
    omega

theorem s_inE (n : TNet) (hok : netok n = true) (v : Int) : e_spec_l01In (v, n.2.1, wr (n.1 - 1), ()) = some (decide (n.2.1 ≤ v) && decide (v < n.1)) := by
  obtain ⟨m, hm, hm1, hm5, hin, he1, he2⟩ := netok_facts hok
  have w : wr (n.1 - 1) = n.1 - 1 := wr_id (by omega) (by omega)
  have e : decide (v ≤ n.1 - 1) = decide (v < n.1) := by rw [decide_eq_decide]; omega
  simp only [w, p_l01In, n_l01In, e]

theorem star_both (n : TNet) (hn : Sm.sm B1 n) (v : Int) : ∃ r : TNet × Bool, e_impl_StarMesh (n, v, ()) = some r ∧ e_spec_StarMesh (n, v, ()) = some r ∧ Red n r := by
  cases hok : netok n with
  | false =>
    refine ⟨((0, 0, 0, []), false), ?_, ?_, Red.zero n⟩
    · simp only [e_impl_StarMesh, r_impl_StarMesh, p_NetOk n hn, hok, Option.bind_some, Bool.not_false, cond_true]
    · simp only [e_spec_StarMesh, r_spec_StarMesh, s_NetOk n hn, hok, Option.bind_some, Bool.not_false, cond_true]
  | true =>
    obtain ⟨m, hm, hm1, hm5, hin, he1, he2⟩ := netok_facts hok
    by_cases hv : n.2.1 ≤ v ∧ v < n.1
    · obtain ⟨k, rfl⟩ : ∃ k : Nat, v = k := ⟨v.toNat, by omega⟩
      have h1 : MeshQ n m k (e_impl_StarMesh (n, (k : Int), ())) := p_Star n hn hok m hm k hv.1 (by omega)
      have h2 := s_Mesh n hn hok m hm k (by omega) (by omega)
      obtain ⟨r, hr, hR⟩ := h1.red hm hm1
      have d1 : decide (n.2.1 ≤ (k : Int)) = true := by rw [decide_eq_true_eq]; exact hv.1
      have d2 : decide ((k : Int) < n.1) = true := by rw [decide_eq_true_eq]; exact hv.2
      refine ⟨r, hr, ?_, hR⟩
      have := mesh_same h2 h1
      rw [hr] at this
      simp only [e_spec_StarMesh, r_spec_StarMesh, s_NetOk n hn, hok, Option.bind_some, Bool.not_true, cond_false, s_inE n hok, d1, d2, Bool.and_self, this]
    · refine ⟨((0, 0, 0, []), false), ?_, ?_, Red.zero n⟩
      · simp only [e_impl_StarMesh, r_impl_StarMesh, p_NetOk n hn, hok, Option.bind_some, Bool.not_true, cond_false]
        by_cases h0 : v < n.2.1
        · simp [h0]
        · have d : decide (v ≥ n.1) = true := by rw [decide_eq_true_eq]; omega
          simp [h0, d]
      · have d : (decide (n.2.1 ≤ v) && decide (v < n.1)) = false := by simp only [Bool.and_eq_false_iff, decide_eq_false_iff_not]; omega
        simp only [e_spec_StarMesh, r_spec_StarMesh, s_NetOk n hn, hok, Option.bind_some, Bool.not_true, cond_false, s_inE n hok, d, Bool.not_false, cond_true]

end Go.Sx.R
namespace Go.Sx.R
open Go Go.Sx

theorem in_nat {m : Nat} {ws : List W3} (hin : InW m ws) {x : W3} (hx : x ∈ ws) : ∃ a b : Nat, a < b ∧ b < m ∧ x = ((a : Int), (b : Int), x.2.2) := by
  obtain ⟨h1, h2, h3⟩ := hin x hx
  refine ⟨x.1.toNat, x.2.1.toNat, by omega, by omega, ?_⟩
  have t1 : ((x.1.toNat : Nat) : Int) = x.1 := by omega
  have t2 : ((x.2.1.toNat : Nat) : Int) = x.2.1 := by omega
  rw [t1, t2]

theorem wires_self {m : Nat} {ws : List W3} (hS : Srt ws) (hin : InW m ws) (hW : ∀ e ∈ ws, 1 ≤ e.2.2 ∧ e.2.2 ≤ 200) : WiresOf (fun a b => wbt ws (a : Int) (b : Int)) m (fun _ _ => True) ws := by
  refine ⟨hS, fun x => ⟨fun hx => ?_, fun h => ?_⟩⟩
  · obtain ⟨a, b, h1, h2, h3⟩ := in_nat hin hx
    have hw := hW x hx
    have hm : ((a : Int), (b : Int), x.2.2) ∈ ws := by rw [← h3]; exact hx
    have := (wbt_mem hS (by omega) (by omega)).2 hm
    exact ⟨a, b, trivial, h1, h2, by omega, by rw [this]; exact h3⟩
  · obtain ⟨a, b, _, h1, h2, h3, rfl⟩ := h
    exact (wbt_mem hS (by omega) h3).1 rfl

theorem acc_self {m : Nat} {ws : List W3} (hS : Srt ws) (hin : InW m ws) (hW : ∀ e ∈ ws, 1 ≤ e.2.2 ∧ e.2.2 ≤ 200) : Acc m (fun a b => wbt ws (a : Int) (b : Int)) ws := by
  refine ⟨hS, fun x hx => ?_, fun a b h1 h2 h3 => (wbt_mem hS (by omega) h3).1 rfl⟩
  obtain ⟨a, b, _, h1, h2, _, h4⟩ := ((wires_self hS hin hW).mem x).1 hx
  exact ⟨a, b, h1, h2, h4⟩

theorem netok_fine {n : TNet} (hn : Sm.sm B1 n) (hok : netok n = true) : Fine n := by
  have hsc := scale_ok hok
  have hW := wiresW hok
  exact ⟨hsc.1, by omega, fun x hx => by have := hW x hx; omega, hn⟩

theorem rc_map {g : Nat} {ws : List W3} {v : Int} (h : Rc ws v) : Rc (ws.map (divW g)) v := by
  induction h with
  | zero => exact .zero
  | ab he _ ih => exact Rc.ab (e := divW g _) (List.mem_map_of_mem he) ih
  | ba he _ ih => exact Rc.ba (e := divW g _) (List.mem_map_of_mem he) ih

theorem netok_canon {n : TNet} (hn : Sm.sm B1 n) (hok : netok n = true) : netok (canon n) = true := by
  have hF := netok_fine hn hok
  have hg := hF.g_pos
  have hd := gcdW_dvd n.2.2.2 n.2.2.1.natAbs
  have hsc := scale_ok hok
  have hW := wiresW hok
  have pos : ∀ x : Int, 1 ≤ x → x ≤ 1000 → gN n ∣ x.natAbs → 1 ≤ x / (gN n : Int) ∧ x / (gN n : Int) ≤ x := fun x h1 h2 h3 => by
    have hb := div_bd (a := x) (g := gN n) (by omega)
    have hle : gN n ≤ x.natAbs := Nat.le_of_dvd (by omega) h3
    refine ⟨?_, hb.2⟩
    rw [Int.le_ediv_iff_mul_le (by omega)]
    omega
  have hb := hok
  simp only [netok, Bool.and_eq_true, Bool.not_eq_true'] at hb ⊢
  obtain ⟨⟨h1, h2⟩, h3⟩ := hb
  refine ⟨⟨?_, ?_⟩, ?_⟩
  · simp only [hdrOk, Bool.and_eq_true, decide_eq_true_eq] at h1 ⊢
    have := pos n.2.2.1 hsc.1 hsc.2 hd.1
    simp only [canon]
    omega
  · simp only [wiresBad, List.any_eq_false] at h2 ⊢
    rintro ⟨y, i⟩ hy
    rw [List.mem_zipIdx_iff_getElem?] at hy
    simp only [canon, List.getElem?_map, Option.map_eq_some_iff] at hy
    obtain ⟨x, hx, rfl⟩ := hy
    have hbx := h2 (x, i) (by rw [List.mem_zipIdx_iff_getElem?]; exact hx)
    have hxm := List.mem_of_getElem? hx
    have hxw := hW x hxm
    have hp := pos x.2.2 (by omega) (by omega) (hd.2 x hxm)
    simp only [badW, Bool.not_eq_true, Bool.or_eq_false_iff, Bool.not_eq_false', Bool.and_eq_true, decide_eq_true_eq] at hbx ⊢
    refine ⟨?_, ?_⟩
    · show (((0 ≤ x.1 ∧ x.1 < x.2.1) ∧ x.2.1 < n.1) ∧ 1 ≤ x.2.2 / (gN n : Int)) ∧ x.2.2 / (gN n : Int) ≤ 200
      omega
    · cases i with
      | zero => rfl
      | succ j =>
        have h4 := hbx.2
        simp only [canon, List.getElem?_map] at h4 ⊢
        cases hj : n.2.2.2[j]? with
        | none => rfl
        | some y => rw [hj] at h4; exact h4
  · simp only [conn, decide_eq_true_eq] at h3 ⊢
    intro v h0 h1
    exact rc_map (h3 v h0 h1)


theorem p_Canon (n : TNet) (hn : Sm.sm B1 n) (hok : netok n = true) : e_impl_CanonNet (n, ()) = some (canon n, true) := by
  obtain ⟨m, hm, hm1, hm5, hin, he1, he2⟩ := netok_facts hok
  have hW := wiresW hok
  have hS := netok_srt hok
  have hsc := scale_ok hok
  obtain ⟨T, hT, hTab⟩ := p_table n m hn hm hm5 hin
  obtain ⟨l, l1, l2, l3⟩ := p_netOfC n.2.1 n.2.2.1 T m hm1 hm5 _ hTab ⟨hsc.1, by omega⟩ hn.2.1 (fun a b _ _ => by have := wbt_bd hW (a : Int) (b : Int); omega)
  have hl : l = n.2.2.2 := l1.uniq (wires_self hS hin hW) fun _ _ _ _ => rfl
  have hN : ((m : Int), n.2.1, n.2.2.1, l) = n := by rw [hl, ← hm]
  rw [hN, netok_canon hn hok] at l3
  simp only [e_impl_CanonNet, r_impl_CanonNet, p_NetOk n hn, hok, Option.bind_some, Bool.not_true, cond_false, hT, l3, cond_true]

theorem s_RedOk (n : TNet) (hn : Sm.sm B1 n) (hok : netok n = true) : e_spec_l06Reduced (n, ()) = some (canon n, true) := by
  obtain ⟨m, hm, hm1, hm5, hin, he1, he2⟩ := netok_facts hok
  have hW := wiresW hok
  have hS := netok_srt hok
  have hsc := scale_ok hok
  obtain ⟨l, l1, l2, l3⟩ := s_Reduced n.2.1 n.2.2.1 m hm5 (acc_self hS hin hW) ⟨hsc.1, by omega⟩ hn.2.1 (fun a b _ _ => by have := wbt_bd hW (a : Int) (b : Int); omega)
  have hl : l = n.2.2.2 := l1.uniq (wires_self hS hin hW) fun _ _ _ _ => rfl
  have hN : ((m : Int), n.2.1, n.2.2.1, n.2.2.2) = n := by rw [← hm]
  rw [hl, hN, netok_canon hn hok] at l3
  exact l3

/-- The mesh of a multiple. -/
theorem mesh_mul {x : TNet} {m v g : Nat} (hg : 0 < g) {o o' : Option (TNet × Bool)} (h : MeshQ x m v o) (h' : MeshQ (mulN g x) m v o') : o = o' := by
  obtain ⟨l, l1, _, e⟩ := h
  obtain ⟨l', l1', _, e'⟩ := h'
  have hgg : 0 < g * g := Nat.mul_pos hg hg
  have hm := l1.mul hgg
  have hl : l' = l.map (mulW (g * g)) := l1'.uniq hm fun a b _ _ => by
    simp only [meshF, mulN, wbt_mul, wAt_mul, Int.natCast_mul]
    grind
  have hN : meshN (mulN g x) m v l' = mulN (g * g) (meshN x m v l) := by
    rw [hl]
    simp only [meshN, mulN, wAt_mul, Int.natCast_mul, Prod.mk.injEq, true_and, and_true]
    grind
  rw [hN, canon_mul hgg] at e'
  rw [e, e']

theorem mesh_loop : ∀ (k : Nat) (y : TNet) (N N' : Nat) (ke : _ → Option (TNet × Bool)), Sm.sm B1 y → netok y = true → y.1 ≤ k → k < N → k < N' →
    (∀ s, ke s = (e_spec_l06Reduced (s.2.1, ())).bind fun x3 => some (x3.1, x3.2)) →
    ∃ R : TNet × Bool, iterK (r_impl_MeshAll_L0 e_impl_CanonNet e_impl_StarMesh N0) N (canon y, (0, 0, 0, []), true, ()) (fun s2 => some (s2.1, s2.2.2.1)) = some R ∧
      iterK (r_spec_MeshAll_L0 e_spec_NetOk e_spec_l06Reduced e_spec_l07Mesh N0) N' ((0, 0, 0, []), y, ()) ke = some R ∧ Sm.sm B1 R.1
  | 0, y, N, N', ke, hn, hok, hk, _, _, _ => by obtain ⟨m, hm, hm1, _⟩ := netok_facts hok; omega
  | k + 1, y, N, N', ke, hn, hok, hk, hN, hN', hke => by
    obtain ⟨M, rfl⟩ : ∃ M, N = M + 1 := ⟨N - 1, by omega⟩
    obtain ⟨M', rfl⟩ : ∃ M', N' = M' + 1 := ⟨N' - 1, by omega⟩
    have hF := netok_fine hn hok
    have hc := netok_canon hn hok
    have hcs := hF.canon_sm
    obtain ⟨m, hm, hm1, hm5, hin, he1, he2⟩ := netok_facts hok
    have c1 : (canon y).1 = y.1 := rfl
    have c2 : (canon y).2.1 = y.2.1 := rfl
    simp only [iterK]
    unfold r_impl_MeshAll_L0 r_spec_MeshAll_L0
    simp only [cond_true, c1, c2]
    by_cases h : y.1 > y.2.1
    · obtain ⟨v, hv⟩ : ∃ v : Nat, y.1 - 1 = v := ⟨(y.1 - 1).toNat, by omega⟩
      have w : wr (y.1 - 1) = (v : Int) := by rw [hv]; exact wr_id (by omega) (by omega)
      have q1 : MeshQ (canon y) m v (e_impl_StarMesh (canon y, (v : Int), ())) := p_Star (canon y) hcs hc m hm v (by rw [c2]; omega) (by omega)
      have q2 := s_Mesh y hn hok m hm v (by omega) (by omega)
      have q3 : MeshQ (mulN (gN y) (canon y)) m v (e_spec_l07Mesh (y, (v : Int), ())) := by rw [mul_canon hF]; exact q2
      have hs := mesh_mul hF.g_pos q1 q3
      obtain ⟨r, hr, hR⟩ := q2.red hm hm1
      rw [hr] at hs
      simp only [h, decide_true, cond_true, w, hs, hr, Option.bind_some]
      cases h2 : r.2 with
      | false =>
        obtain ⟨M2, rfl⟩ : ∃ M2, M = M2 + 1 := ⟨M - 1, by omega⟩
        have hz : r = ((0, 0, 0, []), false) := by
          obtain ⟨l, l1, l2, e⟩ := q2
          rw [hr] at e
          cases hq : netok (canon (meshN y m v l)) with
          | false => rw [hq] at e; simpa using e
          | true => rw [hq] at e; simp only [cond_true, Option.some.injEq] at e; rw [e] at h2; cases h2
        refine ⟨((0, 0, 0, []), false), ?_, rfl, zero_sm⟩
        simp only [iterK, r_impl_MeshAll_L0, cond_false, hz]
      | true =>
        have hk2 := hR.ok h2
        have hcc : canon r.1 = r.1 := by
          obtain ⟨l, l1, l2, e⟩ := q2
          rw [hr] at e
          cases hq : netok (canon (meshN y m v l)) with
          | false => rw [hq] at e; simp only [cond_false, Option.some.injEq] at e; rw [e] at h2; cases h2
          | true => rw [hq] at e; simp only [cond_true, Option.some.injEq] at e; rw [e]; exact canon_canon l2
        have ih := mesh_loop k r.1 M M' ke hR.sm hk2.1 (by omega) (by omega) (by omega) hke
        rw [hcc] at ih
        exact ih
    · simp only [h, decide_false, cond_false, hke, s_RedOk y hn hok, Option.bind_some]
      exact ⟨_, rfl, rfl, hcs⟩

theorem mesh_both (n : TNet) (hn : Sm.sm B1 n) : ∃ R : TNet × Bool, e_impl_MeshAll (n, ()) = some R ∧ e_spec_MeshAll (n, ()) = some R ∧ Sm.sm B1 R.1 := by
  have hlen : n.2.2.2.length ≤ 1073741824 := hn.2.2.2.1
  have hN := N0_big
  have bl : Nat.ble (List.length ([] : List W3) + n.2.2.2.length) 17179869184 = true := ble_true (by simp; omega)
  cases hok : netok n with
  | false =>
    refine ⟨((0, 0, 0, []), false), ?_, ?_, zero_sm⟩
    · obtain ⟨M, hM⟩ : ∃ M, N0 = M + 1 := ⟨N0 - 1, by omega⟩
      have hc : e_impl_CanonNet (n, ()) = some ((0, 0, 0, []), false) := by simp only [e_impl_CanonNet, r_impl_CanonNet, p_NetOk n hn, hok, Option.bind_some, Bool.not_false, cond_true]
      simp only [e_impl_MeshAll, r_impl_MeshAll, hc, Option.bind_some]
      generalize hb : r_impl_MeshAll_L0 e_impl_CanonNet e_impl_StarMesh N0 = body
      rw [hM]
      simp only [iterK, ← hb, r_impl_MeshAll_L0, cond_false]
    · simp only [e_spec_MeshAll, r_spec_MeshAll, s_NetOk n hn, hok, Option.bind_some, Bool.not_false, cond_true]
  | true =>
    obtain ⟨m, hm, hm1, hm5, _⟩ := netok_facts hok
    obtain ⟨R, r1, r2, r3⟩ := mesh_loop 5 n N0 N0 (fun s2 => (e_spec_l06Reduced (s2.2.1, ())).bind fun x3 => some (x3.1, x3.2)) hn hok (by omega) (by omega) (by omega) (fun _ => rfl)
    refine ⟨R, ?_, ?_, r3⟩
    · simp only [e_impl_MeshAll, r_impl_MeshAll, p_Canon n hn hok, Option.bind_some]
      exact r1
    · simp only [e_spec_MeshAll, r_spec_MeshAll, s_NetOk n hn, hok, Option.bind_some, Bool.not_true, cond_false, bl, cond_true, List.nil_append]
      exact r2

end Go.Sx.R
namespace Go.Sx.R
open Go Go.Sx

theorem detZ_perm2 {M : List (List Int)} {l l' : List Int} (h : l.Perm l') : ∀ pr pc : List Int, pr.length = pc.length → pr.length + l.length ≤ 4 → detZ M (pr ++ l) (pc ++ l) = detZ M (pr ++ l') (pc ++ l') := by
  induction h with
  | nil => intro pr pc _ _; rfl
  | cons x _ ih =>
    intro pr pc he hl
    have := ih (pr ++ [x]) (pc ++ [x]) (by simp [he]) (by simp at hl ⊢; omega)
    simpa using this
  | swap x y l =>
    intro pr pc he hl
    simp only [List.length_cons] at hl
    match pr, pc, l, he, hl with
    | [], [], [], _, _ => simp only [List.nil_append, detZ2] <;> grind
    | [], [], [a], _, _ => simp only [List.nil_append, detZ3] <;> grind
    | [], [], [a, b], _, _ => simp only [List.nil_append, detZ4] <;> grind
    | [p], [p'], [], _, _ => simp only [List.cons_append, List.nil_append, detZ3] <;> grind
    | [p], [p'], [a], _, _ => simp only [List.cons_append, List.nil_append, detZ4] <;> grind
    | [p, q], [p', q'], [], _, _ => simp only [List.cons_append, List.nil_append, detZ4] <;> grind
    | [], [], _ :: _ :: _ :: _, _, hl => simp at hl <;> omega
    | [_], [_], _ :: _ :: _, _, hl => simp at hl <;> omega
    | [_, _], [_, _], _ :: _, _, hl => simp at hl <;> omega
    | _ :: _ :: _ :: _, _, _, _, hl => simp at hl <;> omega
    | [], _ :: _, _, he, _ => simp at he
    | _ :: _, [], _, he, _ => simp at he
    | [_], _ :: _ :: _, _, he, _ => simp at he
    | _ :: _ :: _, [_], _, he, _ => simp at he
    | [_, _], _ :: _ :: _ :: _, _, he, _ => simp at he
  | trans h1 _ ih1 ih2 =>
    intro pr pc he hl
    rw [ih1 pr pc he hl, ih2 pr pc he (by rw [← h1.length_eq]; exact hl)]

/-- A Schur complement's determinants. -/
theorem schur {M M' : List (List Int)} {v g : Int} {f : Int → Int} : ∀ (R C : List Int), R.length = C.length → R.length ≤ 3 → (∀ r ∈ R, ∀ c ∈ C, at2 M' r c * g = at2 M v v * at2 M (f r) (f c) - at2 M (f r) v * at2 M v (f c)) →
    detZ M' R C * g ^ R.length * at2 M v v = at2 M v v ^ R.length * detZ M (R.map f ++ [v]) (C.map f ++ [v]) := by
  intro R C he hl h
  match R, C, he, hl with
  | [], [], _, _ =>
    have : detZ M' [] [] = 1 := by simp [detZ]
    simp only [List.map_nil, List.nil_append, List.length_nil, detZ1, this]; grind
  | [r], [c], _, _ =>
    have h1 := h r (by simp) c (by simp)
    simp only [List.map_cons, List.map_nil, List.cons_append, List.nil_append, List.length_cons, List.length_nil, detZ1, detZ2]
    generalize at2 M v v = A at *
    generalize at2 M' r c = X at *
    grind
  | [r, s], [c, d], _, _ =>
    have h1 := h r (by simp) c (by simp)
    have h2 := h r (by simp) d (by simp)
    have h3 := h s (by simp) c (by simp)
    have h4 := h s (by simp) d (by simp)
    simp only [List.map_cons, List.map_nil, List.cons_append, List.nil_append, List.length_cons, List.length_nil, detZ2, detZ3]
    have e : (at2 M' r c * at2 M' s d - at2 M' r d * at2 M' s c) * g ^ (0 + 1 + 1) = (at2 M' r c * g) * (at2 M' s d * g) - (at2 M' r d * g) * (at2 M' s c * g) := by grind
    rw [e, h1, h2, h3, h4]
    generalize at2 M v v = A at *
    grind
  | [r, s, t], [c, d, e], _, _ =>
    have h1 := h r (by simp) c (by simp)
    have h2 := h r (by simp) d (by simp)
    have h3 := h r (by simp) e (by simp)
    have h4 := h s (by simp) c (by simp)
    have h5 := h s (by simp) d (by simp)
    have h6 := h s (by simp) e (by simp)
    have h7 := h t (by simp) c (by simp)
    have h8 := h t (by simp) d (by simp)
    have h9 := h t (by simp) e (by simp)
    simp only [List.map_cons, List.map_nil, List.cons_append, List.nil_append, List.length_cons, List.length_nil, detZ3, detZ4]
    have e' : (at2 M' r c * (at2 M' s d * at2 M' t e - at2 M' s e * at2 M' t d) - at2 M' r d * (at2 M' s c * at2 M' t e - at2 M' s e * at2 M' t c) + at2 M' r e * (at2 M' s c * at2 M' t d - at2 M' s d * at2 M' t c)) * g ^ (0 + 1 + 1 + 1)
        = (at2 M' r c * g) * ((at2 M' s d * g) * (at2 M' t e * g) - (at2 M' s e * g) * (at2 M' t d * g)) - (at2 M' r d * g) * ((at2 M' s c * g) * (at2 M' t e * g) - (at2 M' s e * g) * (at2 M' t c * g)) + (at2 M' r e * g) * ((at2 M' s c * g) * (at2 M' t d * g) - (at2 M' s d * g) * (at2 M' t c * g)) := by grind
    rw [e', h1, h2, h3, h4, h5, h6, h7, h8, h9]
    clear h1 h2 h3 h4 h5 h6 h7 h8 h9 h e'
    generalize at2 M v v = A at *
    generalize at2 M (f r) (f c) = x1
    generalize at2 M (f r) (f d) = x2
    generalize at2 M (f r) (f e) = x3
    generalize at2 M (f s) (f c) = x4
    generalize at2 M (f s) (f d) = x5
    generalize at2 M (f s) (f e) = x6
    generalize at2 M (f t) (f c) = x7
    generalize at2 M (f t) (f d) = x8
    generalize at2 M (f t) (f e) = x9
    generalize at2 M (f r) v = y1
    generalize at2 M (f s) v = y2
    generalize at2 M (f t) v = y3
    generalize at2 M v (f c) = z1
    generalize at2 M v (f d) = z2
    generalize at2 M v (f e) = z3
    grind
  | [], _ :: _, he, _ => simp at he
  | _ :: _, [], he, _ => simp at he
  | [_], _ :: _ :: _, he, _ => simp at he
  | _ :: _ :: _, [_], he, _ => simp at he
  | [_, _], _ :: _ :: _ :: _, he, _ => simp at he
  | _ :: _ :: _ :: _, [_, _], he, _ => simp at he
  | [_, _, _], _ :: _ :: _ :: _ :: _, he, _ => simp at he
  | _ :: _ :: _ :: _ :: _, _, _, hl => simp at hl <;> omega

section
variable {n : TNet} {m E : Nat} {L : List (List Int)} {inn : List Int}

theorem Nk.lk (h : Nk n m E L inn) : Lk n m L := ⟨h.hn, h.ok, h.hm, h.m1, h.m5, h.sc, h.lp, h.ls, h.tab, h.srt, h.inw, h.hw⟩

theorem Nk.down1 (h : Nk n m E L inn) (hE : 2 ≤ E) : 1 ≤ detZ L inn inn ∧ detZ L inn inn ≤ 5832000000 := by
  have lk := h.lk
  have l := h.len_inn
  have hm5 := h.m5
  have hem := h.em
  refine ⟨lk.lapZ.pos lk.hang _ inn rfl (by omega) h.nd_inn (fun i hi => mem_wo.2 ⟨(h.inn_in i hi).1, (h.inn_in i hi).2, by simp⟩) ⟨0, mem_wo.2 ⟨by omega, by omega, by simp⟩, fun hh => by have := h.mem_inn.1 hh; omega⟩, ?_⟩
  have := det_lap h.srt h.inw h.m5 h.hw h.tab h.inn_in h.inn_in h.nd_inn
  have p : 1800 ^ inn.length ≤ 5832000000 := Nat.le_trans (Nat.pow_le_pow_right (by omega) (show inn.length ≤ 3 by omega)) (by decide)
  omega

theorem Nk.dOf1 (h : Nk n m E L inn) (hE : 2 ≤ E) : 1 ≤ dOf n L inn ∧ dOf n L inn ≤ 5832000000000 := by
  have d := h.down1 hE
  have s := h.sc
  simp only [dOf]
  constructor
  · have : 1 * 1 ≤ n.2.2.1 * detZ L inn inn := Int.mul_le_mul s.1 d.1 (by omega) (by omega)
    omega
  · have : n.2.2.1 * detZ L inn inn ≤ 1000 * 5832000000 := Int.mul_le_mul s.2 d.2 (by omega) (by omega)
    omega

/-- A response's ratio. -/
theorem Nk.rtZ (h : Nk n m E L inn) (hE : 2 ≤ E) {i j : Nat} (hi : i < E) (hj : j < E) : rtF n L inn i j = ratZ (detZ L ((i : Int) :: inn) ((j : Int) :: inn)) (dOf n L inn) := by
  have d := h.dOf1 hE
  have t := h.top_le hi hj
  have r := (h.rt hi hj).1
  rw [p_Ratio (by omega) d.1 (by omega)] at r
  exact (Option.some.inj r).symm

theorem Nk.respV (h : Nk n m E L inn) : respV n = respT n L inn E := by
  simp only [Go.Sx.R.respV, h.sResp, Option.map_some, Option.getD_some]


/-- The response outlives the star. -/
theorem star_resp (h : Nk n m E L inn) (hE : 2 ≤ E) {v : Nat} (hEv : E ≤ v) (hv : v < m) {l : List W3} (l1 : WiresOf (meshF n.2.2.2 v) (m - 1) (fun _ _ => True) l) (hF : Fine (meshN n m v l)) (hok : netok (canon (meshN n m v l)) = true) (hsm : Sm.sm B1 (canon (meshN n m v l))) :
    Go.Sx.R.respV (canon (meshN n m v l)) = Go.Sx.R.respV n := by
  have lk := h.lk
  have hm5 := h.m5
  have hem := h.em
  have hm := h.hm
  obtain ⟨m', E', L', inn', h'⟩ := nk_of _ hsm hok
  have em : m' = m - 1 := by have := h'.hm; simp only [canon, meshN] at this; omega
  have eE : E' = E := by have := h'.he; have := h.he; simp only [canon, meshN] at *; omega
  subst em eE
  have lk' := h'.lk
  have hg := hF.g_pos
  have mc := mul_canon hF
  generalize hc : canon (meshN n m v l) = c at *
  generalize gN (meshN n m v l) = g at *
  have ws : c.2.2.2.map (mulW g) = l := congrArg (fun n : TNet => n.2.2.2) mc
  have scl : c.2.2.1 * (g : Int) = n.2.2.1 * wAt n.2.2.2 (v : Int) := congrArg (fun n : TNet => n.2.2.1) mc
  have vin : (v : Int) ∈ wo m [] := mem_wo.2 ⟨by omega, by omega, by simp⟩
  have A := lk.a2 (i := (v : Int)) (j := (v : Int)) (by omega) (by omega)
  rw [if_pos rfl] at A
  -- nodes
  let f : Int → Int := fun x => ((un v x.toNat : Nat) : Int)
  have fu : ∀ k : Nat, f (k : Int) = ((un v k : Nat) : Int) := fun k => by show ((un v ((k : Int).toNat) : Nat) : Int) = _; rw [Int.toNat_natCast]
  have fin : ∀ x : Int, 0 ≤ x ∧ x < ((m - 1 : Nat) : Int) → 0 ≤ f x ∧ f x < m ∧ f x ≠ v := by
    intro x hx
    obtain ⟨k, rfl⟩ : ∃ k : Nat, x = k := ⟨x.toNat, by omega⟩
    have ub := un_bd (i := k) hv (by omega)
    have := un_ne v k
    rw [fu]; omega
  have finj : ∀ x y : Int, 0 ≤ x → 0 ≤ y → f x = f y → x = y := by
    intro x y hx hy e
    obtain ⟨k, rfl⟩ : ∃ k : Nat, x = k := ⟨x.toNat, by omega⟩
    obtain ⟨j, rfl⟩ : ∃ j : Nat, y = j := ⟨y.toNat, by omega⟩
    rw [fu, fu] at e
    have := un_inj (v := v) (i := k) (j := j) (by omega)
    omega
  have wl : ∀ i j : Nat, i < m - 1 → j < m - 1 → i ≠ j → wbt l (i : Int) (j : Int) = meshF n.2.2.2 v i j := by
    intro i j hi hj hij
    rcases Nat.lt_or_gt_of_ne hij with hl | hl
    · exact wiresOf_wbt l1 hl hj
    · rw [wbt_comm, wiresOf_wbt l1 hl hi]
      simp only [meshF]
      rw [wbt_comm _ (un v j : Int) (un v i : Int), Int.mul_comm (wbt n.2.2.2 (v : Int) (un v j : Int))]
  have off : ∀ x y : Int, (0 ≤ x ∧ x < ((m - 1 : Nat) : Int)) → (0 ≤ y ∧ y < ((m - 1 : Nat) : Int)) → x ≠ y → at2 L' x y * (g : Int) = at2 L v v * at2 L (f x) (f y) - at2 L (f x) v * at2 L v (f y) := by
    intro x y hx hy hxy
    have fx := fin x hx
    have fy := fin y hy
    have fne : f x ≠ f y := fun e => hxy (finj x y hx.1 hy.1 e)
    rw [lk'.a2 hx hy, if_neg hxy, A, lk.a2 ⟨fx.1, fx.2.1⟩ ⟨fy.1, fy.2.1⟩, if_neg fne, lk.a2 ⟨fx.1, fx.2.1⟩ (by omega), if_neg fx.2.2, lk.a2 (by omega) ⟨fy.1, fy.2.1⟩, if_neg (Ne.symm fy.2.2)]
    obtain ⟨k, rfl⟩ : ∃ k : Nat, x = k := ⟨x.toNat, by omega⟩
    obtain ⟨j, rfl⟩ : ∃ j : Nat, y = j := ⟨y.toNat, by omega⟩
    have e := wl k j (by omega) (by omega) (by omega)
    rw [← ws, wbt_mul] at e
    simp only [meshF] at e
    rw [fu, fu, wbt_comm _ (un v k : Int) (v : Int), Int.neg_mul, e]
    grind
  have pV : (wo m []).Perm ((v : Int) :: (wo (m - 1) []).map f) := by
    refine (wo_cons (by omega) (by omega) (by simp)).trans ((perm_of (wo_nd _ _) (nodup_map_on f (wo_nd _ _) fun x hx y hy e => finj x y (mem_wo.1 hx).1 (mem_wo.1 hy).1 e) fun c => ?_).cons _)
    rw [mem_wo, List.mem_map]
    simp only [List.mem_cons, List.not_mem_nil, or_false]
    constructor
    · rintro ⟨c0, c1, c2⟩
      obtain ⟨k, rfl⟩ : ∃ k : Nat, c = k := ⟨c.toNat, by omega⟩
      exact ⟨((ix v k : Nat) : Int), mem_wo.2 ⟨by omega, by have := ix_bd (a := k) (v := v) (by omega) hv (by omega); omega, by simp⟩, by rw [fu, un_ix (by omega)]⟩
    · rintro ⟨x, hx, rfl⟩
      have hx := mem_wo.1 hx
      exact fin x ⟨hx.1, hx.2.1⟩
  have smul : ∀ (k : Int) (l : List Int) (F : Int → Int), (l.map fun y => F y * k).sum = (l.map F).sum * k := by
    intro k l F
    induction l with
    | nil => simp
    | cons y l ih => simp only [List.map_cons, List.sum_cons, ih, Int.add_mul]
  have slin : ∀ (a b : Int) (l : List Int) (F G : Int → Int), (l.map fun y => a * F y - b * G y).sum = a * (l.map F).sum - b * (l.map G).sum := by
    intro a b l F G
    induction l with
    | nil => simp
    | cons y l ih => simp only [List.map_cons, List.sum_cons, ih, Int.mul_add]; omega
  have ent : ∀ x y : Int, (0 ≤ x ∧ x < ((m - 1 : Nat) : Int)) → (0 ≤ y ∧ y < ((m - 1 : Nat) : Int)) → at2 L' x y * (g : Int) = at2 L v v * at2 L (f x) (f y) - at2 L (f x) v * at2 L v (f y) := by
    intro x y hx hy
    by_cases hxy : x = y
    · subst hxy
      have fx := fin x hx
      have xin := mem_wo.2 (show 0 ≤ x ∧ x < ((m - 1 : Nat) : Int) ∧ x ∉ ([] : List Int) from ⟨hx.1, hx.2, by simp⟩)
      have s1 := lk'.lapZ.sum x xin
      have s2 := lk.lapZ.sum (f x) (mem_wo.2 ⟨fx.1, fx.2.1, by simp⟩)
      have s3 := lk.lapZ.sum v vin
      rw [perm_sum (pV.map (at2 L (f x)))] at s2
      rw [perm_sum (pV.map (at2 L v))] at s3
      simp only [List.map_cons, List.sum_cons, List.map_map] at s2 s3
      have pe := List.perm_cons_erase xin
      have nde := List.nodup_cons.1 (pe.nodup_iff.1 (wo_nd _ _))
      have t1 : ((wo (m - 1) []).map fun y => at2 L' x y * (g : Int)).sum = 0 := by rw [smul]; have e : ((wo (m - 1) []).map fun y => at2 L' x y) = (wo (m - 1) []).map (at2 L' x) := rfl; rw [e, s1, Int.zero_mul]
      have t2 : ((wo (m - 1) []).map fun y => at2 L v v * (at2 L (f x) ∘ f) y - at2 L (f x) v * (at2 L v ∘ f) y).sum = 0 := by
        rw [slin]
        have q2 : ((wo (m - 1) []).map (at2 L (f x) ∘ f)).sum = -at2 L (f x) v := by omega
        have q3 : ((wo (m - 1) []).map (at2 L v ∘ f)).sum = -at2 L v v := by omega
        rw [q2, q3]; grind
      rw [perm_sum (pe.map fun y => at2 L' x y * (g : Int))] at t1
      rw [perm_sum (pe.map fun y => at2 L v v * (at2 L (f x) ∘ f) y - at2 L (f x) v * (at2 L v ∘ f) y)] at t2
      simp only [List.map_cons, List.sum_cons] at t1 t2
      have e : ((wo (m - 1) []).erase x).map (fun y => at2 L' x y * (g : Int)) = ((wo (m - 1) []).erase x).map (fun y => at2 L v v * (at2 L (f x) ∘ f) y - at2 L (f x) v * (at2 L v ∘ f) y) := List.map_congr_left fun z hz => by
        have hzm := mem_wo.1 (List.mem_of_mem_erase hz)
        have hne : x ≠ z := by rintro rfl; exact nde.1 hz
        exact off x z hx ⟨hzm.1, hzm.2.1⟩ hne
      rw [e] at t1
      have e2 : (at2 L (f x) ∘ f) x = at2 L (f x) (f x) := rfl
      have e3 : (at2 L v ∘ f) x = at2 L v (f x) := rfl
      rw [e2, e3] at t2
      omega
    · exact off x y hx hy hxy
  -- the inner nodes
  have lw : (wo m [(v : Int)]).length + 1 ≤ m := wo_len (x := (v : Int)) (by simp) (by omega) (by omega)
  have pI : inn.Perm (inn'.map f ++ [(v : Int)]) := by
    refine perm_of h.nd_inn ?_ fun c => ?_
    · rw [List.nodup_append]
      refine ⟨nodup_map_on f h'.nd_inn fun x hx y hy e => finj x y (h'.inn_in x hx).1 (h'.inn_in y hy).1 e, by simp, ?_⟩
      intro a ha b hb
      simp at hb; subst hb
      obtain ⟨x, hx, rfl⟩ := List.mem_map.1 ha
      exact (fin x (h'.inn_in x hx)).2.2
    · rw [h.mem_inn, List.mem_append, List.mem_map]
      simp only [List.mem_cons, List.not_mem_nil, or_false]
      constructor
      · rintro ⟨c0, c1⟩
        by_cases hcv : c = v
        · exact .inr hcv
        · left
          obtain ⟨k, rfl⟩ : ∃ k : Nat, c = k := ⟨c.toNat, by omega⟩
          refine ⟨((ix v k : Nat) : Int), h'.mem_inn.2 ⟨?_, by have := ix_bd (a := k) (v := v) (by omega) hv (by omega); omega⟩, by rw [fu, un_ix (by omega)]⟩
          unfold ix; split <;> omega
      · rintro (⟨x, hx, rfl⟩ | rfl)
        · have hx := h'.mem_inn.1 hx
          obtain ⟨k, rfl⟩ : ∃ k : Nat, x = k := ⟨x.toNat, by omega⟩
          have := fin (k : Int) (by omega)
          rw [fu] at this ⊢
          refine ⟨?_, this.2.1⟩
          unfold un; split <;> omega
        · omega
  have l' := h'.len_inn
  have l0 := h.len_inn
  have f0 : ∀ i : Nat, i < E' → f (i : Int) = i := fun i hi => by rw [fu, un_lo (by omega)]
  -- the two sides
  have Dn := schur (M := L) (M' := L') (v := (v : Int)) (g := (g : Int)) (f := f) inn' inn' rfl (by omega) fun r hr c hc => ent r c (h'.inn_in r hr) (h'.inn_in c hc)
  rw [← detZ_perm pI (by omega)] at Dn
  have Tp : ∀ i j : Nat, i < E' → j < E' → detZ L' ((i : Int) :: inn') ((j : Int) :: inn') * (g : Int) ^ (inn'.length + 1) * at2 L v v = at2 L v v ^ (inn'.length + 1) * detZ L ((i : Int) :: inn) ((j : Int) :: inn) := by
    intro i j hi hj
    have q := schur (M := L) (M' := L') (v := (v : Int)) (g := (g : Int)) (f := f) ((i : Int) :: inn') ((j : Int) :: inn') rfl (by simp; omega) fun r hr c hc => by
      have hr' : 0 ≤ r ∧ r < ((m - 1 : Nat) : Int) := by
        rcases List.mem_cons.1 hr with rfl | hr
        · omega
        · exact h'.inn_in r hr
      have hc' : 0 ≤ c ∧ c < ((m - 1 : Nat) : Int) := by
        rcases List.mem_cons.1 hc with rfl | hc
        · omega
        · exact h'.inn_in c hc
      exact ent r c hr' hc'
    have e := detZ_perm2 (M := L) pI [(i : Int)] [(j : Int)] rfl (by simp; omega)
    simp only [List.cons_append, List.nil_append] at e
    simp only [List.map_cons, List.cons_append, List.length_cons, f0 i hi, f0 j hj] at q
    rw [e]; exact q
  have hA1 : 1 ≤ at2 L v v := by
    have := lk.lapZ.pos lk.hang 1 [(v : Int)] rfl (by omega) (by simp) (by simpa using vin) ⟨0, mem_wo.2 ⟨by omega, by omega, by simp⟩, by simp; omega⟩
    rwa [detZ1] at this
  rw [h.respV, h'.respV]
  simp only [respT]
  refine List.map_congr_left fun i hi => List.map_congr_left fun j hj => ?_
  have hi : i < E' := by rw [List.mem_range'_1] at hi; omega
  have hj : j < E' := by rw [List.mem_range'_1] at hj; omega
  rw [h.rtZ hE hi hj, h'.rtZ hE hi hj, ratZ_eq (h'.dOf1 hE).1 (h.dOf1 hE).1]
  have T := Tp i j hi hj
  simp only [dOf]
  have dd : c.2.2.1 * detZ L' inn' inn' * ((g : Int) ^ (inn'.length + 1) * at2 L v v) = at2 L v v ^ (inn'.length + 1) * (n.2.2.1 * detZ L inn inn) := by
    have e1 : c.2.2.1 * detZ L' inn' inn' * ((g : Int) ^ (inn'.length + 1) * at2 L v v) = (c.2.2.1 * (g : Int)) * (detZ L' inn' inn' * (g : Int) ^ inn'.length * at2 L v v) := by rw [Int.pow_succ]; grind
    rw [e1, Dn, scl, ← A, Int.pow_succ]; grind
  have hX : 0 < (g : Int) ^ (inn'.length + 1) * at2 L v v := Int.mul_pos (Int.pow_pos (by omega)) (by omega)
  have hY : 0 < at2 L v v ^ (inn'.length + 1) := Int.pow_pos (by omega)
  generalize at2 L v v ^ (inn'.length + 1) = Y at *
  rw [Int.mul_assoc] at T
  generalize (g : Int) ^ (inn'.length + 1) * at2 L v v = X at *
  generalize detZ L' ((i : Int) :: inn') ((j : Int) :: inn') = a at *
  generalize detZ L ((i : Int) :: inn) ((j : Int) :: inn) = b at *
  generalize c.2.2.1 * detZ L' inn' inn' = p at *
  generalize n.2.2.1 * detZ L inn inn = q at *
  have hXY : X * Y ≠ 0 := by have := Int.mul_pos hX hY; omega
  refine Int.eq_of_mul_eq_mul_right hXY ?_
  have e1 : a * q * (X * Y) = (a * X) * (Y * q) := by grind
  have e2 : b * p * (X * Y) = (Y * b) * (p * X) := by grind
  rw [e1, e2, T, dd]
end
end Go.Sx.R
namespace Go.Sx.R
open Go Go.Sx

/-- A star's mesh: both sides, and its response. -/
theorem star_keep (n : TNet) (hn : Sm.sm B1 n) (hok : netok n = true) (h2 : 2 ≤ n.2.1) {v : Int} (hv0 : n.2.1 ≤ v) (hv1 : v < n.1) :
    ∃ r : TNet × Bool, e_impl_StarMesh (n, v, ()) = some r ∧ e_spec_StarMesh (n, v, ()) = some r ∧ Red n r ∧ (r.2 = false → r.1 = Z0) ∧ (r.2 = true → respV r.1 = respV n) := by
  obtain ⟨r, r1, r2, r3⟩ := star_both n hn v
  refine ⟨r, r1, r2, r3, ?_⟩
  obtain ⟨m, E, L, inn, h⟩ := nk_of n hn hok
  have hm := h.hm
  have he := h.he
  obtain ⟨k, rfl⟩ : ∃ k : Nat, v = k := ⟨v.toNat, by omega⟩
  obtain ⟨l, l1, l2, l3⟩ := p_Star n hn hok m hm k hv0 (by omega)
  rw [r1] at l3
  cases hq : netok (canon (meshN n m k l)) with
  | false =>
    rw [hq] at l3
    have e := Option.some.inj l3
    subst e
    exact ⟨fun _ => rfl, fun h => by simp at h⟩
  | true =>
    rw [hq] at l3
    have e := Option.some.inj l3
    subst e
    exact ⟨fun h => by simp at h, fun _ => star_resp h (by omega) (by omega) (by omega) l1 l2 hq l2.canon_sm⟩

end Go.Sx.R
namespace Go.Sx.R
open Go Go.Sx

section
variable {n : TNet} {m E : Nat} {L : List (List Int)} {inn : List Int}

theorem Nk.top_le' (h : Nk n m E L inn) {i j : Nat} (hi : i < E) (hj : j < E) : (detZ L ((i : Int) :: inn) ((j : Int) :: inn)).natAbs ≤ 1800 ^ (inn.length + 1) :=
  det_lap h.srt h.inw h.m5 h.hw h.tab (h.with hi).1 (h.with hj).1 (h.with hj).2.1

end

end Go.Sx.R
namespace Go.Sx.R
open Go Go.Sx

section
variable {n : TNet} {m E : Nat} {L : List (List Int)} {inn : List Int}

def topF (L : List (List Int)) (inn : List Int) (i j : Nat) : Int := detZ L ((i : Int) :: inn) ((j : Int) :: inn)

end

end Go.Sx.R
namespace Go.Sx.R
open Go Go.Sx

section
variable {n : TNet} {m E : Nat} {L : List (List Int)} {inn : List Int}

theorem Nk.topB (h : Nk n m E L inn) (hE : 2 ≤ E) {i j : Nat} (hi : i < E) (hj : j < E) : (topF L inn i j).natAbs ≤ 10497600000000 := by
  have l := h.len_inn
  have hm5 := h.m5
  have hem := h.em
  refine Nat.le_trans (h.top_le' hi hj) (Nat.le_trans (Nat.pow_le_pow_right (by omega) (show inn.length + 1 ≤ 4 by omega)) (by decide))

/-- Two networks with the same response. -/
theorem resp_cross {n' : TNet} {m' : Nat} {L' : List (List Int)} {inn' : List Int} (h : Nk n m E L inn) (h' : Nk n' m' E L' inn') (hE : 2 ≤ E) (e : Go.Sx.R.respV n' = Go.Sx.R.respV n) {i j : Nat} (hi : i < E) (hj : j < E) :
    topF L inn i j * dOf n' L' inn' = topF L' inn' i j * dOf n L inn := by
  rw [h.respV, h'.respV] at e
  simp only [respT] at e
  have e1 := congrArg (fun l : List (List (Int × Int)) => l[i]?) e
  simp only [List.getElem?_map, range'_get0 hi, Option.map_some, Option.some.injEq] at e1
  have e2 := congrArg (fun l : List (Int × Int) => l[j]?) e1
  simp only [List.getElem?_map, range'_get0 hj, Option.map_some, Option.some.injEq] at e2
  rw [h.rtZ hE hi hj, h'.rtZ hE hi hj] at e2
  exact ((ratZ_eq (h'.dOf1 hE).1 (h.dOf1 hE).1).1 e2).symm
end

end Go.Sx.R
namespace Go.Sx.R
open Go Go.Sx

theorem detZ_scale {M M' : List (List Int)} {g : Int} : ∀ (rows cols : List Int), rows.length = cols.length → (∀ r ∈ rows, ∀ c ∈ cols, at2 M r c = at2 M' r c * g) → detZ M rows cols = detZ M' rows cols * g ^ rows.length
  | [], cols, _, _ => by simp [detZ]
  | r :: rs, cols, hl, h => by
    have hd : ∀ (k : Nat) (D D' : Nat → Int), (∀ j, j < k → D j = D' j * g ^ rs.length) → ∀ (cs : List Int) (j : Nat) (s : Int), j + cs.length ≤ k → (∀ y ∈ cs, at2 M r y = at2 M' r y * g) → dsum M r D cs j s = dsum M' r D' cs j s * g ^ (rs.length + 1) := by
      intro k D D' hD cs
      induction cs with
      | nil => intro j s _ _; simp [dsum]
      | cons c cs ih =>
        intro j s hj hc
        simp only [dsum, hc c (by simp), ih (j + 1) (-s) (by simp at hj; omega) fun y hy => hc y (by simp [hy]), hD j (by simp at hj; omega), Int.pow_succ]
        grind
    simp only [detZ, List.length_cons]
    refine hd cols.length _ _ (fun k hk => ?_) cols 0 1 (by omega) fun y hy => h r (by simp) y hy
    exact detZ_scale rs (cols.eraseIdx k) (by rw [List.length_eraseIdx_of_lt hk]; simp at hl; omega) fun x hx y hy => h x (by simp [hx]) y (List.mem_of_mem_eraseIdx hy)

theorem sum_lin2 (a b : Int) (F G : Int → Int) : ∀ l : List Int, (l.map fun y => a * F y + b * G y).sum = a * (l.map F).sum + b * (l.map G).sum
  | [] => by simp
  | y :: l => by simp only [List.map_cons, List.sum_cons, sum_lin2 a b F G l, Int.mul_add]; omega

/-- The rows of the response add up to nothing, all nodes as columns. -/
theorem col_all {M : List (List Int)} {V : List Int} : ∀ (R inn : List Int), R.length = inn.length + 1 → R.length ≤ 4 → (∀ r ∈ R, (V.map (at2 M r)).sum = 0) → (V.map fun j => detZ M R (j :: inn)).sum = 0 := by
  intro R inn hl h4 hs
  match R, inn, hl, h4 with
  | [r], [], _, _ =>
    have e : (fun j => detZ M [r] [j]) = at2 M r := by funext j; rw [detZ1]
    rw [e]; exact hs r (by simp)
  | [r, s], [c], _, _ =>
    have e : (fun j => detZ M [r, s] [j, c]) = fun j => at2 M s c * at2 M r j + -at2 M r c * at2 M s j := by funext j; rw [detZ2]; grind
    rw [e, sum_lin2, hs r (by simp), hs s (by simp)]; simp
  | [r, s, t], [c, d], _, _ =>
    have e : (fun j => detZ M [r, s, t] [j, c, d]) = fun j => 1 * ((fun j => (at2 M s c * at2 M t d - at2 M s d * at2 M t c) * at2 M r j + -(at2 M r c * at2 M t d - at2 M r d * at2 M t c) * at2 M s j) j) + (at2 M r c * at2 M s d - at2 M r d * at2 M s c) * at2 M t j := by
      funext j; rw [detZ3]; grind
    rw [e, sum_lin2, sum_lin2, hs r (by simp), hs s (by simp), hs t (by simp)]; simp
  | [r, s, t, u], [c, d, e], _, _ =>
    have e' : (fun j => detZ M [r, s, t, u] [j, c, d, e]) = fun j => 1 * ((fun j => (at2 M s c * (at2 M t d * at2 M u e - at2 M t e * at2 M u d) - at2 M s d * (at2 M t c * at2 M u e - at2 M t e * at2 M u c) + at2 M s e * (at2 M t c * at2 M u d - at2 M t d * at2 M u c)) * at2 M r j
        + -(at2 M r c * (at2 M t d * at2 M u e - at2 M t e * at2 M u d) - at2 M r d * (at2 M t c * at2 M u e - at2 M t e * at2 M u c) + at2 M r e * (at2 M t c * at2 M u d - at2 M t d * at2 M u c)) * at2 M s j) j)
        + 1 * ((fun j => (at2 M r c * (at2 M s d * at2 M u e - at2 M s e * at2 M u d) - at2 M r d * (at2 M s c * at2 M u e - at2 M s e * at2 M u c) + at2 M r e * (at2 M s c * at2 M u d - at2 M s d * at2 M u c)) * at2 M t j
        + -(at2 M r c * (at2 M s d * at2 M t e - at2 M s e * at2 M t d) - at2 M r d * (at2 M s c * at2 M t e - at2 M s e * at2 M t c) + at2 M r e * (at2 M s c * at2 M t d - at2 M s d * at2 M t c)) * at2 M u j) j) := by
      funext j; rw [detZ4]; grind
    rw [e', sum_lin2, sum_lin2, sum_lin2, hs r (by simp), hs s (by simp), hs t (by simp), hs u (by simp)]; simp
  | [], _, hl, _ => simp at hl
  | [_], _ :: _, hl, _ => simp at hl
  | [_, _], [], hl, _ => simp at hl
  | [_, _], _ :: _ :: _, hl, _ => simp at hl
  | [_, _, _], [], hl, _ => simp at hl
  | [_, _, _], [_], hl, _ => simp at hl
  | [_, _, _], _ :: _ :: _ :: _, hl, _ => simp at hl
  | [_, _, _, _], [], hl, _ => simp at hl
  | [_, _, _, _], [_], hl, _ => simp at hl
  | [_, _, _, _], [_, _], hl, _ => simp at hl
  | [_, _, _, _], _ :: _ :: _ :: _ :: _, hl, _ => simp at hl
  | _ :: _ :: _ :: _ :: _ :: _, _, _, h4 => simp at h4 <;> omega

/-- A column twice. -/
theorem col_twice {M : List (List Int)} : ∀ (R inn : List Int), R.length = inn.length + 1 → R.length ≤ 4 → ∀ c ∈ inn, detZ M R (c :: inn) = 0 := by
  intro R inn hl h4 c hc
  match R, inn, hl, h4 with
  | [r], [], _, _ => simp at hc
  | [r, s], [x], _, _ =>
    simp only [List.mem_cons, List.not_mem_nil, or_false] at hc
    subst hc; rw [detZ2]; grind
  | [r, s, t], [x, y], _, _ =>
    simp only [List.mem_cons, List.not_mem_nil, or_false] at hc
    rcases hc with rfl | rfl <;> rw [detZ3] <;> grind
  | [r, s, t, u], [x, y, z], _, _ =>
    simp only [List.mem_cons, List.not_mem_nil, or_false] at hc
    rcases hc with rfl | rfl | rfl <;> rw [detZ4] <;> grind
  | [], _, hl, _ => simp at hl
  | [_], _ :: _, hl, _ => simp at hl
  | [_, _], [], hl, _ => simp at hl
  | [_, _], _ :: _ :: _, hl, _ => simp at hl
  | [_, _, _], [], hl, _ => simp at hl
  | [_, _, _], [_], hl, _ => simp at hl
  | [_, _, _], _ :: _ :: _ :: _, hl, _ => simp at hl
  | [_, _, _, _], [], hl, _ => simp at hl
  | [_, _, _, _], [_], hl, _ => simp at hl
  | [_, _, _, _], [_, _], hl, _ => simp at hl
  | [_, _, _, _], _ :: _ :: _ :: _ :: _, hl, _ => simp at hl
  | _ :: _ :: _ :: _ :: _ :: _, _, _, h4 => simp at h4 <;> omega

section
variable {n : TNet} {m E : Nat} {L : List (List Int)} {inn : List Int}

/-- The ends, in order. -/
def endsL (E : Nat) : List Int := (List.range' 0 E).map fun (i : Nat) => (i : Int)

theorem mem_endsL {E : Nat} {c : Int} : c ∈ endsL E ↔ 0 ≤ c ∧ c < E := by
  simp only [endsL, List.mem_map, List.mem_range'_1]
  constructor
  · rintro ⟨k, hk, rfl⟩; omega
  · intro h; exact ⟨c.toNat, by omega, by omega⟩

theorem nd_endsL (E : Nat) : (endsL E).Nodup := nodup_map_on _ (List.nodup_range') fun x _ y _ e => by omega

theorem Nk.rows (h : Nk n m E L inn) (hE : 2 ≤ E) {i : Nat} (hi : i < E) : ((endsL E).map fun j => detZ L ((i : Int) :: inn) (j :: inn)).sum = 0 := by
  have lk := h.lk
  have l := h.len_inn
  have hm5 := h.m5
  have hem := h.em
  have pV : (wo m []).Perm (endsL E ++ inn) := by
    refine perm_of (wo_nd _ _) ?_ fun c => ?_
    · rw [List.nodup_append]
      exact ⟨nd_endsL E, h.nd_inn, fun a ha b hb => by have := mem_endsL.1 ha; have := h.mem_inn.1 hb; omega⟩
    · rw [List.mem_append, mem_endsL, h.mem_inn, mem_wo]
      simp only [List.not_mem_nil, not_false_eq_true, and_true]; omega
  have s := col_all (M := L) (V := wo m []) ((i : Int) :: inn) inn (by simp) (by simp; omega) fun r hr => lk.lapZ.sum r (mem_wo.2 (by
    have := (h.with hi).1 r hr
    exact ⟨this.1, this.2, by simp⟩))
  rw [perm_sum (pV.map fun j => detZ L ((i : Int) :: inn) (j :: inn)), List.map_append, List.sum_append] at s
  have z : (inn.map fun j => detZ L ((i : Int) :: inn) (j :: inn)).sum = 0 := by
    have e : inn.map (fun j => detZ L ((i : Int) :: inn) (j :: inn)) = inn.map fun _ => 0 := List.map_congr_left fun c hc => col_twice _ _ (by simp) (by simp; omega) c hc
    rw [e]
    have : ∀ l : List Int, (l.map fun _ => (0 : Int)).sum = 0 := by
      intro l
      induction l with
      | nil => rfl
      | cons x l ih => simp only [List.map_cons, List.sum_cons, ih]; rfl
    exact this inn
  omega

/-- Off its diagonal the response is not positive. -/
theorem Nk.offT (h : Nk n m E L inn) (hE : 2 ≤ E) {i j : Nat} (hi : i < E) (hj : j < E) (hij : i ≠ j) : topF L inn i j ≤ 0 := by
  have lk := h.lk
  have l := h.len_inn
  have hm5 := h.m5
  have hem := h.em
  by_cases h3 : 3 ≤ E
  · refine lk.lapZ.cof (a := (i : Int)) (b := (j : Int)) (r := inn) ?_ ?_ (by omega)
    · refine List.nodup_cons.2 ⟨fun hh => ?_, List.nodup_cons.2 ⟨fun hh => by have := h.mem_inn.1 hh; omega, h.nd_inn⟩⟩
      rcases List.mem_cons.1 hh with hh | hh
      · omega
      · have := h.mem_inn.1 hh; omega
    · intro c hc
      refine mem_wo.2 ?_
      rcases List.mem_cons.1 hc with rfl | hc
      · exact ⟨by omega, by omega, by simp⟩
      · rcases List.mem_cons.1 hc with rfl | hc
        · exact ⟨by omega, by omega, by simp⟩
        · have := h.mem_inn.1 hc; exact ⟨by omega, by omega, by simp⟩
  · have e2 : E = 2 := by omega
    subst e2
    have r := h.rows (by omega) hi
    have p : 1 ≤ topF L inn i i := by
      refine lk.lapZ.pos lk.hang _ ((i : Int) :: inn) rfl (by simp; omega) (h.with hi).2.1 (fun c hc => mem_wo.2 (by have := (h.with hi).1 c hc; exact ⟨this.1, this.2, by simp⟩)) ⟨(j : Int), mem_wo.2 ⟨by omega, by omega, by simp⟩, fun hh => ?_⟩
      rcases List.mem_cons.1 hh with hh | hh
      · omega
      · have := h.mem_inn.1 hh; omega
    have e : endsL 2 = [0, 1] := rfl
    rw [e] at r
    simp only [List.map_cons, List.map_nil, List.sum_cons, List.sum_nil] at r
    simp only [topF] at p ⊢
    rcases (show (i = 0 ∧ j = 1) ∨ (i = 1 ∧ j = 0) by omega) with ⟨rfl, rfl⟩ | ⟨rfl, rfl⟩ <;> simp only [Int.natCast_zero, Int.natCast_one] at * <;> omega

/-- The canonical form has the same response. -/
theorem canon_resp (h : Nk n m E L inn) (hE : 2 ≤ E) : Go.Sx.R.respV (canon n) = Go.Sx.R.respV n := by
  have lk := h.lk
  have hF := netok_fine h.hn h.ok
  have hok := netok_canon h.hn h.ok
  obtain ⟨m', E', L', inn', h'⟩ := nk_of _ hF.canon_sm hok
  have em : m' = m := by have := h'.hm; have := h.hm; simp only [canon] at *; omega
  have eE : E' = E := by have := h'.he; have := h.he; simp only [canon] at *; omega
  subst em eE
  have ei : inn' = inn := by rw [h.inn, h'.inn]; rfl
  subst ei
  have lk' := h'.lk
  have hg := hF.g_pos
  have mc := mul_canon hF
  generalize hc : canon n = c at *
  generalize gN n = g at *
  have ws : c.2.2.2.map (mulW g) = n.2.2.2 := congrArg (fun n : TNet => n.2.2.2) mc
  have scl : c.2.2.1 * (g : Int) = n.2.2.1 := congrArg (fun n : TNet => n.2.2.1) mc
  have ent : ∀ x y : Int, (0 ≤ x ∧ x < m') → (0 ≤ y ∧ y < m') → at2 L x y = at2 L' x y * (g : Int) := by
    intro x y hx hy
    rw [lk.a2 hx hy, lk'.a2 hx hy, ← ws, wbt_mul, wAt_mul]
    split
    · rfl
    · rw [Int.neg_mul]
  have gp : ∀ k : Nat, (0 : Int) < (g : Int) ^ k := fun k => Int.pow_pos (by omega)
  rw [h.respV, h'.respV]
  simp only [respT]
  refine List.map_congr_left fun i hi => List.map_congr_left fun j hj => ?_
  have hi : i < E' := by rw [List.mem_range'_1] at hi; omega
  have hj : j < E' := by rw [List.mem_range'_1] at hj; omega
  rw [h.rtZ hE hi hj, h'.rtZ hE hi hj, ratZ_eq (h'.dOf1 hE).1 (h.dOf1 hE).1]
  have e1 := detZ_scale (M := L) (M' := L') (g := (g : Int)) ((i : Int) :: inn') ((j : Int) :: inn') rfl fun r hr c hc => ent r c ((h.with hi).1 r hr) ((h.with hj).1 c hc)
  have e2 := detZ_scale (M := L) (M' := L') (g := (g : Int)) inn' inn' rfl fun r hr c hc => ent r c (h.inn_in r hr) (h.inn_in c hc)
  simp only [dOf, List.length_cons] at *
  rw [e1, e2, ← scl, Int.pow_succ]
  grind

/-- Canonical networks without inner nodes are told apart by their responses. -/
theorem resp_uniq {n' : TNet} {L' : List (List Int)} {inn' : List Int} (h : Nk n m m L inn) (h' : Nk n' m m L' inn') (hm2 : 2 ≤ m) (hc : canon n = n) (hc' : canon n' = n') (e : Go.Sx.R.respV n' = Go.Sx.R.respV n) : n' = n := by
  have lk := h.lk
  have lk' := h'.lk
  have i0 : inn = [] := List.length_eq_zero_iff.1 (by have := h.len_inn; omega)
  have i0' : inn' = [] := List.length_eq_zero_iff.1 (by have := h'.len_inn; omega)
  subst i0 i0'
  have sc := h.sc
  have sc' := h'.sc
  have d1 : detZ L [] [] = 1 := by simp [detZ]
  have d2 : detZ L' [] [] = 1 := by simp [detZ]
  have cr : ∀ i j : Nat, i < m → j < m → at2 L i j * n'.2.2.1 = at2 L' i j * n.2.2.1 := fun i j hi hj => by
    have := resp_cross h h' hm2 e hi hj
    simp only [topF, dOf, detZ1, d1, d2, Int.mul_one] at this
    exact this
  obtain ⟨s, hs⟩ : ∃ s : Nat, n.2.2.1 = s := ⟨n.2.2.1.toNat, by omega⟩
  obtain ⟨s', hs'⟩ : ∃ s' : Nat, n'.2.2.1 = s' := ⟨n'.2.2.1.toNat, by omega⟩
  have hl : n.2.2.2.map (mulW s') = n'.2.2.2.map (mulW s) := by
    have w1 := (wires_self h.srt h.inw h.hw).mul (show 0 < s' by omega)
    have w2 := (wires_self h'.srt h'.inw h'.hw).mul (show 0 < s by omega)
    refine w1.uniq w2 fun a b hab hb => ?_
    have c := cr a b (by omega) hb
    rw [lk.a2 (by omega) (by omega), lk'.a2 (by omega) (by omega), if_neg (by omega), if_neg (by omega), hs, hs'] at c
    simp only [Int.neg_mul] at c
    omega
  have hN : mulN s' n = mulN s n' := by
    have a1 := h.hm
    have a2 := h'.hm
    have b1 := h.he
    have b2 := h'.he
    simp only [mulN, hl, hs, hs', Prod.mk.injEq, and_true]
    exact ⟨by omega, by omega, Int.mul_comm _ _⟩
  have c1 := canon_mul (show 0 < s' by omega) n
  have c2 := canon_mul (show 0 < s by omega) n'
  rw [hN, c2, hc', hc] at c1
  exact c1
end

end Go.Sx.R
namespace Go.Sx.R
open Go Go.Sx

section
variable {n : TNet} {m E : Nat} {L : List (List Int)} {inn : List Int}

/-- The network of a response, before it is reduced. -/
def rnN (n : TNet) (L : List (List Int)) (inn : List Int) (E : Nat) (l : List W3) : TNet := ((E : Int), n.2.1, dOf n L inn, l)
def RnQ (n : TNet) (L : List (List Int)) (inn : List Int) (E : Nat) (o : Option (TNet × Bool)) : Prop := ∃ l, WiresOf (fun i j => -topF L inn i j) E (fun _ _ => True) l ∧ Fine (rnN n L inn E l) ∧ o = some (cond (netok (canon (rnN n L inn E l))) (canon (rnN n L inn E l), true) ((0, 0, 0, []), false))

theorem rn_same {o o' : Option (TNet × Bool)} (h : RnQ n L inn E o) (h' : RnQ n L inn E o') : o = o' := by
  obtain ⟨l, l1, _, e⟩ := h
  obtain ⟨l', l1', _, e'⟩ := h'
  have : l = l' := l1.uniq l1' fun _ _ _ _ => rfl
  rw [e, e', this]

theorem tab_map (E : Nat) (f : Nat → Nat → Int) : IsTab ((List.range' 0 E).map fun (i : Nat) => (List.range' 0 E).map fun (j : Nat) => f i j) E f := by
  refine ⟨by simp, fun i hi => ⟨(List.range' 0 E).map fun (j : Nat) => f i j, ?_, by simp, fun j hj => ?_⟩⟩
  · rw [List.getElem?_map, range'_get0 hi]; rfl
  · rw [List.getElem?_map, range'_get0 hj]; rfl

theorem Nk.pRn (h : Nk n m E L inn) (hE : 2 ≤ E) : RnQ n L inn E (e_impl_ResponseNet (n, ())) := by
  have hm5 := h.m5
  have hem := h.em
  have he := h.he
  have hd : (List.range E).length = E := by simp
  have dd := h.dOf1 hE
  have tb := fun {i j : Nat} (hi : i < E) (hj : j < E) => h.topB hE hi hj
  have hRl : (((List.range' 0 E).map fun (i : Nat) => (List.range' 0 E).map fun (j : Nat) => detZ L ((i : Int) :: inn) ((j : Int) :: inn)).length) = E := by simp
  simp only [e_impl_ResponseNet, r_impl_ResponseNet, p_NetOk n h.hn, h.ok, Option.bind_some, Bool.not_true, cond_false, h.resp, hRl]
  have t0 := tab_map E (topF L inn)
  have et : ((List.range' 0 E).map fun (i : Nat) => (List.range' 0 E).map fun (j : Nat) => detZ L ((i : Int) :: inn) ((j : Int) :: inn)) = ((List.range' 0 E).map fun (i : Nat) => (List.range' 0 E).map fun (j : Nat) => topF L inn i j) := rfl
  rw [et]
  generalize ((List.range' 0 E).map fun (i : Nat) => (List.range' 0 E).map fun (j : Nat) => topF L inn i j) = T0 at *
  refine iter_rule (R := TNet × Bool) (fun o => RnQ n L inn E o) (List.range E) (fun (T : List (List Int)) i => (n, (0, 0, 0, []), T, dOf n L inn, (E : Int), i, ())) (fun i T => IsTab T E (fun a b => if a < i then -topF L inn a b else topF L inn a b)) (fun T i x kc hp hx hi hk => ?_) (fun T kc hp => ?_) (N := N0) (by have := N0_big; omega) T0 (t0.congr fun a b _ _ => by rw [if_neg (by omega)])
  · rw [hd] at hi
    have l1 : decide ((i : Int) < (E : Int)) = true := by rw [decide_eq_true_eq]; omega
    have hTl : ((T.length : Nat) : Int) = (E : Int) := by rw [hp.1]
    simp only [r_impl_ResponseNet_L0, l1, cond_true, hTl]
    refine iter_rule (R := TNet × Bool) (fun o => RnQ n L inn E o) (List.range E) (fun (T : List (List Int)) j => (n, (0, 0, 0, []), T, dOf n L inn, (i : Int), (E : Int), (i : Int), (E : Int), j, ())) (fun j T => IsTab T E (fun a b => if a < i ∨ (a = i ∧ b < j) then -topF L inn a b else topF L inn a b)) (fun T j x kc2 hp hx hj hk2 => ?_) (fun T kc2 hp => ?_) (N := N0) (by have := N0_big; omega) T (hp.congr fun a b _ _ => by
      have : (a < i ∨ (a = i ∧ b < 0)) ↔ a < i := by omega
      simp only [this])
    · rw [hd] at hj
      have l2 : decide ((j : Int) < (E : Int)) = true := by rw [decide_eq_true_eq]; omega
      obtain ⟨row, ra, rb, rc⟩ := hp.2 i hi
      have v : row[j]? = some (topF L inn i j) := by
        rw [rc j hj]
        show some (if i < i ∨ (i = i ∧ j < j) then _ else _) = _
        rw [if_neg (by omega)]
      have b := tb hi hj
      have w : wr (0 - topF L inn i j) = -topF L inn i j := by rw [wr_id (by omega) (by omega)]; omega
      simp only [r_impl_ResponseNet_L2, l2, cond_true, getI_nat, ra, v, Option.bind_some, w, Int.toNat_natCast, wr_succ hj (show E ≤ 9223372036854775807 by omega)]
      refine hk2 _ ((hp.put (v := -topF L inn i j) (b := j) hi ra).congr fun a b _ _ => ?_)
      by_cases e : a = i ∧ b = j
      · rw [if_pos e, if_pos (by omega), e.1, e.2]
      · rw [if_neg e]
        have : (a < i ∨ (a = i ∧ b < j)) ↔ (a < i ∨ (a = i ∧ b < j + 1)) := by omega
        simp only [this]
    · rw [hd] at hp
      have l2 : decide ((((List.range E).length : Nat) : Int) < (E : Int)) = false := by rw [decide_eq_false_iff_not, hd]; omega
      simp only [r_impl_ResponseNet_L2, l2, cond_false, wr_succ hi (show E ≤ 9223372036854775807 by omega)]
      refine hk _ (hp.congr fun a b ha hb => ?_)
      have : (a < i ∨ (a = i ∧ b < E)) ↔ a < i + 1 := by omega
      simp only [this]
  · rw [hd] at hp
    have l1 : decide ((((List.range E).length : Nat) : Int) < (E : Int)) = false := by rw [decide_eq_false_iff_not, hd]; omega
    have hp2 : IsTab T E (fun a b => -topF L inn a b) := hp.congr fun a b ha hb => by rw [if_pos ha]
    obtain ⟨l, l1', l2', l3'⟩ := p_netOfC n.2.1 (dOf n L inn) T E (by omega) (by omega) _ hp2 ⟨dd.1, by omega⟩ h.hn.2.1 (fun i j hij hj => by
      have := h.offT hE (i := i) (j := j) (by omega) hj (by omega)
      have := tb (i := i) (j := j) (by omega) hj
      omega)
    simp only [r_impl_ResponseNet_L0, l1, cond_false, l3', Option.bind_some]
    exact ⟨l, l1', l2', rfl⟩

theorem Nk.sRn (h : Nk n m E L inn) (hE : 2 ≤ E) : RnQ n L inn E (e_spec_ResponseNet (n, ())) := by
  have hm5 := h.m5
  have hem := h.em
  have he := h.he
  have dd := h.dOf1 hE
  have tb := fun {i j : Nat} (hi : i < E) (hj : j < E) => h.topB hE hi hj
  have w0 : wr (n.2.2.1 * detZ L inn inn) = dOf n L inn := by
    show wr (dOf n L inn) = _
    exact wr_id (by omega) (by omega)
  simp only [e_spec_ResponseNet, r_spec_ResponseNet, s_NetOk n h.hn, h.ok, Option.bind_some, Bool.not_true, cond_false, h.sDown, w0]
  -- the wires so far
  let P : Nat → Nat → List W3 → Prop := fun i j l => Srt l ∧ (∀ x, x ∈ l ↔ ∃ a b : Nat, (a < i ∨ (a = i ∧ b < j)) ∧ a < b ∧ b < E ∧ x = ((a : Int), (b : Int), -topF L inn a b)) ∧ l.length ≤ i * E + (j - (i + 1))
  have ext : ∀ {i j i' j' : Nat} {l : List W3}, P i j l → (∀ a b, a < b → b < E → ((a < i ∨ (a = i ∧ b < j)) ↔ (a < i' ∨ (a = i' ∧ b < j')))) → (i * E + (j - (i + 1)) ≤ i' * E + (j' - (i' + 1))) → P i' j' l := by
    intro i j i' j' l ⟨p1, p2, p3⟩ e hle
    refine ⟨p1, fun x => ?_, Nat.le_trans p3 hle⟩
    rw [p2]
    constructor
    · rintro ⟨a, b, h1, h2, h3, h4⟩; exact ⟨a, b, (e a b h2 h3).1 h1, h2, h3, h4⟩
    · rintro ⟨a, b, h1, h2, h3, h4⟩; exact ⟨a, b, (e a b h2 h3).2 h1, h2, h3, h4⟩
  refine iter_while (Q := fun o => RnQ n L inn E o) (p := fun s : TNet × TNet × TNet × Int × Unit => s.1 = n ∧ s.2.1 = (0, 0, 0, []) ∧ ∃ (l : List W3) (i : Nat), s.2.2.1 = (n.2.1, n.2.1, dOf n L inn, l) ∧ s.2.2.2.1 = i ∧ i ≤ E ∧ P i (i + 1) l) (mu := fun s => (E - s.2.2.2.1.toNat)) ?_ N0 _
    ⟨rfl, rfl, [], 0, rfl, rfl, by omega, List.Pairwise.nil, fun x => ⟨fun hx => by simp at hx, fun ⟨a, b, h1, h2, h3, h4⟩ => by omega⟩, by simp⟩ (by have := N0_big; show E - _ < N0; omega)
  rintro ⟨n', z, q, iz, u⟩ kc ⟨h1, h2, l, i, h3, hi, hiE, hP⟩ hk
  simp only at h1 h2 h3 hi
  subst h1 h2 h3 hi
  simp only [r_spec_ResponseNet_L0, he]
  by_cases hiE' : i < E
  · have l1 : decide ((i : Int) < (E : Int)) = true := by rw [decide_eq_true_eq]; omega
    have w1 : wr ((i : Int) + 1) = ((i + 1 : Nat) : Int) := by rw [wr_id (by omega) (by omega)]; omega
    simp only [l1, cond_true, w1]
    refine iter_while (Q := fun o => RnQ _ L inn E o) (p := fun s : TNet × TNet × TNet × Int × Int × Unit => s.1 = n' ∧ s.2.1 = (0, 0, 0, []) ∧ ∃ (l : List W3) (j : Nat), s.2.2.1 = ((E : Int), (E : Int), dOf n' L inn, l) ∧ s.2.2.2.1 = i ∧ s.2.2.2.2.1 = j ∧ i < j ∧ j ≤ E ∧ P i j l) (mu := fun s => (E - s.2.2.2.2.1.toNat)) ?_ N0 _
      ⟨rfl, rfl, l, i + 1, rfl, rfl, rfl, by omega, by omega, hP⟩ (by have := N0_big; show E - _ < N0; omega)
    rintro ⟨n'', z, q, iz, jz, u⟩ kc2 ⟨h1, h2, l, j, h3, hi2, hj2, hij, hjE, hP⟩ hk2
    simp only at h1 h2 h3 hi2 hj2
    subst h1 h2 h3 hi2 hj2
    simp only [r_spec_ResponseNet_L2, he]
    by_cases hj : j < E
    · have l2 : decide ((j : Int) < (E : Int)) = true := by rw [decide_eq_true_eq]; omega
      have b := tb hiE' hj
      have w : wr (0 - detZ L ((i : Int) :: inn) ((j : Int) :: inn)) = -topF L inn i j := by
        show wr (0 - topF L inn i j) = _
        rw [wr_id (by omega) (by omega)]; omega
      have w2 : wr ((j : Int) + 1) = ((j + 1 : Nat) : Int) := by rw [wr_id (by omega) (by omega)]; omega
      have hlen : l.length ≤ 1000 := by
        have := hP.2.2
        have : i * E ≤ 5 * 5 := Nat.mul_le_mul (by omega) (by omega)
        omega
      have bl : Nat.ble (l.length + List.length (((i : Int), ((j : Int), -topF L inn i j)) :: ([] : List W3))) 17179869184 = true := ble_true (by simp; omega)
      simp only [l2, cond_true, h.sTop hiE' hj, Option.bind_some, w, w2, bl]
      refine hk2 (_, (0, 0, 0, []), ((E : Int), (E : Int), dOf _ L inn, l ++ [((i : Int), (j : Int), -topF L inn i j)]), (i : Int), ((j + 1 : Nat) : Int), ()) ⟨rfl, rfl, _, j + 1, rfl, rfl, rfl, by omega, by omega, ?_, fun x => ?_, ?_⟩ (by show E - ((j + 1 : Nat) : Int).toNat < E - ((j : Nat) : Int).toNat; omega)
      · refine List.pairwise_append.2 ⟨hP.1, by simp, fun x hx y hy => ?_⟩
        simp only [List.mem_cons, List.not_mem_nil, or_false] at hy
        subst hy
        obtain ⟨a, b, h1, h2, h3, rfl⟩ := (hP.2.1 x).1 hx
        rw [lex_iff]
        simp only
        omega
      · rw [List.mem_append, hP.2.1]
        simp only [List.mem_cons, List.not_mem_nil, or_false]
        constructor
        · rintro (⟨a, b, h1, h2, h3, h4⟩ | rfl)
          · exact ⟨a, b, by omega, h2, h3, h4⟩
          · exact ⟨i, j, by omega, hij, hj, rfl⟩
        · rintro ⟨a, b, h1, h2, h3, rfl⟩
          by_cases c : a = i ∧ b = j
          · right; rw [c.1, c.2]
          · left; exact ⟨a, b, by omega, h2, h3, rfl⟩
      · have := hP.2.2
        simp; omega
    · have l2 : decide ((j : Int) < (E : Int)) = false := by rw [decide_eq_false_iff_not]; omega
      simp only [l2, cond_false, w1]
      refine hk (_, (0, 0, 0, []), ((E : Int), (E : Int), dOf _ L inn, l), ((i + 1 : Nat) : Int), ()) ⟨rfl, rfl, l, i + 1, by simp only [he], rfl, by omega, ext hP (fun a b h1 h2 => by omega) ?_⟩ (by show E - ((i + 1 : Nat) : Int).toNat < E - ((i : Nat) : Int).toNat; omega)
      have : (i + 1) * E = i * E + E := by rw [Nat.add_mul, Nat.one_mul]
      omega
  · have l1 : decide ((i : Int) < (E : Int)) = false := by rw [decide_eq_false_iff_not]; omega
    have ei : i = E := by omega
    have acc : Acc E (fun a b => -topF L inn a b) l := by
      refine ⟨hP.1, fun x hx => ?_, fun a b h1 h2 _ => (hP.2.1 _).2 ⟨a, b, by omega, h1, h2, rfl⟩⟩
      obtain ⟨a, b, h1, h2, h3, h4⟩ := (hP.2.1 x).1 hx
      exact ⟨a, b, h2, h3, h4⟩
    obtain ⟨l', k1, k2, k3⟩ := s_Reduced n'.2.1 (dOf n' L inn) E (by omega) acc ⟨dd.1, by omega⟩ h.hn.2.1 (fun i j hij hj => by
      have := h.offT hE (i := i) (j := j) (by omega) hj (by omega)
      have := tb (i := i) (j := j) (by omega) hj
      omega)
    rw [he] at k2 k3
    simp only [l1, cond_false, k3, Option.bind_some]
    exact ⟨l', k1, by simp only [rnN, he]; exact k2, by simp only [rnN, he]⟩
end

end Go.Sx.R
namespace Go.Sx.R
open Go Go.Sx

theorem detZ_tr {M : List (List Int)} : ∀ (R C : List Int), R.length = C.length → R.length ≤ 4 → (∀ r ∈ R, ∀ c ∈ C, at2 M r c = at2 M c r) → detZ M R C = detZ M C R := by
  intro R C hl h4 h
  match R, C, hl, h4 with
  | [], [], _, _ => rfl
  | [a], [x], _, _ => rw [detZ1, detZ1]; exact h a (by simp) x (by simp)
  | [a, b], [x, y], _, _ =>
    simp only [detZ2, h a (by simp) x (by simp), h a (by simp) y (by simp), h b (by simp) x (by simp), h b (by simp) y (by simp)]; grind
  | [a, b, c], [x, y, z], _, _ =>
    simp only [detZ3, h a (by simp) x (by simp), h a (by simp) y (by simp), h a (by simp) z (by simp), h b (by simp) x (by simp), h b (by simp) y (by simp), h b (by simp) z (by simp), h c (by simp) x (by simp), h c (by simp) y (by simp), h c (by simp) z (by simp)]; grind
  | [a, b, c, d], [x, y, z, w], _, _ =>
    simp only [detZ4, h a (by simp) x (by simp), h a (by simp) y (by simp), h a (by simp) z (by simp), h a (by simp) w (by simp), h b (by simp) x (by simp), h b (by simp) y (by simp), h b (by simp) z (by simp), h b (by simp) w (by simp), h c (by simp) x (by simp), h c (by simp) y (by simp), h c (by simp) z (by simp), h c (by simp) w (by simp), h d (by simp) x (by simp), h d (by simp) y (by simp), h d (by simp) z (by simp), h d (by simp) w (by simp)]
    clear h
    generalize at2 M x a = p1
    generalize at2 M y a = p2
    generalize at2 M z a = p3
    generalize at2 M w a = p4
    generalize at2 M x b = p5
    generalize at2 M y b = p6
    generalize at2 M z b = p7
    generalize at2 M w b = p8
    generalize at2 M x c = p9
    generalize at2 M y c = p10
    generalize at2 M z c = p11
    generalize at2 M w c = p12
    generalize at2 M x d = p13
    generalize at2 M y d = p14
    generalize at2 M z d = p15
    generalize at2 M w d = p16
    grind
  | [], _ :: _, hl, _ => simp at hl
  | _ :: _, [], hl, _ => simp at hl
  | [_], _ :: _ :: _, hl, _ => simp at hl
  | _ :: _ :: _, [_], hl, _ => simp at hl
  | [_, _], _ :: _ :: _ :: _, hl, _ => simp at hl
  | _ :: _ :: _ :: _, [_, _], hl, _ => simp at hl
  | [_, _, _], _ :: _ :: _ :: _ :: _, hl, _ => simp at hl
  | _ :: _ :: _ :: _ :: _, [_, _, _], hl, _ => simp at hl
  | [_, _, _, _], _ :: _ :: _ :: _ :: _ :: _, hl, _ => simp at hl
  | _ :: _ :: _ :: _ :: _ :: _, _, _, h4 => simp at h4 <;> omega

section
variable {n : TNet} {m E : Nat} {L : List (List Int)} {inn : List Int}

theorem Nk.topSym (h : Nk n m E L inn) (hE : 2 ≤ E) {i j : Nat} (hi : i < E) (hj : j < E) : topF L inn i j = topF L inn j i := by
  have l := h.len_inn
  have hm5 := h.m5
  have hem := h.em
  refine detZ_tr _ _ rfl (by simp; omega) fun r hr c hc => ?_
  have h1 := (h.with hi).1 r hr
  have h2 := (h.with hj).1 c hc
  exact h.lk.lapZ.sym r (mem_wo.2 ⟨h1.1, h1.2, by simp⟩) c (mem_wo.2 ⟨h2.1, h2.2, by simp⟩)

/-- The response of the response's network. -/
theorem rn_resp (h : Nk n m E L inn) (hE : 2 ≤ E) {l : List W3} (l1 : WiresOf (fun i j => -topF L inn i j) E (fun _ _ => True) l) (hF : Fine (rnN n L inn E l)) (hok : netok (canon (rnN n L inn E l)) = true) : Go.Sx.R.respV (canon (rnN n L inn E l)) = Go.Sx.R.respV n := by
  obtain ⟨m', E', L', inn', h'⟩ := nk_of _ hF.canon_sm hok
  have em : m' = E := by have := h'.hm; simp only [canon, rnN] at this; omega
  have eE : E' = E := by have := h'.he; have := h.he; simp only [canon, rnN] at *; omega
  subst em eE
  have i0 : inn' = [] := List.length_eq_zero_iff.1 (by have := h'.len_inn; omega)
  subst i0
  have lk' := h'.lk
  have hg := hF.g_pos
  have mc := mul_canon hF
  generalize hc : canon (rnN n L inn E' l) = c at *
  generalize gN (rnN n L inn E' l) = g at *
  have ws : c.2.2.2.map (mulW g) = l := congrArg (fun n : TNet => n.2.2.2) mc
  have scl : c.2.2.1 * (g : Int) = dOf n L inn := congrArg (fun n : TNet => n.2.2.1) mc
  have off : ∀ i j : Nat, i < E' → j < E' → i ≠ j → at2 L' i j * (g : Int) = topF L inn i j := by
    intro i j hi hj hij
    rw [lk'.a2 (by omega) (by omega), if_neg (by omega), Int.neg_mul]
    have e : wbt c.2.2.2 (i : Int) (j : Int) * (g : Int) = wbt l (i : Int) (j : Int) := by rw [← ws, wbt_mul]
    rw [e]
    rcases Nat.lt_or_gt_of_ne hij with hl | hl
    · rw [wiresOf_wbt l1 hl hj]; omega
    · rw [wbt_comm, wiresOf_wbt l1 hl hi, h.topSym hE hi hj]; omega
  have smul : ∀ (k : Int) (l : List Int) (F : Int → Int), (l.map fun y => F y * k).sum = (l.map F).sum * k := by
    intro k l F
    induction l with
    | nil => simp
    | cons y l ih => simp only [List.map_cons, List.sum_cons, ih, Int.add_mul]
  have ent : ∀ i j : Nat, i < E' → j < E' → at2 L' i j * (g : Int) = topF L inn i j := by
    intro i j hi hj
    by_cases hij : i = j
    · subst hij
      have pE : (wo E' []).Perm (endsL E') := perm_of (wo_nd _ _) (nd_endsL E') fun c => by
        rw [mem_wo, mem_endsL]; simp
      have s1 := lk'.lapZ.sum (i : Int) (mem_wo.2 ⟨by omega, by omega, by simp⟩)
      rw [perm_sum (pE.map (at2 L' (i : Int)))] at s1
      have s2 := h.rows hE hi
      have iin : (i : Int) ∈ endsL E' := mem_endsL.2 (by omega)
      have pe := List.perm_cons_erase iin
      have nde := List.nodup_cons.1 (pe.nodup_iff.1 (nd_endsL E'))
      have t1 : ((endsL E').map fun y => at2 L' (i : Int) y * (g : Int)).sum = 0 := by
        rw [smul]
        have e : ((endsL E').map fun y => at2 L' (i : Int) y) = (endsL E').map (at2 L' (i : Int)) := rfl
        rw [e, s1, Int.zero_mul]
      rw [perm_sum (pe.map fun y => at2 L' (i : Int) y * (g : Int))] at t1
      rw [perm_sum (pe.map fun j => detZ L ((i : Int) :: inn) (j :: inn))] at s2
      simp only [List.map_cons, List.sum_cons] at t1 s2
      have e : ((endsL E').erase (i : Int)).map (fun y => at2 L' (i : Int) y * (g : Int)) = ((endsL E').erase (i : Int)).map (fun j => detZ L ((i : Int) :: inn) (j :: inn)) := List.map_congr_left fun z hz => by
        have hzm := mem_endsL.1 (List.mem_of_mem_erase hz)
        have hne : (i : Int) ≠ z := by rintro rfl; exact nde.1 hz
        obtain ⟨k, rfl⟩ : ∃ k : Nat, z = k := ⟨z.toNat, by omega⟩
        exact off i k hi (by omega) (by omega)
      rw [e] at t1
      show _ = detZ L ((i : Int) :: inn) ((i : Int) :: inn)
      omega
    · exact off i j hi hj hij
  rw [h.respV, h'.respV]
  simp only [respT]
  refine List.map_congr_left fun i hi => List.map_congr_left fun j hj => ?_
  have hi : i < E' := by rw [List.mem_range'_1] at hi; omega
  have hj : j < E' := by rw [List.mem_range'_1] at hj; omega
  rw [h.rtZ hE hi hj, h'.rtZ hE hi hj, ratZ_eq (h'.dOf1 hE).1 (h.dOf1 hE).1]
  have d1 : detZ L' [] [] = 1 := by simp [detZ]
  have e := ent i j hi hj
  simp only [topF] at e
  have d : dOf c L' [] = c.2.2.1 := by simp only [dOf, d1, Int.mul_one]
  rw [d, detZ1, ← e, ← scl]
  grind
end

theorem star_can (n : TNet) (hn : Sm.sm B1 n) (hok : netok n = true) {v : Int} (hv0 : n.2.1 ≤ v) (hv1 : v < n.1) (r : TNet × Bool) (e : e_impl_StarMesh (n, v, ()) = some r) (ht : r.2 = true) : canon r.1 = r.1 := by
  obtain ⟨m, hm, hm1, hm5, hin, he1, he2⟩ := netok_facts hok
  obtain ⟨k, rfl⟩ : ∃ k : Nat, v = k := ⟨v.toNat, by omega⟩
  obtain ⟨l, l1, l2, l3⟩ := p_Star n hn hok m hm k hv0 (by omega)
  rw [e] at l3
  cases hq : netok (canon (meshN n m k l)) with
  | false => rw [hq] at l3; have := Option.some.inj l3; subst this; cases ht
  | true => rw [hq] at l3; have := Option.some.inj l3; subst this; exact canon_canon l2

/-- All stars replaced: what is kept. -/
theorem mesh_keep : ∀ (k : Nat) (y : TNet) (N : Nat), Sm.sm B1 y → netok y = true → canon y = y → 2 ≤ y.2.1 → y.1 ≤ k → k + 1 < N →
    ∃ R : TNet × Bool, iterK (r_impl_MeshAll_L0 e_impl_CanonNet e_impl_StarMesh N0) N (y, (0, 0, 0, []), true, ()) (fun s2 => some (s2.1, s2.2.2.1)) = some R ∧
      (R.2 = true → Sm.sm B1 R.1 ∧ netok R.1 = true ∧ canon R.1 = R.1 ∧ R.1.1 = y.2.1 ∧ R.1.2.1 = y.2.1 ∧ respV R.1 = respV y)
  | 0, y, N, hn, hok, _, _, hk, _ => by obtain ⟨m, hm, hm1, _⟩ := netok_facts hok; omega
  | k + 1, y, N, hn, hok, hc, h2, hk, hN => by
    obtain ⟨M, rfl⟩ : ∃ M, N = M + 1 := ⟨N - 1, by omega⟩
    obtain ⟨m, hm, hm1, hm5, hin, he1, he2⟩ := netok_facts hok
    simp only [iterK]
    unfold r_impl_MeshAll_L0
    simp only [cond_true]
    by_cases h : y.1 > y.2.1
    · have w : wr (y.1 - 1) = y.1 - 1 := wr_id (by omega) (by omega)
      obtain ⟨r, r1, r2, r3, r4, r5⟩ := star_keep y hn hok h2 (v := y.1 - 1) (by omega) (by omega)
      simp only [h, decide_true, cond_true, w, r1, Option.bind_some]
      cases ht : r.2 with
      | false =>
        obtain ⟨M2, rfl⟩ : ∃ M2, M = M2 + 1 := ⟨M - 1, by omega⟩
        refine ⟨(r.1, false), ?_, by simp⟩
        simp only [iterK, r_impl_MeshAll_L0, cond_false]
      | true =>
        obtain ⟨k1, k2, k3⟩ := r3.ok ht
        obtain ⟨R, e, hR⟩ := mesh_keep k r.1 M r3.sm k1 (star_can y hn hok (by omega) (by omega) r r1 ht) (by omega) (by omega) (by omega)
        refine ⟨R, e, fun hR2 => ?_⟩
        obtain ⟨q1, q2, q3, q4, q5, q6⟩ := hR hR2
        exact ⟨q1, q2, q3, by rw [q4, k3], by rw [q5, k3], by rw [q6, r5 ht]⟩
    · simp only [h, decide_false, cond_false]
      exact ⟨_, rfl, fun _ => ⟨hn, hok, hc, by show y.1 = y.2.1; omega, rfl, rfl⟩⟩

theorem p_MeshAll (n : TNet) (hn : Sm.sm B1 n) (hok : netok n = true) (h2 : 2 ≤ n.2.1) : ∃ R : TNet × Bool, e_impl_MeshAll (n, ()) = some R ∧ e_spec_MeshAll (n, ()) = some R ∧
      (R.2 = true → Sm.sm B1 R.1 ∧ netok R.1 = true ∧ canon R.1 = R.1 ∧ R.1.1 = n.2.1 ∧ R.1.2.1 = n.2.1 ∧ respV R.1 = respV n) := by
  obtain ⟨R, r1, r2, _⟩ := mesh_both n hn
  refine ⟨R, r1, r2, ?_⟩
  have hF := netok_fine hn hok
  obtain ⟨m, E, L, inn, h⟩ := nk_of n hn hok
  have hE : 2 ≤ E := by have := h.he; omega
  have cr := canon_resp h hE
  have hm5 := h.m5
  have hm := h.hm
  obtain ⟨R', e, hR⟩ := mesh_keep 5 (canon n) N0 hF.canon_sm (netok_canon hn hok) (canon_canon hF) h2 (by show n.1 ≤ 5; omega) (by have := N0_big; omega)
  simp only [e_impl_MeshAll, r_impl_MeshAll, p_Canon n hn hok, Option.bind_some] at r1
  rw [e] at r1
  have := Option.some.inj r1
  subst this
  intro ht
  obtain ⟨q1, q2, q3, q4, q5, q6⟩ := hR ht
  exact ⟨q1, q2, q3, q4, q5, by rw [q6, cr]⟩

end Go.Sx.R
namespace Go.Sx.R
open Go Go.Sx

theorem p_EqualW (l : List W3) (hl : l.length ≤ 1073741824) : e_slices_Equal_impl_Wire (l, l, ()) = some true := by
  simp only [e_slices_Equal_impl_Wire, r_slices_Equal_impl_Wire, decide_true, Bool.not_true, cond_false]
  refine iter_rule (R := Bool) (fun o => o = some true) l (fun (_ : Unit) i => (l, l, (l.length : Int), i, ())) (fun _ _ => True) (fun st i x kc _ hx hi hk => ?_) (fun st kc _ => ?_) (N := N0) (by have := N0_big; omega) () trivial
  · simp only [r_slices_Equal_impl_Wire_L0, lt_len, hi, decide_true, cond_true, getI_nat, hx, Option.bind_some, intEq_self, Bool.and_self, Bool.not_true, cond_false, wr_succ hi (show l.length ≤ 9223372036854775807 by omega)]
    exact hk () trivial
  · simp only [r_slices_Equal_impl_Wire_L0, not_lt_self, cond_false]

theorem p_SameNet (n : TNet) (hn : Sm.sm B1 n) : e_impl_SameNet (n, n, ()) = some true := by
  simp only [e_impl_SameNet, r_impl_SameNet, decide_true, cond_true, p_EqualW n.2.2.2 hn.2.2.2.1, Option.bind_some]

theorem law_FnAlike (A : Option (Nat × Obj)) (v : Value) (hc : CodeOk A v) : e_laws_FnAlike A (v, ()) = some true := by
  obtain ⟨p, len, c, rfl, _⟩ := id hc
  simp only [e_laws_FnAlike, r_laws_FnAlike, rawLen, Option.bind_some]
  by_cases hlen : (len : Int) > 1048576
  · simp only [hlen, decide_true, cond_true]
  simp only [hlen, decide_false, cond_false]
  obtain ⟨n, e1, hd⟩ := makeNet_ok hc
  obtain ⟨hok, h0⟩ := hd.ok (by omega) (by omega)
  have hn : Sm.sm B1 n := up_net B01 h0
  obtain ⟨m, E, L, inn, h⟩ := nk_of n hn hok
  have he2 := hd.e2
  have he := h.he
  have hE : 2 ≤ E := by omega
  have q1 := h.pRn hE
  have q2 := h.sRn hE
  have qs := rn_same q2 q1
  obtain ⟨l, l1, l2, l3⟩ := q1
  rw [l3] at qs
  obtain ⟨R, r1, r2, r3⟩ := p_MeshAll n hn hok he2
  simp only [e1, qs, l3, p_NetOk n hn, hok, r1, r2, Option.bind_some]
  cases hq : netok (canon (rnN n L inn E l)) with
  | false =>
    simp [beqB]
  | true =>
    have hr := rn_resp h hE l1 l2 hq
    have hsm := l2.canon_sm
    have n1 : (canon (rnN n L inn E l)).1 = n.2.1 := by simp only [canon, rnN]; omega
    have cc := canon_canon l2
    have en : (canon (rnN n L inn E l)).2.1 = n.2.1 := rfl
    generalize hc : canon (rnN n L inn E l) = q at *
    simp only [cond_true, beqB_self, Bool.not_true, cond_false, n1, decide_true, p_Alike n q hn hsm, hok, hq, hr, Bool.and_self, Option.bind_some]
    cases ht : R.2 with
    | false => simp
    | true =>
      obtain ⟨a1, a2, a3, a4, a5, a6⟩ := r3 ht
      -- the same network
      have same : R.1 = q := by
        obtain ⟨m1, E1, L1, i1, h1⟩ := nk_of R.1 a1 a2
        obtain ⟨m2, E2, L2, i2, h2⟩ := nk_of q hsm hq
        have x1 := h1.hm
        have x2 := h1.he
        have x3 := h2.hm
        have x4 := h2.he
        have y1 : m1 = E1 := by omega
        have y2 : E2 = E1 := by omega
        have y3 : m2 = E1 := by omega
        subst y1 y2 y3
        exact resp_uniq h2 h1 (by omega) cc a3 (by rw [a6, hr])
      rw [same]
      simp only [Bool.not_true, cond_false, p_SameNet q hsm, Option.bind_some]

end Go.Sx.R
namespace Go.Sx.R
open Go Go.Sx

def bnd : Nat → Nat
  | 0 => 1
  | n + 1 => 5 * bnd n

end Go.Sx.R
namespace Go.Sx.R
open Go Go.Sx

abbrev Mat := List (List (Int × Int))
/-- An entry. -/
def en (m : Mat) (i j : Nat) : Int × Int := (((m[i]?).getD [])[j]?).getD (0, 0)
end Go.Sx.R
namespace Go.Sx.R
open Go Go.Sx

/-- The two nodes beside a node. -/
def fstN (i : Nat) : Nat := if i = 0 then 1 else 0
def sndN (i : Nat) : Nat := if i = 0 then 2 else if i = 1 then 2 else 1

theorem nb {K i : Nat} (hK : 3 ≤ K) (_hi : i < K) : fstN i < K ∧ sndN i < K := by unfold fstN sndN; split <;> (try split) <;> omega

end Go.Sx.R
