/- The law in plain words, part 2. Conditions: none. -/
import Derived.Test.YtjjhhgieolobjaaLawa
namespace Go.Sx.R
open Go Go.Sx

theorem foldI_near (ws : List W3) (v : Int) : ∀ (l : List Nat) (i : Nat) (q : List Int), foldI (nearG ws v) l i q = q ++ ((List.range' i l.length).filter fun (u : Nat) => decide (wbt ws v (u : Int) > 0)).map fun (u : Nat) => (u : Int)
  | [], _, q => by simp [foldI]
  | x :: l, i, q => by
    simp only [foldI, foldI_near ws v l (i + 1), nearG, List.length_cons, List.range'_succ, List.filter_cons]
    by_cases h : wbt ws v (i : Int) > 0
    · simp [h]
    · simp [h]

theorem near_nat (ws : List W3) (v : Int) (m : Nat) : ∃ nl : List Nat, near ws v m = nl.map (fun (u : Nat) => (u : Int)) ∧ nl.Pairwise (· < ·) ∧ ∀ u : Nat, u ∈ nl ↔ u < m ∧ 0 < wbt ws v (u : Int) := by
  refine ⟨(List.range' 0 m).filter fun (u : Nat) => decide (wbt ws v (u : Int) > 0), ?_, List.Pairwise.filter _ List.pairwise_lt_range', fun u => ?_⟩
  · simp only [near, foldI_near, List.length_range, List.nil_append]
  · rw [List.mem_filter, List.mem_range'_1]; simp

def F1 (ws : List W3) (v : Nat) (s : Int) (l : List W3) (a b : Nat) : Int := if l.any (keyB (un v a : Int) (un v b : Int)) = true then wbt ws (un v a : Int) (un v b : Int) * s else 0
def F2 (ws : List W3) (v : Nat) (s : Int) (q : List Nat) (a b : Nat) : Int := wbt ws (un v a : Int) (un v b : Int) * s + if un v a ∈ q then wbt ws (v : Int) (un v a : Int) * wbt ws (v : Int) (un v b : Int) else 0
def F3 (ws : List W3) (v : Nat) (s : Int) (q : List Nat) (u : Nat) (r : List Nat) (a b : Nat) : Int := F2 ws v s q a b + if un v a = u ∧ un v b ∈ r then wbt ws (v : Int) (un v a : Int) * wbt ws (v : Int) (un v b : Int) else 0

section
variable {ws : List W3} {m v : Nat} {s : Int}

theorem F1_bd (hW : ∀ e ∈ ws, 1 ≤ e.2.2 ∧ e.2.2 ≤ 200) (hs : 0 ≤ s ∧ s ≤ 1000) (l : List W3) (a b : Nat) : 0 ≤ F1 ws v s l a b ∧ F1 ws v s l a b ≤ 200000 := by
  have := mesh_bd (wbt_bd hW (un v a : Int) (un v b : Int)) hs (wbt_bd hW (v : Int) (un v a : Int)) (wbt_bd hW (v : Int) (un v b : Int))
  simp only [F1]; split <;> omega
theorem F2_bd (hW : ∀ e ∈ ws, 1 ≤ e.2.2 ∧ e.2.2 ≤ 200) (hs : 0 ≤ s ∧ s ≤ 1000) (q : List Nat) (a b : Nat) : 0 ≤ F2 ws v s q a b ∧ F2 ws v s q a b ≤ 240000 := by
  have := mesh_bd (wbt_bd hW (un v a : Int) (un v b : Int)) hs (wbt_bd hW (v : Int) (un v a : Int)) (wbt_bd hW (v : Int) (un v b : Int))
  simp only [F2]; split <;> omega
theorem F3_bd (hW : ∀ e ∈ ws, 1 ≤ e.2.2 ∧ e.2.2 ≤ 200) (hs : 0 ≤ s ∧ s ≤ 1000) (q : List Nat) (u : Nat) (r : List Nat) (a b : Nat) : 0 ≤ F3 ws v s q u r a b ∧ F3 ws v s q u r a b ≤ 280000 := by
  have h1 := mesh_bd (wbt_bd hW (un v a : Int) (un v b : Int)) hs (wbt_bd hW (v : Int) (un v a : Int)) (wbt_bd hW (v : Int) (un v b : Int))
  have h2 := F2_bd (v := v) hW hs q a b
  simp only [F3]; split <;> omega

theorem any_take {p : W3 → Bool} {l : List W3} {i : Nat} {x : W3} (h : l[i]? = some x) : (l.take (i + 1)).any p = ((l.take i).any p || p x) := by
  rw [List.take_add_one, h]; simp

theorem F1_skip {i : Nat} {x : W3} (hx : ws[i]? = some x) (h : x.1 = (v : Int) ∨ x.2.1 = (v : Int)) (a b : Nat) : F1 ws v s (ws.take i) a b = F1 ws v s (ws.take (i + 1)) a b := by
  have hk : keyB (un v a : Int) (un v b : Int) x = false := by
    have : ¬ keyB (un v a : Int) (un v b : Int) x = true := by
      rw [keyB_iff]
      have := un_ne v a; have := un_ne v b
      omega
    simpa using this
  simp only [F1, any_take hx, hk, Bool.or_false]

theorem F1_put {i : Nat} {x : W3} (hS : Srt ws) (hx : ws[i]? = some x) {A B : Nat} (hA : x.1 = (A : Int)) (hB : x.2.1 = (B : Int)) (hAB : A < B) (hAv : A ≠ v) (hBv : B ≠ v) (hw0 : x.2.2 ≠ 0) (a b : Nat) :
    (if a = ix v A ∧ b = ix v B then F1 ws v s (ws.take i) a b + x.2.2 * s else F1 ws v s (ws.take i) a b) = F1 ws v s (ws.take (i + 1)) a b := by
  have hxm := List.mem_of_getElem? hx
  have hi := get_lt hx
  by_cases e : a = ix v A ∧ b = ix v B
  · rw [if_pos e]
    have ua : un v a = A := (un_iff hAv).2 e.1
    have ub : un v b = B := (un_iff hBv).2 e.2
    have hk : keyB (A : Int) (B : Int) x = true := keyB_iff.2 ⟨hA, hB⟩
    have hn : (ws.take i).any (keyB (A : Int) (B : Int)) = false := by
      rw [List.any_eq_false]
      intro y hy hk2
      obtain ⟨j, hj⟩ := List.getElem?_of_mem hy
      rw [List.getElem?_take] at hj
      split at hj
      · rename_i hji
        have hjl := get_lt hj
        have := List.pairwise_iff_getElem.1 hS j i hjl hi hji
        rw [List.getElem?_eq_getElem hjl] at hj
        rw [List.getElem?_eq_getElem hi] at hx
        simp only [Option.some.injEq] at hj hx
        rw [hj, hx, lex_iff] at this
        rw [keyB_iff] at hk2
        omega
      · simp at hj
    have hwb : wbt ws (A : Int) (B : Int) = x.2.2 := (wbt_mem hS (by omega) hw0).2 (by
      have : x = ((A : Int), (B : Int), x.2.2) := by rw [← hA, ← hB]
      rw [← this]; exact hxm)
    simp only [F1, any_take hx, ua, ub, hk, hn, Bool.or_true, if_true, hwb]
    simp
  · rw [if_neg e]
    have hk : keyB (un v a : Int) (un v b : Int) x = false := by
      have : ¬ keyB (un v a : Int) (un v b : Int) x = true := by
        rw [keyB_iff]
        rintro ⟨q1, q2⟩
        exact e ⟨(un_iff hAv).1 (by omega), (un_iff hBv).1 (by omega)⟩
      simpa using this
    simp only [F1, any_take hx, hk, Bool.or_false]

theorem F1_all (hS : Srt ws) {a b : Nat} (hab : a < b) : F1 ws v s ws a b = F2 ws v s [] a b := by
  simp only [F1, F2, List.not_mem_nil, if_false, Int.add_zero]
  split
  · rfl
  · rename_i h
    have hz : wbt ws (un v a : Int) (un v b : Int) = 0 := by
      by_cases hz : wbt ws (un v a : Int) (un v b : Int) = 0
      · exact hz
      · refine absurd ?_ h
        have hm := (wbt_mem hS (a := (un v a : Int)) (b := (un v b : Int)) (by have := un_lt (v := v) hab; omega) hz).1 rfl
        rw [List.any_eq_true]
        exact ⟨_, hm, keyB_iff.2 ⟨rfl, rfl⟩⟩
    rw [hz, Int.zero_mul]

theorem F3_put {q r : List Nat} {u x j : Nat} (hu : u ≠ v) (hxv : x ≠ v) (hr : r.Pairwise (· < ·)) (hx : r[j]? = some x) (a b : Nat) :
    (if a = ix v u ∧ b = ix v x then F3 ws v s q u (r.take j) a b + wbt ws (v : Int) (u : Int) * wbt ws (v : Int) (x : Int) else F3 ws v s q u (r.take j) a b) = F3 ws v s q u (r.take (j + 1)) a b := by
  have ht : r.take (j + 1) = r.take j ++ [x] := by rw [List.take_add_one, hx]; rfl
  have hj := get_lt hx
  have hnx : x ∉ r.take j := fun hm => by
    obtain ⟨k, hk⟩ := List.getElem?_of_mem hm
    rw [List.getElem?_take] at hk
    split at hk
    · rename_i hkj
      have hkl := get_lt hk
      have := List.pairwise_iff_getElem.1 hr k j hkl hj hkj
      rw [List.getElem?_eq_getElem hkl] at hk
      rw [List.getElem?_eq_getElem hj] at hx
      simp only [Option.some.injEq] at hk hx
      omega
    · simp at hk
  by_cases e : a = ix v u ∧ b = ix v x
  · have ua : un v a = u := (un_iff hu).2 e.1
    have ub : un v b = x := (un_iff hxv).2 e.2
    rw [if_pos e]
    simp only [F3, ua, ub, ht, hnx, List.mem_append, List.mem_singleton, or_true, and_false, and_true, if_true, if_false, Int.add_zero]
  · rw [if_neg e]
    have : (un v a = u ∧ un v b ∈ r.take (j + 1)) ↔ (un v a = u ∧ un v b ∈ r.take j) := by
      rw [ht, List.mem_append, List.mem_singleton]
      constructor
      · rintro ⟨h1, h2 | h2⟩
        · exact ⟨h1, h2⟩
        · exact absurd ⟨(un_iff hu).1 h1, (un_iff hxv).1 h2⟩ e
      · rintro ⟨h1, h2⟩; exact ⟨h1, .inl h2⟩
    simp only [F3, this]

theorem F3_end {nl : List Nat} (hp : nl.Pairwise (· < ·)) (hm : ∀ u : Nat, u ∈ nl ↔ u < m ∧ 0 < wbt ws (v : Int) (u : Int)) (hW : ∀ e ∈ ws, 1 ≤ e.2.2 ∧ e.2.2 ≤ 200) {i u : Nat} (hu : nl[i]? = some u) (hv : v < m) {a b : Nat} (hab : a < b) (hb : b < m - 1) :
    F3 ws v s (nl.take i) u (nl.drop (i + 1)) a b = F2 ws v s (nl.take (i + 1)) a b := by
  have ht : nl.take (i + 1) = nl.take i ++ [u] := by rw [List.take_add_one, hu]; rfl
  have hi := get_lt hu
  have hd : nl.drop i = u :: nl.drop (i + 1) := by
    rw [List.drop_eq_getElem_cons hi]
    rw [List.getElem?_eq_getElem hi] at hu
    simp only [Option.some.injEq] at hu
    rw [hu]
  have hnl : nl = nl.take i ++ u :: nl.drop (i + 1) := by rw [← hd, List.take_append_drop]
  have hlt : ∀ y ∈ nl.take i, y < u := fun y hy => by
    rw [hnl] at hp
    exact (List.pairwise_append.1 hp).2.2 y hy u (by simp)
  by_cases e : un v a = u
  · have hn : u ∉ nl.take i := fun h => by have := hlt u h; omega
    have hub := un_lt (v := v) hab
    have hubm := un_bd hv hb
    have key : (if un v b ∈ nl.drop (i + 1) then wbt ws (v : Int) (u : Int) * wbt ws (v : Int) (un v b : Int) else 0) = wbt ws (v : Int) (u : Int) * wbt ws (v : Int) (un v b : Int) := by
      split
      · rfl
      · rename_i hnd
        have hz : ¬ 0 < wbt ws (v : Int) (un v b : Int) := fun h => by
          have hmem := (hm (un v b)).2 ⟨hubm, h⟩
          rw [hnl] at hmem
          rcases List.mem_append.1 hmem with h1 | h1
          · have := hlt _ h1; omega
          · rcases List.mem_cons.1 h1 with h1 | h1
            · omega
            · exact hnd h1
        have := wbt_bd hW (v : Int) (un v b : Int)
        have hz0 : wbt ws (v : Int) (un v b : Int) = 0 := by omega
        rw [hz0, Int.mul_zero]
    simp only [F3, F2, e, hn, ht, List.mem_append, List.mem_singleton, or_true, true_and, if_true, if_false, Int.add_zero, key]
  · simp only [F3, F2, e, ht, List.mem_append, List.mem_singleton, or_false, false_and, if_false, Int.add_zero]

theorem F2_all {nl : List Nat} (hm : ∀ u : Nat, u ∈ nl ↔ u < m ∧ 0 < wbt ws (v : Int) (u : Int)) (hW : ∀ e ∈ ws, 1 ≤ e.2.2 ∧ e.2.2 ≤ 200) (hv : v < m) {a b : Nat} (ha : a < m - 1) : F2 ws v (wAt ws (v : Int)) nl a b = meshF ws v a b := by
  simp only [F2, meshF]
  split
  · rfl
  · rename_i h
    have hub := un_bd hv ha
    have hz : ¬ 0 < wbt ws (v : Int) (un v a : Int) := fun q => h ((hm _).2 ⟨hub, q⟩)
    have := wbt_bd hW (v : Int) (un v a : Int)
    have hz0 : wbt ws (v : Int) (un v a : Int) = 0 := by omega
    rw [hz0, Int.zero_mul]
end

/-- What a mesh comes to. -/
def MeshQ (n : TNet) (m v : Nat) (o : Option (TNet × Bool)) : Prop := ∃ l, WiresOf (meshF n.2.2.2 v) (m - 1) (fun _ _ => True) l ∧ Fine (meshN n m v l) ∧ o = some (cond (netok (canon (meshN n m v l))) (canon (meshN n m v l), true) ((0, 0, 0, []), false))

theorem Acc.small {m : Nat} {F : Nat → Nat → Int} {l : List W3} (h : Acc m F l) (hm5 : m ≤ 5) (hF : ∀ a b, 0 ≤ F a b ∧ F a b ≤ 1000000000000) : l.length ≤ 1000 ∧ ∀ e ∈ l, 0 ≤ e.2.2 ∧ e.2.2 ≤ 1000000000000 := by
  have := h.len
  have h25 : m * m ≤ 25 := Nat.mul_le_mul hm5 hm5
  refine ⟨by omega, fun e he => ?_⟩
  obtain ⟨a, b, _, _, rfl⟩ := h.val e he
  exact hF a b

theorem s_Mesh (n : TNet) (hn : Sm.sm B1 n) (hok : netok n = true) (m : Nat) (hm : n.1 = m) (v : Nat) (hv0 : 1 ≤ v) (hv : v < m) : MeshQ n m v (e_spec_l07Mesh (n, (v : Int), ())) := by
  obtain ⟨m', hm', hm1, hm5, hin, he1, he2⟩ := netok_facts hok
  have hmm : m' = m := by omega
  subst hmm
  have hlen : n.2.2.2.length ≤ 1073741824 := hn.2.2.2.1
  have hW := wiresW hok
  have hS := netok_srt hok
  have hA := wAt_le hS hin hm5 hW (v : Int)
  have hA1 := wAt_pos hok (v := (v : Int)) (by omega) (by omega)
  have hsc := scale_ok hok
  obtain ⟨nl, hnl, hnp, hnm⟩ := near_nat n.2.2.2 (v : Int) m'
  have hnl5 : nl.length ≤ 5 := by
    have := near_len n.2.2.2 (v : Int) m'
    rw [hnl] at this; simp at this; omega
  have hnv : ∀ u ∈ nl, u ≠ v := fun u hu e => by
    have := ((hnm u).1 hu).2
    rw [e] at this; simp [wbt] at this
  have hsb : 1 ≤ n.2.2.1 * wAt n.2.2.2 (v : Int) ∧ n.2.2.1 * wAt n.2.2.2 (v : Int) ≤ 1000000 := by
    constructor
    · have := Int.mul_le_mul hsc.1 hA1 (by omega) (show 0 ≤ n.2.2.1 by omega); omega
    · have := Int.mul_le_mul hsc.2 hA.2 hA.1 (by omega); omega
  have ws : wr (n.2.2.1 * wAt n.2.2.2 (v : Int)) = n.2.2.1 * wAt n.2.2.2 (v : Int) := wr_id (by omega) (by omega)
  have wm : wr (n.1 - 1) = ((m' - 1 : Nat) : Int) := by rw [wr_id (by omega) (by omega)]; omega
  simp only [e_spec_l07Mesh, r_spec_l07Mesh, s_Near n m' hn hm hm5, e_WeightAt, p_WeightAt n hn hW, Option.bind_some, hnl, ws, wm]
  generalize hSS : n.2.2.1 * wAt n.2.2.2 (v : Int) = S at hsb
  refine iter_rule (R := TNet × Bool) (MeshQ n m' v) n.2.2.2 (fun (q : List W3) i => ((v : Int), n, (0, 0, 0, []), nl.map (fun (u : Nat) => (u : Int)), wAt n.2.2.2 (v : Int), (((m' - 1 : Nat) : Int), n.2.1, S, q), n.2.2.2, (n.2.2.2.length : Int), i, ()))
    (fun i q => Acc (m' - 1) (F1 n.2.2.2 v (wAt n.2.2.2 (v : Int)) (n.2.2.2.take i)) q) (fun q i x kc hq hx hi hk => ?_) (fun q kc hq => ?_) (N := N0) (by have := N0_big; omega) [] ((Acc.nil _).congr fun a b _ _ => by simp [F1])
  · have hxm := List.mem_of_getElem? hx
    have hx3 := hin x hxm
    have hxw := hW x hxm
    simp only [r_spec_l07Mesh_L0, lt_len, hi, decide_true, cond_true, getI_nat, hx, Option.bind_some, wr_succ hi (show n.2.2.2.length ≤ 9223372036854775807 by omega)]
    by_cases c1 : x.1 = (v : Int)
    · simp only [c1, decide_true, Bool.not_true, cond_false]
      exact hk q (hq.congr fun a b _ _ => F1_skip hx (.inl c1) a b)
    · by_cases c2 : x.2.1 = (v : Int)
      · simp only [c1, c2, decide_true, decide_false, Bool.not_true, Bool.not_false, cond_true, cond_false]
        exact hk q (hq.congr fun a b _ _ => F1_skip hx (.inr c2) a b)
      · obtain ⟨A, hA'⟩ : ∃ A : Nat, x.1 = A := ⟨x.1.toNat, by omega⟩
        obtain ⟨B, hB'⟩ : ∃ B : Nat, x.2.1 = B := ⟨x.2.1.toNat, by omega⟩
        have hAv : A ≠ v := fun e => c1 (by omega)
        have hBv : B ≠ v := fun e => c2 (by omega)
        have iA := s_Index A v (by omega)
        have iB := s_Index B v (by omega)
        have hlt := ix_lt hAv hBv (show A < B by omega)
        have hbd := ix_bd hBv hv (show B < m' by omega)
        have bm := mesh_bd (x := x.2.2) (s := wAt n.2.2.2 (v : Int)) (y := 0) (z := 0) (by omega) hA (by omega) (by omega)
        have ww : wr (x.2.2 * wAt n.2.2.2 (v : Int)) = x.2.2 * wAt n.2.2.2 (v : Int) := wr_id (by omega) (by omega)
        have hsmall := hq.small (by omega) (fun a b => by have := F1_bd (v := v) hW hA (n.2.2.2.take i) a b; omega)
        have hp := s_Put q (ix v A : Int) (ix v B : Int) (x.2.2 * wAt n.2.2.2 (v : Int)) (by omega) hsmall.1 hsmall.2 (by omega)
        have d1 : decide ((A : Int) = (v : Int)) = false := by rw [decide_eq_false_iff_not]; omega
        have d2 : decide ((B : Int) = (v : Int)) = false := by rw [decide_eq_false_iff_not]; omega
        simp only [d1, d2, Bool.not_false, cond_true, hA', hB', iA, iB, ww, hp, Option.bind_some]
        exact hk _ ((hq.put hlt hbd _).congr fun a b _ _ => F1_put hS hx hA' hB' (by omega) hAv hBv (by omega) a b)
  · rw [List.take_length] at hq
    simp only [r_spec_l07Mesh_L0, not_lt_self, cond_false]
    refine iter_rule (R := TNet × Bool) (MeshQ n m' v) nl (fun (q : List W3) i => ((v : Int), n, (0, 0, 0, []), nl.map (fun (u : Nat) => (u : Int)), (((m' - 1 : Nat) : Int), n.2.1, S, q), nl.map (fun (u : Nat) => (u : Int)), ((nl.map fun (u : Nat) => (u : Int)).length : Int), i, ()))
      (fun i q => Acc (m' - 1) (F2 n.2.2.2 v (wAt n.2.2.2 (v : Int)) (nl.take i)) q) (fun q i u kc hq hu hi hk => ?_) (fun q kc hq => ?_) (N := N0) (by have := N0_big; omega) q (hq.congr fun a b hab _ => F1_all hS hab)
    · have hum := List.mem_of_getElem? hu
      have hub := (hnm u).1 hum
      have huv := hnv u hum
      have d1 : decide ((i : Int) < (((nl.map fun (u : Nat) => (u : Int)).length : Nat) : Int)) = true := by rw [decide_eq_true_eq, List.length_map]; omega
      have g1 : (nl.map fun (u : Nat) => (u : Int))[i]? = some (u : Int) := by rw [List.getElem?_map, hu]; rfl
      have w1 : wr ((i : Int) + 1) = ((i + 1 : Nat) : Int) := wr_succ hi (by omega)
      have d2 : decide ((0 : Int) ≤ ((i + 1 : Nat) : Int)) = true := by rw [decide_eq_true_eq]; omega
      have d3 : decide (((i + 1 : Nat) : Int) ≤ (((nl.map fun (u : Nat) => (u : Int)).length : Nat) : Int)) = true := by rw [decide_eq_true_eq, List.length_map]; omega
      have hdr : List.take ((((nl.map fun (u : Nat) => (u : Int)).length : Nat) : Int).toNat - (((i + 1 : Nat) : Int)).toNat) (List.drop (((i + 1 : Nat) : Int)).toNat (nl.map fun (u : Nat) => (u : Int))) = (nl.drop (i + 1)).map fun (u : Nat) => (u : Int) := by
        rw [Int.toNat_natCast, Int.toNat_natCast, List.take_of_length_le (by simp), List.map_drop]
      simp only [r_spec_l07Mesh_L2, d1, d2, d3, cond_true, getI_nat, g1, Option.bind_some, w1, Int.le_refl, decide_true, hdr]
      have hrp : (nl.drop (i + 1)).Pairwise (· < ·) := List.Pairwise.sublist (List.drop_sublist _ _) hnp
      refine iter_rule (R := TNet × Bool) (MeshQ n m' v) (nl.drop (i + 1)) (fun (q : List W3) j => ((v : Int), n, (0, 0, 0, []), nl.map (fun (u : Nat) => (u : Int)), (((m' - 1 : Nat) : Int), n.2.1, S, q), (u : Int), nl.map (fun (u : Nat) => (u : Int)), ((nl.map fun (u : Nat) => (u : Int)).length : Int), (i : Int), (nl.drop (i + 1)).map (fun (u : Nat) => (u : Int)), (((nl.drop (i + 1)).map fun (u : Nat) => (u : Int)).length : Int), j, ()))
        (fun j q => Acc (m' - 1) (F3 n.2.2.2 v (wAt n.2.2.2 (v : Int)) (nl.take i) u ((nl.drop (i + 1)).take j)) q) (fun q j y kc2 hq hy hj hk2 => ?_) (fun q kc2 hq => ?_) (N := N0) (by have := N0_big; simp; omega) q (hq.congr fun a b _ _ => by simp [F3])
      · have hym : y ∈ nl := List.mem_of_mem_drop (List.mem_of_getElem? hy)
        have hyb := (hnm y).1 hym
        have hyv := hnv y hym
        have huy : u < y := by
          rw [List.getElem?_drop] at hy
          have hl := get_lt hy
          have := List.pairwise_iff_getElem.1 hnp i (i + 1 + j) hi hl (by omega)
          rw [List.getElem?_eq_getElem hl] at hy
          rw [List.getElem?_eq_getElem hi] at hu
          simp only [Option.some.injEq] at hy hu
          omega
        have d4 : decide ((j : Int) < ((((nl.drop (i + 1)).map fun (u : Nat) => (u : Int)).length : Nat) : Int)) = true := by rw [decide_eq_true_eq, List.length_map]; omega
        have g2 : ((nl.drop (i + 1)).map fun (u : Nat) => (u : Int))[j]? = some (y : Int) := by rw [List.getElem?_map, hy]; rfl
        have iU := s_Index u v (by omega)
        have iY := s_Index y v (by omega)
        have bm := mesh_bd (x := 0) (s := 0) (by omega) (by omega) (wbt_bd hW (v : Int) (u : Int)) (wbt_bd hW (v : Int) (y : Int))
        have ww : wr (wbt n.2.2.2 (v : Int) (u : Int) * wbt n.2.2.2 (v : Int) (y : Int)) = wbt n.2.2.2 (v : Int) (u : Int) * wbt n.2.2.2 (v : Int) (y : Int) := wr_id (by omega) (by omega)
        have hlt := ix_lt huv hyv huy
        have hbd := ix_bd hyv hv hyb.1
        have hsmall := hq.small (by omega) (fun a b => by have := F3_bd (v := v) hW hA (nl.take i) u ((nl.drop (i + 1)).take j) a b; omega)
        have hp := s_Put q (ix v u : Int) (ix v y : Int) (wbt n.2.2.2 (v : Int) (u : Int) * wbt n.2.2.2 (v : Int) (y : Int)) (by omega) hsmall.1 hsmall.2 (by omega)
        have w2 : wr ((j : Int) + 1) = ((j + 1 : Nat) : Int) := wr_succ hj (by simp; omega)
        simp only [r_spec_l07Mesh_L4, d4, cond_true, getI_nat, g2, Option.bind_some, iU, iY, s_WB n hn, ww, hp, w2]
        exact hk2 _ ((hq.put hlt hbd _).congr fun a b _ _ => F3_put huv hyv hrp hy a b)
      · have d4 : decide ((((nl.drop (i + 1)).length : Nat) : Int) < ((((nl.drop (i + 1)).map fun (u : Nat) => (u : Int)).length : Nat) : Int)) = false := by rw [decide_eq_false_iff_not, List.length_map]; omega
        rw [List.take_length] at hq
        simp only [r_spec_l07Mesh_L4, d4, cond_false, w1]
        exact hk q (hq.congr fun a b hab hb => F3_end hnp hnm hW hu hv hab hb)
    · have d1 : decide (((nl.length : Nat) : Int) < (((nl.map fun (u : Nat) => (u : Int)).length : Nat) : Int)) = false := by rw [decide_eq_false_iff_not, List.length_map]; omega
      rw [List.take_length] at hq
      simp only [r_spec_l07Mesh_L2, d1, cond_false]
      have hq2 : Acc (m' - 1) (meshF n.2.2.2 v) q := hq.congr fun a b hab hb => F2_all hnm hW hv (by omega)
      obtain ⟨l, l1, l2, l3⟩ := s_Reduced n.2.1 S (m' - 1) (by omega) hq2 ⟨hsb.1, by omega⟩ hn.2.1 (fun a b _ _ => by have := meshF_bd hS hin hm5 hW v a b; omega)
      have hN : meshN n m' v l = (((m' - 1 : Nat) : Int), n.2.1, S, l) := by simp only [meshN, hSS]
      refine ⟨l, l1, by rw [hN]; exact l2, ?_⟩
      simp only [l3, Option.bind_some, hN]

/-- A star replaced by a mesh: both sides. -/
theorem mesh_same {n : TNet} {m v : Nat} {o o' : Option (TNet × Bool)} (h : MeshQ n m v o) (h' : MeshQ n m v o') : o = o' := by
  obtain ⟨l, l1, _, e⟩ := h
  obtain ⟨l', l1', _, e'⟩ := h'
  have : l = l' := l1.uniq l1' fun _ _ _ _ => rfl
  rw [e, e', this]

end Go.Sx.R
namespace Go.Sx.R
open Go Go.Sx

theorem zero_sm : Sm.sm B1 ((0, 0, 0, []) : TNet) := ⟨sm_z0, sm_z0, sm_z0, by simp [sm_list]⟩

/-- What a reduced network is. -/
structure Red (n : TNet) (r : TNet × Bool) : Prop where
  sm : Sm.sm B1 r.1
  ok : r.2 = true → netok r.1 = true ∧ r.1.1 = n.1 - 1 ∧ r.1.2.1 = n.2.1

theorem Red.zero (n : TNet) : Red n ((0, 0, 0, []), false) := ⟨zero_sm, by simp⟩

theorem MeshQ.red {n : TNet} {m v : Nat} {o : Option (TNet × Bool)} (hm : n.1 = m) (hm1 : 1 ≤ m) (h : MeshQ n m v o) : ∃ r, o = some r ∧ Red n r := by
  obtain ⟨l, l1, l2, e⟩ := h
  cases hq : netok (canon (meshN n m v l)) with
  | false => rw [hq] at e; exact ⟨_, e, Red.zero n⟩
  | true =>
    rw [hq] at e
    refine ⟨_, e, l2.canon_sm, fun _ => ⟨hq, ?_, rfl⟩⟩
    show ((m - 1 : Nat) : Int) = n.1 - 1
    omega

theorem s_inE (n : TNet) (hok : netok n = true) (v : Int) : e_spec_l01In (v, n.2.1, wr (n.1 - 1), ()) = some (decide (n.2.1 ≤ v) && decide (v < n.1)) := by
  obtain ⟨m, hm, hm1, hm5, hin, he1, he2⟩ := netok_facts hok
  have w : wr (n.1 - 1) = n.1 - 1 := wr_id (by omega) (by omega)
  have e : decide (v ≤ n.1 - 1) = decide (v < n.1) := by rw [decide_eq_decide]; omega
  simp only [w, p_l01In, n_l01In, e]

theorem star_both (n : TNet) (hn : Sm.sm B1 n) (v : Int) : ∃ r : TNet × Bool, e_impl_StarMesh (n, v, ()) = some r ∧ e_spec_StarMesh (n, v, ()) = some r ∧ Red n r := by
  cases hok : netok n with
  | false =>
    refine ⟨((0, 0, 0, []), false), ?_, ?_, Red.zero n⟩
    · simp only [e_impl_StarMesh, r_impl_StarMesh, p_NetOk n hn, hok, Option.bind_some, Bool.not_false, cond_true]
    · simp only [e_spec_StarMesh, r_spec_StarMesh, s_NetOk n hn, hok, Option.bind_some, Bool.not_false, cond_true]
  | true =>
    obtain ⟨m, hm, hm1, hm5, hin, he1, he2⟩ := netok_facts hok
    by_cases hv : n.2.1 ≤ v ∧ v < n.1
    · obtain ⟨k, rfl⟩ : ∃ k : Nat, v = k := ⟨v.toNat, by omega⟩
      have h1 : MeshQ n m k (e_impl_StarMesh (n, (k : Int), ())) := p_Star n hn hok m hm k hv.1 (by omega)
      have h2 := s_Mesh n hn hok m hm k (by omega) (by omega)
      obtain ⟨r, hr, hR⟩ := h1.red hm hm1
      have d1 : decide (n.2.1 ≤ (k : Int)) = true := by rw [decide_eq_true_eq]; exact hv.1
      have d2 : decide ((k : Int) < n.1) = true := by rw [decide_eq_true_eq]; exact hv.2
      refine ⟨r, hr, ?_, hR⟩
      have := mesh_same h2 h1
      rw [hr] at this
      simp only [e_spec_StarMesh, r_spec_StarMesh, s_NetOk n hn, hok, Option.bind_some, Bool.not_true, cond_false, s_inE n hok, d1, d2, Bool.and_self, this]
    · refine ⟨((0, 0, 0, []), false), ?_, ?_, Red.zero n⟩
      · simp only [e_impl_StarMesh, r_impl_StarMesh, p_NetOk n hn, hok, Option.bind_some, Bool.not_true, cond_false]
        by_cases h0 : v < n.2.1
        · simp [h0]
        · have d : decide (v ≥ n.1) = true := by rw [decide_eq_true_eq]; omega
          simp [h0, d]
      · have d : (decide (n.2.1 ≤ v) && decide (v < n.1)) = false := by simp only [Bool.and_eq_false_iff, decide_eq_false_iff_not]; omega
        simp only [e_spec_StarMesh, r_spec_StarMesh, s_NetOk n hn, hok, Option.bind_some, Bool.not_true, cond_false, s_inE n hok, d, Bool.not_false, cond_true]

end Go.Sx.R
namespace Go.Sx.R
open Go Go.Sx

theorem detZ_perm2 {M : List (List Int)} {l l' : List Int} (h : l.Perm l') : ∀ pr pc : List Int, pr.length = pc.length → pr.length + l.length ≤ 4 → detZ M (pr ++ l) (pc ++ l) = detZ M (pr ++ l') (pc ++ l') := by
  induction h with
  | nil => intro pr pc _ _; rfl
  | cons x _ ih =>
    intro pr pc he hl
    have := ih (pr ++ [x]) (pc ++ [x]) (by simp [he]) (by simp at hl ⊢; omega)
    simpa using this
  | swap x y l =>
    intro pr pc he hl
    simp only [List.length_cons] at hl
    match pr, pc, l, he, hl with
    | [], [], [], _, _ => simp only [List.nil_append, detZ2] <;> grind
    | [], [], [a], _, _ => simp only [List.nil_append, detZ3] <;> grind
    | [], [], [a, b], _, _ => simp only [List.nil_append, detZ4] <;> grind
    | [p], [p'], [], _, _ => simp only [List.cons_append, List.nil_append, detZ3] <;> grind
    | [p], [p'], [a], _, _ => simp only [List.cons_append, List.nil_append, detZ4] <;> grind
    | [p, q], [p', q'], [], _, _ => simp only [List.cons_append, List.nil_append, detZ4] <;> grind
    | [], [], _ :: _ :: _ :: _, _, hl => simp at hl <;> omega
    | [_], [_], _ :: _ :: _, _, hl => simp at hl <;> omega
    | [_, _], [_, _], _ :: _, _, hl => simp at hl <;> omega
    | _ :: _ :: _ :: _, _, _, _, hl => simp at hl <;> omega
    | [], _ :: _, _, he, _ => simp at he
    | _ :: _, [], _, he, _ => simp at he
    | [_], _ :: _ :: _, _, he, _ => simp at he
    | _ :: _ :: _, [_], _, he, _ => simp at he
    | [_, _], _ :: _ :: _ :: _, _, he, _ => simp at he
  | trans h1 _ ih1 ih2 =>
    intro pr pc he hl
    rw [ih1 pr pc he hl, ih2 pr pc he (by rw [← h1.length_eq]; exact hl)]

/-- A Schur complement's determinants. -/
theorem schur {M M' : List (List Int)} {v g : Int} {f : Int → Int} : ∀ (R C : List Int), R.length = C.length → R.length ≤ 3 → (∀ r ∈ R, ∀ c ∈ C, at2 M' r c * g = at2 M v v * at2 M (f r) (f c) - at2 M (f r) v * at2 M v (f c)) →
    detZ M' R C * g ^ R.length * at2 M v v = at2 M v v ^ R.length * detZ M (R.map f ++ [v]) (C.map f ++ [v]) := by
  intro R C he hl h
  match R, C, he, hl with
  | [], [], _, _ =>
    have : detZ M' [] [] = 1 := by simp [detZ]
    simp only [List.map_nil, List.nil_append, List.length_nil, detZ1, this]; grind
  | [r], [c], _, _ =>
    have h1 := h r (by simp) c (by simp)
    simp only [List.map_cons, List.map_nil, List.cons_append, List.nil_append, List.length_cons, List.length_nil, detZ1, detZ2]
    generalize at2 M v v = A at *
    generalize at2 M' r c = X at *
    grind
  | [r, s], [c, d], _, _ =>
    have h1 := h r (by simp) c (by simp)
    have h2 := h r (by simp) d (by simp)
    have h3 := h s (by simp) c (by simp)
    have h4 := h s (by simp) d (by simp)
    simp only [List.map_cons, List.map_nil, List.cons_append, List.nil_append, List.length_cons, List.length_nil, detZ2, detZ3]
    have e : (at2 M' r c * at2 M' s d - at2 M' r d * at2 M' s c) * g ^ (0 + 1 + 1) = (at2 M' r c * g) * (at2 M' s d * g) - (at2 M' r d * g) * (at2 M' s c * g) := by grind
    rw [e, h1, h2, h3, h4]
    generalize at2 M v v = A at *
    grind
  | [r, s, t], [c, d, e], _, _ =>
    have h1 := h r (by simp) c (by simp)
    have h2 := h r (by simp) d (by simp)
    have h3 := h r (by simp) e (by simp)
    have h4 := h s (by simp) c (by simp)
    have h5 := h s (by simp) d (by simp)
    have h6 := h s (by simp) e (by simp)
    have h7 := h t (by simp) c (by simp)
    have h8 := h t (by simp) d (by simp)
    have h9 := h t (by simp) e (by simp)
    simp only [List.map_cons, List.map_nil, List.cons_append, List.nil_append, List.length_cons, List.length_nil, detZ3, detZ4]
    have e' : (at2 M' r c * (at2 M' s d * at2 M' t e - at2 M' s e * at2 M' t d) - at2 M' r d * (at2 M' s c * at2 M' t e - at2 M' s e * at2 M' t c) + at2 M' r e * (at2 M' s c * at2 M' t d - at2 M' s d * at2 M' t c)) * g ^ (0 + 1 + 1 + 1)
        = (at2 M' r c * g) * ((at2 M' s d * g) * (at2 M' t e * g) - (at2 M' s e * g) * (at2 M' t d * g)) - (at2 M' r d * g) * ((at2 M' s c * g) * (at2 M' t e * g) - (at2 M' s e * g) * (at2 M' t c * g)) + (at2 M' r e * g) * ((at2 M' s c * g) * (at2 M' t d * g) - (at2 M' s d * g) * (at2 M' t c * g)) := by grind
    rw [e', h1, h2, h3, h4, h5, h6, h7, h8, h9]
    clear h1 h2 h3 h4 h5 h6 h7 h8 h9 h e'
    generalize at2 M v v = A at *
    generalize at2 M (f r) (f c) = x1
    generalize at2 M (f r) (f d) = x2
    generalize at2 M (f r) (f e) = x3
    generalize at2 M (f s) (f c) = x4
    generalize at2 M (f s) (f d) = x5
    generalize at2 M (f s) (f e) = x6
    generalize at2 M (f t) (f c) = x7
    generalize at2 M (f t) (f d) = x8
    generalize at2 M (f t) (f e) = x9
    generalize at2 M (f r) v = y1
    generalize at2 M (f s) v = y2
    generalize at2 M (f t) v = y3
    generalize at2 M v (f c) = z1
    generalize at2 M v (f d) = z2
    generalize at2 M v (f e) = z3
    grind
  | [], _ :: _, he, _ => simp at he
  | _ :: _, [], he, _ => simp at he
  | [_], _ :: _ :: _, he, _ => simp at he
  | _ :: _ :: _, [_], he, _ => simp at he
  | [_, _], _ :: _ :: _ :: _, he, _ => simp at he
  | _ :: _ :: _ :: _, [_, _], he, _ => simp at he
  | [_, _, _], _ :: _ :: _ :: _ :: _, he, _ => simp at he
  | _ :: _ :: _ :: _ :: _, _, _, hl => simp at hl <;> omega

section
variable {n : TNet} {m E : Nat} {L : List (List Int)} {inn : List Int}

theorem Nk.lk (h : Nk n m E L inn) : Lk n m L := ⟨h.hn, h.ok, h.hm, h.m1, h.m5, h.sc, h.lp, h.ls, h.tab, h.srt, h.inw, h.hw⟩

theorem Nk.down1 (h : Nk n m E L inn) (hE : 2 ≤ E) : 1 ≤ detZ L inn inn ∧ detZ L inn inn ≤ 5832000000 := by
  have lk := h.lk
  have l := h.len_inn
  have hm5 := h.m5
  have hem := h.em
  refine ⟨lk.lapZ.pos lk.hang _ inn rfl (by omega) h.nd_inn (fun i hi => mem_wo.2 ⟨(h.inn_in i hi).1, (h.inn_in i hi).2, by simp⟩) ⟨0, mem_wo.2 ⟨by omega, by omega, by simp⟩, fun hh => by have := h.mem_inn.1 hh; omega⟩, ?_⟩
  have := det_lap h.srt h.inw h.m5 h.hw h.tab h.inn_in h.inn_in h.nd_inn
  have p : 1800 ^ inn.length ≤ 5832000000 := Nat.le_trans (Nat.pow_le_pow_right (by omega) (show inn.length ≤ 3 by omega)) (by decide)
  omega

theorem Nk.dOf1 (h : Nk n m E L inn) (hE : 2 ≤ E) : 1 ≤ dOf n L inn ∧ dOf n L inn ≤ 5832000000000 := by
  have d := h.down1 hE
  have s := h.sc
  simp only [dOf]
  constructor
  · have : 1 * 1 ≤ n.2.2.1 * detZ L inn inn := Int.mul_le_mul s.1 d.1 (by omega) (by omega)
    omega
  · have : n.2.2.1 * detZ L inn inn ≤ 1000 * 5832000000 := Int.mul_le_mul s.2 d.2 (by omega) (by omega)
    omega

/-- A response's ratio. -/
theorem Nk.rtZ (h : Nk n m E L inn) (hE : 2 ≤ E) {i j : Nat} (hi : i < E) (hj : j < E) : rtF n L inn i j = ratZ (detZ L ((i : Int) :: inn) ((j : Int) :: inn)) (dOf n L inn) := by
  have d := h.dOf1 hE
  have t := h.top_le hi hj
  have r := (h.rt hi hj).1
  rw [p_Ratio (by omega) d.1 (by omega)] at r
  exact (Option.some.inj r).symm

theorem Nk.respV (h : Nk n m E L inn) : respV n = respT n L inn E := by
  simp only [Go.Sx.R.respV, h.sResp, Option.map_some, Option.getD_some]


/-- The response outlives the star. -/
theorem star_resp (h : Nk n m E L inn) (hE : 2 ≤ E) {v : Nat} (hEv : E ≤ v) (hv : v < m) {l : List W3} (l1 : WiresOf (meshF n.2.2.2 v) (m - 1) (fun _ _ => True) l) (hF : Fine (meshN n m v l)) (hok : netok (canon (meshN n m v l)) = true) (hsm : Sm.sm B1 (canon (meshN n m v l))) :
    Go.Sx.R.respV (canon (meshN n m v l)) = Go.Sx.R.respV n := by
  have lk := h.lk
  have hm5 := h.m5
  have hem := h.em
  have hm := h.hm
  obtain ⟨m', E', L', inn', h'⟩ := nk_of _ hsm hok
  have em : m' = m - 1 := by have := h'.hm; simp only [canon, meshN] at this; omega
  have eE : E' = E := by have := h'.he; have := h.he; simp only [canon, meshN] at *; omega
  subst em eE
  have lk' := h'.lk
  have hg := hF.g_pos
  have mc := mul_canon hF
  generalize hc : canon (meshN n m v l) = c at *
  generalize gN (meshN n m v l) = g at *
  have ws : c.2.2.2.map (mulW g) = l := congrArg (fun n : TNet => n.2.2.2) mc
  have scl : c.2.2.1 * (g : Int) = n.2.2.1 * wAt n.2.2.2 (v : Int) := congrArg (fun n : TNet => n.2.2.1) mc
  have vin : (v : Int) ∈ wo m [] := mem_wo.2 ⟨by omega, by omega, by simp⟩
  have A := lk.a2 (i := (v : Int)) (j := (v : Int)) (by omega) (by omega)
  rw [if_pos rfl] at A
  -- nodes
  let f : Int → Int := fun x => ((un v x.toNat : Nat) : Int)
  have fu : ∀ k : Nat, f (k : Int) = ((un v k : Nat) : Int) := fun k => by show ((un v ((k : Int).toNat) : Nat) : Int) = _; rw [Int.toNat_natCast]
  have fin : ∀ x : Int, 0 ≤ x ∧ x < ((m - 1 : Nat) : Int) → 0 ≤ f x ∧ f x < m ∧ f x ≠ v := by
    intro x hx
    obtain ⟨k, rfl⟩ : ∃ k : Nat, x = k := ⟨x.toNat, by omega⟩
    have ub := un_bd (i := k) hv (by omega)
    have := un_ne v k
    rw [fu]; omega
  have finj : ∀ x y : Int, 0 ≤ x → 0 ≤ y → f x = f y → x = y := by
    intro x y hx hy e
    obtain ⟨k, rfl⟩ : ∃ k : Nat, x = k := ⟨x.toNat, by omega⟩
    obtain ⟨j, rfl⟩ : ∃ j : Nat, y = j := ⟨y.toNat, by omega⟩
    rw [fu, fu] at e
    have := un_inj (v := v) (i := k) (j := j) (by omega)
    omega
  have wl : ∀ i j : Nat, i < m - 1 → j < m - 1 → i ≠ j → wbt l (i : Int) (j : Int) = meshF n.2.2.2 v i j := by
    intro i j hi hj hij
    rcases Nat.lt_or_gt_of_ne hij with hl | hl
    · exact wiresOf_wbt l1 hl hj
    · rw [wbt_comm, wiresOf_wbt l1 hl hi]
      simp only [meshF]
      rw [wbt_comm _ (un v j : Int) (un v i : Int), Int.mul_comm (wbt n.2.2.2 (v : Int) (un v j : Int))]
  have off : ∀ x y : Int, (0 ≤ x ∧ x < ((m - 1 : Nat) : Int)) → (0 ≤ y ∧ y < ((m - 1 : Nat) : Int)) → x ≠ y → at2 L' x y * (g : Int) = at2 L v v * at2 L (f x) (f y) - at2 L (f x) v * at2 L v (f y) := by
    intro x y hx hy hxy
    have fx := fin x hx
    have fy := fin y hy
    have fne : f x ≠ f y := fun e => hxy (finj x y hx.1 hy.1 e)
    rw [lk'.a2 hx hy, if_neg hxy, A, lk.a2 ⟨fx.1, fx.2.1⟩ ⟨fy.1, fy.2.1⟩, if_neg fne, lk.a2 ⟨fx.1, fx.2.1⟩ (by omega), if_neg fx.2.2, lk.a2 (by omega) ⟨fy.1, fy.2.1⟩, if_neg (Ne.symm fy.2.2)]
    obtain ⟨k, rfl⟩ : ∃ k : Nat, x = k := ⟨x.toNat, by omega⟩
    obtain ⟨j, rfl⟩ : ∃ j : Nat, y = j := ⟨y.toNat, by omega⟩
    have e := wl k j (by omega) (by omega) (by omega)
    rw [← ws, wbt_mul] at e
    simp only [meshF] at e
    rw [fu, fu, wbt_comm _ (un v k : Int) (v : Int), Int.neg_mul, e]
    grind
  have pV : (wo m []).Perm ((v : Int) :: (wo (m - 1) []).map f) := by
    refine (wo_cons (by omega) (by omega) (by simp)).trans ((perm_of (wo_nd _ _) (nodup_map_on f (wo_nd _ _) fun x hx y hy e => finj x y (mem_wo.1 hx).1 (mem_wo.1 hy).1 e) fun c => ?_).cons _)
    rw [mem_wo, List.mem_map]
    simp only [List.mem_cons, List.not_mem_nil, or_false]
    constructor
    · rintro ⟨c0, c1, c2⟩
      obtain ⟨k, rfl⟩ : ∃ k : Nat, c = k := ⟨c.toNat, by omega⟩
      exact ⟨((ix v k : Nat) : Int), mem_wo.2 ⟨by omega, by have := ix_bd (a := k) (v := v) (by omega) hv (by omega); omega, by simp⟩, by rw [fu, un_ix (by omega)]⟩
    · rintro ⟨x, hx, rfl⟩
      have hx := mem_wo.1 hx
      exact fin x ⟨hx.1, hx.2.1⟩
  have smul : ∀ (k : Int) (l : List Int) (F : Int → Int), (l.map fun y => F y * k).sum = (l.map F).sum * k := by
    intro k l F
    induction l with
    | nil => simp
    | cons y l ih => simp only [List.map_cons, List.sum_cons, ih, Int.add_mul]
  have slin : ∀ (a b : Int) (l : List Int) (F G : Int → Int), (l.map fun y => a * F y - b * G y).sum = a * (l.map F).sum - b * (l.map G).sum := by
    intro a b l F G
    induction l with
    | nil => simp
    | cons y l ih => simp only [List.map_cons, List.sum_cons, ih, Int.mul_add]; omega
  have ent : ∀ x y : Int, (0 ≤ x ∧ x < ((m - 1 : Nat) : Int)) → (0 ≤ y ∧ y < ((m - 1 : Nat) : Int)) → at2 L' x y * (g : Int) = at2 L v v * at2 L (f x) (f y) - at2 L (f x) v * at2 L v (f y) := by
    intro x y hx hy
    by_cases hxy : x = y
    · subst hxy
      have fx := fin x hx
      have xin := mem_wo.2 (show 0 ≤ x ∧ x < ((m - 1 : Nat) : Int) ∧ x ∉ ([] : List Int) from ⟨hx.1, hx.2, by simp⟩)
      have s1 := lk'.lapZ.sum x xin
      have s2 := lk.lapZ.sum (f x) (mem_wo.2 ⟨fx.1, fx.2.1, by simp⟩)
      have s3 := lk.lapZ.sum v vin
      rw [perm_sum (pV.map (at2 L (f x)))] at s2
      rw [perm_sum (pV.map (at2 L v))] at s3
      simp only [List.map_cons, List.sum_cons, List.map_map] at s2 s3
      have pe := List.perm_cons_erase xin
      have nde := List.nodup_cons.1 (pe.nodup_iff.1 (wo_nd _ _))
      have t1 : ((wo (m - 1) []).map fun y => at2 L' x y * (g : Int)).sum = 0 := by rw [smul]; have e : ((wo (m - 1) []).map fun y => at2 L' x y) = (wo (m - 1) []).map (at2 L' x) := rfl; rw [e, s1, Int.zero_mul]
      have t2 : ((wo (m - 1) []).map fun y => at2 L v v * (at2 L (f x) ∘ f) y - at2 L (f x) v * (at2 L v ∘ f) y).sum = 0 := by
        rw [slin]
        have q2 : ((wo (m - 1) []).map (at2 L (f x) ∘ f)).sum = -at2 L (f x) v := by omega
        have q3 : ((wo (m - 1) []).map (at2 L v ∘ f)).sum = -at2 L v v := by omega
        rw [q2, q3]; grind
      rw [perm_sum (pe.map fun y => at2 L' x y * (g : Int))] at t1
      rw [perm_sum (pe.map fun y => at2 L v v * (at2 L (f x) ∘ f) y - at2 L (f x) v * (at2 L v ∘ f) y)] at t2
      simp only [List.map_cons, List.sum_cons] at t1 t2
      have e : ((wo (m - 1) []).erase x).map (fun y => at2 L' x y * (g : Int)) = ((wo (m - 1) []).erase x).map (fun y => at2 L v v * (at2 L (f x) ∘ f) y - at2 L (f x) v * (at2 L v ∘ f) y) := List.map_congr_left fun z hz => by
        have hzm := mem_wo.1 (List.mem_of_mem_erase hz)
        have hne : x ≠ z := by rintro rfl; exact nde.1 hz
        exact off x z hx ⟨hzm.1, hzm.2.1⟩ hne
      rw [e] at t1
      have e2 : (at2 L (f x) ∘ f) x = at2 L (f x) (f x) := rfl
      have e3 : (at2 L v ∘ f) x = at2 L v (f x) := rfl
      rw [e2, e3] at t2
      omega
    · exact off x y hx hy hxy
  -- the inner nodes
  have lw : (wo m [(v : Int)]).length + 1 ≤ m := wo_len (x := (v : Int)) (by simp) (by omega) (by omega)
  have pI : inn.Perm (inn'.map f ++ [(v : Int)]) := by
    refine perm_of h.nd_inn ?_ fun c => ?_
    · rw [List.nodup_append]
      refine ⟨nodup_map_on f h'.nd_inn fun x hx y hy e => finj x y (h'.inn_in x hx).1 (h'.inn_in y hy).1 e, by simp, ?_⟩
      intro a ha b hb
      simp at hb; subst hb
      obtain ⟨x, hx, rfl⟩ := List.mem_map.1 ha
      exact (fin x (h'.inn_in x hx)).2.2
    · rw [h.mem_inn, List.mem_append, List.mem_map]
      simp only [List.mem_cons, List.not_mem_nil, or_false]
      constructor
      · rintro ⟨c0, c1⟩
        by_cases hcv : c = v
        · exact .inr hcv
        · left
          obtain ⟨k, rfl⟩ : ∃ k : Nat, c = k := ⟨c.toNat, by omega⟩
          refine ⟨((ix v k : Nat) : Int), h'.mem_inn.2 ⟨?_, by have := ix_bd (a := k) (v := v) (by omega) hv (by omega); omega⟩, by rw [fu, un_ix (by omega)]⟩
          unfold ix; split <;> omega
      · rintro (⟨x, hx, rfl⟩ | rfl)
        · have hx := h'.mem_inn.1 hx
          obtain ⟨k, rfl⟩ : ∃ k : Nat, x = k := ⟨x.toNat, by omega⟩
          have := fin (k : Int) (by omega)
          rw [fu] at this ⊢
          refine ⟨?_, this.2.1⟩
          unfold un; split <;> omega
        · omega
  have l' := h'.len_inn
  have l0 := h.len_inn
  have f0 : ∀ i : Nat, i < E' → f (i : Int) = i := fun i hi => by rw [fu, un_lo (by omega)]
  -- the two sides
  have Dn := schur (M := L) (M' := L') (v := (v : Int)) (g := (g : Int)) (f := f) inn' inn' rfl (by omega) fun r hr c hc => ent r c (h'.inn_in r hr) (h'.inn_in c hc)
  rw [← detZ_perm pI (by omega)] at Dn
  have Tp : ∀ i j : Nat, i < E' → j < E' → detZ L' ((i : Int) :: inn') ((j : Int) :: inn') * (g : Int) ^ (inn'.length + 1) * at2 L v v = at2 L v v ^ (inn'.length + 1) * detZ L ((i : Int) :: inn) ((j : Int) :: inn) := by
    intro i j hi hj
    have q := schur (M := L) (M' := L') (v := (v : Int)) (g := (g : Int)) (f := f) ((i : Int) :: inn') ((j : Int) :: inn') rfl (by simp; omega) fun r hr c hc => by
      have hr' : 0 ≤ r ∧ r < ((m - 1 : Nat) : Int) := by
        rcases List.mem_cons.1 hr with rfl | hr
        · omega
        · exact h'.inn_in r hr
      have hc' : 0 ≤ c ∧ c < ((m - 1 : Nat) : Int) := by
        rcases List.mem_cons.1 hc with rfl | hc
        · omega
        · exact h'.inn_in c hc
      exact ent r c hr' hc'
    have e := detZ_perm2 (M := L) pI [(i : Int)] [(j : Int)] rfl (by simp; omega)
    simp only [List.cons_append, List.nil_append] at e
    simp only [List.map_cons, List.cons_append, List.length_cons, f0 i hi, f0 j hj] at q
    rw [e]; exact q
  have hA1 : 1 ≤ at2 L v v := by
    have := lk.lapZ.pos lk.hang 1 [(v : Int)] rfl (by omega) (by simp) (by simpa using vin) ⟨0, mem_wo.2 ⟨by omega, by omega, by simp⟩, by simp; omega⟩
    rwa [detZ1] at this
  rw [h.respV, h'.respV]
  simp only [respT]
  refine List.map_congr_left fun i hi => List.map_congr_left fun j hj => ?_
  have hi : i < E' := by rw [List.mem_range'_1] at hi; omega
  have hj : j < E' := by rw [List.mem_range'_1] at hj; omega
  rw [h.rtZ hE hi hj, h'.rtZ hE hi hj, ratZ_eq (h'.dOf1 hE).1 (h.dOf1 hE).1]
  have T := Tp i j hi hj
  simp only [dOf]
  have dd : c.2.2.1 * detZ L' inn' inn' * ((g : Int) ^ (inn'.length + 1) * at2 L v v) = at2 L v v ^ (inn'.length + 1) * (n.2.2.1 * detZ L inn inn) := by
    have e1 : c.2.2.1 * detZ L' inn' inn' * ((g : Int) ^ (inn'.length + 1) * at2 L v v) = (c.2.2.1 * (g : Int)) * (detZ L' inn' inn' * (g : Int) ^ inn'.length * at2 L v v) := by rw [Int.pow_succ]; grind
    rw [e1, Dn, scl, ← A, Int.pow_succ]; grind
  have hX : 0 < (g : Int) ^ (inn'.length + 1) * at2 L v v := Int.mul_pos (Int.pow_pos (by omega)) (by omega)
  have hY : 0 < at2 L v v ^ (inn'.length + 1) := Int.pow_pos (by omega)
  generalize at2 L v v ^ (inn'.length + 1) = Y at *
  rw [Int.mul_assoc] at T
  generalize (g : Int) ^ (inn'.length + 1) * at2 L v v = X at *
  generalize detZ L' ((i : Int) :: inn') ((j : Int) :: inn') = a at *
  generalize detZ L ((i : Int) :: inn) ((j : Int) :: inn) = b at *
  generalize c.2.2.1 * detZ L' inn' inn' = p at *
  generalize n.2.2.1 * detZ L inn inn = q at *
  have hXY : X * Y ≠ 0 := by have := Int.mul_pos hX hY; omega
  refine Int.eq_of_mul_eq_mul_right hXY ?_
  have e1 : a * q * (X * Y) = (a * X) * (Y * q) := by grind
  have e2 : b * p * (X * Y) = (Y * b) * (p * X) := by grind
  rw [e1, e2, T, dd]
end
end Go.Sx.R
namespace Go.Sx.R
open Go Go.Sx

/-- A star's mesh: both sides, and its response. -/
theorem star_keep (n : TNet) (hn : Sm.sm B1 n) (hok : netok n = true) (h2 : 2 ≤ n.2.1) {v : Int} (hv0 : n.2.1 ≤ v) (hv1 : v < n.1) :
    ∃ r : TNet × Bool, e_impl_StarMesh (n, v, ()) = some r ∧ e_spec_StarMesh (n, v, ()) = some r ∧ Red n r ∧ (r.2 = false → r.1 = Z0) ∧ (r.2 = true → respV r.1 = respV n) := by
  obtain ⟨r, r1, r2, r3⟩ := star_both n hn v
  refine ⟨r, r1, r2, r3, ?_⟩
  obtain ⟨m, E, L, inn, h⟩ := nk_of n hn hok
  have hm := h.hm
  have he := h.he
  obtain ⟨k, rfl⟩ : ∃ k : Nat, v = k := ⟨v.toNat, by omega⟩
  obtain ⟨l, l1, l2, l3⟩ := p_Star n hn hok m hm k hv0 (by omega)
  rw [r1] at l3
  cases hq : netok (canon (meshN n m k l)) with
  | false =>
    rw [hq] at l3
    have e := Option.some.inj l3
    subst e
    exact ⟨fun _ => rfl, fun h => by simp at h⟩
  | true =>
    rw [hq] at l3
    have e := Option.some.inj l3
    subst e
    exact ⟨fun h => by simp at h, fun _ => star_resp h (by omega) (by omega) (by omega) l1 l2 hq l2.canon_sm⟩

theorem makeInner_ok {A : Option (Nat × Obj)} {v : Value} (hc : CodeOk A v) : ∃ n, e_spec_MakeInner A (v, ()) = some n ∧ Drawn 5 6 n ∧ n.2.1 = 2 ∧ 3 ≤ n.1 := by
  obtain ⟨y, e, g⟩ := new_ok hc
  obtain ⟨y', n, e2, g2, hd⟩ := draw_ok g (most := 5) (by omega) (by omega)
  simp only [e_spec_MakeInner, r_spec_MakeInner, e, e2, Option.bind_some]
  have h2 := hd.n2
  by_cases hn : n.1 = 2
  · obtain ⟨y3, x, e3, g3, x0, x1⟩ := below_ok g2 (n := 3) (by omega) (by omega)
    have w : wr (1 + x) = 1 + x := wr_id (by omega) (by omega)
    simp only [hn, decide_true, cond_true, e3, Option.bind_some, w]
    refine ⟨_, rfl, ⟨by simp, by simp, by simp, by simp, by simp, by simp, ⟨?_, ?_, ?_⟩, ?_, by simp⟩, rfl, by simp⟩
    · simp [Srt, lex]
    · intro e he
      simp only [List.mem_cons, List.not_mem_nil, or_false] at he
      rcases he with rfl | rfl <;> simp
    · intro e he
      simp only [List.mem_cons, List.not_mem_nil, or_false] at he
      rcases he with rfl | rfl
      · show 1 ≤ 1 + x ∧ 1 + x ≤ 6; omega
      · show (1 : Int) ≤ 2 ∧ (2 : Int) ≤ 6; omega
    · intro u h0 h1
      have h1 : u < 3 := h1
      have r2 : Rc [((0 : Int), (2 : Int), 1 + x), (1, 2, 2)] 2 := Rc.ab (e := (0, 2, 1 + x)) (by simp) .zero
      have r1 : Rc [((0 : Int), (2 : Int), 1 + x), (1, 2, 2)] 1 := Rc.ba (e := (1, 2, 2)) (by simp) r2
      rcases (show u = 0 ∨ u = 1 ∨ u = 2 by omega) with rfl | rfl | rfl
      · exact .zero
      · exact r1
      · exact r2
  · simp only [hn, decide_false, cond_false]
    exact ⟨_, rfl, ⟨hd.n2, hd.most, by simp, hd.n2, hd.s1, hd.s3, hd.wok, hd.con, hd.len⟩, rfl, by show 3 ≤ n.1; omega⟩

theorem near_ne {n : TNet} {m : Nat} {L : List (List Int)} (h : Lk n m L) {v : Int} (h0 : 1 ≤ v) (h1 : v < m) : (near n.2.2.2 v m).length ≠ 0 := by
  obtain ⟨nl, e, _, hm⟩ := near_nat n.2.2.2 v m
  have hM := h.hm
  have r := netok_rc h.ok (show 0 ≤ v by omega) (by omega)
  have : ∃ u : Int, 0 ≤ u ∧ u < m ∧ 0 < wbt n.2.2.2 v u := by
    generalize hw : v = w at r
    cases r with
    | zero => omega
    | @ab e he _ =>
      have hi := h.inw e he
      have hW := h.hw e he
      have := (wbt_mem h.srt hi.2.1 (w := e.2.2) (by omega)).2 he
      exact ⟨e.1, hi.1, by omega, by rw [wbt_comm]; omega⟩
    | @ba e he _ =>
      have hi := h.inw e he
      have hW := h.hw e he
      have := (wbt_mem h.srt hi.2.1 (w := e.2.2) (by omega)).2 he
      exact ⟨e.2.1, by omega, hi.2.2, by omega⟩
  obtain ⟨u, u0, u1, u2⟩ := this
  obtain ⟨k, rfl⟩ : ∃ k : Nat, u = k := ⟨u.toNat, by omega⟩
  have hk := (hm k).2 ⟨by omega, u2⟩
  rw [e, List.length_map]
  intro hz
  have := List.length_eq_zero_iff.1 hz
  rw [this] at hk; simp at hk

theorem law_FnStars (A : Option (Nat × Obj)) (v : Value) (hc : CodeOk A v) : e_laws_FnStars A (v, ()) = some true := by
  obtain ⟨p, len, c, rfl, _⟩ := id hc
  simp only [e_laws_FnStars, r_laws_FnStars, rawLen, Option.bind_some]
  by_cases hlen : (len : Int) > 1048576
  · simp only [hlen, decide_true, cond_true]
  simp only [hlen, decide_false, cond_false]
  obtain ⟨n, e1, hd, hE, h3⟩ := makeInner_ok hc
  obtain ⟨hok, h0⟩ := hd.ok (by omega) (by omega)
  have hn : Sm.sm B1 n := up_net B01 h0
  obtain ⟨m, L, h⟩ := lk_of n hn hok
  have hm := h.hm
  have hm5 := h.m5
  obtain ⟨x3, e3, x30, x31⟩ := num_ok hc (n := 30) (by omega)
  have w0 : wr (n.1 - n.2.1) = n.1 - n.2.1 := wr_id (by omega) (by omega)
  have c0 : decide (n.1 - n.2.1 = 0) = false := by rw [decide_eq_false_iff_not]; omega
  simp only [e1, e3, w0, c0, Option.bind_some, cond_false]
  have rk := tmod_in (len := n.1 - n.2.1) x30 (by omega)
  generalize Int.tmod x3 (n.1 - n.2.1) = k at *
  have w1 : wr (n.2.1 + k) = n.2.1 + k := wr_id (by omega) (by omega)
  obtain ⟨r, r1, r2, r3, r4, r5⟩ := star_keep n hn hok (by omega) (v := n.2.1 + k) (by omega) (by omega)
  have ne := near_ne h (v := n.2.1 + k) (by omega) (by omega)
  have c1 : decide (((near n.2.2.2 (n.2.1 + k) m).length : Int) = 0) = false := by rw [decide_eq_false_iff_not]; omega
  simp only [w1, r1, r2, p_WiresAt n m hn hm hok (n.2.1 + k) (by omega) (by omega), c1, beqB_self, Option.bind_some, Bool.not_true, cond_false]
  obtain ⟨q, b⟩ := r
  cases b with
  | false =>
    have := r4 rfl
    simp only at this
    subst this
    simp [Z0]
  | true =>
    obtain ⟨k1, k2, k3⟩ := r3.ok rfl
    have hr := r5 rfl
    simp only at k1 k2 k3 hr
    have w2 : wr (n.1 - 1) = n.1 - 1 := wr_id (by omega) (by omega)
    simp only [Bool.not_true, cond_false, k2, k3, w2, decide_true, cond_true, p_Alike n q hn r3.sm, hok, k1, hr, Bool.and_self, Option.bind_some]

end Go.Sx.R
namespace Go.Sx.R
open Go Go.Sx

abbrev Mat := List (List (Int × Int))
/-- An entry. -/
def en (m : Mat) (i j : Nat) : Int × Int := (((m[i]?).getD [])[j]?).getD (0, 0)
end Go.Sx.R
namespace Go.Sx.R
open Go Go.Sx

/-- The two nodes beside a node. -/
def fstN (i : Nat) : Nat := if i = 0 then 1 else 0
def sndN (i : Nat) : Nat := if i = 0 then 2 else if i = 1 then 2 else 1

theorem nb {K i : Nat} (hK : 3 ≤ K) (_hi : i < K) : fstN i < K ∧ sndN i < K := by unfold fstN sndN; split <;> (try split) <;> omega

end Go.Sx.R
