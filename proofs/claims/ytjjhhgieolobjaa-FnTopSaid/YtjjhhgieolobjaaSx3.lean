/- A typed interpreter of the program and its soundness, part 3. Conditions: none. -/
import Derived.Test.YtjjhhgieolobjaaSx2
import Derived.Great.FillDense
namespace Go.Sx
variable {α : Type} {w0 : World} {lent : Nat → Prop} {f : Frame} {a : Act} {w : World} {own : Own}
variable {P : Program} {E : Env} {K : Slot → List Nat → Option α} {out : α} {d : Nat} {T : TypeId} {pos : String} {aft : Array Edge} {g : Option (Nat × Bool)}
theorem Elems.one {tr : Bool} {t : Ty} {x : t.den} {cs : List Value} {S : Nat → Prop} (h : Rep tr w t cs x S) : Elems tr w t [x] S cs (fun i c => i = 0 ∧ S c) := by
  refine ⟨by simp [h.len], fun i y hy => ?_, fun i c hc => hc.2, fun _ i j c hij hi hj => hij (hi.1.trans hj.1.symm)⟩
  match i, hy with
  | 0, hy =>
    simp [lget] at hy; subst hy
    have := h.len
    simp only [Nat.zero_mul, List.drop_zero, true_and]
    rw [List.take_of_length_le (by omega)]; exact h
  | i + 1, hy => simp [lget] at hy
def partVals (a : Act) (parts : List (Nat × Operand)) : List Value := parts.map fun x => a.eval x.2
def partCells (a : Act) (parts : List (Nat × Operand)) : List Value := (partVals a parts).flatMap fun v => v.cells.toList
theorem Elems.consF {t : Ty} {x : t.den} {xs : List t.den} {cs ds : List Value} {S : Nat → Prop} (h : Rep false w t cs x S) (hR : Elems false w t xs S ds (fun _ => S)) : Elems false w t (x :: xs) S (cs ++ ds) (fun _ => S) := by
  have hl := h.len
  refine ⟨?_, fun i y hy => ?_, fun _ _ h => h, by simp⟩
  · rw [List.length_append, hR.len, hl, List.length_cons, Nat.add_mul, Nat.one_mul, Nat.add_comm]
  · cases i with
    | zero =>
      simp [lget] at hy; subst hy
      simp only [Nat.zero_mul, List.drop_zero]
      rw [List.take_left' hl]; exact h
    | succ i =>
      have := hR.at_ i y (by simpa [lget] using hy)
      have e : (i + 1) * t.size = cs.length + i * t.size := by rw [hl, Nat.add_mul, Nat.one_mul, Nat.add_comm]
      rw [e, List.drop_append]
      simp only [Nat.add_sub_cancel_left]
      rw [List.drop_of_length_le (by omega), List.nil_append]
      exact this
theorem listK_sound (h : Inv w0 lent f a w own) {t : Ty} (hp : t.plain = true) : ∀ (parts : List (Nat × Operand)) (k : Nat) {K' : List t.den → Option α}, listK f t parts k K' = some out →
    ∃ xs, K' xs = some out ∧ parts.map (fun x => (x.1, a.eval x.2)) = ((partVals a parts).zipIdx k).map (fun x => (x.2, x.1)) ∧ (∀ v ∈ partVals a parts, v.cells.size = t.size) ∧ List.length xs = parts.length ∧
      (t.flat = true → ∃ Si, Elems true w t xs (fun _ => False) (partCells a parts) Si) ∧
      (∀ ls, ownersOf f parts = some ls → ∃ Si, Elems true w t xs (fun c => ∃ l ∈ ls, Of own w (some l) c) (partCells a parts) Si) ∧
      (keptAll f parts = true → Elems false w t xs (Of own w none) (partCells a parts) (fun _ => Of own w none))
  | [], k, K', hk => by
    simp only [listK] at hk
    refine ⟨[], hk, rfl, by simp [partVals], rfl, fun _ => ⟨fun _ _ => False, ⟨by simp [partCells, partVals], by simp [lget], fun _ _ h => h, fun _ _ _ _ _ h => h.elim⟩⟩, fun ls _ => ⟨fun _ _ => False, ⟨by simp [partCells, partVals], by simp [lget], fun _ _ h => h.elim, fun _ _ _ _ _ h => h.elim⟩⟩, fun _ => ⟨by simp [partCells, partVals], by simp [lget], fun _ _ h => h, by simp⟩⟩
  | (j, o) :: r, k, K', hk => by
    simp only [listK] at hk
    split at hk
    · rename_i hjk
      have hjk := Nat.eq_of_beq_eq_true hjk
      subst hjk
      obtain ⟨t', x, hv, hk⟩ := valK_sound h hk
      obtain ⟨e, hk⟩ := castK_some hk
      subst e
      obtain ⟨xs, hK, h1, h2, h3, h4, h5, h6⟩ := listK_sound h hp r (j + 1) hk
      obtain ⟨cs, hs, hr, hkd⟩ := hv
      have hcs : (a.eval o).cells.toList = cs := hs.cells hp hr
      have hsz : (a.eval o).cells.size = t'.size := by rw [← hr.len, ← hcs]; simp
      have hpc : partCells a ((j, o) :: r) = cs ++ partCells a r := by simp [partCells, partVals, hcs]
      refine ⟨x :: xs, hK, ?_, ?_, by simp [h3], fun hf => ?_, fun ls hls => ?_, fun hkp => ?_⟩
      · simp only [partVals, List.map_cons, List.zipIdx_cons]
        rw [h1]; rfl
      · intro v hv
        simp only [partVals, List.map_cons, List.mem_cons] at hv
        rcases hv with rfl | hv
        · exact hsz
        · exact h2 v hv
      · obtain ⟨Si, hS⟩ := h4 hf
        have hone : Elems true w t' [x] (fun _ => False) cs _ := Elems.one (hr.flatAny hf)
        rw [hpc]
        exact ⟨_, (hone.append hS fun _ h => h.elim).mono fun c h => h.elim id id⟩
      · simp only [ownersOf] at hls
        split at hls
        · rename_i ls1 ms hk1 hk2
          rw [hk1] at hkd
          split at hls
          · rename_i hdis
            simp at hls; subst hls
            obtain ⟨Si, hS⟩ := h5 ms hk2
            rw [hpc]
            refine ⟨_, ((Elems.one hkd).append hS fun c h h' => ?_).mono fun c h => ?_⟩
            · obtain ⟨l, hl, hc⟩ := h
              obtain ⟨m, hm, hc'⟩ := h'
              have := hc.1.symm.trans hc'.1; simp at this; subst this
              have := List.all_eq_true.1 hdis l hl
              simp at this
              exact this hm
            · rcases h with ⟨l, hl, hc⟩ | ⟨l, hl, hc⟩
              · exact ⟨l, by simp [hl], hc⟩
              · exact ⟨l, by simp [hl], hc⟩
          · simp at hls
        · simp at hls
      · simp only [keptAll, Bool.and_eq_true] at hkp
        obtain ⟨hk1, hk2⟩ := hkp
        have hr' : Rep false w t' cs x (Of own w none) := by
          split at hk1
          · rename_i e; rw [e] at hkd; exact hr.flatAny hkd
          · rename_i e; rw [e] at hkd; exact hkd
          · simp at hk1
        have hR := h6 hk2
        rw [hpc]
        exact Elems.consF hr' hR
    · simp at hk
theorem buildSlice_sound (hE : EnvOk P E) (h : Inv w0 lent f a w own) (hd : d < f.length) {D : TypeId} {len : Nat} {parts : Array (Nat × Operand)}
    (hk : opK E f ⟨some d, .buildSlice D len parts, T, pos, aft, g⟩ K = some out) : OpOk P w0 lent f a w ⟨some d, .buildSlice D len parts, T, pos, aft, g⟩ d K out := by
  simp only [opK] at hk
  split at hk
  · rename_i t hT
    obtain ⟨T', hu, hT'⟩ := (hE.ty _ _ hT).slice t rfl
    have hp := (hE.ty _ _ hT').plain
    split at hk
    · rename_i hcond
      simp only [Bool.and_eq_true] at hcond
      have hlen := Nat.eq_of_beq_eq_true hcond.1
      have hmax := Nat.le_of_ble_eq_true hcond.2
      have fin : ∀ (S : Nat → Prop) (Si : Nat → Nat → Prop) (ls : List Nat) (xs : List t.den), List.length xs = parts.toList.length → K (.own (.slice t) xs) ls = some out →
          parts.toList.map (fun x => (x.1, a.eval x.2)) = ((partVals a parts.toList).zipIdx 0).map (fun x => (x.2, x.1)) → (∀ v ∈ partVals a parts.toList, v.cells.size = t.size) →
          Elems true w t xs S (partCells a parts.toList) Si → (∀ c, S c → ∃ l ∈ ls, Of own w (some l) c) → OpOk P w0 lent f a w ⟨some d, .buildSlice D len parts, T, pos, aft, g⟩ d K out := by
        intro S Si ls xs hxs hK hzip hsz hel hS
        have hpos := t.size_pos
        have hvl : (partVals a parts.toList).length = len := by simp [partVals, hlen]
        have hxl : List.length xs = len := by rw [hxs, hlen]; simp
        obtain ⟨z, hz, hzc⟩ := run_zeroValue' (hE.ty _ _ hT') w
        have hfill : ∀ zero : Array Value, Instr.fill (fun i => some (i * t.size, t.size)) ((Array.range (len * t.size)).map (zero[· % zero.size]!)) (parts.map fun x => (x.1, a.eval x.2)).toList = some (partCells a parts.toList).toArray := by
          intro zero
          rw [Array.toList_map, hzip]
          exact Great.fill_whole hpos _ _ hsz (by simp [hvl])
        have hrun : (execOp a.eval ⟨some d, .buildSlice D len parts, T, pos, aft, g⟩).run P w = .ok (.value (.slice (some ⟨w.heap.size, 0, none⟩) len len)) (pushW w (.cells (partCells a parts.toList).toArray T')) := by
          have hbig : ¬ len * t.size > 2 ^ 24 := by omega
          by_cases e : len * t.size = 0
          · have hf := hfill #[]
            rw [e] at hf
            simp only [execOp, Instr.buildSlice, Sem.run_bind, run_underlying hu, Result.andThen_ok, run_sizeOf' (hE.ty _ _ hT') w, show ¬ ((0 : Nat) > 2 ^ 24) from by omega, if_false, e, if_true, Sem.run_pure, hf, run_newRow]
          · have hf := hfill z.cells
            simp only [execOp, Instr.buildSlice, Sem.run_bind, run_underlying hu, Result.andThen_ok, run_sizeOf' (hE.ty _ _ hT') w, hbig, if_false, e, Sem.run_pure, hz, hf, run_newRow]
        refine OpOk.fresh h rfl hd hrun (pushW_grow _ _ _) (ls := ls) (s := .own (.slice t) xs) (fun f2 T2 => ⟨_, rfl, ?_⟩) (by simp) hK
        have hlt : ∀ c, S c → c < w.heap.size := fun c hc => by obtain ⟨l, _, hc⟩ := hS c hc; exact hc.2
        have hel2 : Elems true (pushW w (.cells (partCells a parts.toList).toArray T')) t xs S (partCells a parts.toList) Si := hel.agree fun i c hc => (pushW_grow w _ _).2 c (hlt c (hel.sub i c hc))
        have hel3 := hel2.mono (S' := Of (own.move w (pushW w (.cells (partCells a parts.toList).toArray T')) ls d) (pushW w (.cells (partCells a parts.toList).toArray T')) (some d)) fun c hc => Own.move_used (pushW_grow _ _ _) (hS c hc)
        have hcl : (partCells a parts.toList).length = len * t.size := by rw [hel.len, hxl]
        have hseg : seg (partCells a parts.toList).toArray 0 (List.length xs * t.size) = partCells a parts.toList := by
          simp only [seg, List.drop_zero]
          exact List.take_of_length_le (by rw [hxl]; omega)
        have := hel3.row (pushW_get w (.cells (partCells a parts.toList).toArray T')) hseg (c := len) (by omega) (by have := Nat.le_mul_of_pos_right len hpos; omega) (by simp [hcl]) (Own.move_new (Nat.le_refl _) (by rw [pushW_size]; omega))
          (fun i hi => absurd (hlt _ (hel.sub i _ hi)) (Nat.lt_irrefl _))
        rw [hxl] at this
        exact this
      cases hfl : t.flat with
      | true =>
        rw [hfl] at hk
        obtain ⟨xs, hK, h1, h2, h3, h4, _, _⟩ := listK_sound h hp _ _ hk
        obtain ⟨Si, hS⟩ := h4 hfl
        exact fin _ Si [] xs h3 hK h1 h2 hS fun _ h => h.elim
      | false =>
        rw [hfl] at hk
        simp only at hk
        split at hk
        · rename_i ls hls
          obtain ⟨xs, hK, h1, h2, h3, _, h5, _⟩ := listK_sound h hp _ _ hk
          obtain ⟨Si, hS⟩ := h5 ls hls
          exact fin _ Si ls xs h3 hK h1 h2 hS fun _ h => h
        · split at hk
          · rename_i hkept
            obtain ⟨xs, hK, hzip, hsz, hxs, _, _, h6⟩ := listK_sound h hp _ _ hk
            have hel := h6 hkept
            have hpos := t.size_pos
            have hvl : (partVals a parts.toList).length = len := by simp [partVals, hlen]
            have hxl : List.length xs = len := by rw [hxs, hlen]; simp
            obtain ⟨z, hz, hzc⟩ := run_zeroValue' (hE.ty _ _ hT') w
            have hfill : ∀ zero : Array Value, Instr.fill (fun i => some (i * t.size, t.size)) ((Array.range (len * t.size)).map (zero[· % zero.size]!)) (parts.map fun x => (x.1, a.eval x.2)).toList = some (partCells a parts.toList).toArray := by
              intro zero
              rw [Array.toList_map, hzip]
              exact Great.fill_whole hpos _ _ hsz (by simp [hvl])
            have hrun : (execOp a.eval ⟨some d, .buildSlice D len parts, T, pos, aft, g⟩).run P w = .ok (.value (.slice (some ⟨w.heap.size, 0, none⟩) len len)) (pushW w (.cells (partCells a parts.toList).toArray T')) := by
              have hbig : ¬ len * t.size > 2 ^ 24 := by omega
              by_cases e : len * t.size = 0
              · have hf := hfill #[]
                rw [e] at hf
                simp only [execOp, Instr.buildSlice, Sem.run_bind, run_underlying hu, Result.andThen_ok, run_sizeOf' (hE.ty _ _ hT') w, show ¬ ((0 : Nat) > 2 ^ 24) from by omega, if_false, e, if_true, Sem.run_pure, hf, run_newRow]
              · have hf := hfill z.cells
                simp only [execOp, Instr.buildSlice, Sem.run_bind, run_underlying hu, Result.andThen_ok, run_sizeOf' (hE.ty _ _ hT') w, hbig, if_false, e, Sem.run_pure, hz, hf, run_newRow]
            intro next Q hn
            refine does_value hrun ?_
            have hg := pushW_grow w (partCells a parts.toList).toArray T'
            refine hn _ _ own (.ro none (.slice t) xs) [] hK ?_
            rw [killFrail_loose (by simp)]
            refine h.apply hd hg.1 hg.calm (fun b hb => h.fresh b (Nat.le_trans hg.1 hb)) (fun r _ c hc => ⟨⟨hc.1, Nat.lt_of_lt_of_le hc.2 hg.1⟩, hg.2 c hc.2⟩) ?_
            have hcl : (partCells a parts.toList).length = len * t.size := by rw [hel.len, hxl]
            have hwide : ∀ c, Of own w none c → Of own (pushW w (.cells (partCells a parts.toList).toArray T')) none c := fun c hc => ⟨hc.1, Nat.lt_of_lt_of_le hc.2 hg.1⟩
            refine ⟨_, rfl, _, len, by rw [hxl], by rw [hxl]; exact Nat.le_refl _, .inr ⟨w.heap.size, 0, _, T', (0, 0), rfl, pushW_get w _, ⟨h.fresh _ (Nat.le_refl _), by rw [pushW_size]; omega⟩, by simp, ?_, fun _ => Of own (pushW w (.cells (partCells a parts.toList).toArray T')) none, fun i y hy => ?_, fun i c hc => ⟨hc, by simp⟩, by simp⟩⟩
            · simp only [cond_false, hxl, Nat.zero_add, List.size_toArray, hcl]; exact Nat.le_refl _
            · have := hel.at_ i y hy
              simp only [seg, Nat.zero_add]
              exact (this.agree fun c hc => hg.2 c hc.2).mono hwide
          · simp at hk
    · simp at hk
  · simp at hk
end Go.Sx
namespace Go.Sx
variable {α : Type} {w0 : World} {lent : Nat → Prop} {f : Frame} {a : Act} {w : World} {own : Own}
variable {P : Program} {E : Env} {K : Slot → List Nat → Option α} {out : α} {d : Nat} {T : TypeId} {pos : String} {aft : Array Edge} {g : Option (Nat × Bool)}
theorem assign_copy (h : Inv w0 lent f a w own) (hd : d < f.length) (hok : ∀ s ls, K s ls = some out → s.on d = false ∧ ∀ c ∈ ls, s.on c = false) {x : Operand}
    (hk : (match copyS f x with | some s => K s [] | none => none) = some out) : OpOk P w0 lent f a w ⟨some d, .assign x, T, pos, aft, g⟩ d K out := by
  cases hc : copyS f x with
  | none => rw [hc] at hk; simp at hk
  | some s =>
    rw [hc] at hk; simp only at hk
    obtain ⟨⟨i, hs⟩, hl⟩ := copyS_sound h hc
    exact OpOk.loose h rfl hd (v := a.eval x) (w' := w) rfl (Grow.refl w) hs hl hk (hok _ _ hk).1
theorem Own.move_self {own : Own} {w : World} (ls : List Nat) (d : Nat) {c : Nat} (h : Of own w (some d) c) : Of (own.move w w ls d) w (some d) c := by
  refine ⟨?_, h.2⟩
  simp only [Own.move]
  rw [if_neg (by omega), h.1]
  split <;> simp_all
theorem At.root {tr t : Ty} {x : tr.den} {y : t.den} {u : t.den → tr.den} (h : At tr x [] t y u) : ∃ e : tr = t, e ▸ x = y := by
  cases h; exact ⟨rfl, rfl⟩
theorem assign_sound (_hE : EnvOk P E) (h : Inv w0 lent f a w own) (hd : d < f.length) (hok : ∀ s ls, K s ls = some out → s.on d = false ∧ ∀ c ∈ ls, s.on c = false) {x : Operand}
    (hk : opK E f ⟨some d, .assign x, T, pos, aft, g⟩ K = some out) : OpOk P w0 lent f a w ⟨some d, .assign x, T, pos, aft, g⟩ d K out := by
  have run : (execOp a.eval ⟨some d, .assign x, T, pos, aft, g⟩).run P w = .ok (.value (a.eval x)) w := rfl
  cases x with
  | const v =>
    simp only [opK] at hk
    split at hk
    · rename_i e
      simp only [Operand.const.injEq] at e; subst e
      split at hk
      · rename_i t hT
        exact OpOk.fresh h rfl hd run (Grow.refl w) (ls := []) (s := .own (.slice t) ([] : List t.den)) (fun f' T' => ⟨_, rfl, none, 0, rfl, Nat.le_refl _, .inl rfl⟩) (by simp) hk
      · simp at hk
    · rename_i e
      simp only [Operand.const.injEq] at e; subst e
      exact OpOk.fresh h rfl hd run (Grow.refl w) (ls := []) (s := .dead) (fun f' T' => trivial) (by simp) hk
    · simp at *
    · exact assign_copy h hd hok hk
  | global _ => exact assign_copy h hd hok hk
  | func _ => exact assign_copy h hd hok hk
  | tmp i =>
    have copy : (match copyS f (.tmp i) with | some s => K s [] | none => none) = some out → OpOk P w0 lent f a w ⟨some d, .assign (.tmp i), T, pos, aft, g⟩ d K out := assign_copy h hd hok
    simp only [opK] at hk
    cases hf : f[i]? with
    | none => rw [hf] at hk; simp only [copyS, hf] at hk; simp at hk
    | some s =>
      rw [hf] at hk
      have hs := h.slots i s hf
      cases s with
      | dead => simp [copyS, hf] at hk
      | undef => simp [copyS, hf] at hk
      | ro r t x => exact copy hk
      | adr o r p tr t y u => exact copy hk
      | radr r t y => exact copy hk
      | own t x =>
        simp only at hk
        obtain ⟨cs, hsh, hrep⟩ := hs
        cases hfl : t.flat with
        | true => rw [hfl] at hk; exact OpOk.fresh h rfl hd run (Grow.refl w) (ls := []) (fun f' T' => flat_ok hfl hsh hrep none d f' T') (by simp) hk
        | false =>
          rw [hfl] at hk
          exact OpOk.fresh h rfl hd run (Grow.refl w) (ls := [i]) (s := .own t x) (fun f' T' => ⟨cs, hsh, hrep.mono fun c hc => Own.move_used (Grow.refl w) ⟨i, by simp, hc⟩⟩) (by simp) hk
      | box b t x =>
        simp only at hk
        obtain ⟨bl, L, El, hv, hb, hh, hsz, h1, h2⟩ := hs
        have mv : ∀ c, Of own w (some i) c → Of (own.move w w [i] d) w (some d) c := fun c hc => Own.move_used (Grow.refl w) ⟨i, by simp, hc⟩
        exact OpOk.fresh h rfl hd run (Grow.refl w) (ls := [i]) (s := .box b t x) (fun f' T' => ⟨bl, L, El, hv, (mv bl ⟨hb, heap_lt hh⟩).1, hh, hsz, fun ho => (h1 ho).mono fun c hc => ⟨mv c hc.1, hc.2⟩,
          fun ho => (h2 ho).keeps (Own.move_keeps (Grow.refl w) [i] d none (by simp))⟩) (by simp) hk
      | cref q =>
        simp only at hk
        obtain ⟨hv, _, _⟩ := hs
        split at hk
        · rename_i t y hq
          split at hk
          · split at hk
            · simp at hk
            · obtain ⟨cs, hsh, hrep⟩ := h.slots q _ hq
              refine OpOk.fresh h rfl hd run (Grow.refl w) (ls := [q]) (s := .own t y) (fun f' T' => ⟨cs, ?_, hrep.mono fun c hc => Own.move_used (Grow.refl w) ⟨q, by simp, hc⟩⟩) (by simp) hk
              show Shape t (a.tmps.getD i undef) cs
              rw [hv]; exact hsh
          · simp at hk
        · simp at hk
      | ref r p tr t y u =>
        have self : copyS f (.tmp i) = some (.ref r p tr t y u) := by simp only [copyS, hf]
        simp only at hk
        split at hk
        · split at hk
          · simp at hk
          · obtain ⟨cs, hsh, hrep⟩ := h.refTree hf
            exact OpOk.fresh h rfl hd run (Grow.refl w) (ls := [r]) (s := .own t y) (fun f' T' => ⟨cs, hsh, hrep.mono fun c hc => Own.move_used (Grow.refl w) ⟨r, by simp, hc⟩⟩) (by simp) hk
        · exact copy (by rw [self]; exact hk)
      | ext r p tr t x u =>
        simp only at hk
        obtain ⟨cs, hsh, hrep⟩ := h.extTree hf
        split at hk
        · split at hk
          · split at hk
            · rename_i hrd
              have hrd := Nat.eq_of_beq_eq_true hrd
              subst hrd
              refine OpOk.fresh h rfl hd run (Grow.refl w) (ls := [i]) (s := .own (.slice t) x) (fun f' T' => ⟨cs, hsh, hrep.mono fun c hc => ?_⟩) (by simp) hk
              obtain ⟨l, hl, hc⟩ := hc
              simp at hl
              rcases hl with rfl | rfl
              · exact Own.move_self _ _ hc
              · exact Own.move_used (Grow.refl w) ⟨l, by simp, hc⟩
            · exact OpOk.fresh h rfl hd run (Grow.refl w) (ls := [r, i]) (s := .own (.slice t) x) (fun f' T' => ⟨cs, hsh, hrep.mono fun c hc => Own.move_used (Grow.refl w) hc⟩) (by simp) hk
          · simp at hk
        · simp at hk
end Go.Sx
namespace Go.Sx
variable {α : Type} {w0 : World} {lent : Nat → Prop} {f : Frame} {a : Act} {w : World} {own : Own}
variable {P : Program} {E : Env} {K : Slot → List Nat → Option α} {out : α} {d : Nat}
theorem opK_sound (hE : EnvAt P E w0 lent) (h : Inv w0 lent f a w own) (hd : d < f.length) (hok : ∀ s ls, K s ls = some out → s.on d = false ∧ ∀ c ∈ ls, s.on c = false) {o : Oper} (ho : o.dst = some d)
    (hk : opK E f o K = some out) : OpOk P w0 lent f a w o d K out := by
  obtain ⟨dst, op, T, pos, aft, g⟩ := o
  simp only at ho; subst ho
  cases op with
  | move x => exact move_sound h hd hok hk
  | assign x => exact assign_sound hE.toEnvOk h hd hok hk
  | pick c x y => exact pick_sound h hd hk
  | alloc D => exact alloc_sound hE.toEnvOk h hd hk
  | box D x => exact box_sound hE.toEnvOk h hd hk
  | build S parts => exact build_sound hE.toEnvOk h hd hk
  | buildSlice D len parts => exact buildSlice_sound hE.toEnvOk h hd hk
  | load D x => exact load_sound hE.toEnvOk h hd hok hk
  | nilCheck x => exact nilCheck_sound h hd hok hk
  | binOp op xT x y yT => exact binOp_sound hE.toEnvOk h hd hk
  | unOp op xT x => exact unOp_sound h hd hk
  | convert S D x => exact convert_sound hE.toEnvOk h hd hk
  | makeSlice D n c => exact makeSlice_sound hE.toEnvOk h hd hk
  | slice S x lo hi mx => exact slice_sound hE.toEnvOk h hd hok hk
  | fieldAddr S x k => exact fieldAddr_sound hE.toEnvOk h hd hok hk
  | indexAddr S x i => exact indexAddr_sound hE.toEnvOk (hE.now h) h hd hok hk
  | extract x n => exact extract_sound h hd hok hk
  | call c =>
    cases hc : c.callee with
    | value v =>
      cases v with
      | func gf => exact call_sound hE h hd hc hk
      | tmp t => exact callT_sound hE h hd hc hk
      | _ => simp [opK, hc] at hk
    | builtin b =>
      cases b with
      | len => exact len_sound hE.toEnvOk h hd hc hk
      | min => exact min_sound h hd hc hk
      | max => exact max_sound h hd hc hk
      | append => exact append_sound hE.toEnvOk h hd hok hc hk
      | _ => simp [opK, hc] at hk
    | invoke => simp [opK, hc] at hk
  | _ => simp [opK] at hk
theorem wp_mono {o : Oper} {next next' : Act → World → Prop} {Q : Exit → Act → World → Prop} (h : ∀ a w, next a w → next' a w) (hh : o.wp P a w next Q) : o.wp P a w next' Q := Oper.wp_mono h hh
end Go.Sx
namespace Go.Sx
theorem near_range {w : World} {rc : List Value} {t : Ty} {x : t.den} {p : Path} {t' : Ty} {y : t'.den} {u : t'.den → t.den} (hat : At t x p t' y u) :
    ∀ (l l' : Loc), p.near = true → locate w rc p t l = some l' → ∃ n, l' = l.add n ∧ n + t'.size ≤ t.size := by
  induction hat with
  | here =>
    intro l l' _ hl
    simp [locate] at hl; subst hl
    exact ⟨0, by cases l <;> rfl, by omega⟩
  | @fst a b x z p t' y u _ ih | @tfst a b x z p t' y u _ ih =>
    intro l l' hn hl
    obtain ⟨n, h1, h2⟩ := ih l l' hn hl
    exact ⟨n, h1, by simp only [Ty.size]; omega⟩
  | @snd a b x z p t' y u _ ih | @tsnd a b x z p t' y u _ ih =>
    intro l l' hn hl
    obtain ⟨n, h1, h2⟩ := ih _ l' hn hl
    exact ⟨a.size + n, by rw [h1]; cases l <;> simp [Loc.add, Nat.add_assoc], by simp only [Ty.size]; omega⟩
  | idx => intro l l' hn; simp [Path.near] at hn
theorem pair_split {tr : Bool} {w : World} {rc : List Value} {l : Loc} {a b : Ty} {x : (Ty.pair a b).den} {S : Nat → Prop} (h : Rep tr w (.pair a b) ((conts w rc l).take (Ty.pair a b).size) x S) :
    ∃ S1 S2, Rep tr w a ((conts w rc l).take a.size) x.1 S1 ∧ Rep tr w b ((conts w rc (l.add a.size)).take b.size) x.2 S2 ∧ (∀ c, S1 c → S c) ∧ (∀ c, S2 c → S c) ∧ (tr = true → ∀ c, S1 c → ¬ S2 c) := by
  obtain ⟨c1, c2, S1, S2, hc, h1, h2, g1, g2, g3⟩ := h
  have e1 : c1 = (conts w rc l).take a.size := by
    have := congrArg (List.take a.size) hc
    rw [List.take_take, List.take_left' h1.len] at this
    rw [← this]; congr 1; simp [Ty.size]
  have e2 : c2 = (conts w rc (l.add a.size)).take b.size := by
    have := congrArg (List.drop a.size) hc
    rw [List.drop_take, List.drop_left' h1.len] at this
    rw [← this, conts_add]; congr 1; simp [Ty.size]
  exact ⟨S1, S2, e1 ▸ h1, e2 ▸ h2, g1, g2, g3⟩
theorem pair_join {tr : Bool} {w : World} {rc : List Value} {l : Loc} {a b : Ty} {x : a.den} {y : b.den} {S S1 S2 : Nat → Prop} (h1 : Rep tr w a ((conts w rc l).take a.size) x S1)
    (h2 : Rep tr w b ((conts w rc (l.add a.size)).take b.size) y S2) (g1 : ∀ c, S1 c → S c) (g2 : ∀ c, S2 c → S c) (g3 : tr = true → ∀ c, S1 c → ¬ S2 c) :
    Rep tr w (.pair a b) ((conts w rc l).take (Ty.pair a b).size) (x, y) S := by
  refine ⟨_, _, S1, S2, ?_, h1, h2, g1, g2, g3⟩
  rw [conts_add]
  simp only [Ty.size, List.take_add]
theorem Rep.near {w w2 : World} {rc : List Value} {b o : Nat} {L : Array Value} {E E2 : TypeId} {fz fz2 : Nat × Nat} {cs2 : List Value}
    {t : Ty} {x : t.den} {p : Path} {t' : Ty} {y : t'.den} {u : t'.den → t.den} (hat : At t x p t' y u) (hb : w.heap[b]? = some (.cells L E fz)) (hb2 : w2.heap[b]? = some (.cells (splice L o cs2) E2 fz2))
    (hlen : cs2.length = t'.size) (ho : o + t'.size ≤ L.size) :
    ∀ (o0 : Nat) (S : Nat → Prop), p.near = true → Rep false w t ((conts w rc (.mem b o0)).take t.size) x S → locate w rc p t (.mem b o0) = some (.mem b o) →
      (∀ c, S c → w2.heap[c]? = w.heap[c]?) → ∀ y', Rep false w2 t' cs2 y' S → Rep false w2 t ((conts w2 rc (.mem b o0)).take t.size) (u y') S := by
  have out : ∀ o1 n, o1 + n ≤ o ∨ o + t'.size ≤ o1 → (conts w2 rc (.mem b o1)).take n = (conts w rc (.mem b o1)).take n := by
    intro o1 n h
    rw [take_conts_mem hb, take_conts_mem hb2]
    exact seg_splice_out _ _ _ _ _ (by omega) (by rw [hlen]; exact h)
  induction hat with
  | here =>
    intro o0 S _ h hl hs y' hr
    simp [locate] at hl; subst hl
    rw [take_conts_mem hb2, seg_splice_in _ _ _ _ hlen (by omega)]
    exact hr
  | @fst a b' x z p t' y u hat ih =>
    intro o0 S hn h hl hs y' hr
    obtain ⟨S1, S2, h1, h2, g1, g2, _⟩ := pair_split h
    obtain ⟨n, e, hle⟩ := near_range hat _ _ hn hl
    simp only [Loc.add, Loc.mem.injEq, true_and] at e
    refine pair_join (S1 := S) (S2 := S2) (ih hlen ho out o0 S hn (h1.mono g1) hl hs y' hr) ?_ (fun c h => h) g2 (by simp)
    simp only [Loc.add] at h2 ⊢
    rw [out _ _ (by omega)]
    exact h2.agree fun c hc => hs c (g2 c hc)
  | @snd a b' x z p t' y u hat ih =>
    intro o0 S hn h hl hs y' hr
    obtain ⟨S1, S2, h1, h2, g1, g2, _⟩ := pair_split h
    obtain ⟨n, e, hle⟩ := near_range hat _ _ hn hl
    simp only [Loc.add, Loc.mem.injEq, true_and] at e
    refine pair_join (S1 := S1) (S2 := S) ?_ (ih hlen ho out (o0 + a.size) S hn (h2.mono g2) hl hs y' hr) g1 (fun c h => h) (by simp)
    rw [out _ _ (by omega)]
    exact h1.agree fun c hc => hs c (g1 c hc)
  | @tfst a b' x z p t' y u hat ih =>
    intro o0 S hn h hl hs y' hr
    obtain ⟨S1, S2, h1, h2, g1, g2, _⟩ := pair_split (a := a) (b := b') (x := (x, z)) h
    obtain ⟨n, e, hle⟩ := near_range hat _ _ hn hl
    simp only [Loc.add, Loc.mem.injEq, true_and] at e
    refine pair_join (a := a) (b := b') (S1 := S) (S2 := S2) (ih hlen ho out o0 S hn (h1.mono g1) hl hs y' hr) ?_ (fun c h => h) g2 (by simp)
    simp only [Loc.add] at h2 ⊢
    rw [out _ _ (by omega)]
    exact h2.agree fun c hc => hs c (g2 c hc)
  | @tsnd a b' x z p t' y u hat ih =>
    intro o0 S hn h hl hs y' hr
    obtain ⟨S1, S2, h1, h2, g1, g2, _⟩ := pair_split (a := a) (b := b') (x := (x, z)) h
    obtain ⟨n, e, hle⟩ := near_range hat _ _ hn hl
    simp only [Loc.add, Loc.mem.injEq, true_and] at e
    refine pair_join (a := a) (b := b') (S1 := S1) (S2 := S) ?_ (ih hlen ho out (o0 + a.size) S hn (h2.mono g2) hl hs y' hr) g1 (fun c h => h) (by simp)
    rw [out _ _ (by omega)]
    exact h1.agree fun c hc => hs c (g1 c hc)
  | idx => intro o0 S hn; simp [Path.near] at hn
theorem covers_near : ∀ (p : Path) (t : Ty), covers t p = true → p.near = true
  | [], _, _ => rfl
  | .fst :: p, .pair a b, h => by simp only [covers, Bool.and_eq_true] at h; exact covers_near p a h.2
  | .snd :: p, .pair a b, h => by simp only [covers, Bool.and_eq_true] at h; exact covers_near p b h.2
  | .idx _ :: _, _, h => by simp [covers] at h
  | .fst :: _, .raw, h | .fst :: _, .cur, h | .fst :: _, .num _, h | .fst :: _, .bool, h | .fst :: _, .fn _, h | .fst :: _, .slice _, h | .fst :: _, .tup _ _, h => by simp [covers] at h
  | .snd :: _, .raw, h | .snd :: _, .cur, h | .snd :: _, .num _, h | .snd :: _, .bool, h | .snd :: _, .fn _, h | .snd :: _, .slice _, h | .snd :: _, .tup _ _, h => by simp [covers] at h
theorem Rep.cover {tr tr2 : Bool} {w w2 : World} {rc : List Value} {b o : Nat} {L : Array Value} {E E2 : TypeId} {fz fz2 : Nat × Nat} {cs2 : List Value}
    {t : Ty} {x : t.den} {p : Path} {t' : Ty} {y : t'.den} {u : t'.den → t.den} (hat : At t x p t' y u) (hb : w.heap[b]? = some (.cells L E fz)) (hb2 : w2.heap[b]? = some (.cells (splice L o cs2) E2 fz2))
    (hlen : cs2.length = t'.size) (ho : o + t'.size ≤ L.size) :
    ∀ (o0 : Nat) (S G : Nat → Prop), covers t p = true → Rep tr w t ((conts w rc (.mem b o0)).take t.size) x S → locate w rc p t (.mem b o0) = some (.mem b o) →
      ∀ y', Rep tr2 w2 t' cs2 y' G → Rep tr2 w2 t ((conts w2 rc (.mem b o0)).take t.size) (u y') G := by
  have out : ∀ o1 n, o1 + n ≤ o ∨ o + t'.size ≤ o1 → (conts w2 rc (.mem b o1)).take n = (conts w rc (.mem b o1)).take n := by
    intro o1 n h
    rw [take_conts_mem hb, take_conts_mem hb2]
    exact seg_splice_out _ _ _ _ _ (by omega) (by rw [hlen]; exact h)
  induction hat with
  | here =>
    intro o0 S G _ h hl y' hr
    simp [locate] at hl; subst hl
    rw [take_conts_mem hb2, seg_splice_in _ _ _ _ hlen (by omega)]
    exact hr
  | @fst a b' x z p t' y u hat ih =>
    intro o0 S G hn h hl y' hr
    simp only [covers, Bool.and_eq_true] at hn
    obtain ⟨S1, S2, h1, h2, _⟩ := pair_split h
    obtain ⟨n, e, hle⟩ := near_range hat _ _ (covers_near _ _ hn.2) hl
    simp only [Loc.add, Loc.mem.injEq, true_and] at e
    refine pair_join (S1 := G) (S2 := fun _ => False) (ih hlen ho out o0 S1 G hn.2 h1 hl y' hr) ?_ (fun c h => h) (fun _ h => h.elim) (fun _ _ _ h => h)
    simp only [Loc.add] at h2 ⊢
    rw [out _ _ (by omega)]
    exact h2.flatAny hn.1
  | @snd a b' x z p t' y u hat ih =>
    intro o0 S G hn h hl y' hr
    simp only [covers, Bool.and_eq_true] at hn
    obtain ⟨S1, S2, h1, h2, _⟩ := pair_split h
    obtain ⟨n, e, hle⟩ := near_range hat _ _ (covers_near _ _ hn.2) hl
    simp only [Loc.add, Loc.mem.injEq, true_and] at e
    refine pair_join (S1 := fun _ => False) (S2 := G) ?_ (ih hlen ho out (o0 + a.size) S2 G hn.2 h2 hl y' hr) (fun _ h => h.elim) (fun c h => h) (fun _ _ h => h.elim)
    rw [out _ _ (by omega)]
    exact h1.flatAny hn.1
  | tfst => intro o0 S G hn; simp [covers] at hn
  | tsnd => intro o0 S G hn; simp [covers] at hn
  | idx => intro o0 S G hn; simp [covers] at hn
end Go.Sx
namespace Go.Sx
variable {α : Type} {w0 : World} {lent : Nat → Prop} {f : Frame} {a : Act} {w : World} {own : Own}
variable {P : Program} {E : Env} {out : α} {d : Nat} {T : TypeId} {pos : String} {aft : Array Edge} {g : Option (Nat × Bool)}
theorem samePath_eq : ∀ (p q : Path), samePath p q = true → p = q
  | [], [], _ => rfl
  | .fst :: p, .fst :: q, h => by rw [samePath_eq p q h]
  | .snd :: p, .snd :: q, h => by rw [samePath_eq p q h]
  | .idx i :: p, .idx j :: q, h => by
    simp only [samePath, Bool.and_eq_true] at h
    rw [samePath_eq p q h.2, Nat.eq_of_beq_eq_true h.1]
  | [], _ :: _, h => by simp [samePath] at h
  | .fst :: _, [], h | .snd :: _, [], h | .idx _ :: _, [], h => by simp [samePath] at h
  | .fst :: _, .snd :: _, h | .fst :: _, .idx _ :: _, h | .snd :: _, .fst :: _, h | .snd :: _, .idx _ :: _, h | .idx _ :: _, .fst :: _, h | .idx _ :: _, .snd :: _, h => by simp [samePath] at h
theorem At.uniq {t : Ty} {x : t.den} {p : Path} {t1 : Ty} {y1 : t1.den} {u1 : t1.den → t.den} (h : At t x p t1 y1 u1) :
    ∀ {t2 : Ty} {y2 : t2.den} {u2 : t2.den → t.den}, At t x p t2 y2 u2 → ∃ e : t1 = t2, e ▸ y1 = y2 := by
  induction h with
  | here => intro t2 y2 u2 h; cases h; exact ⟨rfl, rfl⟩
  | fst _ ih => intro t2 y2 u2 h; cases h; rename_i h; exact ih h
  | snd _ ih => intro t2 y2 u2 h; cases h; rename_i h; exact ih h
  | tfst _ ih => intro t2 y2 u2 h; cases h; rename_i h; exact ih h
  | tsnd _ ih => intro t2 y2 u2 h; cases h; rename_i h; exact ih h
  | idx hx _ ih =>
    intro t2 y2 u2 h
    cases h with
    | idx hx2 h2 =>
      have := Option.some.inj (hx.symm.trans hx2)
      subst this
      exact ih h2
theorem Base.uniq {T0 : Array Value} {o o' : Bool} {r : Nat} {tr tr' : Ty} {x : tr.den} {x' : tr'.den} {rc rc' : List Value} {l l' : Loc} (h : Base f T0 o r tr x rc l) (h' : Base f T0 o' r tr' x' rc' l') :
    ∃ e : tr = tr', e ▸ x = x' ∧ rc = rc' ∧ l = l' ∧ o = o' := by
  rcases h with ⟨h1, h2, h3, h4⟩ | ⟨h1, h2, b, h3, h4⟩ <;> rcases h' with ⟨k1, k2, k3, k4⟩ | ⟨k1, k2, b', k3, k4⟩
  · rw [h2] at k2; simp at k2
    obtain ⟨e, k2⟩ := k2
    subst e
    simp at k2
    exact ⟨rfl, k2, h3.uniq k3, h4.trans k4.symm, h1.trans k1.symm⟩
  · rw [h2] at k1; simp at k1
  · rw [h1] at k2; simp at k2
  · rw [h1] at k1; simp at k1
    obtain ⟨e1, e2, k1⟩ := k1
    subst e1; subst e2
    simp at k1
    rw [h3] at k3; simp at k3
    subst k3
    exact ⟨rfl, k1, h2.trans k2.symm, h4.trans k4.symm, rfl⟩
theorem Own.stored_keeps {w2 : World} {r b : Nat} {ls : List Nat} (hsz : w2.heap.size = w.heap.size) (hbr : own b = some r) (hother : ∀ c, c ≠ b → w2.heap[c]? = w.heap[c]?) (k : Option Nat) (hk : k ≠ some r) (hl : ∀ c ∈ ls, k ≠ some c) :
    Keeps own w (own.move w w2 ls r) w2 k := by
  intro c ⟨hc, hlt⟩
  refine ⟨⟨?_, by rw [hsz]; exact hlt⟩, hother c fun e => hk (by rw [← hc, e, hbr])⟩
  simp only [Own.move]
  rw [if_neg (by omega), hc]
  cases k with
  | none => rfl
  | some l => simp only; rw [if_neg fun h => hl l h rfl]
theorem Own.stored_used {w2 : World} {r : Nat} {ls : List Nat} (hsz : w2.heap.size = w.heap.size) {c : Nat} (h : ∃ l ∈ ls, Of own w (some l) c) : Of (own.move w w2 ls r) w2 (some r) c := by
  obtain ⟨l, hl, hc, hlt⟩ := h
  refine ⟨?_, by rw [hsz]; exact hlt⟩
  simp only [Own.move]
  rw [if_neg (by omega), hc]
  simp [hl]
theorem Own.stored_self {w2 : World} {r : Nat} {ls : List Nat} (hsz : w2.heap.size = w.heap.size) {c : Nat} (h : Of own w (some r) c) : Of (own.move w w2 ls r) w2 (some r) c := by
  refine ⟨?_, by rw [hsz]; exact h.2⟩
  simp only [Own.move]
  rw [if_neg (by have := h.2; omega), h.1]
  split <;> simp_all
theorem Inv.stored (h : Inv w0 lent f a w own) {w2 : World} {r b : Nat} {ls : List Nat} {s : Slot} (hsz : w2.heap.size = w.heap.size) (hcalm : Calm w w2) (hbr : own b = some r) (hother : ∀ c, c ≠ b → w2.heap[c]? = w.heap[c]?)
    (hs : SlotOk w2 (own.move w w2 ls r) ((kill r (useUp f ls)).set r s) a.tmps r s (a.tmps.getD r undef)) : Inv w0 lent ((kill r (useUp f ls)).set r s) a w2 (own.move w w2 ls r) := by
  refine ⟨h.defers, by simp [kill_length, useUp_length, h.size], fun c hc => ?_, fun i sl hi => ?_, by rw [hsz]; exact h.grow, fun c hc hl => ?_, h.calm.trans hcalm⟩
  · simp only [Own.move]
    rw [if_neg (by omega), h.fresh c (by omega)]
  · by_cases e : i = r
    · subst e
      rw [List.getElem?_set] at hi
      simp at hi
      rw [← hi.2]; exact hs
    · rw [List.getElem?_set_ne (Ne.symm e)] at hi
      rcases kill_some hi with rfl | ⟨hi, honr⟩
      · trivial
      rcases useUp_get ls hi with rfl | ⟨hf, hnl, hon⟩
      · trivial
      refine (h.slots i sl hf).keep (fun r s hs => h.slots r s hs) (Own.stored_keeps hsz hbr hother none (by simp) (by simp))
        (Own.stored_keeps hsz hbr hother (some i) (by simp [e]) (fun c hc e' => by simp at e'; exact hnl (e' ▸ hc))) fun r' hr' => ?_
      have hrr : r' ≠ r := by rintro rfl; rw [honr] at hr'; simp at hr'
      have hrl : r' ∉ ls := fun hc => by rw [hon r' hc] at hr'; simp at hr'
      refine ⟨fun sl' hsl' hroot => ⟨?_, rfl⟩, Own.stored_keeps hsz hbr hother (some r') (by simp [hrr]) (fun c hc e' => by simp at e'; exact hrl (e' ▸ hc))⟩
      rw [List.getElem?_set_ne (Ne.symm hrr)]
      exact kill_root (useUp_root ls hsl' hroot hrl) hroot
  · obtain ⟨h1, h2⟩ := h.old c hc hl
    refine ⟨?_, (hother c fun e => by rw [e, hbr] at h1; simp at h1).trans h2⟩
    simp only [Own.move]
    rw [if_neg (by omega), h1]
theorem rootS_some {s0 : Option Slot} {tr : Ty} {x : tr.den} {b : Bool} {s : Slot} (h : rootS s0 tr x b = some s) :
    (b = true ∧ (∃ t y, s0 = some (.own t y)) ∧ s = .own tr x) ∨ ((∃ o t y, s0 = some (.box o t y)) ∧ s = .box b tr x) := by
  unfold rootS at h
  split at h
  · cases b <;> simp at h
    exact .inl ⟨rfl, ⟨_, _, rfl⟩, h.symm⟩
  · simp at h
    exact .inr ⟨⟨_, _, _, rfl⟩, h.symm⟩
  · simp at h
theorem slot_wand (h : Inv w0 lent f a w own) {r : Nat} {tr : Ty} {x x2 : tr.den} {rc : List Value} {l0 : Loc} {s : Slot} (hb : Base f a.tmps true r tr x rc l0) (hs : rootS f[r]? tr x2 true = some s)
    {w2 : World} {b : Nat} {L : Array Value} {El : TypeId} {off : Nat} {cs : List Value} (hh : w.heap[b]? = some (.cells L El (0, 0))) (hfit : off + cs.length ≤ L.size) (hw2 : w2 = w.setRow b (splice L off cs)) {ls : List Nat} {G : Nat → Prop} {f' : Frame} {T' : Array Value}
    (_hT : T'.getD r undef = a.tmps.getD r undef)
    (hrep : Rep true w2 tr ((conts w2 rc l0).take tr.size) x2 (fun c => (Of own w (some r) c ∧ ∀ off, l0 ≠ .mem c off) ∨ G c))
    (hG : ∀ c, G c → Of (own.move w w2 ls r) w2 (some r) c ∧ ∀ off, l0 ≠ .mem c off) : SlotOk w2 (own.move w w2 ls r) f' T' r s (a.tmps.getD r undef) := by
  have hsz : w2.heap.size = w.heap.size := by rw [hw2]; exact setRow_size
  rcases hb with ⟨_, hf, hsh, rfl⟩ | ⟨hf, rfl, b0, hv, rfl⟩
  · rw [hf] at hs
    simp only [rootS, Option.some.injEq] at hs
    subst hs
    refine ⟨rc, hsh, ?_⟩
    have hlen : rc.length = tr.size := by
      obtain ⟨cs0, hs0, hr0⟩ := h.slots r _ hf
      rw [hsh.uniq hs0]; exact hr0.len
    have : (conts w2 rc (.reg 0)).take tr.size = rc := by
      simp only [conts, List.drop_zero]
      exact List.take_of_length_le (by omega)
    rw [this] at hrep
    exact hrep.mono fun c hc => hc.elim (fun hc => Own.stored_self hsz hc.1) fun hc => (hG c hc).1
  · rw [hf] at hs
    simp only [rootS, Option.some.injEq] at hs
    subst hs
    obtain ⟨b', L0, E0, hv', hb0, hh0, hsz0, _, _⟩ := h.slots r _ hf
    rw [hv] at hv'; simp at hv'; subst hv'
    have hnew : ∃ L2, w2.heap[b0]? = some (.cells L2 E0 (0, 0)) ∧ L2.size = tr.size := by
      by_cases e : b0 = b
      · subst e
        rw [hh] at hh0; simp at hh0
        obtain ⟨rfl, rfl⟩ := hh0
        exact ⟨_, by rw [hw2]; exact setRow_heap w b0 L _ El _ hh, by rw [splice_size _ _ _ hfit]; exact hsz0⟩
      · exact ⟨L0, by rw [hw2, setRow_other e]; exact hh0, hsz0⟩
    obtain ⟨L2, hh2, hs2⟩ := hnew
    have htk : (conts w2 [] (.mem b0 0)).take tr.size = L2.toList := by
      rw [take_conts_mem hh2, seg, List.drop_zero]
      exact List.take_of_length_le (by simp; omega)
    rw [htk] at hrep
    refine ⟨b0, L2, E0, hv, (Own.stored_self hsz ⟨hb0, heap_lt hh0⟩).1, hh2, hs2, fun _ => hrep.mono fun c hc => ?_, by simp⟩
    rcases hc with ⟨hc, hn⟩ | hc
    · exact ⟨Own.stored_self hsz hc, fun e => hn 0 (e ▸ rfl)⟩
    · exact ⟨(hG c hc).1, fun e => (hG c hc).2 0 (e ▸ rfl)⟩
end Go.Sx
namespace Go.Sx
variable {α : Type} {w0 : World} {lent : Nat → Prop} {f : Frame} {a : Act} {w : World} {own : Own}
variable {P : Program} {E : Env} {out : α} {d : Nat} {T : TypeId} {pos : String} {aft : Array Edge} {g : Option (Nat × Bool)}
theorem optIs_fact (hE : EnvOk P E) {D : Nat} {t : Ty} (ho : optIs (E.tyOf D) t = true) : TyFact P E D t := by
  simp only [optIs] at ho
  split at ho
  · rename_i t0 h0
    simp only [Ty.is] at ho
    split at ho
    · rename_i hh _
      obtain ⟨e⟩ := hh
      subst e
      exact hE.ty _ _ h0
    · simp at ho
  · simp at ho
theorem valK_nat {o : Operand} {K : (t : Ty) → t.den → Option α} {out : α} (hk : valK f o K = some out) : ∃ t x, K t x = some out ∧ ∀ (β : Type) (K' : (t : Ty) → t.den → Option β), valK f o K' = K' t x := by
  cases o with
  | tmp i =>
    simp only [valK] at hk ⊢
    cases hf : f[i]? with
    | none => rw [hf] at hk; simp at hk
    | some s =>
      rw [hf] at hk
      cases s <;> simp only [reduceCtorEq] at hk
      all_goals exact ⟨_, _, hk, fun β K' => rfl⟩
  | const v =>
    cases v <;> simp only [valK, reduceCtorEq] at hk ⊢
    · exact ⟨.bool, _, hk, fun β K' => rfl⟩
    · exact ⟨.num _, _, hk, fun β K' => rfl⟩
  | global g => simp [valK] at hk
  | func g => exact ⟨.fn g, (), hk, fun β K' => rfl⟩
theorem valK_both (h : Inv w0 lent f a w own) {o : Operand} {K : (t : Ty) → t.den → Option α} {out : α} (hk : valK f o K = some out) :
    ∃ t x, OVal f a w own o t x ∧ K t x = some out ∧ ∀ (β : Type) (K' : (t : Ty) → t.den → Option β), valK f o K' = K' t x := by
  obtain ⟨t, x, h1, h2⟩ := valK_nat hk
  obtain ⟨t', x', h3, h4⟩ := valK_sound h (h2 (Σ t : Ty, t.den) fun t x => some ⟨t, x⟩)
  simp only [Option.some.injEq, Sigma.mk.injEq] at h4
  obtain ⟨rfl, h4⟩ := h4
  simp only [heq_eq_eq] at h4
  subst h4
  exact ⟨_, _, h3, h1, h2⟩
theorem storeR_sound (hE : EnvOk P E) (h : Inv w0 lent f a w own) {D : TypeId} {x v : Operand} {K : Rec → Option α} (hk : storeR E f D x v K = some out) {next : Act → World → Prop} {Q : Exit → Act → World → Prop}
    (hn : ∀ w' own' rec, K rec = some out → Inv w0 lent (rec.act f) a w' own' → next a w') : Oper.wp P ⟨none, .store D x v, T, pos, aft, g⟩ a w next Q := by
  simp only [storeR] at hk
  split at hk
  · rename_i o r p tr t y u hc
    split at hk
    · rename_i hopt
      have hty := optIs_fact hE hopt
      obtain ⟨⟨i, hs⟩, _⟩ := copyS_sound h hc
      obtain ⟨x1, rc, l0, b, off, hb, hat, hloc, hv, hnear⟩ := hs
      obtain ⟨t', z, hov, hk1, hnat⟩ := valK_both h hk
      clear hk
      obtain ⟨e, hk⟩ := castK_some hk1
      subst e
      clear hk1
      simp only at hk
      obtain ⟨cs, hsh, hr0, hkd⟩ := id hov
      have hcells : (a.eval v).cells.toList = cs := hsh.cells hty.plain hr0
      have hlen := hr0.len
      have hone := hr0.oneCell
      obtain ⟨g1, g2, g3⟩ := hb.rep (h.root r)
      have blk : own b = some r ∧ ∃ L El, w.heap[b]? = some (.cells L El (0, 0)) ∧ off + t'.size ≤ L.size := by
        have fits : ∀ L El fz, w.heap[b]? = some (.cells L El fz) → ((conts w rc (.mem b off)).take t'.size).length = t'.size → off + t'.size ≤ L.size := by
          intro L El fz hh hl
          rw [take_conts_mem hh] at hl
          exact seg_le hl t'.size_pos
        cases o with
        | true =>
          obtain ⟨l', S', k1, k2, k3, k4, k5, k6⟩ := Rep.put hat l0 _ (g2 rfl) (fun b o e h => h.2 o e)
          rw [hloc] at k1; simp at k1; subst k1
          rcases k5.mem b off rfl with ⟨o, e, _⟩ | hS
          · obtain ⟨hbr, L, E', hh⟩ := g1 b o e; exact ⟨hbr, L, E', hh, fits L E' _ hh k2.len⟩
          · obtain ⟨_, k, _⟩ := k6 b off rfl
            obtain ⟨L, E', hh⟩ := k hS; exact ⟨hS.1.1, L, E', hh, fits L E' _ hh k2.len⟩
        | false =>
          obtain ⟨hrep, b0, e0⟩ := g3 rfl
          obtain ⟨l', S', k1, k2, k3, k4⟩ := Rep.focus hat l0 _ hrep
          rw [hloc] at k1; simp at k1; subst k1
          subst e0
          obtain ⟨n, hn'⟩ := near_inside w rc p tr _ _ (hnear rfl) hloc
          simp only [Loc.add, Loc.mem.injEq] at hn'
          obtain ⟨hbr, L, E', hh⟩ := g1 b0 0 rfl
          obtain ⟨rfl, _⟩ := hn'
          exact ⟨hbr, L, E', hh, fits L E' _ hh k2.len⟩
      obtain ⟨hbr, L, El, hh, hfit⟩ := blk
      have hfit' : off + cs.length ≤ L.size := by omega
      have hrun := run_storeVar' hty hh hfit hcells hlen hone
      have hsz : (w.setRow b (splice L off cs)).heap.size = w.heap.size := setRow_size
      have hother : ∀ c, c ≠ b → (w.setRow b (splice L off cs)).heap[c]? = w.heap[c]? := fun c hc => setRow_other hc
      have hh2 : (w.setRow b (splice L off cs)).heap[b]? = some (.cells (splice L off cs) El (0, 0)) := setRow_heap w b L _ El _ hh
      have fin : ∀ (s : Slot) (ls : List Nat), K (.store r s ls) = some out → SlotOk (w.setRow b (splice L off cs)) (own.move w (w.setRow b (splice L off cs)) ls r) ((kill r (useUp f ls)).set r s) a.tmps r s (a.tmps.getD r undef) →
          Oper.wp P ⟨none, .store D x v, T, pos, aft, g⟩ a w next Q := by
        intro s ls hK hslot
        have hex : (execOp a.eval ⟨none, .store D x v, T, pos, aft, g⟩).run P w = .ok .skip (w.setRow b (splice L off cs)) := by
          simp only [execOp, Instr.storeAt, hv, Instr.sureAddr, Sem.run_bind, Sem.run_pure, Result.andThen_ok, hrun]
        simp only [Oper.wp, hex, Oper.upon]
        exact hn _ _ _ hK (h.stored hsz (setRow_calm w b _) hbr hother hslot)
      have wand : ∀ (s : Slot) (ls : List Nat) (G : Nat → Prop), o = true → K (.store r s ls) = some out → rootS f[r]? tr (u z) true = some s →
          Rep true w t' cs z G → (∀ c, G c → c ≠ b ∧ ∀ off, l0 ≠ .mem c off) → (∀ c, G c → (Of own w (some r) c ∧ ∀ off, l0 ≠ .mem c off) → FP w t' ((conts w rc (.mem b off)).take t'.size) y c) → (∀ c, G c → Of own w (some r) c ∨ ∃ l ∈ ls, Of own w (some l) c) →
          Oper.wp P ⟨none, .store D x v, T, pos, aft, g⟩ a w next Q := by
        intro s ls G ho hK hroot hG1 hG2 hG3 hG4
        subst ho
        obtain ⟨l', S', k1, k2, k3, k4, k5, k6⟩ := Rep.put hat l0 _ (g2 rfl) (fun b o e h => h.2 o e)
        rw [hloc] at k1; simp at k1; subst k1
        obtain ⟨_, _, hw⟩ := k6 b off rfl
        have hrep := hw (w.setRow b (splice L off cs)) L El (0, 0) cs z G hh hh2 (fun c _ _ hc => hother c hc) (fun b0 o0 _ hb0 => hother b0 hb0) hlen (hG1.agree fun c hc => hother c (hG2 c hc).1)
          (fun c hc => ⟨(hG2 c hc).1, fun hS => k3 ▸ hG3 c hc hS⟩)
        refine fin s ls hK (slot_wand h hb hroot hh hfit' rfl (T' := a.tmps) rfl hrep fun c hc => ⟨?_, (hG2 c hc).2⟩)
        rcases hG4 c hc with hc | hc
        · exact Own.stored_self hsz hc
        · exact Own.stored_used hsz hc
      have cover : ∀ (b2 tr2 : Bool) (ls : List Nat) (G G2 : Nat → Prop), covers tr p = true → K (.store r (.box b2 tr (u z)) ls) = some out → (∃ o1 t1 y1, f[r]? = some (.box o1 t1 y1)) →
          (Rep tr2 w t' cs z G) → (∀ c, G c → c ≠ b) → (b2 = true → tr2 = true ∧ ∀ c, G c → ∃ l ∈ ls, Of own w (some l) c) → (b2 = false → ∀ c, G c → Of own w none c) →
          Oper.wp P ⟨none, .store D x v, T, pos, aft, g⟩ a w next Q := by
        intro b2 tr2 ls G _ hcov hK hbox hG hne h1 h2
        obtain ⟨o1, t1, y1, hbox⟩ := hbox
        rcases id hb with ⟨_, hf, _⟩ | ⟨hf, hrc, b0, hv0, hl0⟩
        · rw [hf] at hbox; simp at hbox
        · subst hrc; subst hl0
          obtain ⟨b', L0, E0, hv', hb0, hh0, hsz0, hbt, hbf⟩ := h.slots r _ hf
          rw [hv0] at hv'; simp at hv'; subst hv'
          obtain ⟨n, hn'⟩ := near_inside w [] p tr _ _ (covers_near _ _ hcov) hloc
          simp only [Loc.add, Loc.mem.injEq] at hn'
          obtain ⟨rfl, _⟩ := hn'
          rw [hh] at hh0; simp at hh0
          obtain ⟨rfl, rfl⟩ := hh0
          have hs2 : (splice L off cs).size = tr.size := by rw [splice_size _ _ _ hfit']; exact hsz0
          have htk : ∀ (w1 : World) (L1 : Array Value), w1.heap[b]? = some (.cells L1 El (0, 0)) → L1.size = tr.size → (conts w1 [] (.mem b 0)).take tr.size = L1.toList := by
            intro w1 L1 hh1 hs1
            rw [take_conts_mem hh1, seg, List.drop_zero]
            exact List.take_of_length_le (by simp; omega)
          have old : ∃ tr0 S0, Rep tr0 w tr ((conts w [] (.mem b 0)).take tr.size) x1 S0 := by
            cases o with
            | true => exact ⟨_, _, g2 rfl⟩
            | false => exact ⟨_, _, (g3 rfl).1⟩
          obtain ⟨tr0, S0, hold⟩ := old
          have hrep := Rep.cover (tr2 := tr2) hat hh hh2 hlen hfit 0 S0 G hcov hold hloc z (hG.agree fun c hc => hother c (hne c hc))
          rw [htk _ _ hh2 hs2] at hrep
          refine fin _ ls hK ⟨b, splice L off cs, El, hv0, (Own.stored_self hsz ⟨hb0, heap_lt hh⟩).1, hh2, hs2, fun e => ?_, fun e => ?_⟩
          · obtain ⟨e1, e2⟩ := h1 e
            subst e1
            exact hrep.mono fun c hc => ⟨Own.stored_used hsz (e2 c hc), hne c hc⟩
          · refine hrep.weak.mono fun c hc => ?_
            exact (Own.stored_keeps hsz hbr hother none (by simp) (by simp) c (h2 e c hc)).1
      have apart : ∀ (ls : List Nat), r ∉ ls → ∀ c, (∃ l ∈ ls, Of own w (some l) c) → own c ≠ some r := by
        rintro ls hr c ⟨l, hl, hc⟩ e
        rw [hc.1] at e; simp at e; exact hr (e ▸ hl)
      have boxown : ∀ c, (∃ off, l0 = .mem c off) → own c = some r := fun c ⟨o', e⟩ => (g1 c o' e).1
      have owned : ∀ ls, (o || covers tr p) = true → kindOf f v = .owned ls → r ∉ ls → (∀ s, rootS f[r]? tr (u z) true = some s → K (.store r s ls) = some out → Oper.wp P ⟨none, .store D x v, T, pos, aft, g⟩ a w next Q) := by
        intro ls hoc hk1 hrl s hroot hK
        rw [hk1] at hkd
        cases o with
        | true =>
          refine wand s ls _ rfl hK hroot hkd (fun c hc => ⟨fun e => apart ls hrl c hc (e ▸ hbr), fun o' e => apart ls hrl c hc (boxown c ⟨o', e⟩)⟩) (fun c hc hS => absurd hS.1.1 (apart ls hrl c hc)) fun c hc => .inr hc
        | false =>
          simp only [Bool.false_or] at hoc
          rcases id hb with ⟨ho, _⟩ | ⟨hf, _⟩
          · simp at ho
          · rw [hf] at hroot
            simp only [rootS, Option.some.injEq] at hroot
            subst hroot
            exact cover true true ls _ (fun _ => False) hoc hK ⟨_, _, _, hf⟩ hkd (fun c hc e => apart ls hrl c hc (e ▸ hbr)) (fun _ => ⟨rfl, fun c hc => hc⟩) (by simp)
      split at hk
      · -- flat
        rename_i hk1
        rw [hk1] at hkd
        split at hk
        · rename_i s hroot
          have hany : ∀ (tr2 : Bool) (G : Nat → Prop), Rep tr2 w t' cs z G := fun tr2 G => hr0.flatAny hkd
          cases o with
          | true => exact wand s [] (fun _ => False) rfl hk hroot (hany _ _) (fun _ h => h.elim) (fun _ h => h.elim) (fun _ h => h.elim)
          | false =>
            rcases id hb with ⟨ho, _⟩ | ⟨hf, hrc, b0, hv0, hl0⟩
            · simp at ho
            · subst hrc; subst hl0
              rw [hf] at hroot
              simp only [rootS, Option.some.injEq] at hroot
              subst hroot
              obtain ⟨b', L0, E0, hv', hb0, hh0, hsz0, hbt, hbf⟩ := h.slots r _ hf
              rw [hv0] at hv'; simp at hv'; subst hv'
              obtain ⟨n, hn'⟩ := near_inside w [] p tr _ _ (hnear rfl) hloc
              simp only [Loc.add, Loc.mem.injEq] at hn'
              obtain ⟨rfl, _⟩ := hn'
              rw [hh] at hh0; simp at hh0
              obtain ⟨rfl, rfl⟩ := hh0
              have hs2 : (splice L off cs).size = tr.size := by rw [splice_size _ _ _ hfit']; exact hsz0
              have hS : ∀ c, Of own w none c → (w.setRow b (splice L off cs)).heap[c]? = w.heap[c]? := fun c hc => hother c fun e => by have := hc.1; rw [e, hbr] at this; simp at this
              have hrep := Rep.near hat hh hh2 hlen hfit 0 _ (hnear rfl) (g3 rfl).1 hloc hS z (hr0.flatAny hkd)
              have htk : (conts (w.setRow b (splice L off cs)) [] (.mem b 0)).take tr.size = (splice L off cs).toList := by
                rw [take_conts_mem hh2, seg, List.drop_zero]
                exact List.take_of_length_le (by simp; omega)
              rw [htk] at hrep
              refine fin _ [] hk ⟨b, splice L off cs, El, hv0, (Own.stored_self hsz ⟨hb0, heap_lt hh⟩).1, hh2, hs2, by simp, fun _ => ?_⟩
              exact hrep.mono fun c hc => (Own.stored_keeps hsz hbr hother none (by simp) (by simp) c hc).1
        · simp at hk
      · -- kept
        rename_i hk1
        rw [hk1] at hkd
        split at hk
        · rename_i hcov
          split at hk
          · rename_i s hroot
            rcases rootS_some hroot with ⟨e, _⟩ | ⟨hbox, rfl⟩
            · simp at e
            · exact cover false false [] _ (fun _ => False) hcov hk hbox hkd (fun c hc e => by have := hc.1; rw [e, hbr] at this; simp at this) (by simp) (fun _ c hc => hc)
          · simp at hk
        · simp at hk
      · -- owned
        rename_i ls hk1
        split at hk
        · rename_i hoc
          split at hk
          · rename_i j
            split at hk
            · rename_i r' p' tr' te xe ue hfj
              split at hk
              · rename_i hrr
                have hrr := Nat.eq_of_beq_eq_true hrr
                subst hrr
                split at hk
                · rename_i hpp
                  have hpp := samePath_eq _ _ hpp
                  subst hpp
                  split at hk
                  · rename_i s hroot
                    obtain ⟨xr, rc', l0', l', ys, cs', hb', hat', hloc', hsh', hrep'⟩ := h.slots j _ hfj
                    obtain ⟨e1, e2, e3, e4, e5⟩ := hb'.uniq hb
                    subst e1; simp only at e2; subst e2; subst e3; subst e4
                    obtain ⟨e6, e7⟩ := hat'.uniq hat
                    subst e6; simp only at e7; subst e7
                    rw [hloc] at hloc'; simp at hloc'; subst hloc'
                    have hval : OVal f a w own (.tmp j) (.slice te) z := hov
                    have hcs := hsh'.uniq (show Shape (.slice te) (a.tmps.getD j undef) cs from hsh)
                    subst hcs
                    have hz : z = xe := by
                      have := hnat (Σ t : Ty, t.den) fun t x => some ⟨t, x⟩
                      simp only [valK, hfj, Option.some.injEq] at this
                      have := eq_of_heq (Sigma.mk.inj this).2
                      exact this.symm
                    subst hz
                    have ho : o = true := e5.symm
                    subst ho
                    obtain ⟨l2, S', k1, k2, k3, k4, k5, k6⟩ := Rep.put hat l0' _ (g2 rfl) (fun b o e h => h.2 o e)
                    rw [hloc] at k1; simp at k1; subst k1
                    obtain ⟨m1, _, _⟩ := k6 b off rfl
                    have hj : j ≠ r' := by rintro rfl; rw [hfj] at hroot; simp [rootS] at hroot
                    refine wand s [j] _ rfl hk hroot hrep' (fun c hc => ?_) (fun c hc hS => ?_) fun c hc => ?_
                    · rcases hc with hc | hc
                      · exact ⟨fun e => by have := hc.1; rw [e, hbr] at this; simp at this; exact hj this.symm, fun o' e => by have := boxown c ⟨o', e⟩; rw [hc.1] at this; simp at this; exact hj this⟩
                      · exact ⟨fun e => m1 (k3 ▸ (e ▸ hc)), (k4 c (k3 ▸ hc)).2⟩
                    · rcases hc with hc | hc
                      · have := hS.1.1; rw [hc.1] at this; simp at this; exact absurd this hj
                      · exact hc
                    · rcases hc with hc | hc
                      · exact .inr ⟨j, by simp, hc⟩
                      · exact .inl (k4 c (k3 ▸ hc)).1
                  · simp at hk
                · simp at hk
              · rename_i hrr
                split at hk
                · rename_i s hroot
                  have hls : ls = [r', j] := by simp only [kindOf, hfj, Kind.owned.injEq] at hk1; exact hk1.symm
                  refine owned ls hoc hk1 ?_ s hroot hk
                  rw [hls]
                  simp only [List.mem_cons, List.not_mem_nil, or_false, not_or]
                  refine ⟨fun e => ?_, fun e => ?_⟩
                  · subst e; simp [Nat.beq_refl] at hrr
                  · subst e; rw [hfj] at hroot; simp [rootS] at hroot
                · simp at hk
            · split at hk
              · simp at hk
              · rename_i hcon
                split at hk
                · rename_i s hroot
                  exact owned ls hoc hk1 (contains_false hcon) s hroot hk
                · simp at hk
          · simp at hk
        · simp at hk
      · simp at hk
    · simp at hk
  · simp at hk
end Go.Sx
namespace Go.Sx
variable {α : Type} {w0 : World} {f : Frame} {a : Act} {w : World} {own : Own}
variable {P : Program} {E : Env} {out : α}
section
variable {lent : Nat → Prop}
theorem locate_idx {rc : List Value} {n : Nat} {t : Ty} {l : Loc} (h : locate w rc [.idx n] t (.reg 0) = some l) : ∃ b o, l = .mem b o := by
  cases t with
  | slice t =>
    simp only [locate] at h
    split at h
    · simp only [Option.some.injEq] at h; exact ⟨_, _, h.symm⟩
    · simp at h
  | _ => simp [locate] at h
theorem mutOk_own {t : Ty} {x : t.den} {p : Path} (h : mutOk (some (.own t x)) p = true) : p = [] ∨ (∃ i, p = [.idx i]) ∨ p = [.fst] := by
  match p with
  | [] => exact .inl rfl
  | [.idx i] => exact .inr (.inl ⟨i, rfl⟩)
  | [.fst] => exact .inr (.inr rfl)
  | .fst :: _ :: _ => simp [mutOk] at h
  | .snd :: _ => simp [mutOk] at h
  | .idx _ :: _ :: _ => simp [mutOk] at h
theorem slot_mut_fst (h : Inv w0 lent f a w own) {i q : Nat} {tr t : Ty} {y z : t.den} {u : t.den → tr.den} (hf : f[i]? = some (.ref q [.fst] tr t y u)) {s : Slot} {x0 : tr.den} (hq : f[q]? = some (.own tr x0)) (hroot : rootS f[q]? tr (u z) true = some s) :
    ∃ cs S, Shape t (a.tmps.getD i undef) cs ∧ Rep true w t cs y S ∧ (∀ c, S c → Of own w (some q) c) ∧
      ∀ (w2 : World) (S2 : Nat → Prop) (f' : Frame), w.heap.size ≤ w2.heap.size → (∀ b, b < w.heap.size → ¬ S b → w2.heap[b]? = w.heap[b]?) → Rep true w2 t cs z S2 → (∀ c, S2 c → S c ∨ (w.heap.size ≤ c ∧ c < w2.heap.size)) →
        SlotOk w2 (own.grown w w2 q) f' a.tmps q s (a.tmps.getD q undef) := by
  obtain ⟨x, rc, l0, l, cs, hb, hat, hl, hs, hcs⟩ := h.slots i _ hf
  have hb : f[q]? = some (.own tr x) ∧ Shape tr (a.tmps.getD q undef) rc ∧ l0 = .reg 0 := by
    rcases hb with ⟨_, hfq, hsh, e⟩ | ⟨hfq, _⟩
    · exact ⟨hfq, hsh, e⟩
    · rw [hq] at hfq; simp at hfq
  obtain ⟨hfq, hsh, rfl⟩ := hb
  obtain ⟨cs0, hs0, hr0⟩ := h.slots q _ hfq
  have e0 := hs0.uniq hsh
  subst e0
  rw [hfq] at hroot
  simp only [rootS, Option.some.injEq] at hroot
  subst hroot
  cases hat with
  | fst hat =>
    cases hat
    obtain ⟨c1, c2, S1, S2, rfl, r1, r2, g1, g2, g3⟩ := hr0
    simp only [locate, Option.some.injEq] at hl
    subst hl
    have e1 : cs = c1 := by
      rw [hcs]; simp only [conts, List.drop_zero]
      exact List.take_left' r1.len
    subst e1
    refine ⟨cs, S1, hs, r1, g1, fun w2 S' f' hgrow hoth hrep hsub => ⟨_, hsh, cs, c2, S', S2, rfl, hrep, r2.agree fun c hc => hoth c (g2 c hc).2 fun h1 => g3 rfl c h1 hc, fun c hc => ?_, fun c hc => Own.grown_old hgrow (g2 c hc), fun _ c hc hc2 => ?_⟩⟩
    · rcases hsub c hc with hc | hc
      · exact Own.grown_old hgrow (g1 c hc)
      · exact Own.grown_new hc.1 hc.2
    · rcases hsub c hc with hc | hc
      · exact g3 rfl c hc hc2
      · have := (g2 c hc2).2; omega
  | tfst hat =>
    cases hat
    obtain ⟨c1, c2, S1, S2, rfl, r1, r2, g1, g2, g3⟩ := hr0
    simp only [locate, Option.some.injEq] at hl
    subst hl
    have e1 : cs = c1 := by
      rw [hcs]; simp only [conts, List.drop_zero]
      exact List.take_left' r1.len
    subst e1
    refine ⟨cs, S1, hs, r1, g1, fun w2 S' f' hgrow hoth hrep hsub => ⟨_, hsh, cs, c2, S', S2, rfl, hrep, r2.agree fun c hc => hoth c (g2 c hc).2 fun h1 => g3 rfl c h1 hc, fun c hc => ?_, fun c hc => Own.grown_old hgrow (g2 c hc), fun _ c hc hc2 => ?_⟩⟩
    · rcases hsub c hc with hc | hc
      · exact Own.grown_old hgrow (g1 c hc)
      · exact Own.grown_new hc.1 hc.2
    · rcases hsub c hc with hc | hc
      · exact g3 rfl c hc hc2
      · have := (g2 c hc2).2; omega
theorem slot_mut (h : Inv w0 lent f a w own) {i q : Nat} {p : Path} {tr t : Ty} {y z : t.den} {u : t.den → tr.den} (hf : f[i]? = some (.ref q p tr t y u)) (hmo : mutOk f[q]? p = true) {s : Slot} (hroot : rootS f[q]? tr (u z) true = some s) :
    ∃ cs S, Shape t (a.tmps.getD i undef) cs ∧ Rep true w t cs y S ∧ (∀ c, S c → Of own w (some q) c) ∧
      ∀ (w2 : World) (S2 : Nat → Prop) (f' : Frame), w.heap.size ≤ w2.heap.size → (∀ b, b < w.heap.size → ¬ S b → w2.heap[b]? = w.heap[b]?) → Rep true w2 t cs z S2 → (∀ c, S2 c → S c ∨ (w.heap.size ≤ c ∧ c < w2.heap.size)) →
        SlotOk w2 (own.grown w w2 q) f' a.tmps q s (a.tmps.getD q undef) := by
  obtain ⟨x, rc, l0, l, cs, hb, hat, hl, hs, hcs⟩ := h.slots i _ hf
  by_cases hpf : p = [.fst] ∧ f[q]? = some (.own tr x)
  · obtain ⟨rfl, hfq⟩ := hpf
    exact slot_mut_fst h hf hfq hroot
  obtain ⟨h1, h2, _⟩ := hb.rep (h.root q)
  obtain ⟨l', S', k1, k2, k3, k4, k5, k6⟩ := Rep.put hat l0 _ (h2 rfl) (fun b o e h => h.2 o e)
  rw [hl] at k1; simp at k1; subst k1
  refine ⟨cs, S', hs, by rw [hcs]; exact k2, fun c hc => (k4 c hc).1, fun w2 S2 f' hgrow hother hrep hsub => ?_⟩
  have hlt : ∀ c, S' c → c < w.heap.size := fun c hc => (k4 c hc).1.2
  have hl0 : ∀ b0 o0, l0 = .mem b0 o0 → w2.heap[b0]? = w.heap[b0]? := fun b0 o0 e => by
    obtain ⟨hbq, L, E', hh⟩ := h1 b0 o0 e
    exact hother b0 (heap_lt hh) fun hS => (k4 b0 hS).2 o0 e
  have whole : Rep true w2 tr ((conts w2 rc l0).take tr.size) (u z) (fun c => (Of own w (some q) c ∧ ∀ off, l0 ≠ .mem c off) ∨ S2 c) := by
    cases l with
    | mem b o =>
      obtain ⟨n1, n2, hw⟩ := k6 b o rfl
      obtain ⟨L, E', hh⟩ : ∃ L E', w.heap[b]? = some (.cells L E' (0, 0)) := by
        cases l0 with
        | mem b0 o0 =>
          rcases k5.mem b o rfl with ⟨o', e', _⟩ | hS
          · simp only [Loc.mem.injEq] at e'
            obtain ⟨_, L, E', hh⟩ := h1 b0 o0 rfl
            exact ⟨L, E', by rw [← e'.1]; exact hh⟩
          · exact n2 hS
        | reg o0 =>
          rcases k5.mem b o rfl with ⟨o', e', _⟩ | hS
          · simp at e'
          · exact n2 hS
      have hcs' : cs = seg L o t.size := by rw [hcs, take_conts_mem hh]
      have hlen : cs.length = t.size := by rw [hcs]; exact k2.len
      have hfit : o + t.size ≤ L.size := seg_le (by rw [← hcs']; exact hlen) t.size_pos
      have hb2 : w2.heap[b]? = w.heap[b]? := hother b (heap_lt hh) n1
      refine hw w2 L E' (0, 0) cs z S2 hh (by rw [hb2, hh, hcs', splice_id L o t.size hfit]) (fun c hc hn _ => hother c hc.1.2 hn) (fun b0 o0 e _ => hl0 b0 o0 e) hlen hrep fun c hc => ⟨?_, fun hS => ?_⟩
      · rintro rfl
        rcases hsub c hc with hc | hc
        · exact n1 hc
        · have := heap_lt hh; omega
      · rcases hsub c hc with hc | hc
        · exact hc
        · have := hS.1.2; omega
    | reg o =>
      have hp : p = [] ∧ l0 = .reg 0 := by
        rcases hb with ⟨_, hfq, _, rfl⟩ | ⟨hfq, _, b, _, rfl⟩
        · rw [hfq] at hmo
          rcases mutOk_own hmo with rfl | ⟨n, rfl⟩ | rfl
          · exact ⟨rfl, rfl⟩
          · obtain ⟨b, o', e⟩ := locate_idx hl
            simp at e
          · exact absurd ⟨rfl, hfq⟩ hpf
        · exfalso
          obtain ⟨o', e', _⟩ := k5.reg o rfl
          simp at e'
      obtain ⟨rfl, rfl⟩ := hp
      cases hat
      simp only [locate, Option.some.injEq] at hl
      have e1 : (conts w2 rc (.reg 0)).take tr.size = cs := by rw [hcs, ← hl]; rfl
      rw [e1]
      exact hrep.mono fun c hc => .inr hc
  have hin : ∀ c, ((Of own w (some q) c ∧ ∀ off, l0 ≠ .mem c off) ∨ S2 c) → Of (own.grown w w2 q) w2 (some q) c := by
    rintro c (hc | hc)
    · exact Own.grown_old hgrow hc.1
    · rcases hsub c hc with hc | hc
      · exact Own.grown_old hgrow (k4 c hc).1
      · exact Own.grown_new hc.1 hc.2
  rcases hb with ⟨_, hfq, hsh, rfl⟩ | ⟨hfq, rfl, b0, hv, rfl⟩
  · rw [hfq] at hroot
    simp only [rootS, Option.some.injEq] at hroot
    subst hroot
    refine ⟨rc, hsh, ?_⟩
    have hlen : rc.length = tr.size := by
      obtain ⟨cs0, hs0, hr0⟩ := h.slots q _ hfq
      rw [hsh.uniq hs0]; exact hr0.len
    have e2 : (conts w2 rc (.reg 0)).take tr.size = rc := by
      simp only [conts, List.drop_zero]
      exact List.take_of_length_le (by omega)
    rw [e2] at whole
    exact whole.mono hin
  · rw [hfq] at hroot
    simp only [rootS, Option.some.injEq] at hroot
    subst hroot
    obtain ⟨b', L0, E0, hv', hb0, hh0, hsz0, _, _⟩ := h.slots q _ hfq
    rw [hv] at hv'; simp at hv'; subst hv'
    have hh2 : w2.heap[b0]? = some (.cells L0 E0 (0, 0)) := by rw [hl0 b0 0 rfl]; exact hh0
    have htk : (conts w2 [] (.mem b0 0)).take tr.size = L0.toList := by
      rw [take_conts_mem hh2, seg, List.drop_zero]
      exact List.take_of_length_le (by simp; omega)
    rw [htk] at whole
    refine ⟨b0, L0, E0, hv, (Own.grown_old hgrow ⟨hb0, heap_lt hh0⟩).1, hh2, hsz0, fun _ => whole.mono fun c hc => ⟨hin c hc, ?_⟩, by simp⟩
    rintro rfl
    rcases hc with hc | hc
    · exact hc.2 0 rfl
    · rcases hsub c hc with hc | hc
      · exact (k4 c hc).2 0 rfl
      · have := heap_lt hh0; omega
theorem eqGuard_slice {op : BinOp} {T : TypeId} {X Y : Operand} {p q : Option Addr} {n c m d : Nat} : (eqGuard op T X Y (.slice p n c) (.slice q m d)).run P w = .ok () w := by
  unfold eqGuard
  split <;> simp
theorem equal_nil {T e : TypeId} (hu : P.underlying T = some (.slice e)) {p : Option Addr} {n c : Nat} : (Op.equal T (.slice p n c) (.slice none 0 0)).run P w = .ok p.isNone w := by
  unfold Op.equal Op.maxDepth
  rw [show (10000 : Nat) = 9999 + 1 from rfl, Op.equalIn]
  cases p <;> simp only [Sem.run_bind, run_underlying hu, Result.andThen_ok, Sem.run_pure] <;> rfl
theorem nilAt_sound (hE : EnvOk P E) (h : Inv w0 lent f a w own) {o : Oper} {d : Nat} {e : Bool} (hm : nilAt E f o = some (d, e)) :
    o.guard = none ∧ ∃ b : Bool, (e = false → b = false) ∧ ∀ (next : Act → World → Prop) (Q : Exit → Act → World → Prop),
      (∀ a' own', Inv w0 lent ((Rec.put d (.ro none .bool b) []).act f) a' w own' → next a' w) → o.wp P a w next Q := by
  unfold nilAt at hm
  split at hm
  · rename_i d' T x yT hg hdst hop
    split at hm
    · rename_i t sd hT hfd
      obtain ⟨t', xs, ⟨cs, hsh, hrep, _⟩, hm⟩ := sliceK_sound h hm
      simp only [Option.some.injEq, Prod.mk.injEq] at hm
      obtain ⟨rfl, rfl⟩ := hm
      obtain ⟨dst, op, T0, pos, aft, gd⟩ := o
      simp only at hg hdst hop
      subst hg; subst hdst; subst hop
      obtain ⟨El, hu, _⟩ := (hE.ty _ _ hT).slice t rfl
      obtain ⟨p, c, hcs, hle, hrest⟩ := id hrep
      subst hcs
      have hev : a.eval x = .slice p (List.length (α := t'.den) xs) c := by
        simp only [Shape, Shape1, List.cons.injEq, and_true] at hsh; exact hsh.symm
      refine ⟨rfl, p.isNone, fun he => ?_, fun next Q hn => ?_⟩
      · rcases hrest with h0 | ⟨b, o, L, El2, fz, rfl, _⟩
        · simp only [cond_false] at h0
          have : xs = [] := List.length_eq_zero_iff.1 h0
          subst this; simp at he
        · rfl
      · have hlt : d' < f.length := (List.getElem?_eq_some_iff.1 hfd).1
        have hrun : (execOp a.eval ⟨some d', .binOp .eql T x (.const (.slice none 0 0)) yT, T0, pos, aft, none⟩).run P w = .ok (.value (.bool p.isNone)) w := by
          have hy : a.eval (.const (.slice none 0 0)) = .slice none 0 0 := rfl
          simp only [execOp, hev, hy, Sem.run_bind, eqGuard_slice, Result.andThen_ok, binOp, equal_nil hu, Sem.run_pure]
        refine does_value hrun ?_
        exact hn _ _ (h.applyGrow (Grow.refl w) (ls := []) hlt (bool_ok _ d' _ _))
    · simp at hm
  · simp at hm
theorem resPut_length (f : Frame) (d : Nat) : ∀ (r : Option Ty) (v : resDen r), (resPut f d r v).length = f.length
  | some _, _ => applyS_length _ _ _ _
  | none, _ => applyS_length _ _ _ _
theorem resPut_inv (h : Inv w0 lent f a w own) {d : Nat} (hd : d < f.length) {v : Value} : ∀ (r : Option Ty) (x : resDen r), flatRes r = true → ResOk w r v x → Inv w0 lent (resPut f d r x) (a.put (some d) v) w (own.move w w [] d)
  | some _, _, hf, ⟨cs, hsh, hr⟩ => h.applyGrow (Grow.refl w) (ls := []) hd ⟨cs, hsh, hr.flatAny hf⟩
  | none, _, _, _ => h.applyGrow (Grow.refl w) (ls := []) (s := .dead) hd trivial
theorem mutK_sound (hE : EnvOk P E) (h : Inv w0 lent f a w own) {o : Oper} {d : Nat} {ms : MutSpec} {os : List Operand} (hm : mutAt E f o = some (d, ms, os)) {K : Frame → Option α} (hk : mutK f d ms os K = some out) {next : Act → World → Prop} {Q : Exit → Act → World → Prop}
    (hn : ∀ a' w' own' f', f'.length = f.length → K f' = some out → Inv w0 lent f' a' w' own' → next a' w') : o.guard = none ∧ o.wp P a w next Q := by
  unfold mutAt at hm
  split at hm
  · rename_i d' c hg hdst hop
    split at hm
    · rename_i g hcal
      split at hm
      · rename_i ms' sd hms hfd
        split at hm
        case h_2 => simp at hm
        simp only [Option.some.injEq, Prod.mk.injEq] at hm
        obtain ⟨rfl, rfl, rfl⟩ := hm
        refine ⟨hg, ?_⟩
        obtain ⟨dst, op, T, pos, aft, gd⟩ := o
        simp only at hg hdst hop
        subst hg; subst hdst; subst hop
        obtain ⟨cal, args, tys⟩ := c
        simp only at hcal; subst hcal
        obtain ⟨hcon, fn, hfn, hname, hbody⟩ := hE.muts g ms' hms
        unfold mutK at hk
        split at hk
        · rename_i i hoi
          split at hk
          · rename_i q p tr t y u hfi
            split at hk
            · rename_i ht _
              subst ht
              split at hk
              · rename_i hcond
                simp only [Bool.and_eq_true, Bool.not_eq_true'] at hcond
                obtain ⟨⟨⟨hmo, hfr⟩, hdq⟩, hclear⟩ := hcond
                obtain ⟨xs, hk, hargs⟩ := argsOff_sound h _ _ hk hclear
                obtain ⟨⟨z, r⟩, hz, hk⟩ := Option.bind_eq_some_iff.1 hk
                simp only at hk hz
                split at hk
                · rename_i s hroot
                  obtain ⟨cs, S, hsh, hrep, hSq, hslot⟩ := slot_mut h hfi hmo hroot
                  have hcon : MutC P g ms' := by unfold MutG at hcon; rw [hfr] at hcon; exact hcon
                  have hcalls := hcon y xs z r (args.toList.map a.eval) (a.tmps.getD i undef) cs S w hz (by rw [List.getElem?_map, hoi]; rfl)
                    (by rw [map_eraseIdx']; exact hargs.sub hSq) hsh hrep (fun c hc => (hSq c hc).2)
                  have hrun : (execOp a.eval ⟨some d', .call ⟨.value (.func g), args, tys⟩, T, pos, aft, none⟩).run P w = .ok (.enter g (args.toList.map a.eval).toArray) w := by
                    have : ((#[] : Array Value) ++ args.map a.eval) ++ #[] = (args.toList.map a.eval).toArray := by
                      apply Array.ext'; simp
                    simp only [execOp, resolve, Act.eval, Deferred.ofValue, Sem.run_bind, Sem.run_pure, Result.andThen_ok, invoke, callFunc, run_program, hfn, hname, hbody, Bool.false_eq_true, if_false, this]
                  simp only [Oper.wp, hrun, Oper.upon]
                  refine hcalls.mono fun e w' ⟨v, S', he, hgrow, hcalm, hoth, hrep', hsub, hres⟩ => ?_
                  subst he
                  have hinv := h.muted (s := s) hgrow hcalm (fun c hc hne => hoth c hc fun hS => hne (hSq c hS).1) (hslot w' S' _ hgrow hoth hrep' hsub)
                  have hlt : d' < ((kill q f).set q s).length := by
                    simp only [List.length_set, kill_length]; exact (List.getElem?_eq_some_iff.1 hfd).1
                  refine hn _ _ ((own.grown w w' q).move w' w' [] d') (resPut ((kill q f).set q s) d' ms'.res r) ?_ hk ?_
                  · rw [resPut_length]; simp [kill_length]
                  · exact resPut_inv hinv hlt ms'.res r hfr hres
                · simp at hk
              · simp at hk
            · simp at hk
          · simp at hk
        · simp at hk
      · simp at hm
    · simp at hm
  · simp at hm
theorem killC_get (r : Nat) (f : Frame) (i : Nat) : (killC r f)[i]? = (f[i]?).map fun s => match s.onC r with | true => Slot.dead | false => s := by
  unfold killC; rw [List.getElem?_map]
  congr 1
theorem killC_length (r : Nat) (f : Frame) : (killC r f).length = f.length := by simp [killC]
theorem onC_on {r : Nat} {s : Slot} (h : s.onC r = false) : s.on r = false ∨ ∃ q, s = .cref q := by
  cases s with
  | cref q => exact .inr ⟨q, rfl⟩
  | _ => exact .inl h
theorem killC_some {r : Nat} {f : Frame} {i : Nat} {s : Slot} (h : (killC r f)[i]? = some s) : s = .dead ∨ (f[i]? = some s ∧ s.onC r = false) := by
  rw [killC_get] at h
  cases hf : f[i]? with
  | none => rw [hf] at h; simp at h
  | some s0 =>
    rw [hf] at h; simp at h
    cases ho : s0.onC r with
    | true => rw [ho] at h; exact .inl h.symm
    | false => rw [ho] at h; subst h; exact .inr ⟨rfl, ho⟩
theorem killC_root {r : Nat} {f : Frame} {i : Nat} {s : Slot} (h : f[i]? = some s) (hr : s.isRoot = true) : (killC r f)[i]? = some s := by
  rw [killC_get, h]; cases s <;> simp_all [Slot.isRoot, Slot.on, Slot.onC]
theorem Inv.curred (h : Inv w0 lent f a w own) {w2 : World} {q d k : Nat} {t : Ty} {y0 y : t.den} {sr : Slot} {v : Value} (hfq : f[q]? = some (.own t y0)) (hdq : d ≠ q) (hd : d < f.length) (hgrow : w.heap.size ≤ w2.heap.size) (hcalm : Calm w w2)
    (hother : ∀ c, c < w.heap.size → own c ≠ some q → w2.heap[c]? = w.heap[c]?) (hqo : ∀ c, own c = some q → ¬ (c < w0.heap.size ∧ ¬ lent c))
    (hs : ∀ f' T', T'.getD q undef = a.tmps.getD q undef → SlotOk w2 (own.add w w2 k) f' T' q (.own t y) (a.tmps.getD q undef))
    (hr : ∀ f' T', SlotOk w2 (own.add w w2 k) f' T' d sr v) : Inv w0 lent ((Rec.cur q t y d sr).act f) (a.put (some d) v) w2 (own.add w w2 k) := by
  have hda : d < a.tmps.size := h.size ▸ hd
  simp only [Rec.act]
  have keeps : ∀ k' : Option Nat, k' ≠ some q → Keeps own w (own.add w w2 k) w2 k' := by
    intro k' hk c ⟨hc, hlt⟩
    refine ⟨⟨?_, Nat.lt_of_lt_of_le hlt hgrow⟩, hother c hlt fun e => hk (hc.symm.trans e)⟩
    simp only [Own.add]
    rw [if_neg (by omega)]; exact hc
  refine ⟨h.defers, by rw [applyS_length, act_put_size, List.length_set, killC_length, h.size], fun b hb => ?_, fun i sl hi => ?_, Nat.le_trans h.grow hgrow, fun b hb hl => ?_, h.calm.trans hcalm⟩
  · simp only [Own.add]
    rw [if_neg (by omega)]; exact h.fresh b (Nat.le_trans hgrow hb)
  · rw [act_put_get _ _ _ hda]
    rcases applyS_get hi with ⟨e, e'⟩ | ⟨e, hsl⟩
    · rw [if_pos e, e', e]; exact hr _ _
    · rw [if_neg e]
      rcases hsl with rfl | ⟨hf, _, _, hond⟩
      · trivial
      by_cases eq : i = q
      · subst eq
        rw [List.getElem?_set] at hf
        simp at hf
        rw [← hf.2]
        exact hs _ _ (by rw [act_put_get _ _ _ hda, if_neg (Ne.symm hdq)])
      rw [List.getElem?_set_ne (Ne.symm eq)] at hf
      rcases killC_some hf with rfl | ⟨hf0, honq⟩
      · trivial
      rcases onC_on honq with hon | ⟨q', rfl⟩
      · refine (h.slots i sl hf0).keep (fun r s hs => h.slots r s hs) (keeps none (by simp)) (keeps (some i) (by simp [eq])) fun r hr' => ?_
        have hrq : r ≠ q := by rintro rfl; rw [hon] at hr'; simp at hr'
        refine ⟨fun sl' hsl' hroot => ?_, keeps (some r) (by simp [hrq])⟩
        have h1 : ((killC q f).set q (.own t y))[r]? = some sl' := by
          rw [List.getElem?_set_ne (Ne.symm hrq)]; exact killC_root hsl' hroot
        have hne : r ≠ d := by
          rintro rfl
          rcases hond with hond | hond | hond
          · rw [hond] at hr'; simp at hr'
          · simp [isRootAt, h1, hroot] at hond
          · simp at hond
        exact ⟨applyS_root hne (by simp) h1 hroot, by rw [act_put_get _ _ _ hda, if_neg hne]⟩
      · obtain ⟨hv, x, hx⟩ := h.slots i _ hf0
        have h1 : ∃ x', ((killC q f).set q (.own t y))[q']? = some (.own .cur x') := by
          by_cases e2 : q = q'
          · subst e2
            have : q < f.length := (List.getElem?_eq_some_iff.1 hfq).1
            have e3 : Slot.own t y0 = Slot.own .cur x := Option.some.inj (hfq.symm.trans hx)
            have e4 : t = .cur := by injection e3
            subst e4
            exact ⟨y, by rw [List.getElem?_set]; simp [killC_length, this]⟩
          · exact ⟨x, by rw [List.getElem?_set_ne e2]; exact killC_root hx rfl⟩
        obtain ⟨x', hx'⟩ := h1
        have hne : q' ≠ d := by
          rintro rfl
          rcases hond with hond | hond | hond
          · simp [Slot.on] at hond
          · simp [isRootAt, hx', Slot.isRoot] at hond
          · simp at hond
        exact ⟨by rw [act_put_get _ _ _ hda, if_neg hne]; exact hv, x', applyS_root hne (by simp) hx' rfl⟩
  · obtain ⟨h1, h2⟩ := h.old b hb hl
    have hlt : b < w.heap.size := Nat.lt_of_lt_of_le hb h.grow
    refine ⟨?_, (hother b hlt fun e => hqo b e ⟨hb, hl⟩).trans h2⟩
    simp only [Own.add]
    rw [if_neg (by omega)]; exact h1
theorem curRoot_spec (h : Inv w0 lent f a w own) {i q : Nat} {y : Option (Value × Int × Int)} (hc : curRoot f i = some (q, y)) : f[q]? = some (.own .cur y) ∧ a.tmps.getD q undef = a.tmps.getD i undef := by
  unfold curRoot at hc
  split at hc
  · rename_i q' hfi
    split at hc
    · rename_i y' hfq
      simp only [Option.some.injEq] at hc
      obtain ⟨rfl, rfl⟩ := hc
      obtain ⟨hv, _⟩ := h.slots i _ hfi
      exact ⟨hfq, hv.symm⟩
    · simp at hc
  · rename_i y' hfi
    simp only [Option.some.injEq] at hc
    obtain ⟨rfl, rfl⟩ := hc
    exact ⟨hfi, rfl⟩
  · simp at hc
theorem curR_sound (hE : EnvAt P E w0 lent) (h : Inv w0 lent f a w own) {o : Oper} {d : Nat} {cs : CurSpec} {os : List Operand} (hm : curAt E o = some (d, cs, os)) {K : Rec → Option α} (hk : curR f d cs os K = some out) {next : Act → World → Prop} {Q : Exit → Act → World → Prop}
    (hn : ∀ a' w' own' rec, K rec = some out → Inv w0 lent (rec.act f) a' w' own' → next a' w') : o.wp P a w next Q := by
  unfold curAt at hm
  split at hm
  · rename_i d' c hdst hop
    split at hm
    · rename_i g hcal
      split at hm
      · rename_i cs' hcs
        simp only [Option.some.injEq, Prod.mk.injEq] at hm
        obtain ⟨rfl, rfl, rfl⟩ := hm
        obtain ⟨dst, op, T, pos, aft, gd⟩ := o
        simp only at hdst hop
        subst hdst; subst hop
        obtain ⟨cal, args, tys⟩ := c
        simp only at hcal; subst hcal
        obtain ⟨hcon, fn, hfn, hname, hbody⟩ := hE.curs g cs' hcs
        unfold curR at hk
        split at hk
        · rename_i i os hoi
          split at hk
          · rename_i sd hfd
            split at hk
            · rename_i q y0 hroot
              obtain ⟨hfq, hiq⟩ := curRoot_spec h hroot
              split at hk
              · rename_i hcond
                simp only [Bool.and_eq_true, Bool.not_eq_true'] at hcond
                obtain ⟨hdq, hclear⟩ := hcond
                have hdq : d' ≠ q := fun e => by subst e; simp at hdq
                obtain ⟨cq, hshq, hrq⟩ := h.slots q _ hfq
                simp only [Shape, Shape1] at hshq
                subst hshq
                obtain ⟨xs, hk, hargs⟩ := argsOff_sound h _ _ hk hclear
                obtain ⟨⟨z, r⟩, hz, hk⟩ := Option.bind_eq_some_iff.1 hk
                simp only at hk hz
                have hcur : CurOk w [a.tmps.getD i undef] y0 (Of own w (some q)) := by rw [← hiq]; exact hrq
                have hamb : AmbOk E.amb w (Of own w (some q)) := fun b r e => ⟨(hE.now h b r e).1, fun hb => (hE.now h b r e).2 (by show own b ≠ none; rw [hb.1]; simp)⟩
                have hcalls := hcon y0 xs z r (a.tmps.getD i undef) (os.map a.eval) (Of own w (some q)) w hz hargs hcur (fun c hc => hc.2) hamb
                have hrun : (execOp a.eval ⟨some d', .call ⟨.value (.func g), args, tys⟩, T, pos, aft, gd⟩).run P w = .ok (.enter g (a.tmps.getD i undef :: os.map a.eval).toArray) w := by
                  have : ((#[] : Array Value) ++ args.map a.eval) ++ #[] = (a.tmps.getD i undef :: os.map a.eval).toArray := by
                    apply Array.ext'
                    have hoi' : args.toList = Operand.tmp i :: os := hoi
                    simp [hoi', Act.eval]
                  simp only [execOp, resolve, Act.eval, Deferred.ofValue, Sem.run_bind, Sem.run_pure, Result.andThen_ok, invoke, callFunc, run_program, hfn, hname, hbody, Bool.false_eq_true, if_false, this]
                simp only [Oper.wp, hrun, Oper.upon]
                refine hcalls.mono fun e w' ⟨v, c, he, hgrow, hcalm, hoth, hcz, hshr, hrep⟩ => ?_
                subst he
                refine hn _ _ (own.add w w' d') _ hk ?_
                refine h.curred hfq hdq (List.getElem?_eq_some_iff.1 hfd).1 hgrow hcalm (fun c hc hne => hoth c hc fun hS => hne hS.1) (fun c hc ⟨h1, h2⟩ => by
                    have := (h.old c h1 h2).1; rw [hc] at this; simp at this) (fun f' T' _ => ⟨_, rfl, ?_⟩) (fun f' T' => ?_)
                · rw [hiq]
                  refine CurOk.mono (fun c hc => ⟨?_, Nat.lt_of_lt_of_le hc.2 hgrow⟩) hcz
                  simp only [Own.add]
                  rw [if_neg (by have := hc.2; omega)]; exact hc.1
                · simp only [resS]
                  cases hfl : cs'.res.flat with
                  | true => exact ⟨c, hshr, hrep.flatAny hfl⟩
                  | false => exact ⟨c, hshr, hrep.mono fun b hb => Own.add_new hb.1 hb.2⟩
              · simp at hk
            · simp at hk
          · simp at hk
        · simp at hk
      · simp at hm
    · simp at hm
  · simp at hm
theorem rootK_sound (h : Inv w0 lent f a w own) {i : Nat} {K : Nat → (t : Ty) → t.den → Option α} (hk : rootK f i K = some out) :
    ∃ q t y cs, K q t y = some out ∧ f[q]? = some (.own t y) ∧ Shape t (a.tmps.getD i undef) cs ∧ Shape t (a.tmps.getD q undef) cs ∧ Rep true w t cs y (Of own w (some q)) := by
  unfold rootK at hk
  split at hk
  · rename_i q p tr t y u hfi
    split at hk
    · split at hk
      · rename_i t' y' hfq
        obtain ⟨cs0, hs0, hr0⟩ := h.slots q _ hfq
        obtain ⟨x, rc, l0, l, cs, hb, hat, hl, hs, hcs⟩ := h.slots i _ hfi
        have hb : f[q]? = some (.own tr x) ∧ Shape tr (a.tmps.getD q undef) rc ∧ l0 = .reg 0 := by
          rcases hb with ⟨_, hfq', hsh, e⟩ | ⟨hfq', _⟩
          · exact ⟨hfq', hsh, e⟩
          · rw [hfq] at hfq'; simp at hfq'
        obtain ⟨hfq', hsh, rfl⟩ := hb
        have e3 : Slot.own t' y' = Slot.own tr x := Option.some.inj (hfq.symm.trans hfq')
        have e4 : t' = tr := by injection e3
        subst e4
        have e5 : y' = x := by injection e3 with _ e5
        subst e5
        have e0 := hs0.uniq hsh
        subst e0
        cases hat
        simp only [locate, Option.some.injEq] at hl
        subst hl
        have e1 : cs = cs0 := by
          rw [hcs]; simp only [conts, List.drop_zero]
          exact List.take_of_length_le (by rw [hr0.len]; exact Nat.le_refl _)
        subst e1
        exact ⟨q, _, _, cs, hk, hfq, hs, hs0, hr0⟩
      · simp at hk
    · simp at hk
  · rename_i t y hfi
    obtain ⟨cs0, hs0, hr0⟩ := h.slots i _ hfi
    exact ⟨i, t, y, cs0, hk, hfi, hs0, hs0, hr0⟩
  · simp at hk
theorem flatS_ok {w' : World} {own' : Own} {d : Nat} {f' : Frame} {T' : Array Value} {v : Value} : ∀ (r : Option Ty) (x : resDen r) {s : Slot}, flatRes r = true → ResOk w' r v x → flatS r x = some s → SlotOk w' own' f' T' d s v
  | some t, x, s, hf, ⟨cs, hsh, hr⟩, e => by
    simp only [flatS, Option.some.injEq] at e; subst e
    exact ⟨cs, hsh, hr.flatAny hf⟩
  | none, _, _, _, _, e => by simp [flatS] at e
theorem bmutR_sound (hE : EnvAt P E w0 lent) (h : Inv w0 lent f a w own) {o : Oper} {d : Nat} {ms : MutSpec} {os : List Operand} (hm : bmutAt E o = some (d, ms, os)) {K : Rec → Option α} (hk : bmutR f d ms os K = some out) {next : Act → World → Prop} {Q : Exit → Act → World → Prop}
    (hn : ∀ a' w' own' rec, K rec = some out → Inv w0 lent (rec.act f) a' w' own' → next a' w') : o.wp P a w next Q := by
  unfold bmutAt at hm
  split at hm
  · rename_i d' c hdst hop
    split at hm
    · rename_i g hcal
      split at hm
      · rename_i ms' hms
        split at hm
        case h_2 => simp at hm
        rename_i hfr
        simp only [Option.some.injEq, Prod.mk.injEq] at hm
        obtain ⟨rfl, rfl, rfl⟩ := hm
        obtain ⟨dst, op, T, pos, aft, gd⟩ := o
        simp only at hdst hop
        subst hdst; subst hop
        obtain ⟨cal, args, tys⟩ := c
        simp only at hcal; subst hcal
        obtain ⟨hcon, fn, hfn, hname, hbody⟩ := hE.muts g ms' hms
        unfold bmutR at hk
        split at hk
        · rename_i i hoi
          split at hk
          · rename_i sd hfd
            obtain ⟨q, t, y, cs, hk, hfq, hsi, hsq, hrep⟩ := rootK_sound h hk
            split at hk
            · rename_i ht _
              subst ht
              split at hk
              · rename_i hcond
                simp only [Bool.and_eq_true, Bool.not_eq_true'] at hcond
                obtain ⟨hdq, hclear⟩ := hcond
                have hdq : d' ≠ q := fun e => by subst e; simp at hdq
                obtain ⟨xs, hk, hargs⟩ := argsOff_sound h _ _ hk hclear
                obtain ⟨⟨z, r⟩, hz, hk⟩ := Option.bind_eq_some_iff.1 hk
                simp only at hk hz
                obtain ⟨s, hs, hk⟩ := Option.bind_eq_some_iff.1 hk
                have hcon : MutC P g ms' := by unfold MutG at hcon; rw [hfr] at hcon; exact hcon
                have hcalls := hcon y xs z r (args.toList.map a.eval) (a.tmps.getD i undef) cs (Of own w (some q)) w hz (by rw [List.getElem?_map, hoi]; rfl)
                  (by rw [map_eraseIdx']; exact hargs) hsi hrep (fun c hc => hc.2)
                have hrun : (execOp a.eval ⟨some d', .call ⟨.value (.func g), args, tys⟩, T, pos, aft, gd⟩).run P w = .ok (.enter g (args.toList.map a.eval).toArray) w := by
                  have : ((#[] : Array Value) ++ args.map a.eval) ++ #[] = (args.toList.map a.eval).toArray := by
                    apply Array.ext'; simp
                  simp only [execOp, resolve, Act.eval, Deferred.ofValue, Sem.run_bind, Sem.run_pure, Result.andThen_ok, invoke, callFunc, run_program, hfn, hname, hbody, Bool.false_eq_true, if_false, this]
                simp only [Oper.wp, hrun, Oper.upon]
                refine hcalls.mono fun e w' ⟨v, S', he, hgrow, hcalm, hoth, hrep', hsub, hres⟩ => ?_
                subst he
                refine hn _ _ (own.add w w' q) _ hk ?_
                refine h.curred hfq hdq (List.getElem?_eq_some_iff.1 hfd).1 hgrow hcalm (fun c hc hne => hoth c hc fun hS => hne hS.1) (fun c hc ⟨h1, h2⟩ => by
                    have := (h.old c h1 h2).1; rw [hc] at this; simp at this) (fun f' T' _ => ⟨cs, hsq, hrep'.mono fun c hc => ?_⟩) (fun f' T' => flatS_ok _ _ hfr hres hs)
                rcases hsub c hc with hc | hc
                · refine ⟨?_, Nat.lt_of_lt_of_le hc.2 hgrow⟩
                  simp only [Own.add]
                  rw [if_neg (by have := hc.2; omega)]; exact hc.1
                · exact Own.add_new hc.1 hc.2
              · simp at hk
            · simp at hk
          · simp at hk
        · simp at hk
      · simp at hm
    · simp at hm
  · simp at hm
end
theorem opR_sound0 {lent : Nat → Prop} (hE : EnvAt P E w0 lent) (h : Inv w0 lent f a w own) {o : Oper} {K : Rec → Option α} (hk : opR E f o K = some out) {next : Act → World → Prop} {Q : Exit → Act → World → Prop}
    (hn : ∀ a' w' own' rec, K rec = some out → Inv w0 lent (rec.act f) a' w' own' → next a' w') : o.wp P a w next Q := by
  have put : (match o.dst with
    | some d => match f[d]? with
      | some _ => opK E f o fun s ls => match s.on d || ls.any fun c => s.on c with
        | true => none
        | false => K (.put d s ls)
      | none => none
    | none => none) = some out → o.wp P a w next Q := by
    intro hk
    split at hk
    · rename_i d hd
      split at hk
      · rename_i sd hsd
        have hlt : d < f.length := (List.getElem?_eq_some_iff.1 hsd).1
        refine opK_sound hE h hlt (fun s ls hs => ?_) hd hk next Q fun a' w' own' s ls hs hinv => ?_
        · split at hs
          · simp at hs
          · rename_i hc
            simp only [Bool.or_eq_false_iff] at hc
            refine ⟨hc.1, fun c hcl => ?_⟩
            have := List.any_eq_false.1 hc.2 c hcl
            simpa using this
        · split at hs
          · simp at hs
          · exact hn a' w' own' _ hs hinv
      · simp at hk
    · simp at hk
  unfold opR at hk
  split at hk
  · rename_i d cs os hm
    exact curR_sound hE h hm hk hn
  split at hk
  · rename_i d ms os hm
    exact bmutR_sound hE h hm hk hn
  obtain ⟨dst, op, T, pos, aft, g⟩ := o
  cases op with
  | store D x v =>
    simp only [opR0] at hk
    cases dst with
    | none => exact storeR_sound hE.toEnvOk h hk fun w' own' rec hK hinv => hn a w' own' rec hK hinv
    | some d => simp at hk
  | _ => exact put hk
theorem skipR_sound0 {lent : Nat → Prop} (h : Inv w0 lent f a w own) {o : Oper} {K : Rec → Option α} (hk : skipR f o K = some out) {next : Act → World → Prop}
    (hn : ∀ a' w' own' rec, K rec = some out → Inv w0 lent (rec.act f) a' w' own' → next a' w') : next (a.put o.dst undef) w := by
  unfold skipR at hk
  split at hk
  · rename_i d hd
    split at hk
    · rename_i sd hsd
      have hlt : d < f.length := (List.getElem?_eq_some_iff.1 hsd).1
      rw [hd]
      exact hn _ _ _ _ hk (h.applyGrow (Grow.refl w) (ls := []) (s := .undef) hlt rfl)
    · simp at hk
  · rename_i hd
    rw [hd]
    exact hn a w own _ hk h
structure Lent where
  mem : Nat → Prop
  pins : Nat → Option Value
def FreeOp (lent : Lent) (o : Oper) : Prop := ∀ d, o.dst = some d → lent.pins d = none
structure InvP (w0 : World) (lent : Lent) (f : Frame) (a : Act) (w : World) (own : Own) : Prop where
  base : Inv w0 lent.mem f a w own
  pin : ∀ i v, lent.pins i = some v → a.tmps.getD i undef = v
theorem Oper.wp_put {o : Oper} {a : Act} {w : World} {next : Act → World → Prop} {Q : Exit → Act → World → Prop} (h : o.wp P a w (fun a' w' => (∃ v, a'.tmps = (a.put o.dst v).tmps) → next a' w') Q) : o.wp P a w next Q := by
  unfold Oper.wp at h ⊢
  generalize (execOp a.eval o).run P w = r at h ⊢
  unfold Oper.upon at h ⊢
  split at h
  · exact h ⟨_, rfl⟩
  · exact h ⟨_, rfl⟩
  · refine h ⟨undef, ?_⟩
    cases o.dst <;> rfl
  · refine Calls.mono h fun e w'' he => ?_
    split at he
    · exact he ⟨_, rfl⟩
    · exact he
    · exact he
  · exact Rows.mono h fun v w'' hv => hv ⟨_, rfl⟩
  · exact h
  · exact h.elim
theorem put_tmps_ne {a : Act} {dst : Option Nat} {v v0 : Value} {i : Nat} (h : ∀ d, dst = some d → d ≠ i) (h0 : a.tmps.getD i undef = v0) : (a.put dst v).tmps.getD i undef = v0 := by
  cases dst with
  | none => exact h0
  | some d =>
    have := h d rfl
    rw [← h0]
    simp only [Act.put, Array.getD_eq_getD_getElem?, Array.getElem?_setIfInBounds]
    rw [if_neg this]
theorem pins_put {lent : Lent} {o : Oper} (hf : FreeOp lent o) {a a' : Act} {v : Value} (hp : ∀ i v, lent.pins i = some v → a.tmps.getD i undef = v) (e : a'.tmps = (a.put o.dst v).tmps) : ∀ i v, lent.pins i = some v → a'.tmps.getD i undef = v := by
  intro i v' hi
  rw [e]
  exact put_tmps_ne (fun d hd he => by have := hf d hd; rw [he, hi] at this; simp at this) (hp i v' hi)
variable {lent : Lent}
theorem opR_sound (hE : EnvAt P E w0 lent.mem) (h : InvP w0 lent f a w own) {o : Oper} (hf : FreeOp lent o) {K : Rec → Option α} (hk : opR E f o K = some out) {next : Act → World → Prop} {Q : Exit → Act → World → Prop}
    (hn : ∀ a' w' own' rec, K rec = some out → InvP w0 lent (rec.act f) a' w' own' → next a' w') : o.wp P a w next Q :=
  Oper.wp_put (opR_sound0 hE h.base hk fun a' w' own' rec hK hi ⟨_, e⟩ => hn a' w' own' rec hK ⟨hi, pins_put hf h.pin e⟩)
theorem skipR_sound (h : InvP w0 lent f a w own) {o : Oper} (hf : FreeOp lent o) {K : Rec → Option α} (hk : skipR f o K = some out) {next : Act → World → Prop}
    (hn : ∀ a' w' own' rec, K rec = some out → InvP w0 lent (rec.act f) a' w' own' → next a' w') : next (a.put o.dst undef) w := by
  have := skipR_sound0 h.base hk (next := fun a' w' => a'.tmps = (a.put o.dst undef).tmps → next a' w') fun a' w' own' rec hK hi e => hn a' w' own' rec hK ⟨hi, pins_put hf h.pin e⟩
  exact this rfl
theorem set_same : ∀ {f : Frame} {d : Nat} {s : Slot}, f[d]? = some s → f.set d s = f := by
  intro f d s h
  apply List.ext_getElem?; intro j
  rw [List.getElem?_set]
  split
  · rename_i e; subst e; split
    · exact h.symm
    · rename_i hn; exact absurd (List.getElem?_eq_some_iff.1 h).1 hn
  · rfl
theorem wpOp_wanted {ops : Array Oper} {Q : Exit → Act → World → Prop} {i : Nat} {o : Oper} {K : Act → World → Prop} (hi : ops[i]? = some o) (hw : Region.wanted o (yielded ops a.tmps) = true) (h : o.wp P a w K Q) : wpOp P ops Q i K a w := by
  unfold wpOp; simp only [hi, hw, if_true]; exact .inl h
theorem wpOp_skipped {ops : Array Oper} {Q : Exit → Act → World → Prop} {i : Nat} {o : Oper} {K : Act → World → Prop} (hi : ops[i]? = some o) (hw : Region.wanted o (yielded ops a.tmps) = false) (h : K (a.put o.dst undef) w) : wpOp P ops Q i K a w := by
  unfold wpOp; simp only [hi, hw]; exact h
theorem stepK_sound (hE : EnvAt P E w0 lent.mem) (h : InvP w0 lent f a w own) {ops : Array Oper} {all : List Oper} (hall : all = ops.toList) {i : Nat} {o : Oper} (hi : ops[i]? = some o) (hf : FreeOp lent o) {K : Frame → Rec → Option α} (hk : stepK E all f o K = some out)
    {next : Act → World → Prop} {Q : Exit → Act → World → Prop} (hn : ∀ a' w' own' rec, K f rec = some out → InvP w0 lent (rec.act f) a' w' own' → next a' w') : wpOp P ops Q i next a w := by
  subst hall
  simp only [stepK] at hk
  split at hk
  · rename_i hg
    exact wpOp_wanted hi (by simp [Region.wanted, hg]) (opR_sound hE h hf hk hn)
  · rename_i j want hg
    split at hk
    · rename_i oj hj
      have hj' : ops[j]? = some oj := by simpa using hj
      split at hk
      · rename_i d hd
        split at hk
        · rename_i b hb
          change Bool at b
          have hval : a.tmps[d]? = some (.bool b) := by
            have hlt : d < a.tmps.size := by rw [← h.base.size]; exact (List.getElem?_eq_some_iff.1 hb).1
            obtain ⟨cs, hsh, hr⟩ := h.base.slots d _ hb
            simp only [Rep] at hr; subst hr
            simp only [Shape, Shape1, List.cons.injEq, and_true] at hsh
            rw [Array.getD_eq_getD_getElem?] at hsh
            rw [Array.getElem?_eq_getElem hlt] at hsh ⊢
            simpa using hsh.symm
          have hy : yielded ops a.tmps j = some b := by simp [yielded, hj', hd, hval]
          have hw : Region.wanted o (yielded ops a.tmps) = (b == want) := by
            simp only [Region.wanted, hg, hy]
            cases b <;> cases want <;> rfl
          cases b <;> cases want <;> simp only at hk
          · rw [set_same hb] at hk
            exact wpOp_wanted hi (by rw [hw]; rfl) (opR_sound hE h hf hk hn)
          · rw [set_same hb] at hk
            exact wpOp_skipped hi (by rw [hw]; rfl) (skipR_sound h hf hk hn)
          · rw [set_same hb] at hk
            exact wpOp_skipped hi (by rw [hw]; rfl) (skipR_sound h hf hk hn)
          · rw [set_same hb] at hk
            exact wpOp_wanted hi (by rw [hw]; rfl) (opR_sound hE h hf hk hn)
        · rename_i hb
          have hval : a.tmps.getD d undef = undef := h.base.slots d _ hb
          have hy : yielded ops a.tmps j = none := by
            have hlt : d < a.tmps.size := by rw [← h.base.size]; exact (List.getElem?_eq_some_iff.1 hb).1
            rw [Array.getD_eq_getD_getElem?, Array.getElem?_eq_getElem hlt] at hval
            simp only [Option.getD_some] at hval
            simp [yielded, hj', hd, hlt, hval, undef]
          exact wpOp_skipped hi (by simp [Region.wanted, hg, hy]) (skipR_sound h hf hk hn)
        · simp at hk
      · simp at hk
    · simp at hk
theorem act_length (rec : Rec) (f : Frame) : (rec.act f).length = f.length := by
  cases rec with
  | put d s ls => simp [Rec.act, applyS_length, killFrail_length]
  | cur q t y d s => rw [Rec.act, applyS_length, List.length_set, killC_length]
  | store r s ls => simp [Rec.act, kill_length, useUp_length]
  | nop => rfl
theorem opsK_sound (hE : EnvAt P E w0 lent.mem) {ops : Array Oper} (hfree : ∀ o ∈ ops.toList, FreeOp lent o) {Q : Exit → Act → World → Prop} {K : Frame → Option α} {n : Nat}
    (hn : ∀ f a w own, f.length = n → K f = some out → InvP w0 lent f a w own → Q .normal a w) : ∀ (l : List Oper) (i : Nat) (f : Frame) (a : Act) (w : World) (own : Own), f.length = n → (∀ j, l[j]? = ops[i + j]?) → InvP w0 lent f a w own → opsK E ops.toList l f K = some out →
      wpOps P ops Q (List.range' i l.length) a w
  | [], i, f, a, w, own, hlen, _, h, hk => hn f a w own hlen hk h
  | o :: l, i, f, a, w, own, hlen, hl, h, hk => by
    simp only [List.length_cons, List.range'_succ, wpOps_cons]
    have hi : ops[i]? = some o := by simpa using (hl 0).symm
    simp only [opsK] at hk
    have hfo : FreeOp lent o := hfree o (by have := Array.getElem?_eq_some_iff.1 hi; rw [← this.2]; simp)
    have hl' : ∀ j, l[j]? = ops[i + 1 + j]? := fun j => by have := hl (j + 1); simpa [Nat.add_assoc, Nat.add_comm 1 j] using this
    split at hk
    · rename_i d e hnil
      obtain ⟨hg, b, hb, hwp⟩ := nilAt_sound (P := P) hE.toEnvOk h.base hnil
      have hk' : opsK E ops.toList l ((Rec.put d (.ro none .bool b) []).act f) K = some out := by
        cases e with
        | true =>
          obtain ⟨q1, q2⟩ := agree_some hk
          cases b
          · exact q2
          · exact q1
        | false => rw [hb rfl]; exact hk
      refine wpOp_wanted hi (by simp [Region.wanted, hg]) (Oper.wp_put (hwp _ Q fun a' own' hinv ⟨_, ev⟩ => ?_))
      exact opsK_sound hE hfree hn l (i + 1) _ _ _ own' ((act_length _ _).trans hlen) hl' ⟨hinv, pins_put hfo h.pin ev⟩ hk'
    · split at hk
      · rename_i d ms os hmut
        have hm := mutK_sound (P := P) (Q := Q) hE.toEnvOk h.base hmut hk (next := fun a' w' => (∃ v, a'.tmps = (a.put o.dst v).tmps) → wpOps P ops Q (List.range' (i + 1) l.length) a' w') fun a' w' own' f' hlf hK hinv ⟨_, ev⟩ =>
          opsK_sound hE hfree hn l (i + 1) _ _ _ own' (hlf.trans hlen) hl' ⟨hinv, pins_put hfo h.pin ev⟩ hK
        exact wpOp_wanted hi (by simp [Region.wanted, hm.1]) (Oper.wp_put hm.2)
      · refine stepK_sound hE h rfl hi hfo hk fun a' w' own' rec hK hinv => ?_
        exact opsK_sound hE hfree hn l (i + 1) _ _ _ own' ((act_length _ _).trans hlen) hl' hinv hK
end Go.Sx
namespace Go.Sx
variable {α : Type} {w0 : World} {lent : Nat → Prop} {f : Frame} {a : Act} {w : World} {own : Own}
variable {P : Program} {E : Env} {out : α}
theorem least {p : Nat → Prop} (h : ∃ n, p n) : ∃ n, p n ∧ ∀ m, p m → n ≤ m := by
  obtain ⟨n, hn⟩ := h
  induction n using Nat.strongRecOn with
  | _ n ih =>
    by_cases hl : ∃ m, m < n ∧ p m
    · obtain ⟨m, hm, hp⟩ := hl; exact ih m hm hp
    · exact ⟨n, hn, fun m hp => Nat.le_of_not_lt fun h => hl ⟨m, h, hp⟩⟩
theorem wp_loop_fuel {c : Code} {Q : Exit → Act → World → Prop} (I : Nat → Act → World → Prop) {n : Nat} (h0 : I n a w)
    (round : ∀ n a w, I n a w → c.wp P (Exit.then (fun a' w' => ∃ m, m < n ∧ I m a' w') Q) a w) : (Code.loop c).wp P Q a w := by
  classical
  let μ : Act → World → Nat := fun a w => if h : ∃ n, I n a w then Classical.choose (least h) else 0
  have hμ : ∀ a w, (∃ n, I n a w) → I (μ a w) a w ∧ ∀ m, I m a w → μ a w ≤ m := by
    intro a w h
    have := Classical.choose_spec (least h)
    simp only [μ, dif_pos h]
    exact this
  refine wp_loop (fun a w => ∃ n, I n a w) μ ⟨n, h0⟩ fun a w hI => ?_
  obtain ⟨h1, _⟩ := hμ a w hI
  have := round _ a w h1
  intro b k cs
  obtain ⟨e, a', w', hq, harr⟩ := this b k cs
  refine ⟨e, a', w', ?_, harr⟩
  cases e with
  | normal =>
    obtain ⟨m, hm, hi⟩ := hq
    exact ⟨⟨m, hi⟩, Nat.lt_of_le_of_lt ((hμ a' w' ⟨m, hi⟩).2 m hi) hm⟩
  | _ => exact hq
theorem encS_length (n : Nat) : ∀ (l : List (Nat × Sh)) (s : ShDen l), (encS n l s).length = n
  | [], _ => by simp [encS]
  | (i, h) :: r, s => by simp [encS, encS_length n r]
theorem shK_sound {f' : Frame} {T' : Array Value} {i : Nat} {s : Slot} {v : Value} (h : Inv w0 lent f a w own) (hf : f[i]? = some s) (hv : v = a.tmps.getD i undef) {sh : Sh} {K : sh.ty.den → Option α} (hk : shK s sh K = some out) :
    ∃ x, K x = some out ∧ SlotOk w own f' T' i (sh.slot x) v := by
  subst hv
  have hs := h.slots i s hf
  unfold shK at hk
  split at hk
  · obtain ⟨e, hk⟩ := castK_some hk
    subst e
    exact ⟨_, hk, hs⟩
  · obtain ⟨cs, hsh, hrep⟩ := hs
    split at hk
    · rename_i hfl
      obtain ⟨e, hk⟩ := castK_some hk
      subst e
      exact ⟨_, hk, cs, hsh, hrep.flatAny hfl⟩
    · simp at hk
  · split at hk
    · rename_i hr
      have hr := Nat.eq_of_beq_eq_true hr
      subst hr
      obtain ⟨e, hk⟩ := castK_some hk
      subst e
      exact ⟨_, hk, hs⟩
    · simp at hk
  · split at hk
    · rename_i hr
      have hr := Nat.eq_of_beq_eq_true hr
      subst hr
      obtain ⟨e, hk⟩ := castK_some hk
      subst e
      obtain ⟨cs, hsh, hrep⟩ := h.refTree hf
      exact ⟨_, hk, cs, hsh, hrep.weak⟩
    · simp at hk
  · obtain ⟨e, hk⟩ := castK_some hk
    subst e
    exact ⟨_, hk, hs⟩
  · split at hk
    · rename_i hb
      simp at hb
      subst hb
      obtain ⟨e, hk⟩ := castK_some hk
      subst e
      exact ⟨_, hk, hs⟩
    · simp at hk
  · simp at hk
theorem decK_slots (h : Inv w0 lent f a w own) {f' : Frame} (n : Nat) : ∀ (l : List (Nat × Sh)) {K : ShDen l → Option α}, decK f l K = some out →
    ∃ s, K s = some out ∧ ∀ i sl, (encS n l s)[i]? = some sl → SlotOk w own f' a.tmps i sl (a.tmps.getD i undef)
  | [], K, hk => ⟨(), hk, fun i sl hi => by
      simp only [encS, List.getElem?_replicate] at hi
      split at hi <;> simp at hi
      subst hi; trivial⟩
  | (j, sh) :: r, K, hk => by
    simp only [decK] at hk
    split at hk
    · rename_i s0 hs0
      obtain ⟨x, hk, hx⟩ := shK_sound (f' := f') (T' := a.tmps) h hs0 rfl hk
      obtain ⟨s, hk, hrest⟩ := decK_slots h n r hk
      refine ⟨(x, s), hk, fun i sl hi => ?_⟩
      simp only [encS] at hi
      rw [List.getElem?_set] at hi
      split at hi
      · rename_i e
        subst e
        split at hi
        · simp at hi; subst hi; exact hx
        · simp at hi
      · exact hrest i sl hi
    · simp at hk
theorem decK_sound0 (h : Inv w0 lent f a w own) {n : Nat} (hn : f.length = n) {l : List (Nat × Sh)} {K : ShDen l → Option α} (hk : decK f l K = some out) :
    ∃ s, K s = some out ∧ Inv w0 lent (encS n l s) a w own := by
  have key : ∀ f' : Frame, ∃ s, K s = some out ∧ ∀ i sl, (encS n l s)[i]? = some sl → SlotOk w own f' a.tmps i sl (a.tmps.getD i undef) := fun f' => decK_slots h n l hk
  have key2 : ∃ s, K s = some out ∧ ∀ f' : Frame, ∀ i sl, (encS n l s)[i]? = some sl → SlotOk w own f' a.tmps i sl (a.tmps.getD i undef) := by
    obtain ⟨s, hs, hsl⟩ := key []
    refine ⟨s, hs, fun f' i sl hi => ?_⟩
    have hok := hsl i sl hi
    have hsh : ∀ (l : List (Nat × Sh)) (s : ShDen l), (encS n l s)[i]? = some sl → sl = .dead ∨ ∃ (sh : Sh) (x : sh.ty.den), sl = sh.slot x := by
      intro l
      induction l with
      | nil =>
        intro s hi
        simp only [encS, List.getElem?_replicate] at hi
        split at hi <;> simp at hi
        exact .inl hi.symm
      | cons p r ih =>
        intro s hi
        obtain ⟨j, sh⟩ := p
        simp only [encS] at hi
        rw [List.getElem?_set] at hi
        split at hi
        · split at hi
          · simp at hi; exact .inr ⟨sh, s.1, hi.symm⟩
          · simp at hi
        · exact ih s.2 hi
    rcases hsh l s hi with rfl | ⟨sh, x, rfl⟩
    · trivial
    · cases sh <;> exact hok
  obtain ⟨s, hs, hsl⟩ := key2
  exact ⟨s, hs, h.defers, by rw [encS_length, ← h.size, hn], h.fresh, hsl _, h.grow, h.old, h.calm⟩
theorem decK_sound {lent : Lent} (h : InvP w0 lent f a w own) {n : Nat} (hn : f.length = n) {l : List (Nat × Sh)} {K : ShDen l → Option α} (hk : decK f l K = some out) :
    ∃ s, K s = some out ∧ InvP w0 lent (encS n l s) a w own := by
  obtain ⟨s, hK, hi⟩ := decK_sound0 h.base hn hk
  exact ⟨s, hK, hi, h.pin⟩
def FreeC (lent : Lent) : Code → Prop
  | .region _ ops _ => ∀ o ∈ ops.toList, FreeOp lent o
  | .seq a b => FreeC lent a ∧ FreeC lent b
  | .cond _ a b => FreeC lent a ∧ FreeC lent b
  | .block _ c => FreeC lent c
  | .loop c => FreeC lent c
  | _ => True
def loopsOf : Code → List (Nat × Code)
  | .seq a b => loopsOf a ++ loopsOf b
  | .cond _ a b => loopsOf a ++ loopsOf b
  | .block id (.loop c) => (id, c) :: loopsOf c
  | .block _ c => loopsOf c
  | _ => []
def LoopsOk (N : Nat) (E : Env) (ann : List (Nat × Loop α)) (n : Nat) (ret : Frame → Option α) (l : List (Nat × Code)) : Prop :=
  ∀ p ∈ l, ∀ L, look ann p.1 = some L → ∀ (s : ShDen L.live) (kc ke : ShDen L.live → Option α) (env : Nat → Frame → Option α),
    runK N E ann n ret p.2 (encS n L.live s) (exitK p.1 (fun f => decK f L.live ke) env) (fun f => decK f L.live kc) = L.body s kc ke
def DrawOk (P : Program) (E : Env) (w0 : World) (lent : Lent) : Prop :=
  ∀ (α : Type) (out : α) (id : Nat) (ops : Array Oper) (f : Frame) (a : Act) (w : World) (own : Own) (K : Frame → Option α) (Q : Exit → Act → World → Prop), (∀ o ∈ ops.toList, FreeOp lent o) → InvP w0 lent f a w own → drawK E ops f K = some out →
    (∀ f' a w own, f'.length = f.length → K f' = some out → InvP w0 lent f' a w own → Q .normal a w) → (Code.region id ops true).wp P Q a w
end Go.Sx
namespace Go.Sx
variable {α : Type} {w0 : World} {lent : Lent} {f : Frame} {a : Act} {w : World} {own : Own}
variable {P : Program} {E : Env} {out : α}
section run
variable (N : Nat) (ann : List (Nat × Loop α)) (n : Nat) (ret : Frame → Option α)
def RunOk (P : Program) (E : Env) (w0 : World) (lent : Lent) (out : α) (c : Code) : Prop :=
  FreeC lent c → ∀ (f : Frame) (env : Nat → Frame → Option α) (k : Frame → Option α) (a : Act) (w : World) (own : Own) (Q : Exit → Act → World → Prop), LoopsOk N E ann n ret (loopsOf c) → f.length = n → InvP w0 lent f a w own →
    runK N E ann n ret c f env k = some out →
    (∀ f a w own, f.length = n → k f = some out → InvP w0 lent f a w own → Q .normal a w) →
    (∀ id f a w own, f.length = n → env id f = some out → InvP w0 lent f a w own → Q (.exit id) a w) →
    (∀ f a w own, f.length = n → ret f = some out → InvP w0 lent f a w own → Q .ret a w) → c.wp P Q a w
theorem run_block {id : Nat} {c : Code} (ih : RunOk N ann n ret P E w0 lent out c) (hfc : FreeC lent c) {env : Nat → Frame → Option α} {k : Frame → Option α} {Q : Exit → Act → World → Prop} (hl : LoopsOk N E ann n ret (loopsOf c)) (hlen : f.length = n)
    (h : InvP w0 lent f a w own) (hk : runK N E ann n ret c f (exitK id k env) k = some out)
    (h1 : ∀ f a w own, f.length = n → k f = some out → InvP w0 lent f a w own → Q .normal a w)
    (h2 : ∀ id f a w own, f.length = n → env id f = some out → InvP w0 lent f a w own → Q (.exit id) a w)
    (h3 : ∀ f a w own, f.length = n → ret f = some out → InvP w0 lent f a w own → Q .ret a w) : (Code.block id c).wp P Q a w := by
  refine wp_block (ih hfc f _ k a w own _ hl hlen h hk (fun f a w own hlen hk h => h1 f a w own hlen hk h) (fun id' f a w own hlen hk h => ?_) (fun f a w own hlen hk h => h3 f a w own hlen hk h))
  simp only [exitK] at hk
  simp only [Exit.inBlock]
  split at hk
  · rename_i e
    have e := Nat.eq_of_beq_eq_true e
    rw [if_pos e]
    exact h1 f a w own hlen hk h
  · rename_i e
    rw [if_neg fun e' => by subst e'; simp [Nat.beq_refl] at e]
    exact h2 id' f a w own hlen hk h
theorem run_loop {id : Nat} {c : Code} (ih : RunOk N ann n ret P E w0 lent out c) (hfc : FreeC lent c) {L : Loop α} (hL : look ann id = some L) {env : Nat → Frame → Option α} {k : Frame → Option α} {Q : Exit → Act → World → Prop} (hl : LoopsOk N E ann n ret ((id, c) :: loopsOf c)) (hlen : f.length = n)
    (h : InvP w0 lent f a w own) (hk : (decK f L.live fun s => iterK L.body N s fun s' => k (encS n L.live s')) = some out)
    (h1 : ∀ f a w own, f.length = n → k f = some out → InvP w0 lent f a w own → Q .normal a w)
    (h2 : ∀ id f a w own, f.length = n → env id f = some out → InvP w0 lent f a w own → Q (.exit id) a w)
    (h3 : ∀ f a w own, f.length = n → ret f = some out → InvP w0 lent f a w own → Q .ret a w) : (Code.block id (.loop c)).wp P Q a w := by
  obtain ⟨s, hk, hs⟩ := decK_sound h hlen hk
  refine wp_block (wp_loop_fuel (n := N) (fun m a w => ∃ own s, InvP w0 lent (encS n L.live s) a w own ∧ iterK L.body m s (fun s' => k (encS n L.live s')) = some out) ⟨own, s, hs, hk⟩ ?_)
  intro m a w ⟨own, s, hs, hk⟩
  cases m with
  | zero => simp [iterK] at hk
  | succ m =>
    simp only [iterK] at hk
    have heq := hl (id, c) (by simp) L hL s (fun s' => iterK L.body m s' fun s' => k (encS n L.live s')) (fun s' => k (encS n L.live s')) env
    rw [← heq] at hk
    refine ih hfc _ _ _ a w own _ (fun p hp => hl p (by simp [hp])) (encS_length _ _ _) hs hk (fun f a w own hlen hk h => ?_) (fun id' f a w own hlen hk h => ?_) (fun f a w own hlen hk h => h3 f a w own hlen hk h)
    · obtain ⟨s', hk, hs'⟩ := decK_sound h hlen hk
      exact ⟨m, Nat.lt_succ_self m, own, s', hs', hk⟩
    · simp only [exitK] at hk
      show Exit.inBlock id Q (.exit id') a w
      simp only [Exit.inBlock]
      split at hk
      · rename_i e
        have e := Nat.eq_of_beq_eq_true e
        rw [if_pos e]
        obtain ⟨s', hk, hs'⟩ := decK_sound h hlen hk
        exact h1 _ a w own (encS_length _ _ _) hk hs'
      · rename_i e
        rw [if_neg fun e' => by subst e'; simp [Nat.beq_refl] at e]
        exact h2 id' f a w own hlen hk h
theorem runK_sound (hE : EnvAt P E w0 lent.mem) (hd : DrawOk P E w0 lent) : ∀ c : Code, RunOk N ann n ret P E w0 lent out c ∧ ∀ c', c = .loop c' → RunOk N ann n ret P E w0 lent out c' := by
  intro c
  induction c with
  | skip => exact ⟨fun hfc f env k a w own Q hl hlen h hk h1 h2 h3 => wp_skip (h1 f a w own hlen hk h), by simp⟩
  | region id ops d =>
    refine ⟨fun hfc f env k a w own Q hl hlen h hk h1 h2 h3 => ?_, by simp⟩
    simp only [runK] at hk
    cases d with
    | false =>
      have := opsK_sound (P := P) (Q := Q) hE hfc (fun f a w own hlen hk h => h1 f a w own hlen hk h) ops.toList 0 f a w own hlen (fun j => by simp) h hk
      refine wp_region ?_
      rw [List.range_eq_range']
      simpa using this
    | true => exact hd α out id ops f a w own k Q hfc h hk fun f' a w own hl' hk h => h1 f' a w own (hl'.trans hlen) hk h
  | seq x y ihx ihy =>
    refine ⟨fun hfc f env k a w own Q hl hlen h hk h1 h2 h3 => ?_, by simp⟩
    simp only [runK] at hk
    refine wp_seq (ihx.1 hfc.1 f env _ a w own _ (fun p hp => hl p (by simp [loopsOf, hp])) hlen h hk (fun f a w own hlen hk h => ?_) (fun id f a w own hlen hk h => h2 id f a w own hlen hk h) (fun f a w own hlen hk h => h3 f a w own hlen hk h))
    exact ihy.1 hfc.2 f env k a w own Q (fun p hp => hl p (by simp [loopsOf, hp])) hlen h hk h1 h2 h3
  | cond c x y ihx ihy =>
    refine ⟨fun hfc f env k a w own Q hl hlen h hk h1 h2 h3 => ?_, by simp⟩
    simp only [runK] at hk
    obtain ⟨b, hb, hk⟩ := boolK_sound h.base hk
    refine wp_cond hb ?_
    cases b with
    | true => exact ihx.1 hfc.1 f env k a w own Q (fun p hp => hl p (by simp [loopsOf, hp])) hlen h hk h1 h2 h3
    | false => exact ihy.1 hfc.2 f env k a w own Q (fun p hp => hl p (by simp [loopsOf, hp])) hlen h hk h1 h2 h3
  | block id c ih =>
    refine ⟨fun hfc f env k a w own Q hl hlen h hk h1 h2 h3 => ?_, by simp⟩
    have other : (∀ c', c ≠ .loop c') → (Code.block id c).wp P Q a w := by
      intro hne
      have hk' : runK N E ann n ret c f (exitK id k env) k = some out := by
        cases c <;> first | exact absurd rfl (hne _) | exact hk
      have hl' : LoopsOk N E ann n ret (loopsOf c) := by
        cases c <;> first | exact absurd rfl (hne _) | exact hl
      exact run_block N ann n ret ih.1 hfc hl' hlen h hk' h1 h2 h3
    by_cases e : ∃ c', c = .loop c'
    · obtain ⟨c', rfl⟩ := e
      simp only [runK] at hk
      split at hk
      · rename_i L hL
        exact run_loop N ann n ret (ih.2 c' rfl) hfc hL hl hlen h hk h1 h2 h3
      · simp at hk
    · exact other fun c' e' => e ⟨c', e'⟩
  | loop c ih =>
    refine ⟨fun hfc f env k a w own Q hl hlen h hk h1 h2 h3 => by simp [runK] at hk, fun c' e => ?_⟩
    simp at e; subst e; exact ih.1
  | exit id => exact ⟨fun hfc f env k a w own Q hl hlen h hk h1 h2 h3 => wp_exit (h2 id f a w own hlen hk h), by simp⟩
  | ret => exact ⟨fun hfc f env k a w own Q hl hlen h hk h1 h2 h3 => wp_ret (h3 f a w own hlen hk h), by simp⟩
  | rangeFunc => exact ⟨fun hfc f env k a w own Q hl hlen h hk h1 h2 h3 => by simp [runK] at hk, by simp⟩
  | scope => exact ⟨fun hfc f env k a w own Q hl hlen h hk h1 h2 h3 => by simp [runK] at hk, by simp⟩
  | label => exact ⟨fun hfc f env k a w own Q hl hlen h hk h1 h2 h3 => by simp [runK] at hk, by simp⟩
  | goto => exact ⟨fun hfc f env k a w own Q hl hlen h hk h1 h2 h3 => by simp [runK] at hk, by simp⟩
  | refuse => exact ⟨fun hfc f env k a w own Q hl hlen h hk h1 h2 h3 => by simp [runK] at hk, by simp⟩
end run
end Go.Sx
namespace Go.Sx
variable {α : Type} {w0 : World} {lent : Nat → Prop} {f : Frame} {a : Act} {w : World} {own : Own}
variable {P : Program} {E : Env} {out : α}
def resRun (tmps : Array Value) : ResultVar → Sem Value
  | .tmp t => pure (tmps.getD t undef)
  | .cell a t => do loadVar t (← asAddr (tmps.getD a undef))
theorem resVarK_sound (hE : EnvOk P E) (h : Inv w0 lent f a w own) {v : ResultVar} {t : Ty} {K : t.den → List Nat → Option α} (hk : resVarK E f v t K = some out) :
    ∃ x ls val cs, K x ls = some out ∧ (resRun a.tmps v).run P w = .ok val w ∧ Shape t val cs ∧ Rep true w t cs x (fun c => ∃ l ∈ ls, Of own w (some l) c) := by
  cases v with
  | tmp i =>
    simp only [resVarK] at hk
    split at hk
    · rename_i hkd
      obtain ⟨t', x, ⟨cs, hs, hr, hkk⟩, hk⟩ := valK_sound h hk
      obtain ⟨e, hk⟩ := castK_some hk
      subst e
      rw [hkd] at hkk
      exact ⟨x, [], _, cs, hk, rfl, hs, hr.flatAny hkk⟩
    · rename_i ls hkd
      obtain ⟨t', x, ⟨cs, hs, hr, hkk⟩, hk⟩ := valK_sound h hk
      obtain ⟨e, hk⟩ := castK_some hk
      subst e
      rw [hkd] at hkk
      exact ⟨x, ls, _, cs, hk, rfl, hs, hkk⟩
    · simp at hk
  | cell i T =>
    simp only [resVarK] at hk
    split at hk
    · rename_i b t' x hf
      split at hk
      · rename_i hopt
        have hty := optIs_fact hE hopt
        obtain ⟨bl, L, El, hv, hb, hh, hsz, h1, h2⟩ := h.slots i _ hf
        have hseg : seg L 0 t'.size = L.toList := by
          rw [seg, List.drop_zero]; exact List.take_of_length_le (by simp; omega)
        have hrun : (resRun a.tmps (.cell i T)).run P w = .ok (valOf t' L.toList) w := by
          simp only [resRun, hv, asAddr, Sem.run_bind, Sem.run_pure, Result.andThen_ok]
          rw [run_loadVar' hty hh (by omega), hseg]
        have hshape : Shape t' (valOf t' L.toList) L.toList := valOf_shape hty.plain (by simpa using hsz)
        split at hk
        · rename_i hfl
          obtain ⟨e, hk⟩ := castK_some hk
          subst e
          refine ⟨x, [], _, _, hk, hrun, hshape, ?_⟩
          cases b with
          | true => exact (h1 rfl).flatAny hfl
          | false => exact (h2 rfl).flatAny hfl
        · split at hk
          · obtain ⟨e, hk⟩ := castK_some hk
            subst e
            exact ⟨x, [i], _, _, hk, hrun, hshape, (h1 rfl).mono fun c hc => ⟨i, by simp, hc.1⟩⟩
          · simp at hk
      · simp at hk
    · simp at hk
theorem Shape.one {t : Ty} {v : Value} {cs : List Value} (hp : t.plain = true) (h : Shape t v cs) : ShapeT t [v] cs ∧ Shape1 t v cs := by
  cases t <;> first | exact ⟨⟨v, rfl, h⟩, h⟩ | (simp [Ty.plain] at hp)
theorem retsT_sound (hE : EnvOk P E) (h : Inv w0 lent f a w own) : ∀ (vs : List ResultVar) (t : Ty) {K : t.den → List Nat → Option α}, retsT E f vs t K = some out →
    ∃ x ls vals cs, K x ls = some out ∧ (vs.mapM (resRun a.tmps)).run P w = .ok vals w ∧ ShapeT t vals cs ∧ Rep true w t cs x (fun c => ∃ l ∈ ls, Of own w (some l) c) ∧ vals.length = vs.length
  | [], t, K, hk => by cases t <;> simp [retsT] at hk
  | [v], t, K, hk => by
    have hk' : (match t.plain with | true => resVarK E f v t K | false => none) = some out := by cases t <;> exact hk
    split at hk'
    · rename_i hp
      obtain ⟨x, ls, val, cs, hK, hrun, hs, hr⟩ := resVarK_sound hE h hk'
      exact ⟨x, ls, [val], cs, hK, by simp [List.mapM_cons, hrun], (hs.one hp).1, hr, rfl⟩
    · simp at hk'
  | v :: v2 :: r, t, K, hk => by
    cases t with
    | tup p q =>
      simp only [retsT] at hk
      split at hk
      · rename_i hp
        obtain ⟨x, ls, val, cs, hk, hrun, hs, hr⟩ := resVarK_sound hE h hk
        obtain ⟨y, ms, vals, cs2, hk, hrun2, hs2, hr2, hlen⟩ := retsT_sound hE h (v2 :: r) q hk
        split at hk
        · rename_i hdis
          refine ⟨(x, y), ls ++ ms, val :: vals, cs ++ cs2, hk, ?_, ⟨val, vals, cs, cs2, rfl, rfl, (hs.one hp).2, hr.len, hs2⟩, ?_, by simp [hlen]⟩
          · rw [List.mapM_cons]
            simp only [Sem.run_bind, hrun, Result.andThen_ok, hrun2, Sem.run_pure]
          · refine ⟨cs, cs2, _, _, rfl, hr, hr2, fun c ⟨l, hl, hc⟩ => ⟨l, by simp [hl], hc⟩, fun c ⟨l, hl, hc⟩ => ⟨l, by simp [hl], hc⟩, fun _ c ⟨l, hl, hc⟩ ⟨m, hm, hc'⟩ => ?_⟩
            have := hc.1.symm.trans hc'.1; simp at this; subst this
            have := List.all_eq_true.1 hdis l hl
            simp at this
            exact this hm
        · simp at hk
      · simp at hk
    | _ => simp [retsT] at hk
theorem retsK_sound (hE : EnvOk P E) (h : Inv w0 lent f a w own) {fn : Func} {t : Ty} {K : t.den → List Nat → Option α} (hk : retsK E f fn.results.toList t K = some out) :
    ∃ x ls val cs, K x ls = some out ∧ (results fn a.tmps).run P w = .ok val w ∧ Shape t val cs ∧ Rep true w t cs x (fun c => ∃ l ∈ ls, Of own w (some l) c) := by
  have hres : ∀ vals, (fn.results.toList.mapM (resRun a.tmps)).run P w = .ok vals w → (results fn a.tmps).run P w = .ok (if h : vals.toArray.size = 1 then vals.toArray[0] else .tuple vals.toArray) w := by
    intro vals hv
    have : (fn.results.mapM (resRun a.tmps)).run P w = .ok vals.toArray w := by
      rw [Array.mapM_eq_mapM_toList]
      simp only [Sem.run_map, hv, Result.andThen_ok]
    have e : results fn a.tmps = (do let vs ← fn.results.mapM (resRun a.tmps); pure (if h : vs.size = 1 then vs[0] else .tuple vs)) := by
      unfold results
      congr 1
    rw [e]
    simp only [Sem.run_bind, this, Result.andThen_ok, Sem.run_pure]
  generalize hvs : fn.results.toList = vs at hk hres
  match vs, hk with
  | [], hk => simp [retsK] at hk
  | [v], hk =>
    simp only [retsK] at hk
    obtain ⟨x, ls, val, cs, hK, hrun, hs, hr⟩ := resVarK_sound hE h hk
    refine ⟨x, ls, val, cs, hK, ?_, hs, hr⟩
    rw [hres [val] (by simp [List.mapM_cons, hrun])]
    simp
  | v :: v2 :: r, hk =>
    simp only [retsK] at hk
    obtain ⟨x, ls, vals, cs, hK, hrun, hs, hr, hlen⟩ := retsT_sound hE h _ _ hk
    cases t with
    | tup p q =>
      refine ⟨x, ls, .tuple vals.toArray, cs, hK, ?_, ⟨vals, rfl, hs⟩, hr⟩
      rw [hres vals hrun]
      rw [dif_neg (by simp [hlen])]
    | _ => simp [retsT] at hk
theorem initS_spec : ∀ (ts : List Ty) (n : Nat) (xs : Args ts) (vs : List Value) (w : World), ArgsOk w ts vs xs → ts.length ≤ n → vs.length = ts.length ∧ (initS n ts xs).length = n ∧
    ∀ (i : Nat) (s : Slot), (initS n ts xs)[i]? = some s → s = Slot.dead ∨ ∃ t x v, s = Slot.ro none t x ∧ vs[i]? = some v ∧ ∃ cs, Shape t v cs ∧ Rep false w t cs x (fun c => c < w.heap.size)
  | [], n, xs, vs, w, h, _ => by
    simp only [ArgsOk] at h; subst h
    refine ⟨rfl, by simp [initS], fun i s hi => ?_⟩
    simp only [initS, List.getElem?_replicate] at hi
    split at hi <;> simp at hi
    exact .inl hi.symm
  | t :: ts, n, xs, vs, w, h, hn => by
    obtain ⟨v, vr, rfl, hv, h⟩ := h
    simp only [List.length_cons] at hn
    obtain ⟨i1, i2, i3⟩ := initS_spec ts (n - 1) xs.2 vr w h (by omega)
    refine ⟨by simp [i1], by simp [initS, i2]; omega, fun i s hi => ?_⟩
    cases i with
    | zero =>
      simp [initS] at hi
      exact .inr ⟨t, xs.1, v, hi.symm, rfl, hv⟩
    | succ i =>
      simp [initS] at hi
      rcases i3 i s hi with h | ⟨t', x', v', e1, e2, e3⟩
      · exact .inl h
      · exact .inr ⟨t', x', v', e1, by simpa using e2, e3⟩
def noLent : Lent := ⟨fun _ => False, fun _ => none⟩
theorem free_none : ∀ c : Code, FreeC noLent c
  | .region _ _ _ => fun _ _ _ _ => rfl
  | .seq a b => ⟨free_none a, free_none b⟩
  | .cond _ a b => ⟨free_none a, free_none b⟩
  | .block _ c => free_none c
  | .loop c => free_none c
  | .skip | .exit _ | .ret | .rangeFunc .. | .scope .. | .label .. | .goto .. | .refuse .. => trivial
theorem contract_of (hE : EnvOk P E) (hd : ∀ w0 lent, EnvAt P E w0 lent.mem → DrawOk P E w0 lent) {g : Nat} {fn : Func} {c : Code} (hf : P.funcs[g]? = some fn) (hb : fn.body = some c) {sp : FnSpec} (hn : sp.args.length ≤ fn.ntmps)
    (h : ∀ xs r, sp.fn xs = some r → ∃ N ann, LoopsOk N E ann fn.ntmps (retOf E fn sp.res) (loopsOf c) ∧ fnK N E fn sp.args sp.res ann xs = some r) : ContractA P E.amb g sp := by
  intro xs r vs w hr hargs hamb
  have hat : EnvAt P E w noLent.mem := ⟨hE, hamb⟩
  obtain ⟨N, ann, hl, hk⟩ := h xs r hr
  simp only [fnK, hb] at hk
  obtain ⟨i1, i2, i3⟩ := initS_spec sp.args fn.ntmps xs vs w hargs hn
  have hinv : InvP w noLent (initS fn.ntmps sp.args xs) { tmps := vs.toArray ++ Array.replicate (fn.ntmps - vs.toArray.size) undef, defers := [] } w (fun _ => none) := by
    refine ⟨⟨rfl, ?_, fun _ _ => rfl, fun i s hi => ?_, Nat.le_refl _, fun _ _ _ => ⟨rfl, rfl⟩, Calm.refl w⟩, fun i v h => by simp [noLent] at h⟩
    · simp [i2, i1]; omega
    · rcases i3 i s hi with rfl | ⟨t, x, v, rfl, hv, cs, hs, hrep⟩
      · trivial
      · refine ⟨cs, ?_, hrep.mono fun c hc => ⟨rfl, hc⟩⟩
        have : (vs.toArray ++ Array.replicate (fn.ntmps - vs.toArray.size) undef).getD i undef = v := by
          have hlt : i < vs.length := (List.getElem?_eq_some_iff.1 hv).1
          rw [Array.getD_eq_getD_getElem?, Array.getElem?_append_left (by simpa using hlt)]
          simp [hv]
        rw [this]; exact hs
  refine calls_of_wp hf hb ?_
  have fin : ∀ (f : Frame) (a : Act) (w' : World) (own : Own), retOf E fn sp.res f = some r → InvP w noLent f a w' own →
      a.defers = [] ∧ ∃ v, (results fn a.tmps).run P w' = .ok v w' ∧ ∃ v' cs, Ending.returned v = .returned v' ∧ Grow w w' ∧ Shape sp.res v' cs ∧ Rep true w' sp.res cs r (fun c => w.heap.size ≤ c ∧ c < w'.heap.size) := by
    intro f a w' own hk h
    have h := h.base
    obtain ⟨x, ls, val, cs, hK, hrun, hs, hrep⟩ := retsK_sound hE h hk
    simp at hK; subst hK
    refine ⟨h.defers, val, hrun, val, cs, rfl, ⟨h.grow, fun b hb => (h.old b hb id).2, h.calm⟩, hs, hrep.mono fun c ⟨l, _, hc⟩ => ⟨?_, hc.2⟩⟩
    rcases Nat.lt_or_ge c w.heap.size with hlt | hge
    · have := (h.old c hlt id).1
      rw [hc.1] at this; simp at this
    · exact hge
  exact (runK_sound N ann fn.ntmps (retOf E fn sp.res) hat (hd w noLent hat) c).1 (free_none c) _ _ _ _ w _ _ hl i2 hinv hk (fun f a w' own _ hk h => fin f a w' own hk h) (fun _ _ _ _ _ _ hk _ => by simp at hk) (fun f a w' own _ hk h => fin f a w' own hk h)
theorem free_one {S : Nat → Prop} {k : Nat} {v : Value} : ∀ c : Code, noDst k c = true → FreeC ⟨S, fun i => if i = k then some v else none⟩ c
  | .region _ ops _, h => fun o ho d hd => by
    simp only [noDst, List.all_eq_true] at h
    have := h o ho
    rw [hd] at this
    simp only [Bool.not_eq_true'] at this
    simp only
    rw [if_neg]
    rintro rfl
    simp [Nat.beq_refl] at this
  | .seq a b, h => by simp only [noDst, Bool.and_eq_true] at h; exact ⟨free_one a h.1, free_one b h.2⟩
  | .cond _ a b, h => by simp only [noDst, Bool.and_eq_true] at h; exact ⟨free_one a h.1, free_one b h.2⟩
  | .block _ c, h => free_one c h
  | .loop c, h => free_one c h
  | .skip, _ | .exit _, _ | .ret, _ | .rangeFunc .., _ | .scope .., _ | .label .., _ | .goto .., _ | .refuse .., _ => trivial
theorem initS_off {S : Nat → Prop} : ∀ (ts : List Ty) (n : Nat) (xs : Args ts) (vs : List Value) (w : World), ArgsOff w S ts vs xs → ts.length ≤ n → vs.length = ts.length ∧ (initS n ts xs).length = n ∧
    ∀ (i : Nat) (s : Slot), (initS n ts xs)[i]? = some s → s = Slot.dead ∨ ∃ t x v, s = Slot.ro none t x ∧ vs[i]? = some v ∧ ∃ cs, Shape t v cs ∧ Rep false w t cs x (fun c => c < w.heap.size ∧ ¬ S c)
  | [], n, xs, vs, w, h, _ => by
    simp only [ArgsOff] at h; subst h
    refine ⟨rfl, by simp [initS], fun i s hi => ?_⟩
    simp only [initS, List.getElem?_replicate] at hi
    split at hi <;> simp at hi
    exact .inl hi.symm
  | t :: ts, n, xs, vs, w, h, hn => by
    obtain ⟨v, vr, rfl, hv, h⟩ := h
    simp only [List.length_cons] at hn
    obtain ⟨i1, i2, i3⟩ := initS_off ts (n - 1) xs.2 vr w h (by omega)
    refine ⟨by simp [i1], by simp [initS, i2]; omega, fun i s hi => ?_⟩
    cases i with
    | zero =>
      simp [initS] at hi
      exact .inr ⟨t, xs.1, v, hi.symm, rfl, hv⟩
    | succ i =>
      simp [initS] at hi
      rcases i3 i s hi with h | ⟨t', x', v', e1, e2, e3⟩
      · exact .inl h
      · exact .inr ⟨t', x', v', e1, by simpa using e2, e3⟩
theorem initM_off {S : Nat → Prop} {t : Ty} {y : t.den} {vt : Value} : ∀ (k : Nat) (ts : List Ty) (n : Nat) (xs : Args ts) (vs : List Value) (w : World), vs[k]? = some vt → ArgsOff w S ts (vs.eraseIdx k) xs → ts.length + 1 ≤ n → k ≤ ts.length →
    vs.length = ts.length + 1 ∧ (initM n t y k ts xs).length = n ∧ (initM n t y k ts xs)[k]? = some (.own t y) ∧
    ∀ (i : Nat) (s : Slot), (initM n t y k ts xs)[i]? = some s → s = Slot.dead ∨ (i = k ∧ s = .own t y) ∨ (i ≠ k ∧ ∃ t x v, s = Slot.ro none t x ∧ vs[i]? = some v ∧ ∃ cs, Shape t v cs ∧ Rep false w t cs x (fun c => c < w.heap.size ∧ ¬ S c))
  | 0, ts, n, xs, [], w, hv, _, _, _ => by simp at hv
  | 0, ts, n, xs, v :: vs, w, hv, h, hn, _ => by
    simp only [List.eraseIdx_zero, List.tail_cons] at h
    obtain ⟨i1, i2, i3⟩ := initS_off ts (n - 1) xs vs w h (by omega)
    refine ⟨by simp [i1], by simp [initM, i2]; omega, by simp [initM], fun i s hi => ?_⟩
    cases i with
    | zero => simp [initM] at hi; exact .inr (.inl ⟨rfl, hi.symm⟩)
    | succ i =>
      simp only [initM, List.getElem?_cons_succ] at hi
      rcases i3 i s hi with h | ⟨t', x', v', e1, e2, e3⟩
      · exact .inl h
      · exact .inr (.inr ⟨by omega, t', x', v', e1, by simpa using e2, e3⟩)
  | k + 1, [], n, xs, vs, w, _, _, _, hk => by simp at hk
  | k + 1, t0 :: ts, n, xs, [], w, hv, _, _, _ => by simp at hv
  | k + 1, t0 :: ts, n, xs, v :: vs, w, hv, h, hn, hk => by
    simp only [List.eraseIdx_cons_succ] at h
    obtain ⟨v', vr, e, hv', h⟩ := h
    simp only [List.cons.injEq] at e
    obtain ⟨rfl, rfl⟩ := e
    simp only [List.length_cons] at hn hk
    obtain ⟨i1, i2, i4, i3⟩ := initM_off k ts (n - 1) xs.2 vs w (by simpa using hv) h (by omega) (by omega)
    refine ⟨by simp [i1], by show ((Slot.ro none t0 xs.1) :: initM (n - 1) t y k ts xs.2).length = n; rw [List.length_cons, i2]; omega, by simpa [initM] using i4, fun i s hi => ?_⟩
    cases i with
    | zero => simp [initM] at hi; exact .inr (.inr ⟨by omega, t0, xs.1, v, hi.symm, rfl, hv'⟩)
    | succ i =>
      simp only [initM, List.getElem?_cons_succ] at hi
      rcases i3 i s hi with h | ⟨h, e⟩ | ⟨h, t', x', v', e1, e2, e3⟩
      · exact .inl h
      · exact .inr (.inl ⟨by omega, e⟩)
      · exact .inr (.inr ⟨by omega, t', x', v', e1, by simpa using e2, e3⟩)
theorem results_none {fn : Func} (h : fn.results.toList = []) {tmps : Array Value} {w : World} : ∃ v, (results fn tmps).run P w = .ok v w := by
  have e : fn.results = #[] := by cases hr : fn.results; rw [hr] at h; simp at h; simp [h]
  refine ⟨.tuple #[], ?_⟩
  unfold results
  rw [e]
  simp
theorem resM_some {fn : Func} {f : Frame} {r : Option Ty} {K : resDen r → Option α} (hE : EnvOk P E) {lent : Nat → Prop} {w0 : World} {a : Act} {w : World} {own : Own} (h : Inv w0 lent f a w own) (hk : resM E fn f r K = some out) :
    ∃ x v, K x = some out ∧ (results fn a.tmps).run P w = .ok v w ∧ ResOk w r v x := by
  cases r with
  | some t =>
    simp only [resM] at hk
    split at hk
    · obtain ⟨x, ls, val, cs, hK, hrun, hs, hrep⟩ := retsK_sound hE h hk
      exact ⟨x, val, hK, hrun, cs, hs, hrep.weak.mono fun _ _ => trivial⟩
    · simp at hk
  | none =>
    simp only [resM] at hk
    split at hk
    · rename_i hr
      obtain ⟨v, hv⟩ := results_none (P := P) hr (tmps := a.tmps) (w := w)
      exact ⟨(), v, hk, hv, trivial⟩
    · simp at hk
theorem mutC_of (hE : EnvOk P E) (ha : E.amb = none) (hd : ∀ w0 lent, EnvAt P E w0 lent.mem → DrawOk P E w0 lent) {g : Nat} {fn : Func} {c : Code} (hf : P.funcs[g]? = some fn) (hb : fn.body = some c) {ms : MutSpec} (hn : ms.rest.length + 1 ≤ fn.ntmps) (hpos : ms.pos ≤ ms.rest.length) (hnd : noDst ms.pos c = true)
    (h : ∀ y xs r, ms.fn y xs = some r → ∃ N ann, LoopsOk N E ann fn.ntmps (retM E fn ms) (loopsOf c) ∧ fnMut N E fn ms ann y xs = some r) : MutC P g ms := by
  classical
  intro y xs z r vs vt cs S w hr hvt hargs hsh hrep hS
  have hat : EnvAt P E w S := ⟨hE, fun b r e => by rw [ha] at e; simp at e⟩
  obtain ⟨N, ann, hl, hk⟩ := h y xs (z, r) hr
  simp only [fnMut, hb] at hk
  obtain ⟨i1, i2, i4, i3⟩ := initM_off (S := S) (t := ms.t) (y := y) ms.pos ms.rest fn.ntmps xs vs w hvt hargs hn hpos
  have hget : ∀ (i : Nat) (v : Value), vs[i]? = some v → (vs.toArray ++ Array.replicate (fn.ntmps - vs.toArray.size) undef).getD i undef = v := by
    intro i v hv
    have hlt : i < vs.length := (List.getElem?_eq_some_iff.1 hv).1
    rw [Array.getD_eq_getD_getElem?, Array.getElem?_append_left (by simpa using hlt)]
    simp [hv]
  have hinv : InvP w ⟨S, fun i => if i = ms.pos then some vt else none⟩ (initM fn.ntmps ms.t y ms.pos ms.rest xs) { tmps := vs.toArray ++ Array.replicate (fn.ntmps - vs.toArray.size) undef, defers := [] } w (fun b => if S b then some ms.pos else none) := by
    refine ⟨⟨rfl, ?_, fun b hb => ?_, fun i s hi => ?_, Nat.le_refl _, fun b _ hb => ⟨if_neg hb, rfl⟩, Calm.refl w⟩, fun i v h => ?_⟩
    · simp [i2, i1]; omega
    · rw [if_neg]; intro h; have := hS b h; omega
    · rcases i3 i s hi with rfl | ⟨rfl, rfl⟩ | ⟨_, t, x, v, rfl, hv, cs, hs, hrep⟩
      · trivial
      · refine ⟨cs, ?_, hrep.mono fun c hc => ⟨if_pos hc, hS c hc⟩⟩
        simp only
        rw [hget _ _ hvt]; exact hsh
      · refine ⟨cs, ?_, hrep.mono fun c hc => ⟨if_neg hc.2, hc.1⟩⟩
        simp only
        rw [hget _ _ hv]; exact hs
    · simp only at h
      split at h
      · rename_i e; subst e
        simp only [Option.some.injEq] at h; subst h
        exact hget _ _ hvt
      · simp at h
  refine calls_of_wp hf hb ?_
  have fin : ∀ (f : Frame) (a : Act) (w' : World) (own : Own), retM E fn ms f = some (z, r) → InvP w ⟨S, fun i => if i = ms.pos then some vt else none⟩ f a w' own →
      a.defers = [] ∧ ∃ v, (results fn a.tmps).run P w' = .ok v w' ∧ ∃ v' S', Ending.returned v = .returned v' ∧ w.heap.size ≤ w'.heap.size ∧ Calm w w' ∧ (∀ b, b < w.heap.size → ¬ S b → w'.heap[b]? = w.heap[b]?) ∧ Rep true w' ms.t cs z S' ∧
        (∀ c, S' c → S c ∨ (w.heap.size ≤ c ∧ c < w'.heap.size)) ∧ ResOk w' ms.res v' r := by
    intro f a w' own hk h
    unfold retM at hk
    split at hk
    · rename_i t y' hfp
      obtain ⟨e, hk⟩ := castK_some hk
      subst e
      obtain ⟨x, v, hK, hrun, hres⟩ := resM_some hE h.base hk
      simp only [Option.some.injEq, Prod.mk.injEq] at hK
      obtain ⟨e1, e2⟩ := hK
      subst e2; subst e1
      obtain ⟨cs', hs', hr'⟩ := h.base.slots _ _ hfp
      rw [h.pin ms.pos vt (by simp)] at hs'
      have ecs := hs'.uniq hsh
      subst ecs
      refine ⟨h.base.defers, v, hrun, v, _, rfl, h.base.grow, h.base.calm, fun b hb hnb => (h.base.old b hb hnb).2, hr', fun c hc => ?_, hres⟩
      by_cases hSc : S c
      · exact .inl hSc
      · right
        refine ⟨?_, hc.2⟩
        rcases Nat.lt_or_ge c w.heap.size with hlt | hge
        · have := (h.base.old c hlt hSc).1
          rw [hc.1] at this; simp at this
        · exact hge
    · simp at hk
  exact (runK_sound N ann fn.ntmps (retM E fn ms) hat (hd w ⟨S, _⟩ hat) c).1 (free_one c hnd) _ _ _ _ w _ _ hl i2 hinv hk (fun f a w' own _ hk h => fin f a w' own hk h) (fun _ _ _ _ _ _ hk _ => by simp at hk) (fun f a w' own _ hk h => fin f a w' own hk h)
def retC (E : Env) (fn : Func) (cs : CurSpec) (f : Frame) : Option (Option (Value × Int × Int) × cs.res.den) := match f[0]? with
  | some (Slot.own Ty.cur y) => retsK E f fn.results.toList cs.res fun x ls => match ls.contains 0 with
    | true => none
    | false => some (y, x)
  | _ => none
noncomputable def fnCur (N : Nat) (E : Env) (fn : Func) (cs : CurSpec) (ann : List (Nat × Loop (Option (Value × Int × Int) × cs.res.den))) (y : Option (Value × Int × Int)) (xs : Args cs.rest) : Option (Option (Value × Int × Int) × cs.res.den) :=
  match fn.body with
  | some c => runK N E ann fn.ntmps (retC E fn cs) c (initM fn.ntmps .cur y 0 cs.rest xs) (fun _ _ => none) (retC E fn cs)
  | none => none
theorem curC_of (hE : EnvOk P E) (hd : ∀ w0 lent, EnvAt P E w0 lent.mem → DrawOk P E w0 lent) {g : Nat} {fn : Func} {c : Code} (hf : P.funcs[g]? = some fn) (hb : fn.body = some c) {cs : CurSpec} (hn : cs.rest.length + 1 ≤ fn.ntmps) (hnd : noDst 0 c = true)
    (h : ∀ y xs r, cs.fn y xs = some r → ∃ N ann, LoopsOk N E ann fn.ntmps (retC E fn cs) (loopsOf c) ∧ fnCur N E fn cs ann y xs = some r) : CurC P E.amb g cs := by
  classical
  suffices key : ∀ (y : Option (Value × Int × Int)) (xs : Args cs.rest) (z : Option (Value × Int × Int)) (r : cs.res.den) (vt : Value) (vs : List Value) (S : Nat → Prop) (w : World), cs.fn y xs = some (z, r) →
      ArgsOff w S cs.rest vs xs → CurOk w [vt] y S → (∀ c, S c → c < w.heap.size) → AmbOk E.amb w S → (∀ c, S c → vt = .pointer (some ⟨c, 0, none⟩)) →
      Calls P g (vt :: vs).toArray w fun e w' => ∃ v c, e = .returned v ∧ w.heap.size ≤ w'.heap.size ∧ Calm w w' ∧ (∀ b, b < w.heap.size → ¬ S b → w'.heap[b]? = w.heap[b]?) ∧ CurOk w' [vt] z S ∧
        Shape cs.res v c ∧ Rep true w' cs.res c r (fun c => w.heap.size ≤ c ∧ c < w'.heap.size) by
    intro y xs z r vt vs S w hr hargs hcur hS hamb
    have hsub : ∀ c, (S c ∧ vt = .pointer (some ⟨c, 0, none⟩)) → S c := fun c h => h.1
    have hcur' : CurOk w [vt] y (fun c => S c ∧ vt = .pointer (some ⟨c, 0, none⟩)) := by
      rcases y with _ | ⟨v, i, k⟩
      · exact hcur
      · obtain ⟨b, Eb, e, hh, hb⟩ := hcur
        exact ⟨b, Eb, e, hh, hb, by simpa using e⟩
    refine (key y xs z r vt vs (fun c => S c ∧ vt = .pointer (some ⟨c, 0, none⟩)) w hr (hargs.sub hsub) hcur' (fun c h => hS c h.1) (fun b r e => ⟨(hamb b r e).1, fun h => (hamb b r e).2 h.1⟩) (fun c h => h.2)).mono ?_
    rintro e w' ⟨v, c, e1, e2, e3, e4, e5, e6, e7⟩
    exact ⟨v, c, e1, e2, e3, fun b hb hn => e4 b hb fun h => hn h.1, CurOk.mono hsub e5, e6, e7⟩
  intro y xs z r vt vs S w hr hargs hcur hS hamb hone
  have hat : EnvAt P E w S := ⟨hE, hamb⟩
  obtain ⟨N, ann, hl, hk⟩ := h y xs (z, r) hr
  simp only [fnCur, hb] at hk
  obtain ⟨i1, i2, i4, i3⟩ := initM_off (S := S) (t := .cur) (y := y) (vt := vt) 0 cs.rest fn.ntmps xs (vt :: vs) w rfl (by simpa using hargs) hn (by omega)
  have hget : ∀ (i : Nat) (v : Value), (vt :: vs)[i]? = some v → ((vt :: vs).toArray ++ Array.replicate (fn.ntmps - (vt :: vs).toArray.size) undef).getD i undef = v := by
    intro i v hv
    have hlt : i < (vt :: vs).length := (List.getElem?_eq_some_iff.1 hv).1
    rw [Array.getD_eq_getD_getElem?, Array.getElem?_append_left (by simpa using hlt)]
    rw [List.getElem?_toArray, hv]; rfl
  have hinv : InvP w ⟨S, fun i => if i = 0 then some vt else none⟩ (initM fn.ntmps .cur y 0 cs.rest xs) { tmps := (vt :: vs).toArray ++ Array.replicate (fn.ntmps - (vt :: vs).toArray.size) undef, defers := [] } w (fun b => if S b then some 0 else none) := by
    refine ⟨⟨rfl, ?_, fun b hb => ?_, fun i s hi => ?_, Nat.le_refl _, fun b _ hb => ⟨if_neg hb, rfl⟩, Calm.refl w⟩, fun i v h => ?_⟩
    · rw [i2]
      simp only [Array.size_append, Array.size_replicate, List.size_toArray, i1]
      omega
    · rw [if_neg]; intro h; have := hS b h; omega
    · rcases i3 i s hi with rfl | ⟨rfl, rfl⟩ | ⟨_, t, x, v, rfl, hv, cs, hs, hrep⟩
      · trivial
      · refine ⟨[vt], ?_, CurOk.mono (fun c hc => ⟨if_pos hc, hS c hc⟩) hcur⟩
        simp only
        rw [hget 0 vt rfl]; exact rfl
      · refine ⟨cs, ?_, hrep.mono fun c hc => ⟨if_neg hc.2, hc.1⟩⟩
        simp only
        rw [hget _ _ hv]; exact hs
    · simp only at h
      split at h
      · rename_i e; subst e
        simp only [Option.some.injEq] at h; subst h
        exact hget 0 _ rfl
      · simp at h
  refine calls_of_wp hf hb ?_
  have fin : ∀ (f : Frame) (a : Act) (w' : World) (own : Own), retC E fn cs f = some (z, r) → InvP w ⟨S, fun i => if i = 0 then some vt else none⟩ f a w' own →
      a.defers = [] ∧ ∃ v, (results fn a.tmps).run P w' = .ok v w' ∧ ∃ v' c, Ending.returned v = .returned v' ∧ w.heap.size ≤ w'.heap.size ∧ Calm w w' ∧ (∀ b, b < w.heap.size → ¬ S b → w'.heap[b]? = w.heap[b]?) ∧ CurOk w' [vt] z S ∧
        Shape cs.res v' c ∧ Rep true w' cs.res c r (fun c => w.heap.size ≤ c ∧ c < w'.heap.size) := by
    intro f a w' own hk h
    unfold retC at hk
    split at hk
    · rename_i y' hfp
      obtain ⟨x, ls, val, c, hK, hrun, hs, hrep⟩ := retsK_sound hE h.base hk
      split at hK
      · simp at hK
      · rename_i h0
        simp only [Option.some.injEq] at hK
        obtain ⟨rfl, rfl⟩ := hK
        obtain ⟨cs', hs', hr'⟩ := h.base.slots _ _ hfp
        rw [h.pin 0 vt (by simp)] at hs'
        simp only [Shape, Shape1] at hs'
        subst hs'
        have hout : ∀ c, Of own w' (some 0) c → ¬ S c → w.heap.size ≤ c := by
          intro c hc hSc
          rcases Nat.lt_or_ge c w.heap.size with hlt | hge
          · have := (h.base.old c hlt hSc).1
            rw [hc.1] at this; simp at this
          · exact hge
        refine ⟨h.base.defers, val, hrun, val, c, rfl, h.base.grow, h.base.calm, fun b hb hnb => (h.base.old b hb hnb).2, ?_, hs, hrep.mono fun b ⟨l, hl, hb⟩ => ⟨?_, hb.2⟩⟩
        · -- the cursor's block is the one that was lent
          rcases z with _ | ⟨v', i', k'⟩
          · exact hr'
          · obtain ⟨b, Eb, e, hh, hb⟩ := hr'
            refine ⟨b, Eb, e, hh, ?_⟩
            have hy : ∃ v i k, y = some (v, i, k) := by
              rcases y with _ | ⟨v, i, k⟩
              · simp only [CurOk] at hcur; rw [e] at hcur; simp at hcur
              · exact ⟨v, i, k, rfl⟩
            obtain ⟨v, i, k, rfl⟩ := hy
            obtain ⟨b0, E0, e0, _, hS0⟩ := hcur
            rw [e] at e0; simp at e0; exact e0 ▸ hS0
        · rcases Nat.lt_or_ge b w.heap.size with hlt | hge
          · by_cases hSb : S b
            · exfalso
              have hv := hone b hSb
              rcases z with _ | ⟨v', i', k'⟩
              · have hr' : [vt] = [Value.pointer none] := hr'
                rw [hv] at hr'; simp at hr'
              · obtain ⟨b', Eb, e, hh, hb'⟩ := hr'
                rw [hv] at e; simp at e; subst e
                have := hb'.1.symm.trans hb.1
                simp only [Option.some.injEq] at this
                subst this
                simp at h0; exact h0 hl
            · have := (h.base.old b hlt hSb).1
              rw [hb.1] at this; simp at this
          · exact hge
    · simp at hk
  exact (runK_sound N ann fn.ntmps (retC E fn cs) hat (hd w ⟨S, _⟩ hat) c).1 (free_one c hnd) _ _ _ _ w _ _ hl i2 hinv hk (fun f a w' own _ hk h => fin f a w' own hk h) (fun _ _ _ _ _ _ hk _ => by simp at hk) (fun f a w' own _ hk h => fin f a w' own hk h)
end Go.Sx
namespace Go.Sx
variable {α β : Type} {f f' : Frame} {E : Env} {g : α → Option β}
theorem valK_push {o : Operand} {K : (t : Ty) → t.den → Option α} {K' : (t : Ty) → t.den → Option β} (h : ∀ t x, (K t x).bind g = K' t x) : (valK f o K).bind g = valK f o K' := by
  unfold valK; repeat' split
  all_goals first | rfl | exact h _ _
theorem castK_push {t t' : Ty} {x : t.den} {K : t'.den → Option α} {K' : t'.den → Option β} (h : ∀ x, (K x).bind g = K' x) : (castK t t' x K).bind g = castK t t' x K' := by
  unfold castK; split
  · exact h _
  · rfl
theorem intK_push {o : Operand} {K : IntKind → Int → Option α} {K' : IntKind → Int → Option β} (h : ∀ t x, (K t x).bind g = K' t x) : (intK f o K).bind g = intK f o K' := by
  unfold intK; exact valK_push fun t x => by cases t <;> first | rfl | exact h _ _
theorem boolK_push {o : Operand} {K : Bool → Option α} {K' : Bool → Option β} (h : ∀ x, (K x).bind g = K' x) : (boolK f o K).bind g = boolK f o K' := by
  unfold boolK; exact valK_push fun t x => by cases t <;> first | rfl | exact h _
theorem sliceK_push {o : Operand} {K : (t : Ty) → List t.den → Option α} {K' : (t : Ty) → List t.den → Option β} (h : ∀ t x, (K t x).bind g = K' t x) : (sliceK f o K).bind g = sliceK f o K' := by
  unfold sliceK; exact valK_push fun t x => by cases t <;> first | rfl | exact h _ _
theorem stayK_push {o : Operand} {K : (t : Ty) → t.den → Option α} {K' : (t : Ty) → t.den → Option β} (h : ∀ t x, (K t x).bind g = K' t x) : (stayK f o K).bind g = stayK f o K' := by
  unfold stayK; repeat' split
  all_goals first | rfl | exact h _ _
theorem room_push {n : Nat} {k : Option α} {k' : Option β} (h : k.bind g = k') : (room n k).bind g = room n k' := by
  unfold room; split
  · exact h
  · rfl
theorem fieldK_push : ∀ (t : Ty) (x : t.den) (k : Nat) {K : (p : Path) → (t' : Ty) → t'.den → (t'.den → t.den) → Option α} {K' : (p : Path) → (t' : Ty) → t'.den → (t'.den → t.den) → Option β},
    (∀ p t' y u, (K p t' y u).bind g = K' p t' y u) → (fieldK t x k K).bind g = fieldK t x k K' := by
  intro t
  induction t with
  | pair a b _ ihb =>
    intro x k K K' h
    cases k with
    | zero => exact h _ _ _ _
    | succ k =>
      cases b with
      | pair c d => exact ihb x.2 k fun p t' y u => h _ _ _ _
      | tup _ _ => cases k <;> rfl
      | _ => cases k <;> first | rfl | exact h _ _ _ _
  | _ => intro x k K K' h; cases k <;> rfl
theorem compK_push : ∀ (t : Ty) (x : t.den) (k : Nat) {K : (p : Path) → (t' : Ty) → t'.den → (t'.den → t.den) → Option α} {K' : (p : Path) → (t' : Ty) → t'.den → (t'.den → t.den) → Option β},
    (∀ p t' y u, (K p t' y u).bind g = K' p t' y u) → (compK t x k K).bind g = compK t x k K' := by
  intro t
  induction t with
  | tup a b _ ihb =>
    intro x k K K' h
    cases k with
    | zero => exact h _ _ _ _
    | succ k =>
      cases b with
      | tup c d => exact ihb x.2 k fun p t' y u => h _ _ _ _
      | _ => cases k <;> first | rfl | exact h _ _ _ _
  | _ => intro x k K K' h; cases k <;> rfl
theorem numBin_push {op : BinOp} {k : IntKind} {x y : Int} {K : (t : Ty) → t.den → Option α} {K' : (t : Ty) → t.den → Option β} (h : ∀ t x, (K t x).bind g = K' t x) : (numBin op k x y K).bind g = numBin op k x y K' := by
  unfold numBin; repeat' split
  all_goals first | rfl | exact h _ _
theorem shiftBin_push {op : BinOp} {k : IntKind} {x y : Int} {K : (t : Ty) → t.den → Option α} {K' : (t : Ty) → t.den → Option β} (h : ∀ t x, (K t x).bind g = K' t x) : (shiftBin op k x y K).bind g = shiftBin op k x y K' := by
  unfold shiftBin; repeat' split
  all_goals first | rfl | exact h _ _
theorem binK_push {op : BinOp} {x y : Operand} {K : (t : Ty) → t.den → Option α} {K' : (t : Ty) → t.den → Option β} (h : ∀ t x, (K t x).bind g = K' t x) : (binK f op x y K).bind g = binK f op x y K' := by
  unfold binK
  refine intK_push fun k a => intK_push fun k' b => ?_
  repeat' split
  all_goals first | rfl | exact shiftBin_push h | exact numBin_push h
theorem binB_push {op : BinOp} {x y : Operand} {K : Bool → Option α} {K' : Bool → Option β} (h : ∀ x, (K x).bind g = K' x) : (binB f op x y K).bind g = binB f op x y K' := by
  unfold binB
  refine boolK_push fun a => boolK_push fun b => ?_
  split <;> first | rfl | exact h _
theorem eqK_push {op : BinOp} {T : Ty} {x y : Operand} {K : Bool → Option α} {K' : Bool → Option β} (h : ∀ x, (K x).bind g = K' x) : (eqK f op T x y K).bind g = eqK f op T x y K' := by
  unfold eqK
  refine valK_push fun t a => castK_push fun a => valK_push fun t' b => castK_push fun b => ?_
  repeat' split
  all_goals first | rfl | exact h _
theorem partK_push {parts : List (Nat × Operand)} {t : Ty} {k : Nat} {K : t.den → Option α} {K' : t.den → Option β} (h : ∀ x, (K x).bind g = K' x) : (partK f parts t k K).bind g = partK f parts t k K' := by
  unfold partK
  split
  · exact valK_push fun t x => castK_push h
  · exact h _
  · rfl
theorem buildK_push {parts : List (Nat × Operand)} : ∀ (t : Ty) (k : Nat) {K : t.den → Option α} {K' : t.den → Option β}, (∀ x, (K x).bind g = K' x) → (buildK f parts t k K).bind g = buildK f parts t k K' := by
  intro t
  induction t with
  | pair a b _ ihb =>
    intro k K K' h
    cases b with
    | pair c d => exact partK_push fun x => ihb (k + 1) fun z => h _
    | tup _ _ => rfl
    | fn _ => rfl
    | raw => rfl
    | cur => rfl
    | _ => exact partK_push fun x => partK_push fun z => h _
  | _ => intro k K K' h; rfl
theorem listK_push {t : Ty} : ∀ (l : List (Nat × Operand)) (k : Nat) {K : List t.den → Option α} {K' : List t.den → Option β}, (∀ x, (K x).bind g = K' x) → (listK f t l k K).bind g = listK f t l k K'
  | [], _, _, _, h => h _
  | (j, o) :: r, k, K, K', h => by
    simp only [listK]
    split
    · exact valK_push fun t x => castK_push fun x => listK_push r (k + 1) fun xs => h _
    · rfl
theorem argsK_push : ∀ (ts : List Ty) (os : List Operand) {K : Args ts → Option α} {K' : Args ts → Option β}, (∀ x, (K x).bind g = K' x) → (argsK f ts os K).bind g = argsK f ts os K'
  | [], [], _, _, h => h _
  | t :: ts, o :: os, K, K', h => by
    simp only [argsK]
    exact valK_push fun t x => castK_push fun x => argsK_push ts os fun xs => h _
  | [], _ :: _, _, _, _ => rfl
  | _ :: _, [], _, _, _ => rfl
theorem boundK_push {o : Option Operand} {z : Int} {K : Int → Option α} {K' : Int → Option β} (h : ∀ x, (K x).bind g = K' x) : (boundK f o z K).bind g = boundK f o z K' := by
  unfold boundK
  split
  · exact h _
  · exact intK_push fun _ n => h n
theorem ptrS_push {o : Operand} {T : Ty → Bool} {K : Slot → Option α} {K' : Slot → Option β} (h : ∀ x, (K x).bind g = K' x) : (ptrS f o T K).bind g = ptrS f o T K' := by
  unfold ptrS; repeat' split
  all_goals first | rfl | exact h _
theorem fieldS_push {s : Slot} {k : Nat} {K : Slot → Option α} {K' : Slot → Option β} (h : ∀ x, (K x).bind g = K' x) : (fieldS s k K).bind g = fieldS s k K' := by
  unfold fieldS
  split
  · exact fieldK_push _ _ _ fun p t' y u => h _
  · exact fieldK_push _ _ _ fun p t' y u => h _
  · rfl
theorem getI_push {δ : Type} {xs : List δ} {i : Int} {K : δ → Option α} {K' : δ → Option β} (h : ∀ x, (K x).bind g = K' x) : ((getI xs i).bind K).bind g = (getI xs i).bind K' := by
  cases getI xs i with
  | none => rfl
  | some x => exact h x
theorem elemS_push {e : Ty} {s : Slot} {i : Int} {K : Slot → Option α} {K' : Slot → Option β} (h : ∀ x, (K x).bind g = K' x) : (elemS e s i K).bind g = elemS e s i K' := by
  unfold elemS; repeat' split
  all_goals first | rfl | exact getI_push fun y => h _
theorem ifT_push {b : Bool} {k : Option α} {k' : Option β} (h : k.bind g = k') : (ifT b k).bind g = ifT b k' := by
  cases b
  · rfl
  · exact h
theorem cutS_push {e : Ty} {s : Slot} {lo hi : Option Operand} {K : Slot → Option α} {K' : Slot → Option β} (h : ∀ x, (K x).bind g = K' x) : (cutS e f s lo hi K).bind g = cutS e f s lo hi K' := by
  unfold cutS; repeat' split
  all_goals first
    | rfl
    | exact boundK_push fun h' => boundK_push fun l => ifT_push (ifT_push (ifT_push (h _)))
theorem loadS_push {s : Slot} {K : Slot → Option α} {K' : Slot → Option β} (h : ∀ x, (K x).bind g = K' x) : (loadS s K).bind g = loadS s K' := by
  unfold loadS; repeat' split
  all_goals first | rfl | exact h _
theorem appendK_push {base : Operand} {t : Ty} {ys : List t.den} {dy : List Nat} {K : Slot → List Nat → Option α} {K' : Slot → List Nat → Option β} (h : ∀ s ls, (K s ls).bind g = K' s ls) : (appendK f base t ys dy K).bind g = appendK f base t ys dy K' := by
  unfold appendK
  repeat' (first | rfl | exact h _ _ | refine castK_push fun x => ?_ | refine room_push ?_ | split)
theorem takeR_push {i : Nat} {K : Slot → List Nat → Option α} {K' : Slot → List Nat → Option β} (h : ∀ s ls, (K s ls).bind g = K' s ls) : ∀ (r : Option Ty) (v : resDen r), (takeR i r v K).bind g = takeR i r v K'
  | some _, _ => h _ _
  | none, _ => rfl
theorem takeK_push {ms : MutSpec} {os : List Operand} {K : Slot → List Nat → Option α} {K' : Slot → List Nat → Option β} (h : ∀ s ls, (K s ls).bind g = K' s ls) : (takeK f ms os K).bind g = takeK f ms os K' := by
  unfold takeK
  split
  · split
    · split
      · split
        · refine argsK_push _ _ fun xs => ?_
          rw [Option.bind_assoc]
          exact congrArg _ (funext fun r => takeR_push h _ _)
        · rfl
      · rfl
    · rfl
  · rfl
theorem rawK_push {x : Operand} {K : Value → Option α} {K' : Value → Option β} (h : ∀ v, (K v).bind g = K' v) : (rawK f x K).bind g = rawK f x K' := by
  unfold rawK
  refine valK_push fun t x => ?_
  cases t <;> first | rfl | exact h _
attribute [local irreducible] rawK takeK valK intK boolK sliceK stayK castK room ifT fieldK compK numBin shiftBin binK binB eqK partK buildK listK argsK boundK ptrS fieldS elemS cutS loadS appendK
set_option maxHeartbeats 2000000 in
theorem opK_push {o : Oper} {K : Slot → List Nat → Option α} {K' : Slot → List Nat → Option β} (h : ∀ s ls, (K s ls).bind g = K' s ls) : (opK E f o K).bind g = opK E f o K' := by
  obtain ⟨dst, op, T, pos, aft, gd⟩ := o
  cases op <;> simp only [opK]
  all_goals repeat' (first
    | rfl
    | exact h _ _
    | (refine ifT_push ?_; try dsimp only)
    | (refine takeK_push fun s ls => ?_; try dsimp only)
    | (refine appendK_push fun s ls => ?_; try dsimp only)
    | (refine binK_push fun t x => ?_; try dsimp only)
    | (refine binB_push fun x => ?_; try dsimp only)
    | (refine eqK_push fun x => ?_; try dsimp only)
    | (refine cutS_push fun x => ?_; try dsimp only)
    | (refine elemS_push fun x => ?_; try dsimp only)
    | (refine fieldS_push fun x => ?_; try dsimp only)
    | (refine loadS_push fun x => ?_; try dsimp only)
    | (refine ptrS_push fun x => ?_; try dsimp only)
    | (refine listK_push _ _ fun x => ?_; try dsimp only)
    | (refine buildK_push _ _ fun x => ?_; try dsimp only)
    | (refine argsK_push _ _ fun xs => ?_; try dsimp only)
    | (refine compK_push _ _ _ fun p t y u => ?_; try dsimp only)
    | (refine stayK_push fun t x => ?_; try dsimp only)
    | (refine sliceK_push fun t x => ?_; try dsimp only)
    | (refine rawK_push fun x => ?_; try dsimp only)
    | (refine intK_push fun k x => ?_; try dsimp only)
    | (refine boolK_push fun x => ?_; try dsimp only)
    | (refine castK_push fun x => ?_; try dsimp only)
    | (refine valK_push fun t x => ?_; try dsimp only)
    | (refine room_push ?_; try dsimp only)
    | (rw [Option.bind_assoc]; refine congrArg _ (funext fun r => ?_))
    | split)
end Go.Sx
namespace Go.Sx
variable {α β : Type} {f f' : Frame} {E : Env}
def Same (f f' : Frame) (x : Operand) : Prop := ∀ i, x = .tmp i → f'[i]? = f[i]?
theorem copyS_same {x : Operand} (h : Same f f' x) : copyS f' x = copyS f x := by
  unfold copyS; cases x with
  | tmp i => simp only [h i rfl]
  | const v => cases v <;> rfl
  | _ => rfl
theorem valK_same {x : Operand} {K : (t : Ty) → t.den → Option α} (h : Same f f' x) : valK f' x K = valK f x K := by
  unfold valK; cases x with
  | tmp i => simp only [h i rfl]
  | const v => cases v <;> rfl
  | _ => rfl
theorem intK_same {x : Operand} {K : IntKind → Int → Option α} (h : Same f f' x) : intK f' x K = intK f x K := valK_same h
theorem boolK_same {x : Operand} {K : Bool → Option α} (h : Same f f' x) : boolK f' x K = boolK f x K := valK_same h
theorem sliceK_same {x : Operand} {K : (t : Ty) → List t.den → Option α} (h : Same f f' x) : sliceK f' x K = sliceK f x K := valK_same h
theorem rawK_same {x : Operand} {K : Value → Option α} (h : Same f f' x) : rawK f' x K = rawK f x K := valK_same h
theorem stayK_same {x : Operand} {K : (t : Ty) → t.den → Option α} (h : Same f f' x) : stayK f' x K = stayK f x K := by
  unfold stayK; cases x with
  | tmp i => simp only [h i rfl]
  | const v => cases v <;> rfl
  | _ => rfl
theorem kindOf_same {x : Operand} (h : Same f f' x) : kindOf f' x = kindOf f x := by
  unfold kindOf; cases x with
  | tmp i => simp only [h i rfl]
  | const v => cases v <;> rfl
  | _ => rfl
theorem ptrS_same {x : Operand} {T : Ty → Bool} {K : Slot → Option α} (h : Same f f' x) : ptrS f' x T K = ptrS f x T K := by
  unfold ptrS; rw [copyS_same h]
theorem binK_same {op : BinOp} {x y : Operand} {K : (t : Ty) → t.den → Option α} (hx : Same f f' x) (hy : Same f f' y) : binK f' op x y K = binK f op x y K := by
  unfold binK; simp only [intK_same hx, intK_same hy]
theorem binB_same {op : BinOp} {x y : Operand} {K : Bool → Option α} (hx : Same f f' x) (hy : Same f f' y) : binB f' op x y K = binB f op x y K := by
  unfold binB; simp only [boolK_same hx, boolK_same hy]
theorem eqK_same {op : BinOp} {T : Ty} {x y : Operand} {K : Bool → Option α} (hx : Same f f' x) (hy : Same f f' y) : eqK f' op T x y K = eqK f op T x y K := by
  unfold eqK; simp only [valK_same hx, valK_same hy]
theorem boundK_same {o : Option Operand} {z : Int} {K : Int → Option α} (h : ∀ x, o = some x → Same f f' x) : boundK f' o z K = boundK f o z K := by
  unfold boundK; cases o with
  | none => rfl
  | some x => exact intK_same (h x rfl)
theorem cutS_same {e : Ty} {s : Slot} {lo hi : Option Operand} {K : Slot → Option α} (hl : ∀ x, lo = some x → Same f f' x) (hh : ∀ x, hi = some x → Same f f' x) : cutS e f' s lo hi K = cutS e f s lo hi K := by
  unfold cutS; simp only [boundK_same hl, boundK_same hh]
theorem appendK_same {base : Operand} {t : Ty} {ys : List t.den} {dy : List Nat} {K : Slot → List Nat → Option α} (h : Same f f' base) : appendK f' base t ys dy K = appendK f base t ys dy K := by
  unfold appendK; cases base with
  | tmp i => simp only [h i rfl]
  | _ => rfl
theorem look_mem {γ : Type} : ∀ {l : List (Nat × γ)} {k : Nat} {x : γ}, look l k = some x → ∃ j, (j, x) ∈ l
  | [], _, _, h => by simp [look] at h
  | (j, y) :: r, k, x, h => by
    simp only [look] at h
    split at h
    · simp at h; subst h; exact ⟨j, by simp⟩
    · obtain ⟨j', h'⟩ := look_mem h; exact ⟨j', by simp [h']⟩
theorem kindAt_same {parts : List (Nat × Operand)} {k : Nat} (h : ∀ p ∈ parts, Same f f' p.2) : kindAt f' parts k = kindAt f parts k := by
  unfold kindAt
  cases hl : look parts k with
  | none => rfl
  | some o => obtain ⟨j, hj⟩ := look_mem hl; exact kindOf_same (h _ hj)
theorem kindT_same {parts : List (Nat × Operand)} (h : ∀ p ∈ parts, Same f f' p.2) : ∀ (t : Ty) (k : Nat), kindT f' parts t k = kindT f parts t k := by
  intro t
  induction t with
  | pair a b _ ihb =>
    intro k
    cases b with
    | pair c d => simp only [kindT, kindAt_same h, ihb]
    | _ => simp only [kindT, kindAt_same h]
  | _ => intro k; rfl
theorem partK_same {parts : List (Nat × Operand)} {t : Ty} {k : Nat} {K : t.den → Option α} (h : ∀ p ∈ parts, Same f f' p.2) : partK f' parts t k K = partK f parts t k K := by
  unfold partK
  split
  · rename_i o hp hl; obtain ⟨j, hj⟩ := look_mem hl; exact valK_same (h _ hj)
  · rfl
  · rfl
theorem buildK_same {parts : List (Nat × Operand)} (h : ∀ p ∈ parts, Same f f' p.2) : ∀ (t : Ty) (k : Nat) {K : t.den → Option α}, buildK f' parts t k K = buildK f parts t k K := by
  intro t
  induction t with
  | pair a b _ ihb =>
    intro k K
    cases b with
    | pair c d => simp only [buildK, partK_same h, ihb]
    | tup _ _ => rfl
    | fn _ => rfl
    | raw => rfl
    | cur => rfl
    | _ => simp only [buildK, partK_same h]
  | _ => intro k K; rfl
theorem listK_same {t : Ty} : ∀ (l : List (Nat × Operand)) (k : Nat) {K : List t.den → Option α}, (∀ p ∈ l, Same f f' p.2) → listK f' t l k K = listK f t l k K
  | [], _, _, _ => rfl
  | (j, o) :: r, k, K, h => by
    simp only [listK, valK_same (h (j, o) (by simp))]
    have ih : ∀ (K : List t.den → Option α), listK f' t r (k + 1) K = listK f t r (k + 1) K := fun K => listK_same r (k + 1) fun p hp => h p (by simp [hp])
    simp only [ih]
theorem ownersOf_same : ∀ (l : List (Nat × Operand)), (∀ p ∈ l, Same f f' p.2) → ownersOf f' l = ownersOf f l
  | [], _ => rfl
  | (j, o) :: r, h => by simp only [ownersOf, kindOf_same (h (j, o) (by simp)), ownersOf_same r fun p hp => h p (by simp [hp])]
theorem keptAll_same : ∀ (l : List (Nat × Operand)), (∀ p ∈ l, Same f f' p.2) → keptAll f' l = keptAll f l
  | [], _ => rfl
  | (j, o) :: r, h => by simp only [keptAll, kindOf_same (h (j, o) (by simp)), keptAll_same r fun p hp => h p (by simp [hp])]
theorem argsK_same : ∀ (ts : List Ty) (os : List Operand) {K : Args ts → Option α}, (∀ x ∈ os, Same f f' x) → argsK f' ts os K = argsK f ts os K
  | [], [], _, _ => rfl
  | t :: ts, o :: os, K, h => by
    have ih : ∀ (K : Args ts → Option α), argsK f' ts os K = argsK f ts os K := fun K => argsK_same ts os fun x hx => h x (by simp [hx])
    simp only [argsK, valK_same (h o (by simp)), ih]
  | [], _ :: _, _, _ => rfl
  | _ :: _, [], _, _ => rfl
def assignAlso (f : Frame) (o : Oper) : List Nat :=
  match o.op with
  | .assign (.tmp i) => match f[i]? with
    | some (.ref r _ _ _ _ _) => [r]
    | some (.ext r _ _ _ _ _) => [r]
    | some (.cref r) => [r]
    | _ => []
  | _ => []
theorem clear_same {x : Operand} {r : Nat} (h : Same f f' x) : clear f' r x = clear f r x := by
  unfold clear; rw [kindOf_same h]
theorem takeK_same {ms : MutSpec} {os : List Operand} {K : Slot → List Nat → Option α} (h : ∀ x ∈ os, Same f f' x) : takeK f' ms os K = takeK f ms os K := by
  have he : ∀ x ∈ os.eraseIdx ms.pos, Same f f' x := fun x hx => h x (List.mem_of_mem_eraseIdx hx)
  have ha : ∀ r, (os.eraseIdx ms.pos).all (clear f' r) = (os.eraseIdx ms.pos).all (clear f r) := fun r => by
    rw [Bool.eq_iff_iff]; simp only [List.all_eq_true]
    exact ⟨fun k x hx => by rw [← clear_same (he x hx)]; exact k x hx, fun k x hx => by rw [clear_same (he x hx)]; exact k x hx⟩
  unfold takeK
  split
  · rename_i i hi
    have hi' := h (.tmp i) (List.mem_of_getElem? hi) i rfl
    simp only [hi', ha, argsK_same _ _ he]
  · rfl
theorem opK_same {o : Oper} (h : ∀ t ∈ tmpsOf o, f'[t]? = f[t]?) (h2 : ∀ t ∈ assignAlso f o, f'[t]? = f[t]?) {K : Slot → List Nat → Option α} : opK E f' o K = opK E f o K := by
  have hs : ∀ x ∈ o.op.operands, Same f f' x := fun x hx i e => h i (List.mem_filterMap.2 ⟨.tmp i, by subst e; simpa using hx, rfl⟩)
  obtain ⟨dst, op, T, pos, aft, gd⟩ := o
  simp only at hs
  cases op with
  | move x => have := hs x (by simp [Op.operands]); simp only [opK, copyS_same this]
  | assign x =>
    have hx := hs x (by simp [Op.operands])
    cases x with
    | tmp i =>
      have hi := hx i rfl
      simp only [opK, hi, copyS_same hx]
      simp only [assignAlso] at h2
      split
      · rfl
      · rfl
      · rename_i hf; simp only [hf] at h2; simp only [h2 _ (List.mem_singleton.2 rfl)]
      · rename_i hf; simp only [hf] at h2; simp only [h2 _ (List.mem_singleton.2 rfl)]
      · rename_i hf; simp only [hf] at h2; simp only [h2 _ (List.mem_singleton.2 rfl)]
      · rfl
    | const v =>
      have hc := copyS_same hx
      simp only [opK]
      split
      · rfl
      · rfl
      · rename_i e; cases e
      · rw [hc]
    | global v => simp only [opK, copyS_same hx]
    | func v => simp only [opK, copyS_same hx]
  | pick c x y => simp only [opK, boolK_same (hs c (by simp [Op.operands])), stayK_same (hs x (by simp [Op.operands])), stayK_same (hs y (by simp [Op.operands]))]
  | alloc D => simp only [opK]
  | box D x => have := hs x (by simp [Op.operands]); simp only [opK, kindOf_same this, valK_same this]
  | build S parts =>
    have hp : ∀ p ∈ parts.toList, Same f f' p.2 := fun p hp => hs p.2 (by simp only [Op.operands, List.mem_toArray, List.mem_map]; exact ⟨p, hp, rfl⟩)
    simp only [opK, kindT_same hp, buildK_same hp]
  | buildSlice D len parts =>
    have hp : ∀ p ∈ parts.toList, Same f f' p.2 := fun p hp => hs p.2 (by simp only [Op.operands, List.mem_toArray, List.mem_map]; exact ⟨p, hp, rfl⟩)
    have hl : ∀ (t : Ty) (K : List t.den → Option α), listK f' t parts.toList 0 K = listK f t parts.toList 0 K := fun t K => listK_same _ _ hp
    simp only [opK, hl, ownersOf_same _ hp, keptAll_same _ hp]
  | load D x => simp only [opK, ptrS_same (hs x (by simp [Op.operands]))]
  | nilCheck x => simp only [opK, ptrS_same (hs x (by simp [Op.operands]))]
  | binOp op xT x y yT =>
    have hx := hs x (by simp [Op.operands])
    have hy := hs y (by simp [Op.operands])
    simp only [opK, binK_same hx hy, binB_same hx hy, eqK_same hx hy]
  | unOp op xT x => have := hs x (by simp [Op.operands]); simp only [opK, boolK_same this, intK_same this]
  | convert S D x => simp only [opK, intK_same (hs x (by simp [Op.operands]))]
  | makeSlice D n c => simp only [opK, intK_same (hs n (by simp [Op.operands]))]
  | slice S x lo hi mx =>
    have hlo : ∀ y, lo = some y → Same f f' y := fun y e => hs y (by subst e; simp [Op.operands])
    have hhi : ∀ y, hi = some y → Same f f' y := fun y e => hs y (by subst e; simp [Op.operands])
    simp only [opK, copyS_same (hs x (by simp [Op.operands])), cutS_same hlo hhi]
  | fieldAddr S x k => simp only [opK, ptrS_same (hs x (by simp [Op.operands]))]
  | indexAddr S x i =>
    have hx := hs x (by simp [Op.operands])
    simp only [opK, intK_same (hs i (by simp [Op.operands])), copyS_same hx, ptrS_same hx, rawK_same hx]
  | extract x n =>
    cases x with
    | tmp i => simp only [opK, hs (.tmp i) (by simp [Op.operands]) i rfl]
    | _ => simp only [opK]
  | call c =>
    have ha : ∀ x ∈ c.args.toList, Same f f' x := fun x hx => hs x (by simp only [Op.operands, Call.operands]; cases c.callee <;> simp_all)
    simp only [opK]
    split
    · split
      · exact argsK_same _ _ ha
      · split
        · exact takeK_same ha
        · rfl
    · rename_i i hcal
      have hi : f'[i]? = f[i]? := hs (.tmp i) (by simp [Op.operands, Call.operands, hcal]) i rfl
      rw [hi]
      split
      · split
        · exact argsK_same _ _ ha
        · rfl
      · rfl
    · split
      · rename_i x D hargs htys
        simp only [sliceK_same (ha x (by simp [hargs])), rawK_same (ha x (by simp [hargs]))]
      · rfl
    · split
      · rename_i x y hargs
        simp only [intK_same (ha x (by simp [hargs])), intK_same (ha y (by simp [hargs]))]
      · rfl
    · split
      · rename_i x y hargs
        simp only [intK_same (ha x (by simp [hargs])), intK_same (ha y (by simp [hargs]))]
      · rfl
    · split
      · rename_i s y T T' hargs htys
        have hs' := ha s (by simp [hargs])
        have hy := ha y (by simp [hargs])
        have happ : ∀ (t : Ty) (ys : List t.den) (dy : List Nat), appendK f' s t ys dy K = appendK f s t ys dy K := fun t ys dy => appendK_same hs'
        simp only [sliceK_same hy, kindOf_same hy, happ]
      · rfl
    · rfl
  | _ => simp only [opK]
end Go.Sx
