/- A typed interpreter of the program and its soundness, part 2. Conditions: none. -/
import Derived.Test.YtfjnflohpmpoeaaSx1
import Derived.IntWalk
import Derived.Great.FillDense
/- The interpreter's local operations are the model's: new variables, new slices, results, calls. Conditions: the tables of types and contracts fit. -/
namespace Go.Sx

variable {α : Type} {w0 : World} {lent : Nat → Prop} {f : Frame} {a : Act} {w : World} {own : Own}
variable {P : Program} {E : Env} {K : Slot → List Nat → Option α} {out : α} {d : Nat} {T : TypeId} {pos : String} {aft : Array Edge} {g : Option (Nat × Bool)}

def pushW (w : World) (o : Obj) : World := { w with heap := w.heap.push o }

theorem pushW_calm (w : World) (L : Array Value) (T : TypeId) : Calm w (pushW w (.cells L T)) := by
  refine ⟨rfl, rfl, fun a => ?_⟩
  have e : (pushW w (.cells L T)).heap[a.block]? = if a.block = w.heap.size then some (.cells L T) else w.heap[a.block]? := by
    simp only [pushW, Array.getElem?_push]
  unfold World.frozen?
  rw [e]
  by_cases h : a.block = w.heap.size
  · rw [if_pos h]
    have : w.heap[a.block]? = none := by rw [h]; simp
    rw [this]; simp
  · rw [if_neg h]

theorem pushW_grow (w : World) (L : Array Value) (T : TypeId) : Grow w (pushW w (.cells L T)) := by
  refine ⟨by simp [pushW], fun b hb => ?_, pushW_calm w L T⟩
  simp only [pushW, Array.getElem?_push]
  rw [if_neg (by omega)]

theorem pushW_get (w : World) (o : Obj) : (pushW w o).heap[w.heap.size]? = some o := by
  show (w.heap.push o)[w.heap.size]? = some o
  simp

theorem pushW_size (w : World) (o : Obj) : (pushW w o).heap.size = w.heap.size + 1 := by simp [pushW]

theorem run_newRow (T : TypeId) (L : Array Value) : (newRow T L).run P w = .ok ⟨w.heap.size, 0, none⟩ (pushW w (.cells L T)) := by
  simp [newRow, pushW]

theorem alloc_sound (hE : EnvOk P E) (h : Inv w0 lent f a w own) (hd : d < f.length) {D : TypeId}
    (hk : opK E f ⟨some d, .alloc D, T, pos, aft, g⟩ K = some out) : OpOk P w0 lent f a w ⟨some d, .alloc D, T, pos, aft, g⟩ d K out := by
  simp only [opK] at hk
  split at hk
  · rename_i t ht
    obtain ⟨z, hz, hzc⟩ := run_zeroValue' (hE.ty _ _ ht) w
    have hrun : (execOp a.eval ⟨some d, .alloc D, T, pos, aft, g⟩).run P w = .ok (.value (.pointer (some ⟨w.heap.size, 0, none⟩))) (pushW w (.cells z.cells D)) := by
      simp only [execOp, Instr.alloc, Sem.run_bind, hz, Result.andThen_ok, newVar, run_newRow, Sem.run_pure]
    refine OpOk.fresh h rfl hd hrun (pushW_grow _ _ _) (ls := []) (fun f' T' => ?_) (by simp) hk
    refine ⟨w.heap.size, z.cells, D, rfl, ?_, pushW_get _ _, ?_, fun _ => ?_, by simp⟩
    · simp [Own.move, pushW_size]
    · rw [← t.zeroCells_length, ← hzc]; simp
    · rw [hzc]; exact t.zeroCells_rep true _ _
  · simp at hk

theorem Rep.grow {tr : Bool} {w w' : World} (hg : Grow w w') {t : Ty} {cs : List Value} {x : t.den} {S : Nat → Prop} (hS : ∀ c, S c → c < w.heap.size) (h : Rep tr w t cs x S) : Rep tr w' t cs x S :=
  h.agree fun c hc => hg.2 c (hS c hc)

theorem box_sound (hE : EnvOk P E) (h : Inv w0 lent f a w own) (hd : d < f.length) {D : TypeId} {x : Operand}
    (hk : opK E f ⟨some d, .box D x, T, pos, aft, g⟩ K = some out) : OpOk P w0 lent f a w ⟨some d, .box D x, T, pos, aft, g⟩ d K out := by
  simp only [opK] at hk
  split at hk
  · rename_i t ht
    have hp := (hE.ty _ _ ht).plain
    have hrun : (execOp a.eval ⟨some d, .box D x, T, pos, aft, g⟩).run P w = .ok (.value (.pointer (some ⟨w.heap.size, 0, none⟩))) (pushW w (.cells (a.eval x).cells D)) := by
      simp only [execOp, Instr.box, Sem.run_bind, newVar, run_newRow, Result.andThen_ok, Sem.run_pure]
    have fin : ∀ (b : Bool) (ls : List Nat) (y : t.den), (a.eval x).cells.size = t.size → K (.box b t y) ls = some out →
        (b = true → Rep true w t (a.eval x).cells.toList y (fun c => ∃ l ∈ ls, Of own w (some l) c)) → (b = false → ls = [] ∧ Rep false w t (a.eval x).cells.toList y (Of own w none)) →
        OpOk P w0 lent f a w ⟨some d, .box D x, T, pos, aft, g⟩ d K out := by
      intro b ls y hsz hK h1 h2
      refine OpOk.fresh h rfl hd hrun (pushW_grow _ _ _) (ls := ls) (fun f' T' => ?_) (by simp) hK
      refine ⟨w.heap.size, _, D, rfl, by simp [Own.move, pushW_size], pushW_get _ _, hsz, fun hb => ?_, fun hb => ?_⟩
      · refine ((h1 hb).grow (pushW_grow _ _ _) fun c ⟨l, _, hc⟩ => hc.2).mono fun c hc => ⟨Own.move_used (pushW_grow _ _ _) hc, ?_⟩
        obtain ⟨l, _, hc⟩ := hc
        have := hc.2; omega
      · obtain ⟨rfl, hr⟩ := h2 hb
        exact hr.keeps (Own.move_keeps (pushW_grow _ _ _) [] d none (by simp))
    split at hk
    · rename_i hkd
      obtain ⟨t', y, hv, hk2⟩ := valK_sound h hk
      obtain ⟨e, hk2⟩ := castK_some hk2
      subst e
      obtain ⟨k1, k2⟩ := hv.krep hp
      rw [hkd] at k1
      exact fin true [] y k2 hk2 (fun _ => k1 _) (by simp)
    · rename_i hkd
      obtain ⟨t', y, hv, hk2⟩ := valK_sound h hk
      obtain ⟨e, hk2⟩ := castK_some hk2
      subst e
      obtain ⟨k1, k2⟩ := hv.krep hp
      rw [hkd] at k1
      exact fin false [] y k2 hk2 (by simp) (fun _ => ⟨rfl, k1⟩)
    · rename_i ls hkd
      obtain ⟨t', y, hv, hk2⟩ := valK_sound h hk
      obtain ⟨e, hk2⟩ := castK_some hk2
      subst e
      obtain ⟨k1, k2⟩ := hv.krep hp
      rw [hkd] at k1
      exact fin true ls y k2 hk2 (fun _ => k1) (by simp)
    · simp at hk
  · simp at hk

/-- A new row whose elements read as xs: the slice over it. -/
theorem rep_row {w : World} {t : Ty} {b : Nat} {L : Array Value} {El : TypeId} (hb : w.heap[b]? = some (.cells L El (0, 0))) {n c : Nat} {xs : List t.den} (hn : List.length xs = n) (hnc : n ≤ c) (hcm : c ≤ 9223372036854775807) (hsz : c * t.size ≤ L.size)
    {S : Nat → Prop} (hS : c ≠ 0 → S b) (Si : Nat → Nat → Prop) (h1 : ∀ i y, lget xs i = some y → Rep true w t (seg L (i * t.size) t.size) y (Si i)) (h2 : ∀ i c, Si i c → S c ∧ c ≠ b)
    (h3 : ∀ i j c, i ≠ j → Si i c → ¬ Si j c) : Rep true w (.slice t) [.slice (some ⟨b, 0, none⟩) n c] xs S := by
  subst hn
  refine ⟨some ⟨b, 0, none⟩, c, rfl, hnc, ?_⟩
  by_cases hc : c = 0
  · exact .inl hc
  · exact .inr ⟨b, 0, L, El, (0, 0), rfl, hb, hS hc, fun _ => ⟨rfl, hcm⟩, by simp only [cond_true]; omega, Si, fun i y hy => by rw [Nat.zero_add]; exact h1 i y hy, fun i c h => ⟨(h2 i c h).1, fun _ => (h2 i c h).2⟩, fun _ => h3⟩

theorem seg_cycle (z : Array Value) (n s i : Nat) (hs : z.size = s) (_h0 : 0 < s) (hi : i < n) : seg ((Array.range (n * s)).map (z[· % z.size]!)) (i * s) s = z.toList := by
  have hle : (i + 1) * s ≤ n * s := Nat.mul_le_mul_right _ hi
  rw [Nat.add_mul] at hle
  apply List.ext_getElem?; intro j
  rw [seg_get]
  by_cases hj : j < s
  · rw [if_pos hj]
    have hlt : i * s + j < n * s := by omega
    have hm : (i * s + j) % s = j := by rw [Nat.mul_comm, Nat.mul_add_mod, Nat.mod_eq_of_lt hj]
    simp [hlt, hs, hm, hj]
  · rw [if_neg hj, List.getElem?_eq_none]
    simp; omega

theorem makeSlice_sound (hE : EnvOk P E) (h : Inv w0 lent f a w own) (hd : d < f.length) {D : TypeId} {n c : Operand}
    (hk : opK E f ⟨some d, .makeSlice D n c, T, pos, aft, g⟩ K = some out) : OpOk P w0 lent f a w ⟨some d, .makeSlice D n c, T, pos, aft, g⟩ d K out := by
  simp only [opK] at hk
  split at hk
  · rename_i t hT hsame
    have hnc : n = c := by
      cases n <;> cases c <;> simp only [sameOp, reduceCtorEq] at hsame
      exact congrArg _ (Nat.eq_of_beq_eq_true hsame)
    subst hnc
    obtain ⟨k, m, hm, hk2⟩ := intK_sound h hk
    split at hk2
    · obtain ⟨h0, hk2⟩ := ifT_some hk2
      simp only [decide_eq_true_eq] at h0
      simp only [room] at hk2
      split at hk2
      · rename_i hroom
        have hroom : m.toNat ≤ 17179869184 := Nat.le_of_ble_eq_true hroom
        obtain ⟨T', hu, hT'⟩ := (hE.ty _ _ hT).slice t rfl
        obtain ⟨i, z, hi, hsz, hby, hz, hzc⟩ := (hE.ty _ _ hT').info
        have hwrap : IntKind.i64.wrap m = m := IntWalk.i64_in _ (by omega)
        have hbytes : (i.bytes : Int) * m ≤ 2 ^ 48 := by
          have h1 : (i.bytes : Int) * m ≤ 256 * m := Int.mul_le_mul_of_nonneg_right (by omega) h0
          omega
        have hzs : z.cells.size = t.size := by rw [← t.zeroCells_length, ← hzc]; simp
        have hrun : (execOp a.eval ⟨some d, .makeSlice D n n, T, pos, aft, g⟩).run P w = .ok (.value (.slice (some ⟨w.heap.size, 0, none⟩) m.toNat m.toNat))
            (pushW w (.cells (if m.toNat * t.size = 0 then #[] else (Array.range (m.toNat * t.size)).map (z.cells[· % z.cells.size]!)) T')) := by
          have hcond : ¬ ((decide (m < 0) || decide ((i.bytes : Int) * m > 2 ^ 48) || decide (m < 0) || decide (m > m)) = true) := by
            simp; omega
          have hz' : (zeroValue T').run P w = .ok z w := by simp [zeroValue, typeInfo, hi, hz]
          simp only [execOp, Instr.makeSlice, Sem.run_bind, run_underlying hu, Result.andThen_ok, hm, asInt, asIntOf, Sem.run_pure, run_typeInfo' hi, hwrap]
          rw [if_neg hcond]
          simp only [Sem.run_bind, Result.andThen_ok, run_askRoom, run_sizeOf' (hE.ty _ _ hT') w]
          by_cases e : m.toNat * t.size = 0
          · simp only [e, ↓reduceIte, Sem.run_bind, Sem.run_pure, Result.andThen_ok, run_newRow]; congr 4; simp
          · simp only [if_neg e, Sem.run_bind, Sem.run_pure, Result.andThen_ok, run_newRow, hz']
        refine OpOk.fresh h rfl hd hrun (pushW_grow _ _ _) (ls := []) (s := .own (.slice t) (List.replicate m.toNat t.zero)) (fun f' T' => ⟨_, rfl, ?_⟩) (by simp) hk2
        have hpos := t.size_pos
        refine rep_row (pushW_get _ _) (by simp) (Nat.le_refl _) (by omega) ?_ (fun _ => Own.move_new (Nat.le_refl _) (by rw [pushW_size]; omega)) (fun _ _ => False) (fun j y hy => ?_) (fun _ _ h => h.elim) (fun _ _ _ _ h => h.elim)
        · split
          · omega
          · simp
        · have hj : j < m.toNat := by
            have := (List.getElem?_eq_some_iff.1 hy).1
            simpa using this
          have hy' : y = t.zero := by
            simp only [lget, List.getElem?_replicate] at hy
            rw [if_pos hj] at hy
            simpa using hy.symm
          have hne : ¬ m.toNat * t.size = 0 := by
            intro e
            rcases Nat.mul_eq_zero.1 e with e | e <;> omega
          rw [if_neg hne, seg_cycle z.cells m.toNat t.size j hzs hpos hj, hzc, hy']
          exact t.zeroCells_rep true _ _
      · simp at hk2
    · simp at hk2
  · simp at hk

end Go.Sx

/- The interpreter's local operations are the model's: results of several, calls. Conditions: the tables of types and contracts fit. -/
namespace Go.Sx

variable {α : Type} {w0 : World} {lent : Nat → Prop} {f : Frame} {a : Act} {w : World} {own : Own}
variable {P : Program} {E : Env} {K : Slot → List Nat → Option α} {out : α} {d : Nat} {T : TypeId} {pos : String} {aft : Array Edge} {g : Option (Nat × Bool)}

/-- A result of several: where it lies. -/
theorem compK_sound : ∀ (t : Ty) (x : t.den) (k : Nat) {K' : (p : Path) → (t' : Ty) → t'.den → (t'.den → t.den) → Option α}, compK t x k K' = some out →
    ∃ p t' z u, At t x p t' z u ∧ K' p t' z u = some out ∧ ∀ (w : World) (rc vs cs : List Value) (l : Loc), ShapeT t vs cs → cs = (conts w rc l).take t.size →
      ∃ v l', vs[k]? = some v ∧ locate w rc p t l = some l' ∧ Shape t' v ((conts w rc l').take t'.size) := by
  intro t
  induction t with
  | num _ => intro x k K' hk; simp [compK] at hk
  | bool => intro x k K' hk; simp [compK] at hk
  | slice _ => intro x k K' hk; simp [compK] at hk
  | pair _ _ => intro x k K' hk; simp [compK] at hk
  | tup p q _ ihq =>
    intro x k K' hk
    have split : ∀ (w : World) (rc vs cs : List Value) (l : Loc), ShapeT (.tup p q) vs cs → cs = (conts w rc l).take (Ty.tup p q).size →
        ∃ v vr, vs = v :: vr ∧ Shape1 p v ((conts w rc l).take p.size) ∧ ShapeT q vr ((conts w rc (l.add p.size)).take q.size) := by
      intro w rc vs cs l ⟨v, vr, c1, c2, e1, e2, s1, hl, s2⟩ e
      have h1 : c1 = (conts w rc l).take p.size := by
        have := congrArg (List.take p.size) (e2.symm.trans e)
        rw [List.take_left' hl, List.take_take] at this
        rw [this]; congr 1; simp [Ty.size]
      have h2 : c2 = (conts w rc (l.add p.size)).take q.size := by
        have := congrArg (List.drop p.size) (e2.symm.trans e)
        rw [List.drop_left' hl, List.drop_take] at this
        rw [this, conts_add]; congr 1; simp [Ty.size]
      exact ⟨v, vr, e1, h1 ▸ s1, h2 ▸ s2⟩
    have lift : ∀ {t : Ty} {v : Value} {cs : List Value}, Shape1 t v cs → Shape t v cs := by
      intro t v cs h
      cases t <;> first | exact h | exact h.elim
    cases k with
    | zero =>
      simp only [compK] at hk
      refine ⟨[.fst], p, x.1, _, .tfst .here, hk, fun w rc vs cs l hs e => ?_⟩
      obtain ⟨v, vr, rfl, s1, s2⟩ := split w rc vs cs l hs e
      exact ⟨v, l, rfl, rfl, lift s1⟩
    | succ k =>
      have single : k = 0 → (∀ b c, q ≠ .tup b c) → K' [.snd] q x.2 (fun v => (x.1, v)) = some out → _ := fun (hk0 : k = 0) (hq : ∀ b c, q ≠ .tup b c) (hK : K' [.snd] q x.2 (fun v => (x.1, v)) = some out) =>
        show ∃ p_1 t' z u, At (.tup p q) x p_1 t' z u ∧ K' p_1 t' z u = some out ∧ ∀ (w : World) (rc vs cs : List Value) (l : Loc), ShapeT (.tup p q) vs cs → cs = (conts w rc l).take (Ty.tup p q).size →
            ∃ v l', vs[k + 1]? = some v ∧ locate w rc p_1 (.tup p q) l = some l' ∧ Shape t' v ((conts w rc l').take t'.size) by
          refine ⟨[.snd], q, x.2, _, .tsnd .here, hK, fun w rc vs cs l hs e => ?_⟩
          obtain ⟨v, vr, rfl, s1, s2⟩ := split w rc vs cs l hs e
          have : ∃ v2, vr = [v2] ∧ Shape1 q v2 ((conts w rc (l.add p.size)).take q.size) := by
            cases q with
            | tup b c => exact absurd rfl (hq b c)
            | _ => exact s2
          obtain ⟨v2, rfl, s3⟩ := this
          exact ⟨v2, l.add p.size, by simp [hk0], rfl, lift s3⟩
      cases q with
      | tup b c =>
        simp only [compK] at hk
        obtain ⟨p', t', z, u, hat, hK, hl⟩ := ihq x.2 k hk
        refine ⟨.snd :: p', t', z, _, .tsnd hat, hK, fun w rc vs cs l hs e => ?_⟩
        obtain ⟨v, vr, rfl, s1, s2⟩ := split w rc vs cs l hs e
        obtain ⟨v', l', g1, g2, g3⟩ := hl w rc vr _ (l.add p.size) s2 rfl
        exact ⟨v', l', by simpa using g1, g2, g3⟩
      | num _ => cases k with
        | zero => exact single rfl (by simp) hk
        | succ _ => simp [compK] at hk
      | bool => cases k with
        | zero => exact single rfl (by simp) hk
        | succ _ => simp [compK] at hk
      | slice _ => cases k with
        | zero => exact single rfl (by simp) hk
        | succ _ => simp [compK] at hk
      | pair _ _ => cases k with
        | zero => exact single rfl (by simp) hk
        | succ _ => simp [compK] at hk

theorem extract_sound (h : Inv w0 lent f a w own) (hd : d < f.length) (hok : ∀ s ls, K s ls = some out → s.on d = false ∧ ∀ c ∈ ls, s.on c = false) {x : Operand} {n : Nat}
    (hk : opK E f ⟨some d, .extract x n, T, pos, aft, g⟩ K = some out) : OpOk P w0 lent f a w ⟨some d, .extract x n, T, pos, aft, g⟩ d K out := by
  cases x with
  | tmp i =>
    simp only [opK] at hk
    cases hf : f[i]? with
    | none => rw [hf] at hk; simp at hk
    | some s =>
      rw [hf] at hk
      have hs := h.slots i s hf
      have run : ∀ (vs : List Value) (v : Value), a.tmps.getD i undef = .tuple vs.toArray → vs[n]? = some v → (execOp a.eval ⟨some d, .extract (.tmp i) n, T, pos, aft, g⟩).run P w = .ok (.value v) w := by
        intro vs v e1 e2
        simp only [execOp, eval_tmp, e1, Instr.extract]
        have : vs.toArray[n]? = some v := by simpa using e2
        simp [this]
      have tupOf : ∀ (t : Ty) (x : t.den) (cs : List Value) {K' : (p : Path) → (t' : Ty) → t'.den → (t'.den → t.den) → Option α}, compK t x n K' = some out → Shape t (a.tmps.getD i undef) cs → ∃ vs : List Value, a.tmps.getD i undef = .tuple vs.toArray ∧ ShapeT t vs cs := by
        intro t x cs K' hc hsh
        cases t with
        | tup p q => exact hsh
        | _ => simp [compK] at hc
      cases s with
      | ro r t x =>
        simp only at hk
        obtain ⟨cs, hsh, hrep⟩ := hs
        obtain ⟨p, t', z, u, hat, hK, hcomp⟩ := compK_sound t x n hk
        obtain ⟨vs, e1, hst⟩ := tupOf t x cs hk hsh
        have hcs : cs = (conts w cs (.reg 0)).take t.size := by
          simp only [conts, List.drop_zero]; exact (List.take_of_length_le (by rw [hrep.len]; exact Nat.le_refl _)).symm
        obtain ⟨v, l', e2, hl, hsv⟩ := hcomp w cs vs cs (.reg 0) hst hcs
        obtain ⟨l'', S', k1, k2, k3, _⟩ := Rep.focus hat (.reg 0) _ (hcs ▸ hrep)
        rw [hl] at k1; simp at k1; subst k1
        cases hfl : t'.flat with
        | true =>
          rw [hfl] at hK
          exact OpOk.fresh h rfl hd (run vs v e1 e2) (Grow.refl w) (ls := []) (fun f' T' => flat_ok hfl hsv k2 none d f' T') (by simp) hK
        | false =>
          rw [hfl] at hK
          exact OpOk.loose h rfl hd (run vs v e1 e2) (Grow.refl w) (i := 0) (s := .ro r t' z) ⟨_, hsv, k2.mono k3⟩ rfl hK (hok _ _ hK).1
      | own t x =>
        simp only at hk
        obtain ⟨cs, hsh, hrep⟩ := hs
        obtain ⟨p, t', z, u, hat, hK, hcomp⟩ := compK_sound t x n hk
        obtain ⟨vs, e1, hst⟩ := tupOf t x cs hk hsh
        have hcs : cs = (conts w cs (.reg 0)).take t.size := by
          simp only [conts, List.drop_zero]; exact (List.take_of_length_le (by rw [hrep.len]; exact Nat.le_refl _)).symm
        obtain ⟨v, l', e2, hl, hsv⟩ := hcomp w cs vs cs (.reg 0) hst hcs
        obtain ⟨l'', S', k1, k2, k3, _⟩ := Rep.focus hat (.reg 0) _ (hcs ▸ hrep)
        rw [hl] at k1; simp at k1; subst k1
        cases hfl : t'.flat with
        | true =>
          rw [hfl] at hK
          exact OpOk.fresh h rfl hd (run vs v e1 e2) (Grow.refl w) (ls := []) (fun f' T' => flat_ok hfl hsv k2 none d f' T') (by simp) hK
        | false =>
          rw [hfl] at hK
          exact OpOk.loose h rfl hd (run vs v e1 e2) (Grow.refl w) (i := 0) (s := .ref i p t t' z u) ⟨x, cs, .reg 0, l', _, .inl ⟨rfl, hf, hsh, rfl⟩, hat, hl, hsv, rfl⟩ rfl hK (hok _ _ hK).1
      | ref r q tr t x u0 =>
        simp only at hk
        obtain ⟨x0, rc, l0, l, cs, hb, hat0, hloc, hsh, hcs⟩ := hs
        obtain ⟨p, t', z, u, hat, hK, hcomp⟩ := compK_sound t x n hk
        obtain ⟨vs, e1, hst⟩ := tupOf t x cs hk hsh
        obtain ⟨v, l', e2, hl, hsv⟩ := hcomp w rc vs cs l hst hcs
        obtain ⟨h1, h2, _⟩ := hb.rep (h.root r)
        have hat2 := hat0.trans hat
        have hloc2 : locate w rc (q ++ p) tr l0 = some l' := (hat0.locate p l0 l hloc).trans hl
        obtain ⟨l'', S', k1, k2, k3, _⟩ := Rep.focus hat2 l0 _ (h2 rfl)
        rw [hloc2] at k1; simp at k1; subst k1
        cases hfl : t'.flat with
        | true =>
          rw [hfl] at hK
          exact OpOk.fresh h rfl hd (run vs v e1 e2) (Grow.refl w) (ls := []) (fun f' T' => flat_ok hfl hsv k2.weak none d f' T') (by simp) hK
        | false =>
          rw [hfl] at hK
          exact OpOk.loose h rfl hd (run vs v e1 e2) (Grow.refl w) (i := 0) (s := .ref r (q ++ p) tr t' z (fun a => u0 (u a))) ⟨x0, rc, l0, l', _, hb, hat2, hloc2, hsv, rfl⟩ rfl hK (hok _ _ hK).1
      | _ => simp at hk
  | _ => simp [opK] at hk

theorem argsK_sound (h : Inv w0 lent f a w own) : ∀ (ts : List Ty) (os : List Operand) {K' : Args ts → Option α}, argsK f ts os K' = some out → ∃ xs, K' xs = some out ∧ ArgsOk w ts (os.map a.eval) xs
  | [], [], K', hk => ⟨(), hk, rfl⟩
  | t :: ts, o :: os, K', hk => by
    simp only [argsK] at hk
    obtain ⟨t', x, ⟨cs, hs, hr, _⟩, hk⟩ := valK_sound h hk
    obtain ⟨e, hk⟩ := castK_some hk
    subst e
    obtain ⟨xs, hk, hok⟩ := argsK_sound h ts os hk
    exact ⟨(x, xs), hk, _, _, rfl, ⟨cs, hs, hr⟩, hok⟩
  | [], _ :: _, _, hk => by simp [argsK] at hk
  | _ :: _, [], _, hk => by simp [argsK] at hk

-- calls that change an argument in place

theorem map_eraseIdx' {β γ : Type} (g : β → γ) : ∀ (l : List β) (n : Nat), (l.map g).eraseIdx n = (l.eraseIdx n).map g
  | [], _ => rfl
  | _ :: _, 0 => rfl
  | x :: l, n + 1 => by simp [map_eraseIdx' g l n]


theorem argsOff_sound (h : Inv w0 lent f a w own) {q : Nat} : ∀ (ts : List Ty) (os : List Operand) {K' : Args ts → Option α}, argsK f ts os K' = some out → os.all (clear f q) = true → ∃ xs, K' xs = some out ∧ ArgsOff w (Of own w (some q)) ts (os.map a.eval) xs
  | [], [], K', hk, _ => ⟨(), hk, rfl⟩
  | t :: ts, o :: os, K', hk, hc => by
    simp only [argsK] at hk
    simp only [List.all_cons, Bool.and_eq_true] at hc
    obtain ⟨t', x, ⟨cs, hs, hr, hkd⟩, hk⟩ := valK_sound h hk
    obtain ⟨e, hk⟩ := castK_some hk
    subst e
    obtain ⟨xs, hk, hok⟩ := argsOff_sound h ts os hk hc.2
    refine ⟨(x, xs), hk, _, _, rfl, ⟨cs, hs, ?_⟩, hok⟩
    have hc1 := hc.1
    unfold clear at hc1
    split at hc1
    · rename_i hkk; rw [hkk] at hkd; exact hr.flatAny hkd
    · rename_i hkk; rw [hkk] at hkd
      exact hkd.mono fun c hc => ⟨hc.2, fun hc' => by have := hc.1.symm.trans hc'.1; simp at this⟩
    · rename_i ls hkk; rw [hkk] at hkd
      refine hkd.weak.mono fun c ⟨l, hl, hc⟩ => ⟨hc.2, fun hc' => ?_⟩
      have := hc.1.symm.trans hc'.1
      simp only [Option.some.injEq] at this; subst this
      simp at hc1; exact hc1 hl
    · simp at hc1
  | [], _ :: _, _, hk, _ => by simp [argsK] at hk
  | _ :: _, [], _, hk, _ => by simp [argsK] at hk

theorem ArgsOff.sub {S S' : Nat → Prop} (hs : ∀ c, S' c → S c) : ∀ {ts : List Ty} {vs : List Value} {xs : Args ts}, ArgsOff w S ts vs xs → ArgsOff w S' ts vs xs
  | [], _, _, h => h
  | _ :: _, _, _, ⟨v, vr, e, ⟨cs, hsh, hr⟩, hrest⟩ => ⟨v, vr, e, ⟨cs, hsh, hr.mono fun c hc => ⟨hc.1, fun h => hc.2 (hs c h)⟩⟩, hrest.sub hs⟩

/-- Labels behind a call that changed q's tree: what is new is q's. -/
def Own.grown (own : Own) (w w' : World) (q : Nat) : Own := fun b => if w.heap.size ≤ b ∧ b < w'.heap.size then some q else own b

theorem Own.grown_keeps {w2 : World} {q : Nat} (hgrow : w.heap.size ≤ w2.heap.size) (hother : ∀ c, c < w.heap.size → own c ≠ some q → w2.heap[c]? = w.heap[c]?) (k : Option Nat) (hk : k ≠ some q) : Keeps own w (own.grown w w2 q) w2 k := by
  intro c ⟨hc, hlt⟩
  refine ⟨⟨?_, Nat.lt_of_lt_of_le hlt hgrow⟩, hother c hlt (by rw [hc]; exact hk)⟩
  simp only [Own.grown]
  rw [if_neg (by omega), hc]

theorem Own.grown_old {w2 : World} {q c : Nat} (hgrow : w.heap.size ≤ w2.heap.size) (h : Of own w (some q) c) : Of (own.grown w w2 q) w2 (some q) c := by
  refine ⟨?_, Nat.lt_of_lt_of_le h.2 hgrow⟩
  simp only [Own.grown]
  rw [if_neg (by have := h.2; omega)]; exact h.1

theorem Own.grown_new {w2 : World} {q c : Nat} (h1 : w.heap.size ≤ c) (h2 : c < w2.heap.size) : Of (own.grown w w2 q) w2 (some q) c :=
  ⟨by simp [Own.grown, h1, h2], h2⟩

theorem Inv.muted (h : Inv w0 lent f a w own) {w2 : World} {q : Nat} {s : Slot} (hgrow : w.heap.size ≤ w2.heap.size) (hcalm : Calm w w2) (hother : ∀ c, c < w.heap.size → own c ≠ some q → w2.heap[c]? = w.heap[c]?)
    (hs : SlotOk w2 (own.grown w w2 q) ((kill q f).set q s) a.tmps q s (a.tmps.getD q undef)) : Inv w0 lent ((kill q f).set q s) a w2 (own.grown w w2 q) := by
  refine ⟨h.defers, by simp [kill_length, h.size], fun c hc => ?_, fun i sl hi => ?_, Nat.le_trans h.grow hgrow, fun c hc hl => ?_, h.calm.trans hcalm⟩
  · simp only [Own.grown]
    rw [if_neg (by omega), h.fresh c (by omega)]
  · by_cases e : i = q
    · subst e
      rw [List.getElem?_set] at hi
      simp at hi
      rw [← hi.2]; exact hs
    · rw [List.getElem?_set_ne (Ne.symm e)] at hi
      rcases kill_some hi with rfl | ⟨hf, hon⟩
      · trivial
      refine (h.slots i sl hf).keep (fun r s hs => h.slots r s hs) (Own.grown_keeps hgrow hother none (by simp)) (Own.grown_keeps hgrow hother (some i) (by simp [e])) fun r' hr' => ?_
      have hrr : r' ≠ q := by rintro rfl; rw [hon] at hr'; simp at hr'
      refine ⟨fun sl' hsl' hroot => ⟨?_, rfl⟩, Own.grown_keeps hgrow hother (some r') (by simp [hrr])⟩
      rw [List.getElem?_set_ne (Ne.symm hrr)]
      exact kill_root hsl' hroot
  · obtain ⟨h1, h2⟩ := h.old c hc hl
    refine ⟨?_, (hother c (Nat.lt_of_lt_of_le hc h.grow) (by rw [h1]; simp)).trans h2⟩
    simp only [Own.grown]
    rw [if_neg (by have := h.grow; omega), h1]

theorem kill_dead (i : Nat) (f : Frame) : (kill i ((kill i f).set i .dead)).set i .dead = (kill i f).set i .dead := by
  apply List.ext_getElem?; intro j
  by_cases e : i = j
  · subst e
    simp only [List.getElem?_set, kill_length, List.length_set, if_true]
  · rw [List.getElem?_set_ne e, List.getElem?_set_ne e, kill_get, List.getElem?_set_ne e, kill_get]
    cases f[j]? with
    | none => rfl
    | some s =>
      simp only [Option.map_some]
      cases h : s.on i with
      | true => rfl
      | false => simp only [h]

theorem takeR_sound (h : Inv w0 lent f a w own) {i : Nat} {t : Ty} {y : t.den} (_hfi : f[i]? = some (.own t y)) (hd : d < f.length) {w' : World} {v : Value} {S' : Nat → Prop} {S : Nat → Prop} (hSq : ∀ c, S c → Of own w (some i) c)
    (hgrow : w.heap.size ≤ w'.heap.size) (hcalm : Calm w w') (hoth : ∀ b, b < w.heap.size → ¬ S b → w'.heap[b]? = w.heap[b]?) (hsub : ∀ c, S' c → S c ∨ (w.heap.size ≤ c ∧ c < w'.heap.size)) :
    ∀ (r : Option Ty) (x : resDen r), TakeOk w' r v x S' → takeR i r x K = some out → ∃ s own', K s [i] = some out ∧ Inv w0 lent (applyS (killFrail f s) (some d) s [i]) (a.put (some d) v) w' own'
  | some t', x, ⟨cs, hsh, hrep⟩, hk => by
    simp only [takeR] at hk
    have h1 : Inv w0 lent ((kill i f).set i .dead) a w' (own.grown w w' i) := h.muted (s := .dead) hgrow hcalm (fun c hc hne => hoth c hc fun hS => hne (hSq c hS).1) trivial
    have h2 := h1.applyGrow (Grow.refl w') (ls := [i]) (d := d) (s := .own t' x) (v := v) (by simpa [kill_length] using hd) ⟨cs, hsh, hrep.mono fun c hc => by
      refine Own.move_used (Grow.refl w') ⟨i, by simp, ?_⟩
      rcases hsub c hc with hc | hc
      · exact Own.grown_old hgrow (hSq c hc)
      · exact Own.grown_new hc.1 hc.2⟩
    have e : applyS ((kill i f).set i .dead) (some d) (.own t' x) [i] = applyS f (some d) (.own t' x) [i] := by simp only [applyS, useUp, kill_dead]
    rw [e] at h2
    exact ⟨_, _, hk, h2⟩
  | none, _, hf, _ => hf.elim

theorem call_sound (hE : EnvOk P E) (h : Inv w0 lent f a w own) (hd : d < f.length) {c : Call} {gf : FuncId} (hc : c.callee = .value (.func gf))
    (hk : opK E f ⟨some d, .call c, T, pos, aft, g⟩ K = some out) : OpOk P w0 lent f a w ⟨some d, .call c, T, pos, aft, g⟩ d K out := by
  obtain ⟨cal, args, tys⟩ := c
  simp only at hc; subst hc
  simp only [opK] at hk
  split at hk
  · rename_i sp hsp
    obtain ⟨xs, hk, hargs⟩ := argsK_sound h _ _ hk
    obtain ⟨r, hr, hK⟩ := Option.bind_eq_some_iff.1 hk
    obtain ⟨hcon, fn, hfn, hname, hbody⟩ := hE.spec gf sp hsp
    intro next Q hn
    have hcalls := hcon xs r _ w hr hargs
    have hrun : (execOp a.eval ⟨some d, .call ⟨.value (.func gf), args, tys⟩, T, pos, aft, g⟩).run P w = .ok (.enter gf (args.toList.map a.eval).toArray) w := by
      have : ((#[] : Array Value) ++ args.map a.eval) ++ #[] = (args.toList.map a.eval).toArray := by
        apply Array.ext'; simp
      simp only [execOp, resolve, Act.eval, Deferred.ofValue, Sem.run_bind, Sem.run_pure, Result.andThen_ok, invoke, callFunc, run_program, hfn, hname, hbody, Bool.false_eq_true, if_false, this]
    simp only [Oper.wp, hrun, Oper.upon]
    refine hcalls.mono fun e w' ⟨v, cs, he, hg, hsh, hrep⟩ => ?_
    subst he
    refine hn _ _ (own.move w w' [] d) (resS sp.res r) [] hK ?_
    rw [killFrail_loose (by intro r p tr t x u; simp only [resS]; split <;> simp)]
    refine h.applyGrow hg hd ?_
    simp only [resS]
    cases hfl : sp.res.flat with
    | true => exact ⟨cs, hsh, hrep.flatAny hfl⟩
    | false => exact ⟨cs, hsh, hrep.mono fun c hc => Own.move_new hc.1 hc.2⟩
  · split at hk
    · rename_i ms hms
      obtain ⟨hcon, fn, hfn, hname, hbody⟩ := hE.muts gf ms hms
      unfold takeK at hk
      split at hk
      · rename_i i hoi
        split at hk
        · rename_i t y hfi
          split at hk
          · rename_i ht _
            subst ht
            split at hk
            · rename_i hcond
              simp only [Bool.and_eq_true, Bool.not_eq_true'] at hcond
              obtain ⟨hfr, hclear⟩ := hcond
              obtain ⟨xs, hk, hargs⟩ := argsOff_sound h _ _ hk hclear
              obtain ⟨⟨z, r⟩, hz, hk⟩ := Option.bind_eq_some_iff.1 hk
              simp only at hk hz
              obtain ⟨cs, hsh, hrep⟩ := h.slots i _ hfi
              have hcon : TakeC P gf ms := by unfold MutG at hcon; rw [hfr] at hcon; exact hcon
              have hcalls := hcon y xs z r (args.toList.map a.eval) (a.tmps.getD i undef) cs (Of own w (some i)) w hz (by rw [List.getElem?_map, hoi]; rfl)
                (by rw [map_eraseIdx']; exact hargs) hsh hrep (fun c hc => hc.2)
              intro next Q hn
              have hrun : (execOp a.eval ⟨some d, .call ⟨.value (.func gf), args, tys⟩, T, pos, aft, g⟩).run P w = .ok (.enter gf (args.toList.map a.eval).toArray) w := by
                have : ((#[] : Array Value) ++ args.map a.eval) ++ #[] = (args.toList.map a.eval).toArray := by
                  apply Array.ext'; simp
                simp only [execOp, resolve, Act.eval, Deferred.ofValue, Sem.run_bind, Sem.run_pure, Result.andThen_ok, invoke, callFunc, run_program, hfn, hname, hbody, Bool.false_eq_true, if_false, this]
              simp only [Oper.wp, hrun, Oper.upon]
              refine hcalls.mono fun e w' ⟨v, S', he, hgrow, hcalm, hoth, hsub, hres⟩ => ?_
              subst he
              obtain ⟨s, own', q2, q3⟩ := takeR_sound h hfi hd (fun c hc => hc) hgrow hcalm hoth hsub ms.res r hres hk
              exact hn _ _ own' s [i] q2 q3
            · simp at hk
          · simp at hk
        · simp at hk
      · simp at hk
    · simp at hk

end Go.Sx

/- append, as the model carries it out. Conditions: lengths under 2^40. -/
namespace Go.Sx

variable {w : World} {P : Program} {E : Env}

theorem splice_splice (L : Array Value) (o : Nat) (x y : List Value) (h : o + x.length + y.length ≤ L.size) : splice (splice L o x) (o + x.length) y = splice L o (x ++ y) := by
  apply Array.ext'
  apply List.ext_getElem?; intro j
  rw [splice_get _ _ _ (by rw [splice_size _ _ _ (by omega)]; omega), splice_get _ _ _ (by omega), splice_get _ _ _ (by omega)]
  simp only [List.length_append]
  by_cases h1 : j < o
  · rw [if_pos (by omega), if_pos h1, if_pos h1]
  · by_cases h2 : j < o + x.length
    · rw [if_pos h2, if_neg h1, if_pos h2, if_neg h1, if_pos (by omega), List.getElem?_append_left (by omega)]
    · by_cases h3 : j < o + x.length + y.length
      · have h4 : j < o + (x.length + y.length) := by omega
        simp only [if_neg h1, if_neg h2, if_pos h3, if_pos h4]
        rw [List.getElem?_append_right (by omega)]
        congr 1; omega
      · have h4 : ¬ j < o + (x.length + y.length) := by omega
        simp only [if_neg h1, if_neg h2, if_neg h3, if_neg h4]

theorem seg_seg (L : Array Value) (o n i s : Nat) (h : i + s ≤ n) : ((seg L o n).drop i).take s = seg L (o + i) s := by
  apply List.ext_getElem?; intro j
  simp only [List.getElem?_take, List.getElem?_drop, seg_get]
  by_cases hj : j < s
  · rw [if_pos hj, if_pos hj, if_pos (by omega)]; congr 1; omega
  · rw [if_neg hj, if_neg hj]

/-- The cells of a slice's elements, one behind the other. -/
structure Elems (tr : Bool) (w : World) (t : Ty) (xs : List t.den) (S : Nat → Prop) (cs : List Value) (Si : Nat → Nat → Prop) : Prop where
  len : cs.length = List.length xs * t.size
  at_ : ∀ i y, lget xs i = some y → Rep tr w t ((cs.drop (i * t.size)).take t.size) y (Si i)
  sub : ∀ i c, Si i c → S c
  dis : tr = true → ∀ i j c, i ≠ j → Si i c → ¬ Si j c

theorem run_firstCells {tr : Bool} {t : Ty} {p : Option Addr} {n c : Nat} {xs : List t.den} {S : Nat → Prop} (h : Rep tr w (.slice t) [.slice p n c] xs S) :
    ∃ cs Si, (∀ w1 : World, (∀ c, S c → w1.heap[c]? = w.heap[c]?) → (Builtin.firstCells t.size n (.slice p n c)).run P w1 = .ok cs.toArray w1) ∧ Elems tr w t xs S cs Si ∧ (∀ v ∈ cs, v.oneCell' = true) ∧ (tr = true → ∀ b o, p = some ⟨b, o, none⟩ → c ≠ 0 → ∀ i, ¬ Si i b) := by
  obtain ⟨p', c', hc, hle, h⟩ := h
  simp only [List.cons.injEq, Value.slice.injEq, and_true] at hc
  obtain ⟨rfl, rfl, rfl⟩ := hc
  by_cases hn : List.length xs = 0
  · have hx : xs = [] := List.length_eq_zero_iff.1 hn
    subst hx
    refine ⟨[], fun _ _ => False, ?_, ⟨by simp, by simp [lget], fun _ _ h => h.elim, fun _ _ _ _ _ h => h.elim⟩, by simp, fun _ _ _ _ _ _ h => h⟩
    intro w1 _
    cases p with
    | none => simp [Builtin.firstCells]
    | some ad => simp [Builtin.firstCells, loadCells, loadCellsFrom]
  · rcases h with h | ⟨b, o, L, El, fz, rfl, hh, hb, hf, ho, Si, h1, h2, h3⟩
    · have := cond_ge (tr := tr) hle; omega
    · have hm := Nat.mul_le_mul_right t.size (cond_ge (tr := tr) hle)
      have hl := seg_length (L := L) (o := o) (n := List.length xs * t.size) (by omega)
      have hat : ∀ i y, lget xs i = some y → ((seg L o (List.length xs * t.size)).drop (i * t.size)).take t.size = seg L (o + i * t.size) t.size := by
        intro i y hy
        have hi : i < List.length xs := (List.getElem?_eq_some_iff.1 hy).1
        have : (i + 1) * t.size ≤ List.length xs * t.size := Nat.mul_le_mul_right _ hi
        rw [Nat.add_mul] at this
        exact seg_seg _ _ _ _ _ (by omega)
      refine ⟨seg L o (List.length xs * t.size), Si, ?_, ⟨hl, fun i y hy => by rw [hat i y hy]; exact h1 i y hy, fun i c h => (h2 i c h).1, h3⟩, fun v hv => ?_, fun ht b' o' e _ i hi => ?_⟩
      · intro w1 hw1
        have := run_loadCells_list (P := P) w1 ⟨b, o, none⟩ (seg L o (List.length xs * t.size)) (cell_seg ((hw1 b hb).trans hh))
        rw [hl] at this
        simp only [Builtin.firstCells, this]
      · obtain ⟨j, hj⟩ := List.getElem?_of_mem hv
        have hjl : j < List.length xs * t.size := by rw [← hl]; exact (List.getElem?_eq_some_iff.1 hj).1
        have hpos := t.size_pos
        have hi : j / t.size < List.length xs := Nat.div_lt_of_lt_mul (by rw [Nat.mul_comm]; exact hjl)
        obtain ⟨y, hy⟩ : ∃ y, lget xs (j / t.size) = some y := ⟨_, List.getElem?_eq_getElem hi⟩
        refine (h1 _ y hy).oneCell v ?_
        rw [← hat _ y hy]
        refine List.mem_of_getElem? (i := j % t.size) ?_
        rw [List.getElem?_take, if_pos (Nat.mod_lt _ hpos), List.getElem?_drop]
        rw [show j / t.size * t.size + j % t.size = j by rw [Nat.mul_comm]; exact Nat.div_add_mod _ _]
        exact hj
      · simp at e
        exact (h2 i b' hi).2 ht e.1.symm

/-- Two rows of elements, one behind the other. -/
theorem Elems.append {w : World} {t : Ty} {xs ys : List t.den} {S S' : Nat → Prop} {cs ds : List Value} {Si Ti : Nat → Nat → Prop} (hx : Elems true w t xs S cs Si) (hy : Elems true w t ys S' ds Ti) (hd : ∀ c, S c → ¬ S' c) :
    Elems true w t (xs ++ ys) (fun c => S c ∨ S' c) (cs ++ ds) (fun i => if i < List.length xs then Si i else Ti (i - List.length xs)) := by
  have hpos := t.size_pos
  refine ⟨by rw [List.length_append, hx.len, hy.len, List.length_append, Nat.add_mul], fun i y h => ?_, fun i c h => ?_, fun _ i j c hij h h' => ?_⟩
  · by_cases hi : i < List.length xs
    · rw [if_pos hi]
      have : lget xs i = some y := by simpa [lget, List.getElem?_append_left hi] using h
      have hr := hx.at_ i y this
      have hm : (i + 1) * t.size ≤ List.length xs * t.size := Nat.mul_le_mul_right _ hi
      rw [Nat.add_mul] at hm
      rw [List.drop_append_of_le_length (by rw [hx.len]; omega), List.take_append_of_le_length (by rw [List.length_drop, hx.len]; omega)]
      exact hr
    · rw [if_neg hi]
      have : lget ys (i - List.length xs) = some y := by simpa [lget, List.getElem?_append_right (Nat.le_of_not_lt hi)] using h
      have hr := hy.at_ _ y this
      have hm : List.length xs * t.size ≤ i * t.size := Nat.mul_le_mul_right _ (by omega)
      rw [List.drop_append, List.drop_eq_nil_of_le (by rw [hx.len]; exact hm), List.nil_append, hx.len, ← Nat.sub_mul]
      exact hr
  · split at h
    · exact .inl (hx.sub _ _ h)
    · exact .inr (hy.sub _ _ h)
  · split at h <;> split at h'
    · exact hx.dis rfl i j c hij h h'
    · exact hd c (hx.sub _ _ h) (hy.sub _ _ h')
    · exact hd c (hx.sub _ _ h') (hy.sub _ _ h)
    · exact hy.dis rfl _ _ c (by omega) h h'

theorem Elems.mono {tr : Bool} {w : World} {t : Ty} {xs : List t.den} {S S' : Nat → Prop} {cs : List Value} {Si : Nat → Nat → Prop} (h : Elems tr w t xs S cs Si) (hs : ∀ c, S c → S' c) : Elems tr w t xs S' cs Si :=
  ⟨h.len, h.at_, fun i c hc => hs c (h.sub i c hc), h.dis⟩

/-- Flat elements hang on nothing. -/
theorem Elems.flatten {tr tr' : Bool} {w : World} {t : Ty} {xs : List t.den} {S : Nat → Prop} {cs : List Value} {Si : Nat → Nat → Prop} (hf : t.flat = true) (h : Elems tr w t xs S cs Si) (w' : World) :
    Elems tr' w' t xs (fun _ => False) cs (fun _ _ => False) :=
  ⟨h.len, fun i y hy => (h.at_ i y hy).flatAny hf, fun _ _ h => h, fun _ _ _ _ _ h => h.elim⟩

theorem Elems.agree {tr : Bool} {w w' : World} {t : Ty} {xs : List t.den} {S : Nat → Prop} {cs : List Value} {Si : Nat → Nat → Prop} (h : Elems tr w t xs S cs Si) (hs : ∀ i c, Si i c → w'.heap[c]? = w.heap[c]?) : Elems tr w' t xs S cs Si :=
  ⟨h.len, fun i y hy => (h.at_ i y hy).agree fun c hc => hs i c hc, h.sub, h.dis⟩

theorem nextcap_le (need c : Nat) (h1 : c < need) (h2 : need ≤ 17179869184) : Builtin.nextslicecap need c ≤ 137438953472 := by
  unfold Builtin.nextslicecap
  split
  · omega
  · split
    · omega
    · simp only [Builtin.growBy]
      repeat' split
      all_goals omega

/-- A slice over a row's cells. -/
theorem Elems.row {w : World} {t : Ty} {xs : List t.den} {S : Nat → Prop} {cs : List Value} {Si : Nat → Nat → Prop} (h : Elems true w t xs S cs Si) {b o c : Nat} {L : Array Value} {El : TypeId} (hb : w.heap[b]? = some (.cells L El (0, 0)))
    (hseg : seg L o (List.length xs * t.size) = cs) (hc : List.length xs ≤ c) (hcm : c ≤ 9223372036854775807) (hroom : o + c * t.size ≤ L.size) (hS : S b) (hn : ∀ i, ¬ Si i b) : Rep true w (.slice t) [.slice (some ⟨b, o, none⟩) (List.length xs) c] xs S := by
  refine ⟨_, c, rfl, hc, .inr ⟨b, o, L, El, (0, 0), rfl, hb, hS, fun _ => ⟨rfl, hcm⟩, hroom, Si, fun i y hy => ?_, fun i c' h' => ⟨h.sub i c' h', fun _ e => hn i (e ▸ h')⟩, h.dis⟩⟩
  have hi : i < List.length xs := (List.getElem?_eq_some_iff.1 hy).1
  have hm : (i + 1) * t.size ≤ List.length xs * t.size := Nat.mul_le_mul_right _ hi
  rw [Nat.add_mul] at hm
  rw [← seg_seg L o (List.length xs * t.size) (i * t.size) t.size (by omega), hseg]
  exact h.at_ i y hy

theorem zeroCells_size (z : Array Value) (n : Nat) : (Builtin.zeroCells z n).size = n * z.size := by simp [Builtin.zeroCells]

theorem setRow_other {w : World} {b c : Nat} {L : Array Value} (h : c ≠ b) : (w.setRow b L).heap[c]? = w.heap[c]? := by
  simp only [World.setRow, Array.getElem?_modify]
  rw [if_neg (Ne.symm h)]

theorem setRow_calm (w : World) (b : Nat) (L : Array Value) : Calm w (w.setRow b L) := by
  refine ⟨rfl, rfl, fun a => ?_⟩
  have e : (w.setRow b L).heap[a.block]? = if b = a.block then (w.heap[a.block]?).map (fun | .cells _ elem frozen => .cells L elem frozen | o => o) else w.heap[a.block]? := by
    simp only [World.setRow, Array.getElem?_modify]; rfl
  unfold World.frozen?
  rw [e]
  by_cases h : b = a.block
  · rw [if_pos h]
    cases hh : w.heap[a.block]? with
    | none => rfl
    | some o => cases o <;> rfl
  · rw [if_neg h]

theorem setRow_size {w : World} {b : Nat} {L : Array Value} : (w.setRow b L).heap.size = w.heap.size := by simp [World.setRow]

/-- What append hands, and what it does to the world. -/
theorem append_run (hE : EnvOk P E) {T T' ty : TypeId} {t e : Ty} (hT : E.tyOf T = some (.slice t)) (hT2 : E.tyOf T' = some (.slice e)) {p : Option Addr} {n c : Nat} {xs : List t.den} {SB : Nat → Prop}
    (hb : Rep true w (.slice t) [.slice p n c] xs SB) {p' : Option Addr} {m c' : Nat} {ys : List t.den} {SY SYF : Nat → Prop} {tr : Bool} (hy : Rep tr w (.slice t) [.slice p' m c'] ys SY)
    (hcase : (t.flat = true ∧ SYF = fun _ => False) ∨ (tr = true ∧ SYF = SY ∧ ∀ c, SB c → ¬ SY c)) (hSB : ∀ c, SB c → c < w.heap.size) (hSY : ∀ c, SYF c → c < w.heap.size) (hlen : List.length xs + List.length ys ≤ 17179869184) :
    ∃ v w', (Builtin.append_ #[T, T'] ty #[.slice p n c, .slice p' m c']).run P w = .ok v w' ∧ w.heap.size ≤ w'.heap.size ∧ Shape (.slice t) v [v] ∧
      Rep true w' (.slice t) [v] (xs ++ ys) (fun c => SB c ∨ SYF c ∨ (w.heap.size ≤ c ∧ c < w'.heap.size)) ∧
      (Grow w w' ∨ ∃ b o L El news, p = some ⟨b, o, none⟩ ∧ c ≠ 0 ∧ w.heap[b]? = some (.cells L El (0, 0)) ∧ SB b ∧ w' = w.setRow b (splice L (o + n * t.size) news) ∧ o + n * t.size + news.length ≤ L.size) := by
  have hpos := t.size_pos
  obtain ⟨El, hu, hEl⟩ := (hE.ty _ _ hT).slice t rfl
  obtain ⟨El', hu', _⟩ := (hE.ty _ _ hT2).slice e rfl
  obtain ⟨inf, z, hi, hsz, hby, hz, hzc⟩ := (hE.ty _ _ hEl).info
  have hzs : z.cells.size = t.size := by rw [← t.zeroCells_length, ← hzc]; simp
  have hrz : (zeroValue El).run P w = .ok z w := by simp [zeroValue, typeInfo, hi, hz]
  obtain ⟨ocs, Si, hold, hoe, ho1, hob⟩ := run_firstCells (P := P) hb
  obtain ⟨ncs, Ti0, hnew, hne0, hn1, hnb⟩ := run_firstCells (P := P) hy
  have hn : n = List.length xs := by obtain ⟨_, _, h, _⟩ := hb; simp at h; exact h.2.1
  have hm : m = List.length ys := by obtain ⟨_, _, h, _⟩ := hy; simp at h; exact h.2.1
  have hle : n ≤ c := by obtain ⟨_, _, h, hl, _⟩ := hb; simp at h; omega
  subst hn; subst hm
  have hold0 := hold
  have hnew0 := hnew
  have hold := hold0 w fun _ _ => rfl
  have hnew := hnew0 w fun _ _ => rfl
  -- the new elements, with their own blocks alone
  have hne : ∃ Ti, Elems true w t ys SYF ncs Ti := by
    rcases hcase with ⟨hf, rfl⟩ | ⟨rfl, rfl, _⟩
    · exact ⟨_, hne0.flatten hf w⟩
    · exact ⟨_, hne0⟩
  obtain ⟨Ti, hne⟩ := hne
  have hdis : ∀ c, SB c → ¬ SYF c := by
    rcases hcase with ⟨_, rfl⟩ | ⟨_, rfl, h⟩
    · exact fun _ _ h => h
    · exact h
  have hboth := hoe.append hne hdis
  by_cases hfit : List.length xs + List.length ys ≤ c
  · -- it fits
    by_cases hc0 : c = 0
    · have h1 : ys = [] := List.length_eq_zero_iff.1 (by omega)
      have h2 : xs = [] := List.length_eq_zero_iff.1 (by omega)
      subst h1; subst h2; subst hc0
      have hncs : ncs = [] := List.length_eq_zero_iff.1 (by rw [hne.len]; simp)
      subst hncs
      refine ⟨.slice p 0 0, w, ?_, Nat.le_refl _, rfl, ⟨p, 0, rfl, Nat.le_refl _, .inl rfl⟩, .inl (Grow.refl w)⟩
      simp only [List.length_nil] at hnew
      cases p with
      | none => simp [Builtin.append_, run_underlying hu, run_underlying hu', run_sizeOf' (hE.ty _ _ hEl), Builtin.lenOf, hnew]
      | some ad => simp [Builtin.append_, run_underlying hu, run_underlying hu', run_sizeOf' (hE.ty _ _ hEl), Builtin.lenOf, hnew, storeCells]
    · obtain ⟨p0, c0, hc, _, hrest⟩ := id hb
      simp only [List.cons.injEq, Value.slice.injEq, and_true, true_and] at hc
      obtain ⟨rfl, rfl⟩ := hc
      rcases hrest with h | ⟨b, o, L, El2, fz, rfl, hh, hbS, hf, hroom, _⟩
      · exact absurd h hc0
      · simp only [cond_true] at hroom
        obtain ⟨hf, hcm⟩ := hf rfl
        subst hf
        have hm : (List.length xs + List.length ys) * t.size ≤ c * t.size := Nat.mul_le_mul_right _ hfit
        rw [Nat.add_mul] at hm
        have hfit2 : o + List.length xs * t.size + ncs.length ≤ L.size := by rw [hne.len]; omega
        have hst := run_storeCells_at P b (o + List.length xs * t.size) El2 ncs 0 L w hh (by simpa using hfit2) hn1
        simp only [Nat.add_zero, splice_eq] at hst
        have hL2 : (w.setRow b (splice L (o + List.length xs * t.size) ncs)).heap[b]? = some (.cells (splice L (o + List.length xs * t.size) ncs) El2 (0, 0)) := setRow_heap w b L _ El2 _ hh
        refine ⟨.slice (some ⟨b, o, none⟩) (List.length xs + List.length ys) c, w.setRow b (splice L (o + List.length xs * t.size) ncs), ?_, by rw [setRow_size]; exact Nat.le_refl _, rfl, ?_, .inr ⟨b, o, L, El2, ncs, rfl, hc0, hh, hbS, rfl, hfit2⟩⟩
        · have hnew' : (Builtin.firstCells t.size (List.length ys) (.slice p' (List.length ys) c')).run P w = .ok ncs.toArray w := hnew
          simp [Builtin.append_, run_underlying hu, run_underlying hu', run_sizeOf' (hE.ty _ _ hEl), Builtin.lenOf, hnew', hfit, add_block, hst]
        · have hnb : ∀ i, ¬ (if i < List.length xs then Si i else Ti (i - List.length xs)) b := by
            intro i hi
            split at hi
            · exact hob rfl b o rfl hc0 i hi
            · exact hdis b hbS (hne.sub _ _ hi)
          have hboth' : Elems true (w.setRow b (splice L (o + List.length xs * t.size) ncs)) t (xs ++ ys) _ _ _ := hboth.agree fun i c' hc' => setRow_other (fun e => hnb i (e ▸ hc'))
          have hseg : seg (splice L (o + List.length xs * t.size) ncs) o (List.length (xs ++ ys) * t.size) = ocs ++ ncs := by
            have hocs : ocs = seg L o (List.length xs * t.size) := by
              have := run_loadCells_list (P := P) w ⟨b, o, none⟩ (seg L o (List.length xs * t.size)) (cell_seg hh)
              rw [seg_length (by omega)] at this
              simp only [Builtin.firstCells, this] at hold
              simpa using hold.symm
            apply List.ext_getElem?; intro j
            rw [seg_get, splice_get _ _ _ (by omega), List.length_append, Nat.add_mul]
            have hl1 : ocs.length = List.length xs * t.size := hoe.len
            have hl2 : ncs.length = List.length ys * t.size := hne.len
            by_cases h1 : j < List.length xs * t.size
            · rw [if_pos (by omega), if_pos (by omega), List.getElem?_append_left (by omega), hocs, seg_get, if_pos h1]
            · rw [List.getElem?_append_right (by omega)]
              by_cases h2 : j < List.length xs * t.size + List.length ys * t.size
              · rw [if_pos h2, if_neg (by omega), if_pos (by omega)]; congr 1; omega
              · rw [if_neg h2, List.getElem?_eq_none (by omega)]
          have := hboth'.row hL2 hseg (by rw [List.length_append]; exact hfit) hcm (by rw [splice_size _ _ _ hfit2]; exact hroom) (.inl hbS) hnb
          rw [List.length_append] at this
          exact this.mono fun c' h => h.elim .inl fun h => .inr (.inl h)
  · -- it grows
    have hgt : c < List.length xs + List.length ys := Nat.lt_of_not_le hfit
    have hnc := nextcap_le (List.length xs + List.length ys) c hgt (by omega)
    have hb48 : ¬ Builtin.nextslicecap (List.length xs + List.length ys) c * inf.bytes > 2 ^ 48 := by
      have h1 : Builtin.nextslicecap (List.length xs + List.length ys) c * inf.bytes ≤ Builtin.nextslicecap (List.length xs + List.length ys) c * 256 := Nat.mul_le_mul_left _ hby
      have h2 : (2 : Nat) ^ 48 = 281474976710656 := by decide
      omega
    have hi64 : ¬ (((List.length xs + List.length ys : Nat) : Int) > IntKind.i64.max ∧ (false = true ∨ inf.bytes = 0)) := by
      intro h
      have : IntKind.i64.max = 9223372036854775807 := by decide
      omega
    let w1 : World := { w with drawn := w.drawn + 1 }
    let q : Question := .appendCap (List.length xs + List.length ys) c El
    let nc := q.cut (w.tape w.drawn q)
    have hncge : List.length xs + List.length ys ≤ nc := by simp only [nc, q, Question.cut]; omega
    have hncm : nc ≤ 9223372036854775807 := by
      have h1 : (2 : Nat) ^ 63 = 9223372036854775808 := by decide
      have h2 : w.tape w.drawn q % (2 ^ 63 - (List.length xs + List.length ys)) < 2 ^ 63 - (List.length xs + List.length ys) := Nat.mod_lt _ (by omega)
      have h3 : nc = List.length xs + List.length ys + w.tape w.drawn q % (2 ^ 63 - (List.length xs + List.length ys)) := rfl
      omega
    have hch : (choose q).run P w = .ok nc w1 := by simp [run_choose, q, Question.forced, nc, w1]
    have hold1 := hold0 w1 fun _ _ => rfl
    have hnew1 := hnew0 w1 fun _ _ => rfl
    let L : Array Value := ocs.toArray ++ ncs.toArray ++ Builtin.zeroCells z.cells (nc - (List.length xs + List.length ys))
    have hrz1 : (zeroValue El).run P w1 = .ok z w1 := by simp [zeroValue, typeInfo, hi, hz]
    have hl1 : ocs.length = List.length xs * t.size := hoe.len
    have hl2 : ncs.length = List.length ys * t.size := hne.len
    have hLs : L.size = nc * t.size := by
      simp only [L, Array.size_append, zeroCells_size, hzs, List.size_toArray, hl1, hl2, Nat.sub_mul, Nat.add_mul]
      have : (List.length xs + List.length ys) * t.size ≤ nc * t.size := Nat.mul_le_mul_right _ hncge
      rw [Nat.add_mul] at this; omega
    refine ⟨.slice (some ⟨w.heap.size, 0, none⟩) (List.length xs + List.length ys) nc, pushW w1 (.cells L El), ?_, by rw [pushW_size]; exact Nat.le_succ _, rfl, ?_, .inl ⟨by rw [pushW_size]; exact Nat.le_succ _, (pushW_grow w1 _ _).2, Calm.trans (w1 := w1) ⟨rfl, rfl, fun _ => rfl⟩ (pushW_calm w1 _ _)⟩⟩
    · simp only [Builtin.append_, List.getElem?_toArray, List.getElem?_cons_zero, List.getElem?_cons_succ, Sem.run_bind, run_underlying hu, run_underlying hu', Result.andThen_ok, Sem.run_pure, run_sizeOf' (hE.ty _ _ hEl), Builtin.lenOf]
      simp only [Bool.false_eq_true, if_false, Sem.run_bind, Sem.run_pure, Result.andThen_ok]
      rw [if_neg (by omega)]
      have hch' : (choose (Question.appendCap (List.length xs + List.length ys) c El)).run P w = .ok nc w1 := hch
      have hpanic : ¬ (((List.length xs + List.length ys : Nat) : Int) > IntKind.i64.max ∧ (False ∨ inf.bytes = 0)) := by simpa using hi64
      have hrow : (newRow El L).run P w1 = .ok ⟨w.heap.size, 0, none⟩ (pushW w1 (.cells L El)) := run_newRow El L
      simp only [Sem.run_bind, run_typeInfo' hi, Result.andThen_ok]
      rw [if_neg hpanic, Sem.run_bind, run_typeInfo' hi, Result.andThen_ok, if_neg hb48]
      simp only [Sem.run_bind, hch', run_typeInfo' hi, Result.andThen_ok, run_askRoom, hold1, Bool.not_false, ↓reduceIte, hnew1, hrz1, hrow, L, Sem.run_pure]
    · have hnb : ∀ i, ¬ (if i < List.length xs then Si i else Ti (i - List.length xs)) w.heap.size := by
        intro i hi
        split at hi
        · exact absurd (hSB _ (hoe.sub _ _ hi)) (Nat.lt_irrefl _)
        · exact absurd (hSY _ (hne.sub _ _ hi)) (Nat.lt_irrefl _)
      have hboth' : Elems true (pushW w1 (.cells L El)) t (xs ++ ys) _ _ _ := hboth.agree fun i c' hc' => (pushW_grow w1 _ _).2 c' (by
        split at hc'
        · exact hSB _ (hoe.sub _ _ hc')
        · exact hSY _ (hne.sub _ _ hc'))
      have hget : (pushW w1 (.cells L El)).heap[w.heap.size]? = some (.cells L El (0, 0)) := pushW_get w1 _
      have hseg : seg L 0 (List.length (xs ++ ys) * t.size) = ocs ++ ncs := by
        simp only [seg, List.drop_zero, L, Array.toList_append]
        rw [List.take_append_of_le_length (by simp [hl1, hl2, Nat.add_mul])]
        rw [List.take_of_length_le (by simp [hl1, hl2, Nat.add_mul])]
      have hboth2 := hboth'.mono (S' := fun c' => SB c' ∨ SYF c' ∨ (w.heap.size ≤ c' ∧ c' < (pushW w1 (.cells L El)).heap.size)) fun c' h => h.elim .inl fun h => .inr (.inl h)
      have := hboth2.row hget hseg (by rw [List.length_append]; exact hncge) hncm (by rw [hLs]; omega) (.inr (.inr ⟨Nat.le_refl _, by rw [pushW_size]; exact Nat.lt_succ_self _⟩)) hnb
      rw [List.length_append] at this
      exact this

end Go.Sx

/- The interpreter's append, slices of parts and assignments are the model's. Conditions: the tables of types and contracts fit. -/
namespace Go.Sx

variable {α : Type} {w0 : World} {lent : Nat → Prop} {f : Frame} {a : Act} {w : World} {own : Own}
variable {P : Program} {E : Env} {K : Slot → List Nat → Option α} {out : α} {d : Nat} {T : TypeId} {pos : String} {aft : Array Edge} {g : Option (Nat × Bool)}

theorem killFrail_get {f : Frame} {r : Nat} {p : Path} {tr t : Ty} {x : List t.den} {u : List t.den → tr.den} {i : Nat} {s : Slot} (h : (killFrail f (.ext r p tr t x u))[i]? = some s) :
    s = .dead ∨ (f[i]? = some s ∧ s.frail r = false) := by
  simp only [killFrail, List.getElem?_map] at h
  cases hf : f[i]? with
  | none => rw [hf] at h; simp at h
  | some s0 =>
    rw [hf] at h; simp only [Option.map_some, Option.some.injEq] at h
    cases ho : s0.frail r with
    | true => rw [ho] at h; exact .inl h.symm
    | false => rw [ho] at h; subst h; exact .inr ⟨rfl, ho⟩

theorem killFrail_root {f : Frame} {r : Nat} {p : Path} {tr t : Ty} {x : List t.den} {u : List t.den → tr.den} {i : Nat} {s : Slot} (h : f[i]? = some s) (hr : s.isRoot = true) : (killFrail f (.ext r p tr t x u))[i]? = some s := by
  simp only [killFrail, List.getElem?_map, h]
  cases s <;> simp_all [Slot.isRoot, Slot.frail]

theorem killFrail_length (f : Frame) (s : Slot) : (killFrail f s).length = f.length := by
  cases s <;> simp [killFrail]

/-- What an append does to a row that a root owns, behind its last element: the frame keeps all but what is frail. -/
theorem Inv.spare (h : Inv w0 lent f a w own) {r : Nat} {p : Path} {tr t : Ty} {x0 : tr.den} {ys : List t.den} {u : List t.den → tr.den} {rc : List Value} {l0 l : Loc} (hb : Base f a.tmps true r tr x0 rc l0)
    (hat : At tr x0 p (.slice t) ys u) (hl : locate w rc p tr l0 = some l) {b o c : Nat} {L : Array Value} {El : TypeId} (hcs : (conts w rc l).take 1 = [.slice (some ⟨b, o, none⟩) (List.length ys) c]) (hc0 : c ≠ 0)
    (hh : w.heap[b]? = some (.cells L El (0, 0))) {news : List Value} (hroom : o + List.length ys * t.size + news.length ≤ L.size) {x' : List t.den} :
    Inv w0 lent (killFrail f (.ext r p tr t x' u)) a (w.setRow b (splice L (o + List.length ys * t.size) news)) own := by
  obtain ⟨g1, g2, _⟩ := hb.rep (h.root r)
  obtain ⟨l', S', k1, k2, k3, k4, k5, k6⟩ := Rep.put hat l0 _ (g2 rfl) (fun b o e h => h.2 o e)
  rw [hl] at k1; simp at k1; subst k1
  have hrow : Rep true w (.slice t) [.slice (some ⟨b, o, none⟩) (List.length ys) c] ys S' := hcs ▸ k2
  -- the row's block is one of the root's own
  obtain ⟨pp, cc, hc, hle, hrest⟩ := id hrow
  simp only [List.cons.injEq, Value.slice.injEq, and_true, true_and] at hc
  obtain ⟨rfl, rfl⟩ := hc
  rcases hrest with hz | ⟨b', o', L', El', fz', e, hh', hbS', hf, ho, Si, h1, h2, h3⟩
  · exact absurd hz hc0
  simp only [Option.some.injEq, Addr.mk.injEq, and_true] at e
  obtain ⟨rfl, rfl⟩ := e
  rw [hh] at hh'; simp only [Option.some.injEq, Obj.cells.injEq] at hh'; obtain ⟨rfl, rfl, _⟩ := hh'
  have hbr : Of own w (some r) b := (k4 b hbS').1
  have hbl0 : ∀ off, l0 ≠ .mem b off := (k4 b hbS').2
  let w2 := w.setRow b (splice L (o + List.length ys * t.size) news)
  have hother : ∀ c, c ≠ b → w2.heap[c]? = w.heap[c]? := fun c hc => setRow_other hc
  have hsz : w2.heap.size = w.heap.size := setRow_size
  have hb2 : w2.heap[b]? = some (.cells (splice L (o + List.length ys * t.size) news) El (0, 0)) := setRow_heap w b L _ El _ hh
  have hkeep : ∀ r', r' ≠ some r → Keeps own w own w2 r' := fun r' hr' c hc => ⟨⟨hc.1, by rw [hsz]; exact hc.2⟩, hother c fun e => by subst e; exact hr' (hc.1.symm.trans hbr.1)⟩
  -- the row itself
  have hrow2 : Rep true w2 (.slice t) [.slice (some ⟨b, o, none⟩) (List.length ys) c] ys S' := by
    refine ⟨_, c, rfl, hle, .inr ⟨b, o, _, El, (0, 0), rfl, hb2, hbS', fun _ => ⟨rfl, (hf rfl).2⟩, by rw [splice_size _ _ _ hroom]; exact ho, Si, fun i y hy => ?_, h2, h3⟩⟩
    have hi : i < List.length ys := (List.getElem?_eq_some_iff.1 hy).1
    have hm : (i + 1) * t.size ≤ List.length ys * t.size := Nat.mul_le_mul_right _ hi
    rw [Nat.add_mul] at hm
    rw [seg_splice_out _ _ _ _ _ (by omega) (.inl (by omega))]
    exact (h1 i y hy).agree fun c' hc' => hother c' ((h2 i c' hc').2 rfl)
  -- the root
  have hwhole : Rep true w2 tr ((conts w rc l0).take tr.size) x0 (fun c => Of own w (some r) c ∧ ∀ off, l0 ≠ .mem c off) := by
    have := Rep.inner hat l0 _ l (g2 rfl) (fun b o e h => h.2 o e) hl w2 ys (fun c _ hc' => hother c fun e => hc' (e ▸ k3 ▸ hbS')) (by
      rw [← k3]; exact hcs.symm ▸ hrow2)
    rwa [show u ys = x0 from hat.self] at this
  have hlab : ∀ s c, Of own w s c → Of own w2 s c := fun s c hc => ⟨hc.1, by rw [hsz]; exact hc.2⟩
  have hroot : ∀ s, f[r]? = some s → SlotOk w2 own (killFrail f (.ext r p tr t x' u)) a.tmps r s (a.tmps.getD r undef) := by
    intro s hs
    rcases hb with ⟨_, hf0, hs0, rfl⟩ | ⟨hf0, rfl, bb, hv, rfl⟩
    · rw [hf0] at hs; simp only [Option.some.injEq] at hs; subst hs
      refine ⟨rc, hs0, ?_⟩
      have e : (conts w rc (.reg 0)).take tr.size = rc := by
        obtain ⟨cs', hs1, hr1⟩ := h.slots r _ hf0
        have := hs0.uniq hs1; subst this
        simp only [conts, List.drop_zero]
        exact List.take_of_length_le (by rw [hr1.len]; exact Nat.le_refl _)
      rw [e] at hwhole
      exact hwhole.mono fun c hc => hlab _ c hc.1
    · rw [hf0] at hs; simp only [Option.some.injEq] at hs; subst hs
      obtain ⟨b3, L3, E3, hv3, hb3, hh3, hsz3, ht3, _⟩ := h.slots r _ hf0
      rw [hv] at hv3; simp only [Value.pointer.injEq, Option.some.injEq, Addr.mk.injEq, and_true] at hv3; subst hv3
      have hne : bb ≠ b := fun e => hbl0 0 (e ▸ rfl)
      have e : (conts w [] (.mem bb 0)).take tr.size = L3.toList := by
        rw [take_conts_mem hh3, seg, List.drop_zero]
        exact List.take_of_length_le (by simp; omega)
      rw [e] at hwhole
      exact ⟨bb, L3, E3, hv, hb3, (hother bb hne).trans hh3, hsz3, fun _ => hwhole.mono fun c hc => ⟨hlab _ c hc.1, fun e => hc.2 0 (by rw [e])⟩, by simp⟩
  have hbase : ∀ o' r' tr' (x' : tr'.den) rc' l', Base f a.tmps o' r' tr' x' rc' l' → Base (killFrail f (.ext r p tr t ‹List t.den› u)) a.tmps o' r' tr' x' rc' l' := by
    intro o' r' tr' x' rc' l' hb'
    rcases hb' with ⟨h1, h2, h3, h4⟩ | ⟨h1, h2⟩
    · exact .inl ⟨h1, killFrail_root h2 rfl, h3, h4⟩
    · exact .inr ⟨killFrail_root h1 rfl, h2⟩
  refine ⟨h.defers, by rw [killFrail_length]; exact h.size, fun b' hb' => h.fresh b' (by rw [hsz] at hb'; exact hb'), fun i s hi => ?_, by rw [hsz]; exact h.grow, fun b' hb' hl' => ?_, h.calm.trans (setRow_calm w b _)⟩
  · rcases killFrail_get hi with rfl | ⟨hf', hfr⟩
    · trivial
    · by_cases er : i = r
      · subst er; exact hroot s hf'
      · by_cases hon : s.on r = true
        · -- near references
          have hs' := h.slots i s hf'
          cases s with
          | ref r' q tr' t' y' u' =>
            simp only [Slot.on, beq_iff_eq] at hon; subst hon
            have hnear : q.near = true := by simpa [Slot.frail] using hfr
            obtain ⟨x1, rc1, l1, l2, cs1, hb1, hat1, hloc1, hs1, hcs1⟩ := hs'
            refine ⟨x1, rc1, l1, l2, cs1, hbase _ _ _ _ _ _ hb1, hat1, (near_locate w w2 rc1 q tr' l1 hnear).trans hloc1, hs1, ?_⟩
            rw [hcs1]
            obtain ⟨n, hn⟩ := near_inside w rc1 q tr' l1 l2 hnear hloc1
            subst hn
            rw [conts_add, conts_add]
            rcases hb1 with ⟨_, _, _, rfl⟩ | ⟨hf1, rfl, bb, hv, rfl⟩
            · rfl
            · have hne : bb ≠ b := by
                intro e
                rcases hb with ⟨_, hf0, _⟩ | ⟨hf0, _, bb', hv', rfl⟩
                · rw [hf0] at hf1; simp at hf1
                · rw [hv] at hv'; simp only [Value.pointer.injEq, Option.some.injEq, Addr.mk.injEq, and_true] at hv'
                  exact hbl0 0 (by rw [← hv', e])
              have e2 : conts w2 [] (.mem bb 0) = conts w [] (.mem bb 0) := by simp only [conts, hother bb hne]
              exact congrArg (fun z => List.take t'.size (List.drop n z)) e2.symm
          | adr o' r' q tr' t' y' u' =>
            simp only [Slot.on, beq_iff_eq] at hon; subst hon
            have hnear : q.near = true := by simpa [Slot.frail] using hfr
            obtain ⟨x1, rc1, l1, b1, off1, hb1, hat1, hloc1, hv1, hn1⟩ := hs'
            exact ⟨x1, rc1, l1, b1, off1, hbase _ _ _ _ _ _ hb1, hat1, (near_locate w w2 rc1 q tr' l1 hnear).trans hloc1, hv1, hn1⟩
          | ro r' t' x1 => cases r' <;> simp [Slot.on, Slot.frail] at hon hfr; subst hon; simp at hfr
          | radr r' t' x1 => cases r' <;> simp [Slot.on, Slot.frail] at hon hfr; subst hon; simp at hfr
          | ext r' q tr' t' x1 u' => simp [Slot.on, Slot.frail] at hon hfr; subst hon; simp at hfr
          | _ => simp [Slot.on] at hon
        · refine (h.slots i s hf').keep (fun r s hs => h.slots r s hs) (hkeep none (by simp)) (hkeep (some i) (by simp [er])) fun r' hr' => ⟨fun sl hsl hroot => ⟨killFrail_root hsl hroot, rfl⟩, hkeep (some r') ?_⟩
          intro e; simp only [Option.some.injEq] at e; subst e; exact hon hr'
  · obtain ⟨h1, h2⟩ := h.old b' hb' hl'
    exact ⟨h1, (hother b' fun e => by subst e; rw [hbr.1] at h1; simp at h1).trans h2⟩

end Go.Sx

/- The interpreter's append is the model's. Conditions: the tables of types and contracts fit. -/
namespace Go.Sx

variable {α : Type} {w0 : World} {lent : Nat → Prop} {f : Frame} {a : Act} {w : World} {own : Own}
variable {P : Program} {E : Env} {K : Slot → List Nat → Option α} {out : α} {d : Nat} {T : TypeId} {pos : String} {aft : Array Edge} {g : Option (Nat × Bool)}

theorem Own.move_keeps' {own : Own} {w w' : World} (hsz : w.heap.size ≤ w'.heap.size) (ls : List Nat) (d : Nat) (r : Option Nat) (hr : ∀ c ∈ ls, r ≠ some c) (hs : ∀ c, Of own w r c → w'.heap[c]? = w.heap[c]?) :
    Keeps own w (own.move w w' ls d) w' r := by
  intro c hc
  refine ⟨⟨?_, Nat.lt_of_lt_of_le hc.2 hsz⟩, hs c hc⟩
  simp only [Own.move]
  rw [if_neg (by have := hc.2; omega), hc.1]
  cases r with
  | none => rfl
  | some l => simp only; rw [if_neg fun h => hr l h rfl]

theorem Own.move_fresh' {own : Own} {w w' : World} (hsz : w.heap.size ≤ w'.heap.size) (h : ∀ b, w.heap.size ≤ b → own b = none) (ls : List Nat) (d : Nat) : ∀ b, w'.heap.size ≤ b → own.move w w' ls d b = none := by
  intro b hb
  simp only [Own.move]
  rw [if_neg (by omega), h b (Nat.le_trans hsz hb)]

theorem Own.move_used' {own : Own} {w w' : World} (hsz : w.heap.size ≤ w'.heap.size) {ls : List Nat} {d : Nat} {c : Nat} (h : ∃ l ∈ ls, Of own w (some l) c) : Of (own.move w w' ls d) w' (some d) c := by
  obtain ⟨l, hl, hc, hlt⟩ := h
  refine ⟨?_, Nat.lt_of_lt_of_le hlt hsz⟩
  simp only [Own.move]
  rw [if_neg (by omega), hc]
  simp [hl]

theorem Inv.killFrail (h : Inv w0 lent f a w own) {r : Nat} {p : Path} {tr t : Ty} {x : List t.den} {u : List t.den → tr.den} : Inv w0 lent (killFrail f (.ext r p tr t x u)) a w own := by
  refine ⟨h.defers, by rw [killFrail_length]; exact h.size, h.fresh, fun i s hi => ?_, h.grow, h.old, h.calm⟩
  rcases killFrail_get hi with rfl | ⟨hf', _⟩
  · trivial
  · have hk : ∀ r', Keeps own w own w r' := fun r' c hc => ⟨hc, rfl⟩
    exact (h.slots i s hf').keep (fun r s hs => h.slots r s hs) (hk _) (hk _) fun r' hr' => ⟨fun sl hsl hroot => ⟨killFrail_root hsl hroot, rfl⟩, hk _⟩

theorem room_some {n : Nat} {k : Option α} (h : room n k = some out) : n ≤ 17179869184 ∧ k = some out := by
  simp only [room] at h
  split at h
  · rename_i hb; exact ⟨Nat.le_of_ble_eq_true hb, h⟩
  · simp at h

theorem contains_false {l : List Nat} {i : Nat} (h : l.contains i = false) : i ∉ l := by
  intro hm; simp [hm] at h

/-- A row's own blocks, behind an append within its room. -/
theorem FP.spare {t : Ty} {b o c : Nat} {xs : List t.den} {S : Nat → Prop} {L : Array Value} {El : TypeId} (h : Rep true w (.slice t) [.slice (some ⟨b, o, none⟩) (List.length xs) c] xs S) (hh : w.heap[b]? = some (.cells L El (0, 0)))
    {news : List Value} (hroom : o + List.length xs * t.size + news.length ≤ L.size) {k : Nat} (hk : FP w (.slice t) [.slice (some ⟨b, o, none⟩) (List.length xs) c] xs k) :
    FP (w.setRow b (splice L (o + List.length xs * t.size) news)) (.slice t) [.slice (some ⟨b, o, none⟩) (List.length xs) c] xs k := by
  obtain ⟨p', c', hc, hle, hrest⟩ := h
  simp only [List.cons.injEq, Value.slice.injEq, and_true, true_and] at hc
  obtain ⟨rfl, rfl⟩ := hc
  obtain ⟨n, cap, b', o', L', El', fz', hcs, hz, hh', hk⟩ := hk
  simp only [List.cons.injEq, Value.slice.injEq, Option.some.injEq, Addr.mk.injEq, and_true] at hcs
  obtain ⟨⟨rfl, rfl⟩, rfl, rfl⟩ := hcs
  rw [hh] at hh'; simp only [Option.some.injEq, Obj.cells.injEq] at hh'; obtain ⟨rfl, rfl, _⟩ := hh'
  rcases hrest with h0 | ⟨b2, o2, L2, El2, fz2, e, hh2, hbS, hf, ho, Si, h1, h2, h3⟩
  · exact absurd h0 hz
  simp only [Option.some.injEq, Addr.mk.injEq, and_true] at e
  obtain ⟨rfl, rfl⟩ := e
  rw [hh] at hh2; simp only [Option.some.injEq, Obj.cells.injEq] at hh2; obtain ⟨rfl, rfl, rfl⟩ := hh2
  refine ⟨_, _, b, o, _, El, (0, 0), rfl, hz, setRow_heap w b L _ El _ hh, hk.imp id fun ⟨i, y, hy, hk⟩ => ⟨i, y, hy, ?_⟩⟩
  have hi : i < List.length xs := (List.getElem?_eq_some_iff.1 hy).1
  have hm : (i + 1) * t.size ≤ List.length xs * t.size := Nat.mul_le_mul_right _ hi
  rw [Nat.add_mul] at hm
  rw [seg_splice_out _ _ _ _ _ (by omega) (.inl (by omega))]
  have htight := (h1 i y hy).tight.2
  exact FP.agree (fun c hc => setRow_other fun e => (h2 i c (htight c hc)).2 rfl e) hk

theorem append_sound (hE : EnvOk P E) (h : Inv w0 lent f a w own) (hd : d < f.length) (hok : ∀ s ls, K s ls = some out → s.on d = false ∧ ∀ c ∈ ls, s.on c = false) {c : Call} (hc : c.callee = .builtin .append)
    (hk : opK E f ⟨some d, .call c, T, pos, aft, g⟩ K = some out) : OpOk P w0 lent f a w ⟨some d, .call c, T, pos, aft, g⟩ d K out := by
  obtain ⟨cal, args, tys⟩ := c
  simp only at hc; subst hc
  simp only [opK] at hk
  split at hk
  · rename_i s y D D' hargs htys
    have hargs' : args = #[s, y] := by rw [← Array.toArray_toList (xs := args), hargs]
    have htys' : tys = #[D, D'] := by rw [← Array.toArray_toList (xs := tys), htys]
    subst hargs'; subst htys'
    split at hk
    · rename_i t e hT hT2
      obtain ⟨t', ys, hv, hk2⟩ := sliceK_sound h hk
      split at hk2
      · rename_i heq _
        subst heq
        -- the appended elements
        have key : ∃ dy SYF, appendK f s t' ys dy K = some out ∧ ∃ p' c' S tr, a.eval y = .slice p' (List.length ys) c' ∧ Rep tr w (.slice t') [.slice p' (List.length ys) c'] ys S ∧
            ((t'.flat = true ∧ SYF = fun _ => False) ∨ (tr = true ∧ SYF = S)) ∧ ∀ c, SYF c → ∃ l ∈ dy, Of own w (some l) c := by
          obtain ⟨p', c', hey, _⟩ := hv.slice
          obtain ⟨cs, hs, hr, hkd⟩ := hv
          have hcs : cs = [.slice p' (List.length ys) c'] := by simpa only [Shape, Shape1, hey] using hs
          subst hcs
          cases hfl : t'.flat with
          | true =>
            rw [hfl] at hk2
            exact ⟨[], fun _ => False, hk2, p', c', _, false, hey, hr, .inl ⟨rfl, rfl⟩, fun _ h => h.elim⟩
          | false =>
            rw [hfl] at hk2
            simp only at hk2
            split at hk2
            · rename_i ls hkk
              rw [hkk] at hkd
              exact ⟨ls, _, hk2, p', c', _, true, hey, hkd, .inr ⟨rfl, rfl⟩, fun c hc => hc⟩
            · simp at hk2
        obtain ⟨dy, SYF, hk3, p', c', SY, tr, hey, hrepY, hcaseY, hdy⟩ := key
        have hSY : ∀ c, SYF c → c < w.heap.size := fun c hc => by obtain ⟨l, _, hc⟩ := hdy c hc; exact hc.2
        have hexec : ∀ v w', (Builtin.append_ #[D, D'] T #[a.eval s, a.eval y]).run P w = .ok v w' → (execOp a.eval ⟨some d, .call ⟨.builtin .append, #[s, y], #[D, D']⟩, T, pos, aft, g⟩).run P w = .ok (.value v) w' := by
          intro v w' hrun
          simp only [execOp, resolve, Sem.run_bind, Sem.run_pure, Result.andThen_ok, invoke, builtin]
          have : (#[s, y] : Array Operand).map a.eval = #[a.eval s, a.eval y] := by simp
          rw [this, hrun]; rfl
        cases s with
        | tmp i =>
          simp only [appendK] at hk3
          cases hf : f[i]? with
          | none => rw [hf] at hk3; simp at hk3
          | some sl =>
            rw [hf] at hk3
            cases sl with
            | own t0 x0 =>
              simp only at hk3
              obtain ⟨e0, hk3⟩ := castK_some hk3
              subst e0
              obtain ⟨hlen, hk3⟩ := room_some hk3
              split at hk3
              · simp at hk3
              rename_i hcon
              have hni := contains_false hcon
              obtain ⟨cs, hsh, hrepX⟩ := h.slots i _ hf
              obtain ⟨p, cc, hcs, hle, _⟩ := id hrepX
              subst hcs
              have hes : a.eval (.tmp i) = .slice p (List.length (α := t'.den) x0) cc := by
                simp only [Shape, Shape1, List.cons.injEq, and_true] at hsh; exact hsh.symm
              obtain ⟨v, w', hrun, hgrow, hshv, hrep, hworld⟩ := append_run (ty := T) hE hT hT2 hrepX hrepY (SYF := SYF) (hcaseY.imp id fun ⟨h1, h2⟩ => ⟨h1, h2, fun c hc hc' => by
                obtain ⟨l, hl, hc'⟩ := hdy c (h2 ▸ hc')
                have := hc.1.symm.trans hc'.1; simp at this; exact hni (this ▸ hl)⟩) (fun c hc => hc.2) hSY hlen
              intro next Q hn
              refine does_value (hexec v w' (by rw [hes, hey]; exact hrun)) ?_
              refine hn _ _ (own.move w w' (i :: dy) d) _ _ hk3 ?_
              rw [killFrail_loose (by simp)]
              have hcalmW : Calm w w' := by
                rcases hworld with hg | ⟨b, o, L, El, news, _, _, _, _, rfl, _⟩
                · exact hg.calm
                · exact setRow_calm w b _
              refine h.apply hd hgrow hcalmW (Own.move_fresh' hgrow h.fresh _ d) (fun r hr => Own.move_keeps' hgrow _ d r hr fun c hc => ?_) ⟨[v], hshv, hrep.mono fun c hc => ?_⟩
              · rcases hworld with hg | ⟨b, o, L, El, news, _, _, _, hb, rfl, _⟩
                · exact hg.2 c hc.2
                · exact setRow_other fun e => hr i (by simp) (by rw [← hc.1, e, hb.1])
              · rcases hc with hc | hc | hc
                · exact Own.move_used' hgrow ⟨i, by simp, hc⟩
                · obtain ⟨l, hl, hc⟩ := hdy c hc
                  exact Own.move_used' hgrow ⟨l, by simp [hl], hc⟩
                · exact Own.move_new hc.1 hc.2
            | ref r p tr0 t0 x0 u0 =>
              cases t0 with
              | slice e0 =>
                simp only at hk3
                split at hk3
                · rename_i heq2 _
                  subst heq2
                  obtain ⟨hlen, hk3⟩ := room_some hk3
                  split at hk3
                  · rename_i hcond
                    simp only [Bool.and_eq_true, Bool.not_eq_true'] at hcond
                    have hnr := contains_false hcond.2
                    obtain ⟨x1, rc, l0, l, cs, hb, hat, hloc, hsh, hcs⟩ := h.slots i _ hf
                    obtain ⟨g1, g2, _⟩ := hb.rep (h.root r)
                    obtain ⟨hbl, hrow⟩ := Rep.partBlocks hat (g2 rfl) (fun b o e h => h.2 o e) hloc
                    have hcs1 : cs = (conts w rc l).take 1 := hcs
                    rw [show (Ty.slice e0).size = 1 from rfl, ← hcs1] at hrow hbl
                    obtain ⟨pp, cc, hcs2, hle, _⟩ := id hrow
                    have hes : a.eval (.tmp i) = .slice pp (List.length (α := e0.den) x0) cc := by
                      rw [hcs2] at hsh
                      simp only [Shape, Shape1, List.cons.injEq, and_true] at hsh; exact hsh.symm
                    have hrow' : Rep true w (.slice e0) [.slice pp (List.length (α := e0.den) x0) cc] x0 (FP w (.slice e0) cs x0) := hcs2 ▸ hrow
                    obtain ⟨v, w', hrun, hgrow, hshv, hrep, hworld⟩ := append_run (ty := T) hE hT hT2 hrow' hrepY (SYF := SYF) (hcaseY.imp id fun ⟨h1, h2⟩ => ⟨h1, h2, fun c hc hc' => by
                      obtain ⟨l', hl, hc'⟩ := hdy c (h2 ▸ hc')
                      have := (hbl c hc).1.1.symm.trans hc'.1; simp at this; exact hnr (this ▸ hl)⟩) (fun c hc => (hbl c hc).1.2) hSY hlen
                    obtain ⟨hond, honl⟩ := hok _ _ hk3
                    have hrd : r ≠ d := by rintro rfl; simp [Slot.on] at hond
                    intro next Q hn
                    refine does_value (hexec v w' (by rw [hes, hey]; exact hrun)) ?_
                    have hda : d < a.tmps.size := h.size ▸ hd
                    -- the world between: the row's spare cells written
                    have hmid : ∃ w1, Grow w1 w' ∧ w1.heap.size = w.heap.size ∧ Inv w0 lent (Sx.killFrail f (.ext r p tr0 e0 (List.append (α := e0.den) x0 ys) u0)) a w1 own ∧
                        locate w1 rc p tr0 l0 = some l ∧ conts w1 rc l = conts w rc l ∧ ∀ k, FP w (.slice e0) cs x0 k → FP w1 (.slice e0) cs x0 k := by
                      rcases hworld with hg | ⟨b, o, L, El, news, hp, hc0, hh, hbF, rfl, hroom⟩
                      · exact ⟨w, hg, rfl, h.killFrail, hloc, rfl, fun _ h => h⟩
                      · subst hp
                        refine ⟨_, Grow.refl _, setRow_size, h.spare hb hat hloc (hcs1 ▸ hcs2) hc0 hh hroom, ?_⟩
                        have hbc : ∀ bb oo, l0 = .mem bb oo → bb ≠ b := fun bb oo e1 e2 => (hbl b hbF).2 oo (e2 ▸ e1)
                        have := Rep.locate_inner hat l0 _ l (g2 rfl) (fun b o e h => h.2 o e) hloc (w.setRow b (splice L (o + List.length (α := e0.den) x0 * e0.size) news))
                          (fun k _ hk => setRow_other fun e => hk (by rw [show (Ty.slice e0).size = 1 from rfl, ← hcs1]; exact e ▸ hbF)) (fun bb oo e => setRow_other (hbc bb oo e))
                        refine ⟨this.1, this.2, fun k hk => ?_⟩
                        rw [hcs2] at hk ⊢
                        exact FP.spare hrow' hh hroom hk
                    obtain ⟨w1, hg1, hsz1, hinv, hloc1, hcon1, hfp1⟩ := hmid
                    have hgr : w1.heap.size ≤ w'.heap.size := hg1.1
                    refine hn _ _ (own.move w1 w' dy d) _ _ hk3 ?_
                    refine hinv.applyGrow hg1 (by rw [killFrail_length]; exact hd) ?_
                    -- the new slot
                    have hrn : r ∉ dy := hnr
                    have hbase : Base (applyS (Sx.killFrail f (.ext r p tr0 e0 (List.append (α := e0.den) x0 ys) u0)) (some d) (.ext r p tr0 e0 (List.append (α := e0.den) x0 ys) u0) dy) (a.put (some d) v).tmps true r tr0 x1 rc l0 := by
                      have hT' : (a.put (some d) v).tmps.getD r undef = a.tmps.getD r undef := by rw [act_put_get _ _ _ hda, if_neg hrd]
                      rcases hb with ⟨h1, h2, h3, h4⟩ | ⟨h1, h2, bb, h3, h4⟩
                      · exact .inl ⟨h1, applyS_root hrd hrn (killFrail_root h2 rfl) rfl, hT' ▸ h3, h4⟩
                      · exact .inr ⟨applyS_root hrd hrn (killFrail_root h1 rfl) rfl, h2, bb, hT' ▸ h3, h4⟩
                    -- the root's own memory from w1 to w'
                    obtain ⟨q1, q2, _⟩ := (show Base (Sx.killFrail f (.ext r p tr0 e0 (List.append (α := e0.den) x0 ys) u0)) a.tmps true r tr0 x1 rc l0 from by
                      rcases hb with ⟨h1, h2, h3, h4⟩ | ⟨h1, h2⟩
                      · exact .inl ⟨h1, killFrail_root h2 rfl, h3, h4⟩
                      · exact .inr ⟨killFrail_root h1 rfl, h2⟩).rep (hinv.root r)
                    have hlo := Rep.locate_same hat l0 _ (q2 rfl) (w2 := w') (fun c hc => hg1.2 c hc.1.2) (fun bb oo e => by
                      obtain ⟨_, L, El, hh⟩ := q1 bb oo e
                      exact hg1.2 bb (heap_lt hh))
                    have hcs' : (conts w' rc l).take 1 = cs := by rw [hlo.2 l hloc1, hcon1, hcs1]
                    have hfp2 : ∀ k, FP w (.slice e0) cs x0 k → FP w' (.slice e0) cs x0 k := fun k hk => FP.agree (fun c hc => hg1.2 c (by
                      have hb1 := (Rep.partBlocks hat (q2 rfl) (fun b o e h => h.2 o e) hloc1).1
                      rw [show (Ty.slice e0).size = 1 from rfl, hcon1, ← hcs1] at hb1
                      exact (hb1 c hc).1.2)) (hfp1 k hk)
                    refine ⟨x1, rc, l0, l, x0, [v], hbase, hat, hlo.1.trans hloc1, hshv, hrep.mono fun k hk => ?_⟩
                    rw [hcs']
                    rcases hk with hk | hk | hk
                    · exact .inr (hfp2 k hk)
                    · obtain ⟨l', hl, hk⟩ := hdy k hk
                      exact .inl (Own.move_used' hgr ⟨l', hl, hk.1, by rw [hsz1]; exact hk.2⟩)
                    · exact .inl (Own.move_new (by rw [hsz1]; exact hk.1) hk.2)
                  · simp at hk3
                · simp at hk3
              | _ => simp at hk3
            | _ => simp at hk3
        | _ => simp [appendK] at hk3
      · simp at hk2
    · simp at hk
  · simp at hk

end Go.Sx

/- The interpreter's local operations are the model's: slices built out of their parts; assignments. Conditions: the tables of types and contracts fit. -/
namespace Go.Sx

variable {α : Type} {w0 : World} {lent : Nat → Prop} {f : Frame} {a : Act} {w : World} {own : Own}
variable {P : Program} {E : Env} {K : Slot → List Nat → Option α} {out : α} {d : Nat} {T : TypeId} {pos : String} {aft : Array Edge} {g : Option (Nat × Bool)}

theorem Elems.one {tr : Bool} {t : Ty} {x : t.den} {cs : List Value} {S : Nat → Prop} (h : Rep tr w t cs x S) : Elems tr w t [x] S cs (fun i c => i = 0 ∧ S c) := by
  refine ⟨by simp [h.len], fun i y hy => ?_, fun i c hc => hc.2, fun _ i j c hij hi hj => hij (hi.1.trans hj.1.symm)⟩
  match i, hy with
  | 0, hy =>
    simp [lget] at hy; subst hy
    have := h.len
    simp only [Nat.zero_mul, List.drop_zero, true_and]
    rw [List.take_of_length_le (by omega)]; exact h
  | i + 1, hy => simp [lget] at hy

def partVals (a : Act) (parts : List (Nat × Operand)) : List Value := parts.map fun x => a.eval x.2

def partCells (a : Act) (parts : List (Nat × Operand)) : List Value := (partVals a parts).flatMap fun v => v.cells.toList

theorem listK_sound (h : Inv w0 lent f a w own) {t : Ty} (hp : t.plain = true) : ∀ (parts : List (Nat × Operand)) (k : Nat) {K' : List t.den → Option α}, listK f t parts k K' = some out →
    ∃ xs, K' xs = some out ∧ parts.map (fun x => (x.1, a.eval x.2)) = ((partVals a parts).zipIdx k).map (fun x => (x.2, x.1)) ∧ (∀ v ∈ partVals a parts, v.cells.size = t.size) ∧ List.length xs = parts.length ∧
      (t.flat = true → ∃ Si, Elems true w t xs (fun _ => False) (partCells a parts) Si) ∧
      (∀ ls, ownersOf f parts = some ls → ∃ Si, Elems true w t xs (fun c => ∃ l ∈ ls, Of own w (some l) c) (partCells a parts) Si)
  | [], k, K', hk => by
    simp only [listK] at hk
    refine ⟨[], hk, rfl, by simp [partVals], rfl, fun _ => ⟨fun _ _ => False, ⟨by simp [partCells, partVals], by simp [lget], fun _ _ h => h, fun _ _ _ _ _ h => h.elim⟩⟩, fun ls _ => ⟨fun _ _ => False, ⟨by simp [partCells, partVals], by simp [lget], fun _ _ h => h.elim, fun _ _ _ _ _ h => h.elim⟩⟩⟩
  | (j, o) :: r, k, K', hk => by
    simp only [listK] at hk
    split at hk
    · rename_i hjk
      have hjk := Nat.eq_of_beq_eq_true hjk
      subst hjk
      obtain ⟨t', x, hv, hk⟩ := valK_sound h hk
      obtain ⟨e, hk⟩ := castK_some hk
      subst e
      obtain ⟨xs, hK, h1, h2, h3, h4, h5⟩ := listK_sound h hp r (j + 1) hk
      obtain ⟨cs, hs, hr, hkd⟩ := hv
      have hcs : (a.eval o).cells.toList = cs := hs.cells hp hr
      have hsz : (a.eval o).cells.size = t'.size := by rw [← hr.len, ← hcs]; simp
      have hpc : partCells a ((j, o) :: r) = cs ++ partCells a r := by simp [partCells, partVals, hcs]
      refine ⟨x :: xs, hK, ?_, ?_, by simp [h3], fun hf => ?_, fun ls hls => ?_⟩
      · simp only [partVals, List.map_cons, List.zipIdx_cons]
        rw [h1]; rfl
      · intro v hv
        simp only [partVals, List.map_cons, List.mem_cons] at hv
        rcases hv with rfl | hv
        · exact hsz
        · exact h2 v hv
      · obtain ⟨Si, hS⟩ := h4 hf
        have hone : Elems true w t' [x] (fun _ => False) cs _ := Elems.one (hr.flatAny hf)
        rw [hpc]
        exact ⟨_, (hone.append hS fun _ h => h.elim).mono fun c h => h.elim id id⟩
      · simp only [ownersOf] at hls
        split at hls
        · rename_i ls1 ms hk1 hk2
          rw [hk1] at hkd
          split at hls
          · rename_i hdis
            simp at hls; subst hls
            obtain ⟨Si, hS⟩ := h5 ms hk2
            rw [hpc]
            refine ⟨_, ((Elems.one hkd).append hS fun c h h' => ?_).mono fun c h => ?_⟩
            · obtain ⟨l, hl, hc⟩ := h
              obtain ⟨m, hm, hc'⟩ := h'
              have := hc.1.symm.trans hc'.1; simp at this; subst this
              have := List.all_eq_true.1 hdis l hl
              simp at this
              exact this hm
            · rcases h with ⟨l, hl, hc⟩ | ⟨l, hl, hc⟩
              · exact ⟨l, by simp [hl], hc⟩
              · exact ⟨l, by simp [hl], hc⟩
          · simp at hls
        · simp at hls
    · simp at hk

theorem buildSlice_sound (hE : EnvOk P E) (h : Inv w0 lent f a w own) (hd : d < f.length) {D : TypeId} {len : Nat} {parts : Array (Nat × Operand)}
    (hk : opK E f ⟨some d, .buildSlice D len parts, T, pos, aft, g⟩ K = some out) : OpOk P w0 lent f a w ⟨some d, .buildSlice D len parts, T, pos, aft, g⟩ d K out := by
  simp only [opK] at hk
  split at hk
  · rename_i t hT
    obtain ⟨T', hu, hT'⟩ := (hE.ty _ _ hT).slice t rfl
    have hp := (hE.ty _ _ hT').plain
    split at hk
    · rename_i hcond
      simp only [Bool.and_eq_true] at hcond
      have hlen := Nat.eq_of_beq_eq_true hcond.1
      have hmax := Nat.le_of_ble_eq_true hcond.2
      have fin : ∀ (S : Nat → Prop) (Si : Nat → Nat → Prop) (ls : List Nat) (xs : List t.den), List.length xs = parts.toList.length → K (.own (.slice t) xs) ls = some out →
          parts.toList.map (fun x => (x.1, a.eval x.2)) = ((partVals a parts.toList).zipIdx 0).map (fun x => (x.2, x.1)) → (∀ v ∈ partVals a parts.toList, v.cells.size = t.size) →
          Elems true w t xs S (partCells a parts.toList) Si → (∀ c, S c → ∃ l ∈ ls, Of own w (some l) c) → OpOk P w0 lent f a w ⟨some d, .buildSlice D len parts, T, pos, aft, g⟩ d K out := by
        intro S Si ls xs hxs hK hzip hsz hel hS
        have hpos := t.size_pos
        have hvl : (partVals a parts.toList).length = len := by simp [partVals, hlen]
        have hxl : List.length xs = len := by rw [hxs, hlen]; simp
        obtain ⟨z, hz, hzc⟩ := run_zeroValue' (hE.ty _ _ hT') w
        have hfill : ∀ zero : Array Value, Instr.fill (fun i => some (i * t.size, t.size)) ((Array.range (len * t.size)).map (zero[· % zero.size]!)) (parts.map fun x => (x.1, a.eval x.2)).toList = some (partCells a parts.toList).toArray := by
          intro zero
          rw [Array.toList_map, hzip]
          exact Great.fill_whole hpos _ _ hsz (by simp [hvl])
        have hrun : (execOp a.eval ⟨some d, .buildSlice D len parts, T, pos, aft, g⟩).run P w = .ok (.value (.slice (some ⟨w.heap.size, 0, none⟩) len len)) (pushW w (.cells (partCells a parts.toList).toArray T')) := by
          have hbig : ¬ len * t.size > 2 ^ 24 := by omega
          by_cases e : len * t.size = 0
          · have hf := hfill #[]
            rw [e] at hf
            simp only [execOp, Instr.buildSlice, Sem.run_bind, run_underlying hu, Result.andThen_ok, run_sizeOf' (hE.ty _ _ hT') w, show ¬ ((0 : Nat) > 2 ^ 24) from by omega, if_false, e, if_true, Sem.run_pure, hf, run_newRow]
          · have hf := hfill z.cells
            simp only [execOp, Instr.buildSlice, Sem.run_bind, run_underlying hu, Result.andThen_ok, run_sizeOf' (hE.ty _ _ hT') w, hbig, if_false, e, Sem.run_pure, hz, hf, run_newRow]
        refine OpOk.fresh h rfl hd hrun (pushW_grow _ _ _) (ls := ls) (s := .own (.slice t) xs) (fun f2 T2 => ⟨_, rfl, ?_⟩) (by simp) hK
        have hlt : ∀ c, S c → c < w.heap.size := fun c hc => by obtain ⟨l, _, hc⟩ := hS c hc; exact hc.2
        have hel2 : Elems true (pushW w (.cells (partCells a parts.toList).toArray T')) t xs S (partCells a parts.toList) Si := hel.agree fun i c hc => (pushW_grow w _ _).2 c (hlt c (hel.sub i c hc))
        have hel3 := hel2.mono (S' := Of (own.move w (pushW w (.cells (partCells a parts.toList).toArray T')) ls d) (pushW w (.cells (partCells a parts.toList).toArray T')) (some d)) fun c hc => Own.move_used (pushW_grow _ _ _) (hS c hc)
        have hcl : (partCells a parts.toList).length = len * t.size := by rw [hel.len, hxl]
        have hseg : seg (partCells a parts.toList).toArray 0 (List.length xs * t.size) = partCells a parts.toList := by
          simp only [seg, List.drop_zero]
          exact List.take_of_length_le (by rw [hxl]; omega)
        have := hel3.row (pushW_get w (.cells (partCells a parts.toList).toArray T')) hseg (c := len) (by omega) (by have := Nat.le_mul_of_pos_right len hpos; omega) (by simp [hcl]) (Own.move_new (Nat.le_refl _) (by rw [pushW_size]; omega))
          (fun i hi => absurd (hlt _ (hel.sub i _ hi)) (Nat.lt_irrefl _))
        rw [hxl] at this
        exact this
      cases hfl : t.flat with
      | true =>
        rw [hfl] at hk
        obtain ⟨xs, hK, h1, h2, h3, h4, _⟩ := listK_sound h hp _ _ hk
        obtain ⟨Si, hS⟩ := h4 hfl
        exact fin _ Si [] xs h3 hK h1 h2 hS fun _ h => h.elim
      | false =>
        rw [hfl] at hk
        simp only at hk
        split at hk
        · rename_i ls hls
          obtain ⟨xs, hK, h1, h2, h3, _, h5⟩ := listK_sound h hp _ _ hk
          obtain ⟨Si, hS⟩ := h5 ls hls
          exact fin _ Si ls xs h3 hK h1 h2 hS fun _ h => h
        · simp at hk
    · simp at hk
  · simp at hk

end Go.Sx

/- The interpreter's local operations are the model's: assignments. Conditions: the tables of types and contracts fit. -/
namespace Go.Sx

variable {α : Type} {w0 : World} {lent : Nat → Prop} {f : Frame} {a : Act} {w : World} {own : Own}
variable {P : Program} {E : Env} {K : Slot → List Nat → Option α} {out : α} {d : Nat} {T : TypeId} {pos : String} {aft : Array Edge} {g : Option (Nat × Bool)}

theorem assign_copy (h : Inv w0 lent f a w own) (hd : d < f.length) (hok : ∀ s ls, K s ls = some out → s.on d = false ∧ ∀ c ∈ ls, s.on c = false) {x : Operand}
    (hk : (match copyS f x with | some s => K s [] | none => none) = some out) : OpOk P w0 lent f a w ⟨some d, .assign x, T, pos, aft, g⟩ d K out := by
  cases hc : copyS f x with
  | none => rw [hc] at hk; simp at hk
  | some s =>
    rw [hc] at hk; simp only at hk
    obtain ⟨⟨i, hs⟩, hl⟩ := copyS_sound h hc
    exact OpOk.loose h rfl hd (v := a.eval x) (w' := w) rfl (Grow.refl w) hs hl hk (hok _ _ hk).1

theorem Own.move_self {own : Own} {w : World} (ls : List Nat) (d : Nat) {c : Nat} (h : Of own w (some d) c) : Of (own.move w w ls d) w (some d) c := by
  refine ⟨?_, h.2⟩
  simp only [Own.move]
  rw [if_neg (by omega), h.1]
  split <;> simp_all

theorem At.root {tr t : Ty} {x : tr.den} {y : t.den} {u : t.den → tr.den} (h : At tr x [] t y u) : ∃ e : tr = t, e ▸ x = y := by
  cases h; exact ⟨rfl, rfl⟩

theorem assign_sound (_hE : EnvOk P E) (h : Inv w0 lent f a w own) (hd : d < f.length) (hok : ∀ s ls, K s ls = some out → s.on d = false ∧ ∀ c ∈ ls, s.on c = false) {x : Operand}
    (hk : opK E f ⟨some d, .assign x, T, pos, aft, g⟩ K = some out) : OpOk P w0 lent f a w ⟨some d, .assign x, T, pos, aft, g⟩ d K out := by
  have run : (execOp a.eval ⟨some d, .assign x, T, pos, aft, g⟩).run P w = .ok (.value (a.eval x)) w := rfl
  cases x with
  | const v =>
    simp only [opK] at hk
    split at hk
    · rename_i e
      simp only [Operand.const.injEq] at e; subst e
      split at hk
      · rename_i t hT
        exact OpOk.fresh h rfl hd run (Grow.refl w) (ls := []) (s := .own (.slice t) ([] : List t.den)) (fun f' T' => ⟨_, rfl, none, 0, rfl, Nat.le_refl _, .inl rfl⟩) (by simp) hk
      · simp at hk
    · rename_i e
      simp only [Operand.const.injEq] at e; subst e
      exact OpOk.fresh h rfl hd run (Grow.refl w) (ls := []) (s := .dead) (fun f' T' => trivial) (by simp) hk
    · simp at *
    · exact assign_copy h hd hok hk
  | global _ => exact assign_copy h hd hok hk
  | func _ => exact assign_copy h hd hok hk
  | tmp i =>
    have copy : (match copyS f (.tmp i) with | some s => K s [] | none => none) = some out → OpOk P w0 lent f a w ⟨some d, .assign (.tmp i), T, pos, aft, g⟩ d K out := assign_copy h hd hok
    simp only [opK] at hk
    cases hf : f[i]? with
    | none => rw [hf] at hk; simp only [copyS, hf] at hk; simp at hk
    | some s =>
      rw [hf] at hk
      have hs := h.slots i s hf
      cases s with
      | dead => simp [copyS, hf] at hk
      | undef => simp [copyS, hf] at hk
      | ro r t x => exact copy hk
      | adr o r p tr t y u => exact copy hk
      | radr r t y => exact copy hk
      | own t x =>
        simp only at hk
        obtain ⟨cs, hsh, hrep⟩ := hs
        cases hfl : t.flat with
        | true => rw [hfl] at hk; exact OpOk.fresh h rfl hd run (Grow.refl w) (ls := []) (fun f' T' => flat_ok hfl hsh hrep none d f' T') (by simp) hk
        | false =>
          rw [hfl] at hk
          exact OpOk.fresh h rfl hd run (Grow.refl w) (ls := [i]) (s := .own t x) (fun f' T' => ⟨cs, hsh, hrep.mono fun c hc => Own.move_used (Grow.refl w) ⟨i, by simp, hc⟩⟩) (by simp) hk
      | box b t x =>
        simp only at hk
        obtain ⟨bl, L, El, hv, hb, hh, hsz, h1, h2⟩ := hs
        have mv : ∀ c, Of own w (some i) c → Of (own.move w w [i] d) w (some d) c := fun c hc => Own.move_used (Grow.refl w) ⟨i, by simp, hc⟩
        exact OpOk.fresh h rfl hd run (Grow.refl w) (ls := [i]) (s := .box b t x) (fun f' T' => ⟨bl, L, El, hv, (mv bl ⟨hb, heap_lt hh⟩).1, hh, hsz, fun ho => (h1 ho).mono fun c hc => ⟨mv c hc.1, hc.2⟩,
          fun ho => (h2 ho).keeps (Own.move_keeps (Grow.refl w) [i] d none (by simp))⟩) (by simp) hk
      | ref r p tr t y u =>
        have self : copyS f (.tmp i) = some (.ref r p tr t y u) := by simp only [copyS, hf]
        simp only at hk
        split at hk
        · split at hk
          · simp at hk
          · obtain ⟨cs, hsh, hrep⟩ := h.refTree hf
            exact OpOk.fresh h rfl hd run (Grow.refl w) (ls := [r]) (s := .own t y) (fun f' T' => ⟨cs, hsh, hrep.mono fun c hc => Own.move_used (Grow.refl w) ⟨r, by simp, hc⟩⟩) (by simp) hk
        · exact copy (by rw [self]; exact hk)
      | ext r p tr t x u =>
        simp only at hk
        obtain ⟨cs, hsh, hrep⟩ := h.extTree hf
        split at hk
        · split at hk
          · split at hk
            · rename_i hrd
              have hrd := Nat.eq_of_beq_eq_true hrd
              subst hrd
              refine OpOk.fresh h rfl hd run (Grow.refl w) (ls := [i]) (s := .own (.slice t) x) (fun f' T' => ⟨cs, hsh, hrep.mono fun c hc => ?_⟩) (by simp) hk
              obtain ⟨l, hl, hc⟩ := hc
              simp at hl
              rcases hl with rfl | rfl
              · exact Own.move_self _ _ hc
              · exact Own.move_used (Grow.refl w) ⟨l, by simp, hc⟩
            · exact OpOk.fresh h rfl hd run (Grow.refl w) (ls := [r, i]) (s := .own (.slice t) x) (fun f' T' => ⟨cs, hsh, hrep.mono fun c hc => Own.move_used (Grow.refl w) hc⟩) (by simp) hk
          · simp at hk
        · simp at hk

end Go.Sx

/- The interpreter's local operations are the model's: all of them. Conditions: the tables of types and contracts fit. -/
namespace Go.Sx

variable {α : Type} {w0 : World} {lent : Nat → Prop} {f : Frame} {a : Act} {w : World} {own : Own}
variable {P : Program} {E : Env} {K : Slot → List Nat → Option α} {out : α} {d : Nat}

theorem opK_sound (hE : EnvOk P E) (h : Inv w0 lent f a w own) (hd : d < f.length) (hok : ∀ s ls, K s ls = some out → s.on d = false ∧ ∀ c ∈ ls, s.on c = false) {o : Oper} (ho : o.dst = some d)
    (hk : opK E f o K = some out) : OpOk P w0 lent f a w o d K out := by
  obtain ⟨dst, op, T, pos, aft, g⟩ := o
  simp only at ho; subst ho
  cases op with
  | move x => exact move_sound h hd hok hk
  | assign x => exact assign_sound hE h hd hok hk
  | pick c x y => exact pick_sound h hd hk
  | alloc D => exact alloc_sound hE h hd hk
  | box D x => exact box_sound hE h hd hk
  | build S parts => exact build_sound hE h hd hk
  | buildSlice D len parts => exact buildSlice_sound hE h hd hk
  | load D x => exact load_sound hE h hd hok hk
  | nilCheck x => exact nilCheck_sound h hd hok hk
  | binOp op xT x y yT => exact binOp_sound hE h hd hk
  | unOp op xT x => exact unOp_sound h hd hk
  | convert S D x => exact convert_sound hE h hd hk
  | makeSlice D n c => exact makeSlice_sound hE h hd hk
  | slice S x lo hi mx => exact slice_sound hE h hd hok hk
  | fieldAddr S x k => exact fieldAddr_sound hE h hd hok hk
  | indexAddr S x i => exact indexAddr_sound hE h hd hok hk
  | extract x n => exact extract_sound h hd hok hk
  | call c =>
    cases hc : c.callee with
    | value v =>
      cases v with
      | func gf => exact call_sound hE h hd hc hk
      | _ => simp [opK, hc] at hk
    | builtin b =>
      cases b with
      | len => exact len_sound hE h hd hc hk
      | min => exact min_sound h hd hc hk
      | max => exact max_sound h hd hc hk
      | append => exact append_sound hE h hd hok hc hk
      | _ => simp [opK, hc] at hk
    | invoke => simp [opK, hc] at hk
  | _ => simp [opK] at hk

theorem wp_mono {o : Oper} {next next' : Act → World → Prop} {Q : Exit → Act → World → Prop} (h : ∀ a w, next a w → next' a w) (hh : o.wp P a w next Q) : o.wp P a w next' Q := Oper.wp_mono h hh

end Go.Sx

/- A store into a variable's own cells. Conditions: none. -/
namespace Go.Sx

theorem near_range {w : World} {rc : List Value} {t : Ty} {x : t.den} {p : Path} {t' : Ty} {y : t'.den} {u : t'.den → t.den} (hat : At t x p t' y u) :
    ∀ (l l' : Loc), p.near = true → locate w rc p t l = some l' → ∃ n, l' = l.add n ∧ n + t'.size ≤ t.size := by
  induction hat with
  | here =>
    intro l l' _ hl
    simp [locate] at hl; subst hl
    exact ⟨0, by cases l <;> rfl, by omega⟩
  | @fst a b x z p t' y u _ ih | @tfst a b x z p t' y u _ ih =>
    intro l l' hn hl
    obtain ⟨n, h1, h2⟩ := ih l l' hn hl
    exact ⟨n, h1, by simp only [Ty.size]; omega⟩
  | @snd a b x z p t' y u _ ih | @tsnd a b x z p t' y u _ ih =>
    intro l l' hn hl
    obtain ⟨n, h1, h2⟩ := ih _ l' hn hl
    exact ⟨a.size + n, by rw [h1]; cases l <;> simp [Loc.add, Nat.add_assoc], by simp only [Ty.size]; omega⟩
  | idx => intro l l' hn; simp [Path.near] at hn

theorem pair_split {tr : Bool} {w : World} {rc : List Value} {l : Loc} {a b : Ty} {x : (Ty.pair a b).den} {S : Nat → Prop} (h : Rep tr w (.pair a b) ((conts w rc l).take (Ty.pair a b).size) x S) :
    ∃ S1 S2, Rep tr w a ((conts w rc l).take a.size) x.1 S1 ∧ Rep tr w b ((conts w rc (l.add a.size)).take b.size) x.2 S2 ∧ (∀ c, S1 c → S c) ∧ (∀ c, S2 c → S c) ∧ (tr = true → ∀ c, S1 c → ¬ S2 c) := by
  obtain ⟨c1, c2, S1, S2, hc, h1, h2, g1, g2, g3⟩ := h
  have e1 : c1 = (conts w rc l).take a.size := by
    have := congrArg (List.take a.size) hc
    rw [List.take_take, List.take_left' h1.len] at this
    rw [← this]; congr 1; simp [Ty.size]
  have e2 : c2 = (conts w rc (l.add a.size)).take b.size := by
    have := congrArg (List.drop a.size) hc
    rw [List.drop_take, List.drop_left' h1.len] at this
    rw [← this, conts_add]; congr 1; simp [Ty.size]
  exact ⟨S1, S2, e1 ▸ h1, e2 ▸ h2, g1, g2, g3⟩

theorem pair_join {tr : Bool} {w : World} {rc : List Value} {l : Loc} {a b : Ty} {x : a.den} {y : b.den} {S S1 S2 : Nat → Prop} (h1 : Rep tr w a ((conts w rc l).take a.size) x S1)
    (h2 : Rep tr w b ((conts w rc (l.add a.size)).take b.size) y S2) (g1 : ∀ c, S1 c → S c) (g2 : ∀ c, S2 c → S c) (g3 : tr = true → ∀ c, S1 c → ¬ S2 c) :
    Rep tr w (.pair a b) ((conts w rc l).take (Ty.pair a b).size) (x, y) S := by
  refine ⟨_, _, S1, S2, ?_, h1, h2, g1, g2, g3⟩
  rw [conts_add]
  simp only [Ty.size, List.take_add]

/-- The value at a near path, stored anew: all else is as it was. -/
theorem Rep.near {w w2 : World} {rc : List Value} {b o : Nat} {L : Array Value} {E E2 : TypeId} {fz fz2 : Nat × Nat} {cs2 : List Value}
    {t : Ty} {x : t.den} {p : Path} {t' : Ty} {y : t'.den} {u : t'.den → t.den} (hat : At t x p t' y u) (hb : w.heap[b]? = some (.cells L E fz)) (hb2 : w2.heap[b]? = some (.cells (splice L o cs2) E2 fz2))
    (hlen : cs2.length = t'.size) (ho : o + t'.size ≤ L.size) :
    ∀ (o0 : Nat) (S : Nat → Prop), p.near = true → Rep false w t ((conts w rc (.mem b o0)).take t.size) x S → locate w rc p t (.mem b o0) = some (.mem b o) →
      (∀ c, S c → w2.heap[c]? = w.heap[c]?) → ∀ y', Rep false w2 t' cs2 y' S → Rep false w2 t ((conts w2 rc (.mem b o0)).take t.size) (u y') S := by
  have out : ∀ o1 n, o1 + n ≤ o ∨ o + t'.size ≤ o1 → (conts w2 rc (.mem b o1)).take n = (conts w rc (.mem b o1)).take n := by
    intro o1 n h
    rw [take_conts_mem hb, take_conts_mem hb2]
    exact seg_splice_out _ _ _ _ _ (by omega) (by rw [hlen]; exact h)
  induction hat with
  | here =>
    intro o0 S _ h hl hs y' hr
    simp [locate] at hl; subst hl
    rw [take_conts_mem hb2, seg_splice_in _ _ _ _ hlen (by omega)]
    exact hr
  | @fst a b' x z p t' y u hat ih =>
    intro o0 S hn h hl hs y' hr
    obtain ⟨S1, S2, h1, h2, g1, g2, _⟩ := pair_split h
    obtain ⟨n, e, hle⟩ := near_range hat _ _ hn hl
    simp only [Loc.add, Loc.mem.injEq, true_and] at e
    refine pair_join (S1 := S) (S2 := S2) (ih hlen ho out o0 S hn (h1.mono g1) hl hs y' hr) ?_ (fun c h => h) g2 (by simp)
    simp only [Loc.add] at h2 ⊢
    rw [out _ _ (by omega)]
    exact h2.agree fun c hc => hs c (g2 c hc)
  | @snd a b' x z p t' y u hat ih =>
    intro o0 S hn h hl hs y' hr
    obtain ⟨S1, S2, h1, h2, g1, g2, _⟩ := pair_split h
    obtain ⟨n, e, hle⟩ := near_range hat _ _ hn hl
    simp only [Loc.add, Loc.mem.injEq, true_and] at e
    refine pair_join (S1 := S1) (S2 := S) ?_ (ih hlen ho out (o0 + a.size) S hn (h2.mono g2) hl hs y' hr) g1 (fun c h => h) (by simp)
    rw [out _ _ (by omega)]
    exact h1.agree fun c hc => hs c (g1 c hc)
  | @tfst a b' x z p t' y u hat ih =>
    intro o0 S hn h hl hs y' hr
    obtain ⟨S1, S2, h1, h2, g1, g2, _⟩ := pair_split (a := a) (b := b') (x := (x, z)) h
    obtain ⟨n, e, hle⟩ := near_range hat _ _ hn hl
    simp only [Loc.add, Loc.mem.injEq, true_and] at e
    refine pair_join (a := a) (b := b') (S1 := S) (S2 := S2) (ih hlen ho out o0 S hn (h1.mono g1) hl hs y' hr) ?_ (fun c h => h) g2 (by simp)
    simp only [Loc.add] at h2 ⊢
    rw [out _ _ (by omega)]
    exact h2.agree fun c hc => hs c (g2 c hc)
  | @tsnd a b' x z p t' y u hat ih =>
    intro o0 S hn h hl hs y' hr
    obtain ⟨S1, S2, h1, h2, g1, g2, _⟩ := pair_split (a := a) (b := b') (x := (x, z)) h
    obtain ⟨n, e, hle⟩ := near_range hat _ _ hn hl
    simp only [Loc.add, Loc.mem.injEq, true_and] at e
    refine pair_join (a := a) (b := b') (S1 := S1) (S2 := S) ?_ (ih hlen ho out (o0 + a.size) S hn (h2.mono g2) hl hs y' hr) g1 (fun c h => h) (by simp)
    rw [out _ _ (by omega)]
    exact h1.agree fun c hc => hs c (g1 c hc)
  | idx => intro o0 S hn; simp [Path.near] at hn

theorem covers_near : ∀ (p : Path) (t : Ty), covers t p = true → p.near = true
  | [], _, _ => rfl
  | .fst :: p, .pair a b, h => by simp only [covers, Bool.and_eq_true] at h; exact covers_near p a h.2
  | .snd :: p, .pair a b, h => by simp only [covers, Bool.and_eq_true] at h; exact covers_near p b h.2
  | .idx _ :: _, _, h => by simp [covers] at h
  | .fst :: _, .num _, h | .fst :: _, .bool, h | .fst :: _, .slice _, h | .fst :: _, .tup _ _, h => by simp [covers] at h
  | .snd :: _, .num _, h | .snd :: _, .bool, h | .snd :: _, .slice _, h | .snd :: _, .tup _ _, h => by simp [covers] at h

/-- .. and nothing else holds memory. -/
theorem Rep.cover {tr tr2 : Bool} {w w2 : World} {rc : List Value} {b o : Nat} {L : Array Value} {E E2 : TypeId} {fz fz2 : Nat × Nat} {cs2 : List Value}
    {t : Ty} {x : t.den} {p : Path} {t' : Ty} {y : t'.den} {u : t'.den → t.den} (hat : At t x p t' y u) (hb : w.heap[b]? = some (.cells L E fz)) (hb2 : w2.heap[b]? = some (.cells (splice L o cs2) E2 fz2))
    (hlen : cs2.length = t'.size) (ho : o + t'.size ≤ L.size) :
    ∀ (o0 : Nat) (S G : Nat → Prop), covers t p = true → Rep tr w t ((conts w rc (.mem b o0)).take t.size) x S → locate w rc p t (.mem b o0) = some (.mem b o) →
      ∀ y', Rep tr2 w2 t' cs2 y' G → Rep tr2 w2 t ((conts w2 rc (.mem b o0)).take t.size) (u y') G := by
  have out : ∀ o1 n, o1 + n ≤ o ∨ o + t'.size ≤ o1 → (conts w2 rc (.mem b o1)).take n = (conts w rc (.mem b o1)).take n := by
    intro o1 n h
    rw [take_conts_mem hb, take_conts_mem hb2]
    exact seg_splice_out _ _ _ _ _ (by omega) (by rw [hlen]; exact h)
  induction hat with
  | here =>
    intro o0 S G _ h hl y' hr
    simp [locate] at hl; subst hl
    rw [take_conts_mem hb2, seg_splice_in _ _ _ _ hlen (by omega)]
    exact hr
  | @fst a b' x z p t' y u hat ih =>
    intro o0 S G hn h hl y' hr
    simp only [covers, Bool.and_eq_true] at hn
    obtain ⟨S1, S2, h1, h2, _⟩ := pair_split h
    obtain ⟨n, e, hle⟩ := near_range hat _ _ (covers_near _ _ hn.2) hl
    simp only [Loc.add, Loc.mem.injEq, true_and] at e
    refine pair_join (S1 := G) (S2 := fun _ => False) (ih hlen ho out o0 S1 G hn.2 h1 hl y' hr) ?_ (fun c h => h) (fun _ h => h.elim) (fun _ _ _ h => h)
    simp only [Loc.add] at h2 ⊢
    rw [out _ _ (by omega)]
    exact h2.flatAny hn.1
  | @snd a b' x z p t' y u hat ih =>
    intro o0 S G hn h hl y' hr
    simp only [covers, Bool.and_eq_true] at hn
    obtain ⟨S1, S2, h1, h2, _⟩ := pair_split h
    obtain ⟨n, e, hle⟩ := near_range hat _ _ (covers_near _ _ hn.2) hl
    simp only [Loc.add, Loc.mem.injEq, true_and] at e
    refine pair_join (S1 := fun _ => False) (S2 := G) ?_ (ih hlen ho out (o0 + a.size) S2 G hn.2 h2 hl y' hr) (fun _ h => h.elim) (fun c h => h) (fun _ _ h => h.elim)
    rw [out _ _ (by omega)]
    exact h1.flatAny hn.1
  | tfst => intro o0 S G hn; simp [covers] at hn
  | tsnd => intro o0 S G hn; simp [covers] at hn
  | idx => intro o0 S G hn; simp [covers] at hn

end Go.Sx

/- The interpreter's stores are the model's. Conditions: the tables of types and contracts fit. -/
namespace Go.Sx

variable {α : Type} {w0 : World} {lent : Nat → Prop} {f : Frame} {a : Act} {w : World} {own : Own}
variable {P : Program} {E : Env} {out : α} {d : Nat} {T : TypeId} {pos : String} {aft : Array Edge} {g : Option (Nat × Bool)}

theorem samePath_eq : ∀ (p q : Path), samePath p q = true → p = q
  | [], [], _ => rfl
  | .fst :: p, .fst :: q, h => by rw [samePath_eq p q h]
  | .snd :: p, .snd :: q, h => by rw [samePath_eq p q h]
  | .idx i :: p, .idx j :: q, h => by
    simp only [samePath, Bool.and_eq_true] at h
    rw [samePath_eq p q h.2, Nat.eq_of_beq_eq_true h.1]
  | [], _ :: _, h => by simp [samePath] at h
  | .fst :: _, [], h | .snd :: _, [], h | .idx _ :: _, [], h => by simp [samePath] at h
  | .fst :: _, .snd :: _, h | .fst :: _, .idx _ :: _, h | .snd :: _, .fst :: _, h | .snd :: _, .idx _ :: _, h | .idx _ :: _, .fst :: _, h | .idx _ :: _, .snd :: _, h => by simp [samePath] at h

theorem At.uniq {t : Ty} {x : t.den} {p : Path} {t1 : Ty} {y1 : t1.den} {u1 : t1.den → t.den} (h : At t x p t1 y1 u1) :
    ∀ {t2 : Ty} {y2 : t2.den} {u2 : t2.den → t.den}, At t x p t2 y2 u2 → ∃ e : t1 = t2, e ▸ y1 = y2 := by
  induction h with
  | here => intro t2 y2 u2 h; cases h; exact ⟨rfl, rfl⟩
  | fst _ ih => intro t2 y2 u2 h; cases h; rename_i h; exact ih h
  | snd _ ih => intro t2 y2 u2 h; cases h; rename_i h; exact ih h
  | tfst _ ih => intro t2 y2 u2 h; cases h; rename_i h; exact ih h
  | tsnd _ ih => intro t2 y2 u2 h; cases h; rename_i h; exact ih h
  | idx hx _ ih =>
    intro t2 y2 u2 h
    cases h with
    | idx hx2 h2 =>
      have := Option.some.inj (hx.symm.trans hx2)
      subst this
      exact ih h2

theorem Base.uniq {T0 : Array Value} {o o' : Bool} {r : Nat} {tr tr' : Ty} {x : tr.den} {x' : tr'.den} {rc rc' : List Value} {l l' : Loc} (h : Base f T0 o r tr x rc l) (h' : Base f T0 o' r tr' x' rc' l') :
    ∃ e : tr = tr', e ▸ x = x' ∧ rc = rc' ∧ l = l' ∧ o = o' := by
  rcases h with ⟨h1, h2, h3, h4⟩ | ⟨h1, h2, b, h3, h4⟩ <;> rcases h' with ⟨k1, k2, k3, k4⟩ | ⟨k1, k2, b', k3, k4⟩
  · rw [h2] at k2; simp at k2
    obtain ⟨e, k2⟩ := k2
    subst e
    simp at k2
    exact ⟨rfl, k2, h3.uniq k3, h4.trans k4.symm, h1.trans k1.symm⟩
  · rw [h2] at k1; simp at k1
  · rw [h1] at k2; simp at k2
  · rw [h1] at k1; simp at k1
    obtain ⟨e1, e2, k1⟩ := k1
    subst e1; subst e2
    simp at k1
    rw [h3] at k3; simp at k3
    subst k3
    exact ⟨rfl, k1, h2.trans k2.symm, h4.trans k4.symm, rfl⟩

/-- The labels behind a store. -/
theorem Own.stored_keeps {w2 : World} {r b : Nat} {ls : List Nat} (hsz : w2.heap.size = w.heap.size) (hbr : own b = some r) (hother : ∀ c, c ≠ b → w2.heap[c]? = w.heap[c]?) (k : Option Nat) (hk : k ≠ some r) (hl : ∀ c ∈ ls, k ≠ some c) :
    Keeps own w (own.move w w2 ls r) w2 k := by
  intro c ⟨hc, hlt⟩
  refine ⟨⟨?_, by rw [hsz]; exact hlt⟩, hother c fun e => hk (by rw [← hc, e, hbr])⟩
  simp only [Own.move]
  rw [if_neg (by omega), hc]
  cases k with
  | none => rfl
  | some l => simp only; rw [if_neg fun h => hl l h rfl]

theorem Own.stored_used {w2 : World} {r : Nat} {ls : List Nat} (hsz : w2.heap.size = w.heap.size) {c : Nat} (h : ∃ l ∈ ls, Of own w (some l) c) : Of (own.move w w2 ls r) w2 (some r) c := by
  obtain ⟨l, hl, hc, hlt⟩ := h
  refine ⟨?_, by rw [hsz]; exact hlt⟩
  simp only [Own.move]
  rw [if_neg (by omega), hc]
  simp [hl]

theorem Own.stored_self {w2 : World} {r : Nat} {ls : List Nat} (hsz : w2.heap.size = w.heap.size) {c : Nat} (h : Of own w (some r) c) : Of (own.move w w2 ls r) w2 (some r) c := by
  refine ⟨?_, by rw [hsz]; exact h.2⟩
  simp only [Own.move]
  rw [if_neg (by have := h.2; omega), h.1]
  split <;> simp_all

theorem Inv.stored (h : Inv w0 lent f a w own) {w2 : World} {r b : Nat} {ls : List Nat} {s : Slot} (hsz : w2.heap.size = w.heap.size) (hcalm : Calm w w2) (hbr : own b = some r) (hother : ∀ c, c ≠ b → w2.heap[c]? = w.heap[c]?)
    (hs : SlotOk w2 (own.move w w2 ls r) ((kill r (useUp f ls)).set r s) a.tmps r s (a.tmps.getD r undef)) : Inv w0 lent ((kill r (useUp f ls)).set r s) a w2 (own.move w w2 ls r) := by
  refine ⟨h.defers, by simp [kill_length, useUp_length, h.size], fun c hc => ?_, fun i sl hi => ?_, by rw [hsz]; exact h.grow, fun c hc hl => ?_, h.calm.trans hcalm⟩
  · simp only [Own.move]
    rw [if_neg (by omega), h.fresh c (by omega)]
  · by_cases e : i = r
    · subst e
      rw [List.getElem?_set] at hi
      simp at hi
      rw [← hi.2]; exact hs
    · rw [List.getElem?_set_ne (Ne.symm e)] at hi
      rcases kill_some hi with rfl | ⟨hi, honr⟩
      · trivial
      rcases useUp_get ls hi with rfl | ⟨hf, hnl, hon⟩
      · trivial
      refine (h.slots i sl hf).keep (fun r s hs => h.slots r s hs) (Own.stored_keeps hsz hbr hother none (by simp) (by simp))
        (Own.stored_keeps hsz hbr hother (some i) (by simp [e]) (fun c hc e' => by simp at e'; exact hnl (e' ▸ hc))) fun r' hr' => ?_
      have hrr : r' ≠ r := by rintro rfl; rw [honr] at hr'; simp at hr'
      have hrl : r' ∉ ls := fun hc => by rw [hon r' hc] at hr'; simp at hr'
      refine ⟨fun sl' hsl' hroot => ⟨?_, rfl⟩, Own.stored_keeps hsz hbr hother (some r') (by simp [hrr]) (fun c hc e' => by simp at e'; exact hrl (e' ▸ hc))⟩
      rw [List.getElem?_set_ne (Ne.symm hrr)]
      exact kill_root (useUp_root ls hsl' hroot hrl) hroot
  · obtain ⟨h1, h2⟩ := h.old c hc hl
    refine ⟨?_, (hother c fun e => by rw [e, hbr] at h1; simp at h1).trans h2⟩
    simp only [Own.move]
    rw [if_neg (by omega), h1]

theorem rootS_some {s0 : Option Slot} {tr : Ty} {x : tr.den} {b : Bool} {s : Slot} (h : rootS s0 tr x b = some s) :
    (b = true ∧ (∃ t y, s0 = some (.own t y)) ∧ s = .own tr x) ∨ ((∃ o t y, s0 = some (.box o t y)) ∧ s = .box b tr x) := by
  unfold rootS at h
  split at h
  · cases b <;> simp at h
    exact .inl ⟨rfl, ⟨_, _, rfl⟩, h.symm⟩
  · simp at h
    exact .inr ⟨⟨_, _, _, rfl⟩, h.symm⟩
  · simp at h

/-- The root's slot behind a store into its tree. -/
theorem slot_wand (h : Inv w0 lent f a w own) {r : Nat} {tr : Ty} {x x2 : tr.den} {rc : List Value} {l0 : Loc} {s : Slot} (hb : Base f a.tmps true r tr x rc l0) (hs : rootS f[r]? tr x2 true = some s)
    {w2 : World} {b : Nat} {L : Array Value} {El : TypeId} {off : Nat} {cs : List Value} (hh : w.heap[b]? = some (.cells L El (0, 0))) (hfit : off + cs.length ≤ L.size) (hw2 : w2 = w.setRow b (splice L off cs)) {ls : List Nat} {G : Nat → Prop} {f' : Frame} {T' : Array Value}
    (_hT : T'.getD r undef = a.tmps.getD r undef)
    (hrep : Rep true w2 tr ((conts w2 rc l0).take tr.size) x2 (fun c => (Of own w (some r) c ∧ ∀ off, l0 ≠ .mem c off) ∨ G c))
    (hG : ∀ c, G c → Of (own.move w w2 ls r) w2 (some r) c ∧ ∀ off, l0 ≠ .mem c off) : SlotOk w2 (own.move w w2 ls r) f' T' r s (a.tmps.getD r undef) := by
  have hsz : w2.heap.size = w.heap.size := by rw [hw2]; exact setRow_size
  rcases hb with ⟨_, hf, hsh, rfl⟩ | ⟨hf, rfl, b0, hv, rfl⟩
  · rw [hf] at hs
    simp only [rootS, Option.some.injEq] at hs
    subst hs
    refine ⟨rc, hsh, ?_⟩
    have hlen : rc.length = tr.size := by
      obtain ⟨cs0, hs0, hr0⟩ := h.slots r _ hf
      rw [hsh.uniq hs0]; exact hr0.len
    have : (conts w2 rc (.reg 0)).take tr.size = rc := by
      simp only [conts, List.drop_zero]
      exact List.take_of_length_le (by omega)
    rw [this] at hrep
    exact hrep.mono fun c hc => hc.elim (fun hc => Own.stored_self hsz hc.1) fun hc => (hG c hc).1
  · rw [hf] at hs
    simp only [rootS, Option.some.injEq] at hs
    subst hs
    obtain ⟨b', L0, E0, hv', hb0, hh0, hsz0, _, _⟩ := h.slots r _ hf
    rw [hv] at hv'; simp at hv'; subst hv'
    have hnew : ∃ L2, w2.heap[b0]? = some (.cells L2 E0 (0, 0)) ∧ L2.size = tr.size := by
      by_cases e : b0 = b
      · subst e
        rw [hh] at hh0; simp at hh0
        obtain ⟨rfl, rfl⟩ := hh0
        exact ⟨_, by rw [hw2]; exact setRow_heap w b0 L _ El _ hh, by rw [splice_size _ _ _ hfit]; exact hsz0⟩
      · exact ⟨L0, by rw [hw2, setRow_other e]; exact hh0, hsz0⟩
    obtain ⟨L2, hh2, hs2⟩ := hnew
    have htk : (conts w2 [] (.mem b0 0)).take tr.size = L2.toList := by
      rw [take_conts_mem hh2, seg, List.drop_zero]
      exact List.take_of_length_le (by simp; omega)
    rw [htk] at hrep
    refine ⟨b0, L2, E0, hv, (Own.stored_self hsz ⟨hb0, heap_lt hh0⟩).1, hh2, hs2, fun _ => hrep.mono fun c hc => ?_, by simp⟩
    rcases hc with ⟨hc, hn⟩ | hc
    · exact ⟨Own.stored_self hsz hc, fun e => hn 0 (e ▸ rfl)⟩
    · exact ⟨(hG c hc).1, fun e => (hG c hc).2 0 (e ▸ rfl)⟩

end Go.Sx

/- The interpreter's stores are the model's (2). Conditions: the tables of types and contracts fit. -/
namespace Go.Sx

variable {α : Type} {w0 : World} {lent : Nat → Prop} {f : Frame} {a : Act} {w : World} {own : Own}
variable {P : Program} {E : Env} {out : α} {d : Nat} {T : TypeId} {pos : String} {aft : Array Edge} {g : Option (Nat × Bool)}

theorem optIs_fact (hE : EnvOk P E) {D : Nat} {t : Ty} (ho : optIs (E.tyOf D) t = true) : TyFact P E D t := by
  simp only [optIs] at ho
  split at ho
  · rename_i t0 h0
    simp only [Ty.is] at ho
    split at ho
    · rename_i hh _
      obtain ⟨e⟩ := hh
      subst e
      exact hE.ty _ _ h0
    · simp at ho
  · simp at ho

theorem valK_nat {o : Operand} {K : (t : Ty) → t.den → Option α} {out : α} (hk : valK f o K = some out) : ∃ t x, K t x = some out ∧ ∀ (β : Type) (K' : (t : Ty) → t.den → Option β), valK f o K' = K' t x := by
  cases o with
  | tmp i =>
    simp only [valK] at hk ⊢
    cases hf : f[i]? with
    | none => rw [hf] at hk; simp at hk
    | some s =>
      rw [hf] at hk
      cases s <;> simp only [reduceCtorEq] at hk
      all_goals exact ⟨_, _, hk, fun β K' => rfl⟩
  | const v =>
    cases v <;> simp only [valK, reduceCtorEq] at hk ⊢
    · exact ⟨.bool, _, hk, fun β K' => rfl⟩
    · exact ⟨.num _, _, hk, fun β K' => rfl⟩
  | global g => simp [valK] at hk
  | func g => simp [valK] at hk

theorem valK_both (h : Inv w0 lent f a w own) {o : Operand} {K : (t : Ty) → t.den → Option α} {out : α} (hk : valK f o K = some out) :
    ∃ t x, OVal f a w own o t x ∧ K t x = some out ∧ ∀ (β : Type) (K' : (t : Ty) → t.den → Option β), valK f o K' = K' t x := by
  obtain ⟨t, x, h1, h2⟩ := valK_nat hk
  obtain ⟨t', x', h3, h4⟩ := valK_sound h (h2 (Σ t : Ty, t.den) fun t x => some ⟨t, x⟩)
  simp only [Option.some.injEq, Sigma.mk.injEq] at h4
  obtain ⟨rfl, h4⟩ := h4
  simp only [heq_eq_eq] at h4
  subst h4
  exact ⟨_, _, h3, h1, h2⟩

theorem storeR_sound (hE : EnvOk P E) (h : Inv w0 lent f a w own) {D : TypeId} {x v : Operand} {K : Rec → Option α} (hk : storeR E f D x v K = some out) {next : Act → World → Prop} {Q : Exit → Act → World → Prop}
    (hn : ∀ w' own' rec, K rec = some out → Inv w0 lent (rec.act f) a w' own' → next a w') : Oper.wp P ⟨none, .store D x v, T, pos, aft, g⟩ a w next Q := by
  simp only [storeR] at hk
  split at hk
  · rename_i o r p tr t y u hc
    split at hk
    · rename_i hopt
      have hty := optIs_fact hE hopt
      obtain ⟨⟨i, hs⟩, _⟩ := copyS_sound h hc
      obtain ⟨x1, rc, l0, b, off, hb, hat, hloc, hv, hnear⟩ := hs
      obtain ⟨t', z, hov, hk1, hnat⟩ := valK_both h hk
      clear hk
      obtain ⟨e, hk⟩ := castK_some hk1
      subst e
      clear hk1
      simp only at hk
      obtain ⟨cs, hsh, hr0, hkd⟩ := id hov
      have hcells : (a.eval v).cells.toList = cs := hsh.cells hty.plain hr0
      have hlen := hr0.len
      have hone := hr0.oneCell
      obtain ⟨g1, g2, g3⟩ := hb.rep (h.root r)
      -- the block
      have blk : own b = some r ∧ ∃ L El, w.heap[b]? = some (.cells L El (0, 0)) ∧ off + t'.size ≤ L.size := by
        have fits : ∀ L El fz, w.heap[b]? = some (.cells L El fz) → ((conts w rc (.mem b off)).take t'.size).length = t'.size → off + t'.size ≤ L.size := by
          intro L El fz hh hl
          rw [take_conts_mem hh] at hl
          exact seg_le hl t'.size_pos
        cases o with
        | true =>
          obtain ⟨l', S', k1, k2, k3, k4, k5, k6⟩ := Rep.put hat l0 _ (g2 rfl) (fun b o e h => h.2 o e)
          rw [hloc] at k1; simp at k1; subst k1
          rcases k5.mem b off rfl with ⟨o, e, _⟩ | hS
          · obtain ⟨hbr, L, E', hh⟩ := g1 b o e; exact ⟨hbr, L, E', hh, fits L E' _ hh k2.len⟩
          · obtain ⟨_, k, _⟩ := k6 b off rfl
            obtain ⟨L, E', hh⟩ := k hS; exact ⟨hS.1.1, L, E', hh, fits L E' _ hh k2.len⟩
        | false =>
          obtain ⟨hrep, b0, e0⟩ := g3 rfl
          obtain ⟨l', S', k1, k2, k3, k4⟩ := Rep.focus hat l0 _ hrep
          rw [hloc] at k1; simp at k1; subst k1
          subst e0
          obtain ⟨n, hn'⟩ := near_inside w rc p tr _ _ (hnear rfl) hloc
          simp only [Loc.add, Loc.mem.injEq] at hn'
          obtain ⟨hbr, L, E', hh⟩ := g1 b0 0 rfl
          obtain ⟨rfl, _⟩ := hn'
          exact ⟨hbr, L, E', hh, fits L E' _ hh k2.len⟩
      obtain ⟨hbr, L, El, hh, hfit⟩ := blk
      have hfit' : off + cs.length ≤ L.size := by omega
      have hrun := run_storeVar' hty hh hfit hcells hlen hone
      have hsz : (w.setRow b (splice L off cs)).heap.size = w.heap.size := setRow_size
      have hother : ∀ c, c ≠ b → (w.setRow b (splice L off cs)).heap[c]? = w.heap[c]? := fun c hc => setRow_other hc
      have hh2 : (w.setRow b (splice L off cs)).heap[b]? = some (.cells (splice L off cs) El (0, 0)) := setRow_heap w b L _ El _ hh
      have fin : ∀ (s : Slot) (ls : List Nat), K (.store r s ls) = some out → SlotOk (w.setRow b (splice L off cs)) (own.move w (w.setRow b (splice L off cs)) ls r) ((kill r (useUp f ls)).set r s) a.tmps r s (a.tmps.getD r undef) →
          Oper.wp P ⟨none, .store D x v, T, pos, aft, g⟩ a w next Q := by
        intro s ls hK hslot
        have hex : (execOp a.eval ⟨none, .store D x v, T, pos, aft, g⟩).run P w = .ok .skip (w.setRow b (splice L off cs)) := by
          simp only [execOp, Instr.storeAt, hv, Instr.sureAddr, Sem.run_bind, Sem.run_pure, Result.andThen_ok, hrun]
        simp only [Oper.wp, hex, Oper.upon]
        exact hn _ _ _ hK (h.stored hsz (setRow_calm w b _) hbr hother hslot)
      -- the tree's own root
      have wand : ∀ (s : Slot) (ls : List Nat) (G : Nat → Prop), o = true → K (.store r s ls) = some out → rootS f[r]? tr (u z) true = some s →
          Rep true w t' cs z G → (∀ c, G c → c ≠ b ∧ ∀ off, l0 ≠ .mem c off) → (∀ c, G c → (Of own w (some r) c ∧ ∀ off, l0 ≠ .mem c off) → FP w t' ((conts w rc (.mem b off)).take t'.size) y c) → (∀ c, G c → Of own w (some r) c ∨ ∃ l ∈ ls, Of own w (some l) c) →
          Oper.wp P ⟨none, .store D x v, T, pos, aft, g⟩ a w next Q := by
        intro s ls G ho hK hroot hG1 hG2 hG3 hG4
        subst ho
        obtain ⟨l', S', k1, k2, k3, k4, k5, k6⟩ := Rep.put hat l0 _ (g2 rfl) (fun b o e h => h.2 o e)
        rw [hloc] at k1; simp at k1; subst k1
        obtain ⟨_, _, hw⟩ := k6 b off rfl
        have hrep := hw (w.setRow b (splice L off cs)) L El (0, 0) cs z G hh hh2 (fun c _ _ hc => hother c hc) (fun b0 o0 _ hb0 => hother b0 hb0) hlen (hG1.agree fun c hc => hother c (hG2 c hc).1)
          (fun c hc => ⟨(hG2 c hc).1, fun hS => k3 ▸ hG3 c hc hS⟩)
        refine fin s ls hK (slot_wand h hb hroot hh hfit' rfl (T' := a.tmps) rfl hrep fun c hc => ⟨?_, (hG2 c hc).2⟩)
        rcases hG4 c hc with hc | hc
        · exact Own.stored_self hsz hc
        · exact Own.stored_used hsz hc
      -- a variable's cells
      have cover : ∀ (b2 tr2 : Bool) (ls : List Nat) (G G2 : Nat → Prop), covers tr p = true → K (.store r (.box b2 tr (u z)) ls) = some out → (∃ o1 t1 y1, f[r]? = some (.box o1 t1 y1)) →
          (Rep tr2 w t' cs z G) → (∀ c, G c → c ≠ b) → (b2 = true → tr2 = true ∧ ∀ c, G c → ∃ l ∈ ls, Of own w (some l) c) → (b2 = false → ∀ c, G c → Of own w none c) →
          Oper.wp P ⟨none, .store D x v, T, pos, aft, g⟩ a w next Q := by
        intro b2 tr2 ls G _ hcov hK hbox hG hne h1 h2
        obtain ⟨o1, t1, y1, hbox⟩ := hbox
        rcases id hb with ⟨_, hf, _⟩ | ⟨hf, hrc, b0, hv0, hl0⟩
        · rw [hf] at hbox; simp at hbox
        · subst hrc; subst hl0
          obtain ⟨b', L0, E0, hv', hb0, hh0, hsz0, hbt, hbf⟩ := h.slots r _ hf
          rw [hv0] at hv'; simp at hv'; subst hv'
          obtain ⟨n, hn'⟩ := near_inside w [] p tr _ _ (covers_near _ _ hcov) hloc
          simp only [Loc.add, Loc.mem.injEq] at hn'
          obtain ⟨rfl, _⟩ := hn'
          rw [hh] at hh0; simp at hh0
          obtain ⟨rfl, rfl⟩ := hh0
          have hs2 : (splice L off cs).size = tr.size := by rw [splice_size _ _ _ hfit']; exact hsz0
          have htk : ∀ (w1 : World) (L1 : Array Value), w1.heap[b]? = some (.cells L1 El (0, 0)) → L1.size = tr.size → (conts w1 [] (.mem b 0)).take tr.size = L1.toList := by
            intro w1 L1 hh1 hs1
            rw [take_conts_mem hh1, seg, List.drop_zero]
            exact List.take_of_length_le (by simp; omega)
          have old : ∃ tr0 S0, Rep tr0 w tr ((conts w [] (.mem b 0)).take tr.size) x1 S0 := by
            cases o with
            | true => exact ⟨_, _, g2 rfl⟩
            | false => exact ⟨_, _, (g3 rfl).1⟩
          obtain ⟨tr0, S0, hold⟩ := old
          have hrep := Rep.cover (tr2 := tr2) hat hh hh2 hlen hfit 0 S0 G hcov hold hloc z (hG.agree fun c hc => hother c (hne c hc))
          rw [htk _ _ hh2 hs2] at hrep
          refine fin _ ls hK ⟨b, splice L off cs, El, hv0, (Own.stored_self hsz ⟨hb0, heap_lt hh⟩).1, hh2, hs2, fun e => ?_, fun e => ?_⟩
          · obtain ⟨e1, e2⟩ := h1 e
            subst e1
            exact hrep.mono fun c hc => ⟨Own.stored_used hsz (e2 c hc), hne c hc⟩
          · refine hrep.weak.mono fun c hc => ?_
            exact (Own.stored_keeps hsz hbr hother none (by simp) (by simp) c (h2 e c hc)).1
      -- blocks of others are not the root's
      have apart : ∀ (ls : List Nat), r ∉ ls → ∀ c, (∃ l ∈ ls, Of own w (some l) c) → own c ≠ some r := by
        rintro ls hr c ⟨l, hl, hc⟩ e
        rw [hc.1] at e; simp at e; exact hr (e ▸ hl)
      have boxown : ∀ c, (∃ off, l0 = .mem c off) → own c = some r := fun c ⟨o', e⟩ => (g1 c o' e).1
      -- what is taken over from others
      have owned : ∀ ls, (o || covers tr p) = true → kindOf f v = .owned ls → r ∉ ls → (∀ s, rootS f[r]? tr (u z) true = some s → K (.store r s ls) = some out → Oper.wp P ⟨none, .store D x v, T, pos, aft, g⟩ a w next Q) := by
        intro ls hoc hk1 hrl s hroot hK
        rw [hk1] at hkd
        cases o with
        | true =>
          refine wand s ls _ rfl hK hroot hkd (fun c hc => ⟨fun e => apart ls hrl c hc (e ▸ hbr), fun o' e => apart ls hrl c hc (boxown c ⟨o', e⟩)⟩) (fun c hc hS => absurd hS.1.1 (apart ls hrl c hc)) fun c hc => .inr hc
        | false =>
          simp only [Bool.false_or] at hoc
          rcases id hb with ⟨ho, _⟩ | ⟨hf, _⟩
          · simp at ho
          · rw [hf] at hroot
            simp only [rootS, Option.some.injEq] at hroot
            subst hroot
            exact cover true true ls _ (fun _ => False) hoc hK ⟨_, _, _, hf⟩ hkd (fun c hc e => apart ls hrl c hc (e ▸ hbr)) (fun _ => ⟨rfl, fun c hc => hc⟩) (by simp)
      split at hk
      · -- flat
        rename_i hk1
        rw [hk1] at hkd
        split at hk
        · rename_i s hroot
          have hany : ∀ (tr2 : Bool) (G : Nat → Prop), Rep tr2 w t' cs z G := fun tr2 G => hr0.flatAny hkd
          cases o with
          | true => exact wand s [] (fun _ => False) rfl hk hroot (hany _ _) (fun _ h => h.elim) (fun _ h => h.elim) (fun _ h => h.elim)
          | false =>
            rcases id hb with ⟨ho, _⟩ | ⟨hf, hrc, b0, hv0, hl0⟩
            · simp at ho
            · subst hrc; subst hl0
              rw [hf] at hroot
              simp only [rootS, Option.some.injEq] at hroot
              subst hroot
              obtain ⟨b', L0, E0, hv', hb0, hh0, hsz0, hbt, hbf⟩ := h.slots r _ hf
              rw [hv0] at hv'; simp at hv'; subst hv'
              obtain ⟨n, hn'⟩ := near_inside w [] p tr _ _ (hnear rfl) hloc
              simp only [Loc.add, Loc.mem.injEq] at hn'
              obtain ⟨rfl, _⟩ := hn'
              rw [hh] at hh0; simp at hh0
              obtain ⟨rfl, rfl⟩ := hh0
              have hs2 : (splice L off cs).size = tr.size := by rw [splice_size _ _ _ hfit']; exact hsz0
              have hS : ∀ c, Of own w none c → (w.setRow b (splice L off cs)).heap[c]? = w.heap[c]? := fun c hc => hother c fun e => by have := hc.1; rw [e, hbr] at this; simp at this
              have hrep := Rep.near hat hh hh2 hlen hfit 0 _ (hnear rfl) (g3 rfl).1 hloc hS z (hr0.flatAny hkd)
              have htk : (conts (w.setRow b (splice L off cs)) [] (.mem b 0)).take tr.size = (splice L off cs).toList := by
                rw [take_conts_mem hh2, seg, List.drop_zero]
                exact List.take_of_length_le (by simp; omega)
              rw [htk] at hrep
              refine fin _ [] hk ⟨b, splice L off cs, El, hv0, (Own.stored_self hsz ⟨hb0, heap_lt hh⟩).1, hh2, hs2, by simp, fun _ => ?_⟩
              exact hrep.mono fun c hc => (Own.stored_keeps hsz hbr hother none (by simp) (by simp) c hc).1
        · simp at hk
      · -- kept
        rename_i hk1
        rw [hk1] at hkd
        split at hk
        · rename_i hcov
          split at hk
          · rename_i s hroot
            rcases rootS_some hroot with ⟨e, _⟩ | ⟨hbox, rfl⟩
            · simp at e
            · exact cover false false [] _ (fun _ => False) hcov hk hbox hkd (fun c hc e => by have := hc.1; rw [e, hbr] at this; simp at this) (by simp) (fun _ c hc => hc)
          · simp at hk
        · simp at hk
      · -- owned
        rename_i ls hk1
        split at hk
        · rename_i hoc
          split at hk
          · rename_i j
            split at hk
            · rename_i r' p' tr' te xe ue hfj
              split at hk
              · rename_i hrr
                have hrr := Nat.eq_of_beq_eq_true hrr
                subst hrr
                split at hk
                · rename_i hpp
                  have hpp := samePath_eq _ _ hpp
                  subst hpp
                  split at hk
                  · rename_i s hroot
                    -- the very slice, appended to
                    obtain ⟨xr, rc', l0', l', ys, cs', hb', hat', hloc', hsh', hrep'⟩ := h.slots j _ hfj
                    obtain ⟨e1, e2, e3, e4, e5⟩ := hb'.uniq hb
                    subst e1; simp only at e2; subst e2; subst e3; subst e4
                    obtain ⟨e6, e7⟩ := hat'.uniq hat
                    subst e6; simp only at e7; subst e7
                    rw [hloc] at hloc'; simp at hloc'; subst hloc'
                    have hval : OVal f a w own (.tmp j) (.slice te) z := hov
                    have hcs := hsh'.uniq (show Shape (.slice te) (a.tmps.getD j undef) cs from hsh)
                    subst hcs
                    have hz : z = xe := by
                      have := hnat (Σ t : Ty, t.den) fun t x => some ⟨t, x⟩
                      simp only [valK, hfj, Option.some.injEq] at this
                      have := eq_of_heq (Sigma.mk.inj this).2
                      exact this.symm
                    subst hz
                    have ho : o = true := e5.symm
                    subst ho
                    obtain ⟨l2, S', k1, k2, k3, k4, k5, k6⟩ := Rep.put hat l0' _ (g2 rfl) (fun b o e h => h.2 o e)
                    rw [hloc] at k1; simp at k1; subst k1
                    obtain ⟨m1, _, _⟩ := k6 b off rfl
                    have hj : j ≠ r' := by rintro rfl; rw [hfj] at hroot; simp [rootS] at hroot
                    refine wand s [j] _ rfl hk hroot hrep' (fun c hc => ?_) (fun c hc hS => ?_) fun c hc => ?_
                    · rcases hc with hc | hc
                      · exact ⟨fun e => by have := hc.1; rw [e, hbr] at this; simp at this; exact hj this.symm, fun o' e => by have := boxown c ⟨o', e⟩; rw [hc.1] at this; simp at this; exact hj this⟩
                      · exact ⟨fun e => m1 (k3 ▸ (e ▸ hc)), (k4 c (k3 ▸ hc)).2⟩
                    · rcases hc with hc | hc
                      · have := hS.1.1; rw [hc.1] at this; simp at this; exact absurd this hj
                      · exact hc
                    · rcases hc with hc | hc
                      · exact .inr ⟨j, by simp, hc⟩
                      · exact .inl (k4 c (k3 ▸ hc)).1
                  · simp at hk
                · simp at hk
              · rename_i hrr
                split at hk
                · rename_i s hroot
                  have hls : ls = [r', j] := by simp only [kindOf, hfj, Kind.owned.injEq] at hk1; exact hk1.symm
                  refine owned ls hoc hk1 ?_ s hroot hk
                  rw [hls]
                  simp only [List.mem_cons, List.not_mem_nil, or_false, not_or]
                  refine ⟨fun e => ?_, fun e => ?_⟩
                  · subst e; simp [Nat.beq_refl] at hrr
                  · subst e; rw [hfj] at hroot; simp [rootS] at hroot
                · simp at hk
            · split at hk
              · simp at hk
              · rename_i hcon
                split at hk
                · rename_i s hroot
                  exact owned ls hoc hk1 (contains_false hcon) s hroot hk
                · simp at hk
          · simp at hk
        · simp at hk
      · simp at hk
    · simp at hk
  · simp at hk

end Go.Sx

/- Operations one after the other. Conditions: the tables of types and contracts fit. -/
namespace Go.Sx

variable {α : Type} {w0 : World} {f : Frame} {a : Act} {w : World} {own : Own}
variable {P : Program} {E : Env} {out : α}

-- calls that change an argument in place

section
variable {lent : Nat → Prop}

theorem locate_idx {rc : List Value} {n : Nat} {t : Ty} {l : Loc} (h : locate w rc [.idx n] t (.reg 0) = some l) : ∃ b o, l = .mem b o := by
  cases t with
  | slice t =>
    simp only [locate] at h
    split at h
    · simp only [Option.some.injEq] at h; exact ⟨_, _, h.symm⟩
    · simp at h
  | _ => simp [locate] at h

theorem mutOk_own {t : Ty} {x : t.den} {p : Path} (h : mutOk (some (.own t x)) p = true) : p = [] ∨ (∃ i, p = [.idx i]) ∨ p = [.fst] := by
  match p with
  | [] => exact .inl rfl
  | [.idx i] => exact .inr (.inl ⟨i, rfl⟩)
  | [.fst] => exact .inr (.inr rfl)
  | .fst :: _ :: _ => simp [mutOk] at h
  | .snd :: _ => simp [mutOk] at h
  | .idx _ :: _ :: _ => simp [mutOk] at h

/-- The first part of what a slot owns, changed in place. -/
theorem slot_mut_fst (h : Inv w0 lent f a w own) {i q : Nat} {tr t : Ty} {y z : t.den} {u : t.den → tr.den} (hf : f[i]? = some (.ref q [.fst] tr t y u)) {s : Slot} {x0 : tr.den} (hq : f[q]? = some (.own tr x0)) (hroot : rootS f[q]? tr (u z) true = some s) :
    ∃ cs S, Shape t (a.tmps.getD i undef) cs ∧ Rep true w t cs y S ∧ (∀ c, S c → Of own w (some q) c) ∧
      ∀ (w2 : World) (S2 : Nat → Prop) (f' : Frame), w.heap.size ≤ w2.heap.size → (∀ b, b < w.heap.size → ¬ S b → w2.heap[b]? = w.heap[b]?) → Rep true w2 t cs z S2 → (∀ c, S2 c → S c ∨ (w.heap.size ≤ c ∧ c < w2.heap.size)) →
        SlotOk w2 (own.grown w w2 q) f' a.tmps q s (a.tmps.getD q undef) := by
  obtain ⟨x, rc, l0, l, cs, hb, hat, hl, hs, hcs⟩ := h.slots i _ hf
  have hb : f[q]? = some (.own tr x) ∧ Shape tr (a.tmps.getD q undef) rc ∧ l0 = .reg 0 := by
    rcases hb with ⟨_, hfq, hsh, e⟩ | ⟨hfq, _⟩
    · exact ⟨hfq, hsh, e⟩
    · rw [hq] at hfq; simp at hfq
  obtain ⟨hfq, hsh, rfl⟩ := hb
  obtain ⟨cs0, hs0, hr0⟩ := h.slots q _ hfq
  have e0 := hs0.uniq hsh
  subst e0
  rw [hfq] at hroot
  simp only [rootS, Option.some.injEq] at hroot
  subst hroot
  cases hat with
  | fst hat =>
    cases hat
    obtain ⟨c1, c2, S1, S2, rfl, r1, r2, g1, g2, g3⟩ := hr0
    simp only [locate, Option.some.injEq] at hl
    subst hl
    have e1 : cs = c1 := by
      rw [hcs]; simp only [conts, List.drop_zero]
      exact List.take_left' r1.len
    subst e1
    refine ⟨cs, S1, hs, r1, g1, fun w2 S' f' hgrow hoth hrep hsub => ⟨_, hsh, cs, c2, S', S2, rfl, hrep, r2.agree fun c hc => hoth c (g2 c hc).2 fun h1 => g3 rfl c h1 hc, fun c hc => ?_, fun c hc => Own.grown_old hgrow (g2 c hc), fun _ c hc hc2 => ?_⟩⟩
    · rcases hsub c hc with hc | hc
      · exact Own.grown_old hgrow (g1 c hc)
      · exact Own.grown_new hc.1 hc.2
    · rcases hsub c hc with hc | hc
      · exact g3 rfl c hc hc2
      · have := (g2 c hc2).2; omega
  | tfst hat =>
    cases hat
    obtain ⟨c1, c2, S1, S2, rfl, r1, r2, g1, g2, g3⟩ := hr0
    simp only [locate, Option.some.injEq] at hl
    subst hl
    have e1 : cs = c1 := by
      rw [hcs]; simp only [conts, List.drop_zero]
      exact List.take_left' r1.len
    subst e1
    refine ⟨cs, S1, hs, r1, g1, fun w2 S' f' hgrow hoth hrep hsub => ⟨_, hsh, cs, c2, S', S2, rfl, hrep, r2.agree fun c hc => hoth c (g2 c hc).2 fun h1 => g3 rfl c h1 hc, fun c hc => ?_, fun c hc => Own.grown_old hgrow (g2 c hc), fun _ c hc hc2 => ?_⟩⟩
    · rcases hsub c hc with hc | hc
      · exact Own.grown_old hgrow (g1 c hc)
      · exact Own.grown_new hc.1 hc.2
    · rcases hsub c hc with hc | hc
      · exact g3 rfl c hc hc2
      · have := (g2 c hc2).2; omega

/-- The value behind a path, changed in place: the root's slot. -/
theorem slot_mut (h : Inv w0 lent f a w own) {i q : Nat} {p : Path} {tr t : Ty} {y z : t.den} {u : t.den → tr.den} (hf : f[i]? = some (.ref q p tr t y u)) (hmo : mutOk f[q]? p = true) {s : Slot} (hroot : rootS f[q]? tr (u z) true = some s) :
    ∃ cs S, Shape t (a.tmps.getD i undef) cs ∧ Rep true w t cs y S ∧ (∀ c, S c → Of own w (some q) c) ∧
      ∀ (w2 : World) (S2 : Nat → Prop) (f' : Frame), w.heap.size ≤ w2.heap.size → (∀ b, b < w.heap.size → ¬ S b → w2.heap[b]? = w.heap[b]?) → Rep true w2 t cs z S2 → (∀ c, S2 c → S c ∨ (w.heap.size ≤ c ∧ c < w2.heap.size)) →
        SlotOk w2 (own.grown w w2 q) f' a.tmps q s (a.tmps.getD q undef) := by
  obtain ⟨x, rc, l0, l, cs, hb, hat, hl, hs, hcs⟩ := h.slots i _ hf
  by_cases hpf : p = [.fst] ∧ f[q]? = some (.own tr x)
  · obtain ⟨rfl, hfq⟩ := hpf
    exact slot_mut_fst h hf hfq hroot
  obtain ⟨h1, h2, _⟩ := hb.rep (h.root q)
  obtain ⟨l', S', k1, k2, k3, k4, k5, k6⟩ := Rep.put hat l0 _ (h2 rfl) (fun b o e h => h.2 o e)
  rw [hl] at k1; simp at k1; subst k1
  refine ⟨cs, S', hs, by rw [hcs]; exact k2, fun c hc => (k4 c hc).1, fun w2 S2 f' hgrow hother hrep hsub => ?_⟩
  have hlt : ∀ c, S' c → c < w.heap.size := fun c hc => (k4 c hc).1.2
  -- the whole tree
  have hl0 : ∀ b0 o0, l0 = .mem b0 o0 → w2.heap[b0]? = w.heap[b0]? := fun b0 o0 e => by
    obtain ⟨hbq, L, E', hh⟩ := h1 b0 o0 e
    exact hother b0 (heap_lt hh) fun hS => (k4 b0 hS).2 o0 e
  have whole : Rep true w2 tr ((conts w2 rc l0).take tr.size) (u z) (fun c => (Of own w (some q) c ∧ ∀ off, l0 ≠ .mem c off) ∨ S2 c) := by
    cases l with
    | mem b o =>
      obtain ⟨n1, n2, hw⟩ := k6 b o rfl
      obtain ⟨L, E', hh⟩ : ∃ L E', w.heap[b]? = some (.cells L E' (0, 0)) := by
        cases l0 with
        | mem b0 o0 =>
          rcases k5.mem b o rfl with ⟨o', e', _⟩ | hS
          · simp only [Loc.mem.injEq] at e'
            obtain ⟨_, L, E', hh⟩ := h1 b0 o0 rfl
            exact ⟨L, E', by rw [← e'.1]; exact hh⟩
          · exact n2 hS
        | reg o0 =>
          rcases k5.mem b o rfl with ⟨o', e', _⟩ | hS
          · simp at e'
          · exact n2 hS
      have hcs' : cs = seg L o t.size := by rw [hcs, take_conts_mem hh]
      have hlen : cs.length = t.size := by rw [hcs]; exact k2.len
      have hfit : o + t.size ≤ L.size := seg_le (by rw [← hcs']; exact hlen) t.size_pos
      have hb2 : w2.heap[b]? = w.heap[b]? := hother b (heap_lt hh) n1
      refine hw w2 L E' (0, 0) cs z S2 hh (by rw [hb2, hh, hcs', splice_id L o t.size hfit]) (fun c hc hn _ => hother c hc.1.2 hn) (fun b0 o0 e _ => hl0 b0 o0 e) hlen hrep fun c hc => ⟨?_, fun hS => ?_⟩
      · rintro rfl
        rcases hsub c hc with hc | hc
        · exact n1 hc
        · have := heap_lt hh; omega
      · rcases hsub c hc with hc | hc
        · exact hc
        · have := hS.1.2; omega
    | reg o =>
      have hp : p = [] ∧ l0 = .reg 0 := by
        rcases hb with ⟨_, hfq, _, rfl⟩ | ⟨hfq, _, b, _, rfl⟩
        · rw [hfq] at hmo
          rcases mutOk_own hmo with rfl | ⟨n, rfl⟩ | rfl
          · exact ⟨rfl, rfl⟩
          · obtain ⟨b, o', e⟩ := locate_idx hl
            simp at e
          · exact absurd ⟨rfl, hfq⟩ hpf
        · exfalso
          obtain ⟨o', e', _⟩ := k5.reg o rfl
          simp at e'
      obtain ⟨rfl, rfl⟩ := hp
      cases hat
      simp only [locate, Option.some.injEq] at hl
      have e1 : (conts w2 rc (.reg 0)).take tr.size = cs := by rw [hcs, ← hl]; rfl
      rw [e1]
      exact hrep.mono fun c hc => .inr hc
  have hin : ∀ c, ((Of own w (some q) c ∧ ∀ off, l0 ≠ .mem c off) ∨ S2 c) → Of (own.grown w w2 q) w2 (some q) c := by
    rintro c (hc | hc)
    · exact Own.grown_old hgrow hc.1
    · rcases hsub c hc with hc | hc
      · exact Own.grown_old hgrow (k4 c hc).1
      · exact Own.grown_new hc.1 hc.2
  rcases hb with ⟨_, hfq, hsh, rfl⟩ | ⟨hfq, rfl, b0, hv, rfl⟩
  · rw [hfq] at hroot
    simp only [rootS, Option.some.injEq] at hroot
    subst hroot
    refine ⟨rc, hsh, ?_⟩
    have hlen : rc.length = tr.size := by
      obtain ⟨cs0, hs0, hr0⟩ := h.slots q _ hfq
      rw [hsh.uniq hs0]; exact hr0.len
    have e2 : (conts w2 rc (.reg 0)).take tr.size = rc := by
      simp only [conts, List.drop_zero]
      exact List.take_of_length_le (by omega)
    rw [e2] at whole
    exact whole.mono hin
  · rw [hfq] at hroot
    simp only [rootS, Option.some.injEq] at hroot
    subst hroot
    obtain ⟨b', L0, E0, hv', hb0, hh0, hsz0, _, _⟩ := h.slots q _ hfq
    rw [hv] at hv'; simp at hv'; subst hv'
    have hh2 : w2.heap[b0]? = some (.cells L0 E0 (0, 0)) := by rw [hl0 b0 0 rfl]; exact hh0
    have htk : (conts w2 [] (.mem b0 0)).take tr.size = L0.toList := by
      rw [take_conts_mem hh2, seg, List.drop_zero]
      exact List.take_of_length_le (by simp; omega)
    rw [htk] at whole
    refine ⟨b0, L0, E0, hv, (Own.grown_old hgrow ⟨hb0, heap_lt hh0⟩).1, hh2, hsz0, fun _ => whole.mono fun c hc => ⟨hin c hc, ?_⟩, by simp⟩
    rintro rfl
    rcases hc with hc | hc
    · exact hc.2 0 rfl
    · rcases hsub c hc with hc | hc
      · exact (k4 c hc).2 0 rfl
      · have := heap_lt hh0; omega

theorem eqGuard_slice {op : BinOp} {T : TypeId} {X Y : Operand} {p q : Option Addr} {n c m d : Nat} : (eqGuard op T X Y (.slice p n c) (.slice q m d)).run P w = .ok () w := by
  unfold eqGuard
  split <;> simp

theorem equal_nil {T e : TypeId} (hu : P.underlying T = some (.slice e)) {p : Option Addr} {n c : Nat} : (Op.equal T (.slice p n c) (.slice none 0 0)).run P w = .ok p.isNone w := by
  unfold Op.equal Op.maxDepth
  rw [show (10000 : Nat) = 9999 + 1 from rfl, Op.equalIn]
  cases p <;> simp only [Sem.run_bind, run_underlying hu, Result.andThen_ok, Sem.run_pure] <;> rfl

theorem nilAt_sound (hE : EnvOk P E) (h : Inv w0 lent f a w own) {o : Oper} {d : Nat} {e : Bool} (hm : nilAt E f o = some (d, e)) :
    o.guard = none ∧ ∃ b : Bool, (e = false → b = false) ∧ ∀ (next : Act → World → Prop) (Q : Exit → Act → World → Prop),
      (∀ a' own', Inv w0 lent ((Rec.put d (.ro none .bool b) []).act f) a' w own' → next a' w) → o.wp P a w next Q := by
  unfold nilAt at hm
  split at hm
  · rename_i d' T x yT hg hdst hop
    split at hm
    · rename_i t sd hT hfd
      obtain ⟨t', xs, ⟨cs, hsh, hrep, _⟩, hm⟩ := sliceK_sound h hm
      simp only [Option.some.injEq, Prod.mk.injEq] at hm
      obtain ⟨rfl, rfl⟩ := hm
      obtain ⟨dst, op, T0, pos, aft, gd⟩ := o
      simp only at hg hdst hop
      subst hg; subst hdst; subst hop
      obtain ⟨El, hu, _⟩ := (hE.ty _ _ hT).slice t rfl
      obtain ⟨p, c, hcs, hle, hrest⟩ := id hrep
      subst hcs
      have hev : a.eval x = .slice p (List.length (α := t'.den) xs) c := by
        simp only [Shape, Shape1, List.cons.injEq, and_true] at hsh; exact hsh.symm
      refine ⟨rfl, p.isNone, fun he => ?_, fun next Q hn => ?_⟩
      · rcases hrest with h0 | ⟨b, o, L, El2, fz, rfl, _⟩
        · simp only [cond_false] at h0
          have : xs = [] := List.length_eq_zero_iff.1 h0
          subst this; simp at he
        · rfl
      · have hlt : d' < f.length := (List.getElem?_eq_some_iff.1 hfd).1
        have hrun : (execOp a.eval ⟨some d', .binOp .eql T x (.const (.slice none 0 0)) yT, T0, pos, aft, none⟩).run P w = .ok (.value (.bool p.isNone)) w := by
          have hy : a.eval (.const (.slice none 0 0)) = .slice none 0 0 := rfl
          simp only [execOp, hev, hy, Sem.run_bind, eqGuard_slice, Result.andThen_ok, binOp, equal_nil hu, Sem.run_pure]
        refine does_value hrun ?_
        exact hn _ _ (h.applyGrow (Grow.refl w) (ls := []) hlt (bool_ok _ d' _ _))
    · simp at hm
  · simp at hm

theorem resPut_length (f : Frame) (d : Nat) : ∀ (r : Option Ty) (v : resDen r), (resPut f d r v).length = f.length
  | some _, _ => applyS_length _ _ _ _
  | none, _ => applyS_length _ _ _ _

theorem resPut_inv (h : Inv w0 lent f a w own) {d : Nat} (hd : d < f.length) {v : Value} : ∀ (r : Option Ty) (x : resDen r), flatRes r = true → ResOk w r v x → Inv w0 lent (resPut f d r x) (a.put (some d) v) w (own.move w w [] d)
  | some _, _, hf, ⟨cs, hsh, hr⟩ => h.applyGrow (Grow.refl w) (ls := []) hd ⟨cs, hsh, hr.flatAny hf⟩
  | none, _, _, _ => h.applyGrow (Grow.refl w) (ls := []) (s := .dead) hd trivial

theorem mutK_sound (hE : EnvOk P E) (h : Inv w0 lent f a w own) {o : Oper} {d : Nat} {ms : MutSpec} {os : List Operand} (hm : mutAt E f o = some (d, ms, os)) {K : Frame → Option α} (hk : mutK f d ms os K = some out) {next : Act → World → Prop} {Q : Exit → Act → World → Prop}
    (hn : ∀ a' w' own' f', f'.length = f.length → K f' = some out → Inv w0 lent f' a' w' own' → next a' w') : o.guard = none ∧ o.wp P a w next Q := by
  unfold mutAt at hm
  split at hm
  · rename_i d' c hg hdst hop
    split at hm
    · rename_i g hcal
      split at hm
      · rename_i ms' sd hms hfd
        split at hm
        case h_2 => simp at hm
        simp only [Option.some.injEq, Prod.mk.injEq] at hm
        obtain ⟨rfl, rfl, rfl⟩ := hm
        refine ⟨hg, ?_⟩
        obtain ⟨dst, op, T, pos, aft, gd⟩ := o
        simp only at hg hdst hop
        subst hg; subst hdst; subst hop
        obtain ⟨cal, args, tys⟩ := c
        simp only at hcal; subst hcal
        obtain ⟨hcon, fn, hfn, hname, hbody⟩ := hE.muts g ms' hms
        unfold mutK at hk
        split at hk
        · rename_i i hoi
          split at hk
          · rename_i q p tr t y u hfi
            split at hk
            · rename_i ht _
              subst ht
              split at hk
              · rename_i hcond
                simp only [Bool.and_eq_true, Bool.not_eq_true'] at hcond
                obtain ⟨⟨⟨hmo, hfr⟩, hdq⟩, hclear⟩ := hcond
                obtain ⟨xs, hk, hargs⟩ := argsOff_sound h _ _ hk hclear
                obtain ⟨⟨z, r⟩, hz, hk⟩ := Option.bind_eq_some_iff.1 hk
                simp only at hk hz
                split at hk
                · rename_i s hroot
                  obtain ⟨cs, S, hsh, hrep, hSq, hslot⟩ := slot_mut h hfi hmo hroot
                  have hcon : MutC P g ms' := by unfold MutG at hcon; rw [hfr] at hcon; exact hcon
                  have hcalls := hcon y xs z r (args.toList.map a.eval) (a.tmps.getD i undef) cs S w hz (by rw [List.getElem?_map, hoi]; rfl)
                    (by rw [map_eraseIdx']; exact hargs.sub hSq) hsh hrep (fun c hc => (hSq c hc).2)
                  have hrun : (execOp a.eval ⟨some d', .call ⟨.value (.func g), args, tys⟩, T, pos, aft, none⟩).run P w = .ok (.enter g (args.toList.map a.eval).toArray) w := by
                    have : ((#[] : Array Value) ++ args.map a.eval) ++ #[] = (args.toList.map a.eval).toArray := by
                      apply Array.ext'; simp
                    simp only [execOp, resolve, Act.eval, Deferred.ofValue, Sem.run_bind, Sem.run_pure, Result.andThen_ok, invoke, callFunc, run_program, hfn, hname, hbody, Bool.false_eq_true, if_false, this]
                  simp only [Oper.wp, hrun, Oper.upon]
                  refine hcalls.mono fun e w' ⟨v, S', he, hgrow, hcalm, hoth, hrep', hsub, hres⟩ => ?_
                  subst he
                  have hinv := h.muted (s := s) hgrow hcalm (fun c hc hne => hoth c hc fun hS => hne (hSq c hS).1) (hslot w' S' _ hgrow hoth hrep' hsub)
                  have hlt : d' < ((kill q f).set q s).length := by
                    simp only [List.length_set, kill_length]; exact (List.getElem?_eq_some_iff.1 hfd).1
                  refine hn _ _ ((own.grown w w' q).move w' w' [] d') (resPut ((kill q f).set q s) d' ms'.res r) ?_ hk ?_
                  · rw [resPut_length]; simp [kill_length]
                  · exact resPut_inv hinv hlt ms'.res r hfr hres
                · simp at hk
              · simp at hk
            · simp at hk
          · simp at hk
        · simp at hk
      · simp at hm
    · simp at hm
  · simp at hm
end

theorem opR_sound0 {lent : Nat → Prop} (hE : EnvOk P E) (h : Inv w0 lent f a w own) {o : Oper} {K : Rec → Option α} (hk : opR E f o K = some out) {next : Act → World → Prop} {Q : Exit → Act → World → Prop}
    (hn : ∀ a' w' own' rec, K rec = some out → Inv w0 lent (rec.act f) a' w' own' → next a' w') : o.wp P a w next Q := by
  have put : (match o.dst with
    | some d => match f[d]? with
      | some _ => opK E f o fun s ls => match s.on d || ls.any fun c => s.on c with
        | true => none
        | false => K (.put d s ls)
      | none => none
    | none => none) = some out → o.wp P a w next Q := by
    intro hk
    split at hk
    · rename_i d hd
      split at hk
      · rename_i sd hsd
        have hlt : d < f.length := (List.getElem?_eq_some_iff.1 hsd).1
        refine opK_sound hE h hlt (fun s ls hs => ?_) hd hk next Q fun a' w' own' s ls hs hinv => ?_
        · split at hs
          · simp at hs
          · rename_i hc
            simp only [Bool.or_eq_false_iff] at hc
            refine ⟨hc.1, fun c hcl => ?_⟩
            have := List.any_eq_false.1 hc.2 c hcl
            simpa using this
        · split at hs
          · simp at hs
          · exact hn a' w' own' _ hs hinv
      · simp at hk
    · simp at hk
  obtain ⟨dst, op, T, pos, aft, g⟩ := o
  cases op with
  | store D x v =>
    simp only [opR] at hk
    cases dst with
    | none => exact storeR_sound hE h hk fun w' own' rec hK hinv => hn a w' own' rec hK hinv
    | some d => simp at hk
  | _ => exact put hk

theorem skipR_sound0 {lent : Nat → Prop} (h : Inv w0 lent f a w own) {o : Oper} {K : Rec → Option α} (hk : skipR f o K = some out) {next : Act → World → Prop}
    (hn : ∀ a' w' own' rec, K rec = some out → Inv w0 lent (rec.act f) a' w' own' → next a' w') : next (a.put o.dst undef) w := by
  unfold skipR at hk
  split at hk
  · rename_i d hd
    split at hk
    · rename_i sd hsd
      have hlt : d < f.length := (List.getElem?_eq_some_iff.1 hsd).1
      rw [hd]
      exact hn _ _ _ _ hk (h.applyGrow (Grow.refl w) (ls := []) (s := .undef) hlt rfl)
    · simp at hk
  · rename_i hd
    rw [hd]
    exact hn a w own _ hk h

/-- What a callee may change: its caller's memory, and temporaries that nothing sets. -/
structure Lent where
  mem : Nat → Prop
  pins : Nat → Option Value

def FreeOp (lent : Lent) (o : Oper) : Prop := ∀ d, o.dst = some d → lent.pins d = none

structure InvP (w0 : World) (lent : Lent) (f : Frame) (a : Act) (w : World) (own : Own) : Prop where
  base : Inv w0 lent.mem f a w own
  pin : ∀ i v, lent.pins i = some v → a.tmps.getD i undef = v

theorem Oper.wp_put {o : Oper} {a : Act} {w : World} {next : Act → World → Prop} {Q : Exit → Act → World → Prop} (h : o.wp P a w (fun a' w' => (∃ v, a'.tmps = (a.put o.dst v).tmps) → next a' w') Q) : o.wp P a w next Q := by
  unfold Oper.wp at h ⊢
  generalize (execOp a.eval o).run P w = r at h ⊢
  unfold Oper.upon at h ⊢
  split at h
  · exact h ⟨_, rfl⟩
  · exact h ⟨_, rfl⟩
  · refine h ⟨undef, ?_⟩
    cases o.dst <;> rfl
  · refine Calls.mono h fun e w'' he => ?_
    split at he
    · exact he ⟨_, rfl⟩
    · exact he
    · exact he
  · exact Rows.mono h fun v w'' hv => hv ⟨_, rfl⟩
  · exact h
  · exact h.elim

theorem put_tmps_ne {a : Act} {dst : Option Nat} {v v0 : Value} {i : Nat} (h : ∀ d, dst = some d → d ≠ i) (h0 : a.tmps.getD i undef = v0) : (a.put dst v).tmps.getD i undef = v0 := by
  cases dst with
  | none => exact h0
  | some d =>
    have := h d rfl
    rw [← h0]
    simp only [Act.put, Array.getD_eq_getD_getElem?, Array.getElem?_setIfInBounds]
    rw [if_neg this]

theorem pins_put {lent : Lent} {o : Oper} (hf : FreeOp lent o) {a a' : Act} {v : Value} (hp : ∀ i v, lent.pins i = some v → a.tmps.getD i undef = v) (e : a'.tmps = (a.put o.dst v).tmps) : ∀ i v, lent.pins i = some v → a'.tmps.getD i undef = v := by
  intro i v' hi
  rw [e]
  exact put_tmps_ne (fun d hd he => by have := hf d hd; rw [he, hi] at this; simp at this) (hp i v' hi)

variable {lent : Lent}

theorem opR_sound (hE : EnvOk P E) (h : InvP w0 lent f a w own) {o : Oper} (hf : FreeOp lent o) {K : Rec → Option α} (hk : opR E f o K = some out) {next : Act → World → Prop} {Q : Exit → Act → World → Prop}
    (hn : ∀ a' w' own' rec, K rec = some out → InvP w0 lent (rec.act f) a' w' own' → next a' w') : o.wp P a w next Q :=
  Oper.wp_put (opR_sound0 hE h.base hk fun a' w' own' rec hK hi ⟨_, e⟩ => hn a' w' own' rec hK ⟨hi, pins_put hf h.pin e⟩)

theorem skipR_sound (h : InvP w0 lent f a w own) {o : Oper} (hf : FreeOp lent o) {K : Rec → Option α} (hk : skipR f o K = some out) {next : Act → World → Prop}
    (hn : ∀ a' w' own' rec, K rec = some out → InvP w0 lent (rec.act f) a' w' own' → next a' w') : next (a.put o.dst undef) w := by
  have := skipR_sound0 h.base hk (next := fun a' w' => a'.tmps = (a.put o.dst undef).tmps → next a' w') fun a' w' own' rec hK hi e => hn a' w' own' rec hK ⟨hi, pins_put hf h.pin e⟩
  exact this rfl

theorem set_same : ∀ {f : Frame} {d : Nat} {s : Slot}, f[d]? = some s → f.set d s = f := by
  intro f d s h
  apply List.ext_getElem?; intro j
  rw [List.getElem?_set]
  split
  · rename_i e; subst e; split
    · exact h.symm
    · rename_i hn; exact absurd (List.getElem?_eq_some_iff.1 h).1 hn
  · rfl

theorem wpOp_wanted {ops : Array Oper} {Q : Exit → Act → World → Prop} {i : Nat} {o : Oper} {K : Act → World → Prop} (hi : ops[i]? = some o) (hw : Region.wanted o (yielded ops a.tmps) = true) (h : o.wp P a w K Q) : wpOp P ops Q i K a w := by
  unfold wpOp; simp only [hi, hw, if_true]; exact .inl h

theorem wpOp_skipped {ops : Array Oper} {Q : Exit → Act → World → Prop} {i : Nat} {o : Oper} {K : Act → World → Prop} (hi : ops[i]? = some o) (hw : Region.wanted o (yielded ops a.tmps) = false) (h : K (a.put o.dst undef) w) : wpOp P ops Q i K a w := by
  unfold wpOp; simp only [hi, hw]; exact h

theorem stepK_sound (hE : EnvOk P E) (h : InvP w0 lent f a w own) {ops : Array Oper} {all : List Oper} (hall : all = ops.toList) {i : Nat} {o : Oper} (hi : ops[i]? = some o) (hf : FreeOp lent o) {K : Frame → Rec → Option α} (hk : stepK E all f o K = some out)
    {next : Act → World → Prop} {Q : Exit → Act → World → Prop} (hn : ∀ a' w' own' rec, K f rec = some out → InvP w0 lent (rec.act f) a' w' own' → next a' w') : wpOp P ops Q i next a w := by
  subst hall
  simp only [stepK] at hk
  split at hk
  · rename_i hg
    exact wpOp_wanted hi (by simp [Region.wanted, hg]) (opR_sound hE h hf hk hn)
  · rename_i j want hg
    split at hk
    · rename_i oj hj
      have hj' : ops[j]? = some oj := by simpa using hj
      split at hk
      · rename_i d hd
        split at hk
        · rename_i b hb
          change Bool at b
          have hval : a.tmps[d]? = some (.bool b) := by
            have hlt : d < a.tmps.size := by rw [← h.base.size]; exact (List.getElem?_eq_some_iff.1 hb).1
            obtain ⟨cs, hsh, hr⟩ := h.base.slots d _ hb
            simp only [Rep] at hr; subst hr
            simp only [Shape, Shape1, List.cons.injEq, and_true] at hsh
            rw [Array.getD_eq_getD_getElem?] at hsh
            rw [Array.getElem?_eq_getElem hlt] at hsh ⊢
            simpa using hsh.symm
          have hy : yielded ops a.tmps j = some b := by simp [yielded, hj', hd, hval]
          have hw : Region.wanted o (yielded ops a.tmps) = (b == want) := by
            simp only [Region.wanted, hg, hy]
            cases b <;> cases want <;> rfl
          cases b <;> cases want <;> simp only at hk
          · rw [set_same hb] at hk
            exact wpOp_wanted hi (by rw [hw]; rfl) (opR_sound hE h hf hk hn)
          · rw [set_same hb] at hk
            exact wpOp_skipped hi (by rw [hw]; rfl) (skipR_sound h hf hk hn)
          · rw [set_same hb] at hk
            exact wpOp_skipped hi (by rw [hw]; rfl) (skipR_sound h hf hk hn)
          · rw [set_same hb] at hk
            exact wpOp_wanted hi (by rw [hw]; rfl) (opR_sound hE h hf hk hn)
        · rename_i hb
          have hval : a.tmps.getD d undef = undef := h.base.slots d _ hb
          have hy : yielded ops a.tmps j = none := by
            have hlt : d < a.tmps.size := by rw [← h.base.size]; exact (List.getElem?_eq_some_iff.1 hb).1
            rw [Array.getD_eq_getD_getElem?, Array.getElem?_eq_getElem hlt] at hval
            simp only [Option.getD_some] at hval
            simp [yielded, hj', hd, hlt, hval, undef]
          exact wpOp_skipped hi (by simp [Region.wanted, hg, hy]) (skipR_sound h hf hk hn)
        · simp at hk
      · simp at hk
    · simp at hk

theorem act_length (rec : Rec) (f : Frame) : (rec.act f).length = f.length := by
  cases rec with
  | put d s ls => simp [Rec.act, applyS_length, killFrail_length]
  | store r s ls => simp [Rec.act, kill_length, useUp_length]
  | nop => rfl

theorem opsK_sound (hE : EnvOk P E) {ops : Array Oper} (hfree : ∀ o ∈ ops.toList, FreeOp lent o) {Q : Exit → Act → World → Prop} {K : Frame → Option α} {n : Nat}
    (hn : ∀ f a w own, f.length = n → K f = some out → InvP w0 lent f a w own → Q .normal a w) : ∀ (l : List Oper) (i : Nat) (f : Frame) (a : Act) (w : World) (own : Own), f.length = n → (∀ j, l[j]? = ops[i + j]?) → InvP w0 lent f a w own → opsK E ops.toList l f K = some out →
      wpOps P ops Q (List.range' i l.length) a w
  | [], i, f, a, w, own, hlen, _, h, hk => hn f a w own hlen hk h
  | o :: l, i, f, a, w, own, hlen, hl, h, hk => by
    simp only [List.length_cons, List.range'_succ, wpOps_cons]
    have hi : ops[i]? = some o := by simpa using (hl 0).symm
    simp only [opsK] at hk
    have hfo : FreeOp lent o := hfree o (by have := Array.getElem?_eq_some_iff.1 hi; rw [← this.2]; simp)
    have hl' : ∀ j, l[j]? = ops[i + 1 + j]? := fun j => by have := hl (j + 1); simpa [Nat.add_assoc, Nat.add_comm 1 j] using this
    split at hk
    · rename_i d e hnil
      obtain ⟨hg, b, hb, hwp⟩ := nilAt_sound (P := P) hE h.base hnil
      have hk' : opsK E ops.toList l ((Rec.put d (.ro none .bool b) []).act f) K = some out := by
        cases e with
        | true =>
          obtain ⟨q1, q2⟩ := agree_some hk
          cases b
          · exact q2
          · exact q1
        | false => rw [hb rfl]; exact hk
      refine wpOp_wanted hi (by simp [Region.wanted, hg]) (Oper.wp_put (hwp _ Q fun a' own' hinv ⟨_, ev⟩ => ?_))
      exact opsK_sound hE hfree hn l (i + 1) _ _ _ own' ((act_length _ _).trans hlen) hl' ⟨hinv, pins_put hfo h.pin ev⟩ hk'
    · split at hk
      · rename_i d ms os hmut
        have hm := mutK_sound (P := P) (Q := Q) hE h.base hmut hk (next := fun a' w' => (∃ v, a'.tmps = (a.put o.dst v).tmps) → wpOps P ops Q (List.range' (i + 1) l.length) a' w') fun a' w' own' f' hlf hK hinv ⟨_, ev⟩ =>
          opsK_sound hE hfree hn l (i + 1) _ _ _ own' (hlf.trans hlen) hl' ⟨hinv, pins_put hfo h.pin ev⟩ hK
        exact wpOp_wanted hi (by simp [Region.wanted, hm.1]) (Oper.wp_put hm.2)
      · refine stepK_sound hE h rfl hi hfo hk fun a' w' own' rec hK hinv => ?_
        exact opsK_sound hE hfree hn l (i + 1) _ _ _ own' ((act_length _ _).trans hlen) hl' hinv hK

end Go.Sx
