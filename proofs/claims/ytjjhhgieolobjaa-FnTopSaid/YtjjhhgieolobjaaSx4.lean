/- A typed interpreter of the program and its soundness, part 4. Conditions: none. -/
import Derived.Test.YtjjhhgieolobjaaSx3
import Derived.Laws.StructEq
import Derived.ChangeArms
import Derived.DataReads
import Derived.KernelRfl
import Derived.ProofKit
import Derived.ReadAgain
import Derived.Sort.Row
import Derived.WalkKit
import Derived.Deep.LoopGhost
import Derived.Deep.Draws
import Derived.Shelf.RegionOpenPlain
import Derived.Lib.SliceRun
import Derived.Laws.IdiomCopy
namespace Go.Sx
variable {α β : Type} {f f' : Frame} {E : Env}
theorem storeR_push {T : Nat} {a v : Operand} {K : Rec → Option α} {K' : Rec → Option β} {g : α → Option β} (h : ∀ r, (K r).bind g = K' r) : (storeR E f T a v K).bind g = storeR E f T a v K' := by
  unfold storeR
  repeat' (first | rfl | exact h _ | (refine valK_push fun t x => ?_; try dsimp only) | (refine castK_push fun x => ?_; try dsimp only) | split)
theorem opR0_push {o : Oper} {K : Rec → Option α} {K' : Rec → Option β} {g : α → Option β} (h : ∀ r, (K r).bind g = K' r) : (opR0 E f o K).bind g = opR0 E f o K' := by
  have put : (match o.dst with
    | some d => match f[d]? with
      | some _ => opK E f o fun s ls => match s.on d || ls.any fun c => s.on c with
        | true => none
        | false => K (.put d s ls)
      | none => none
    | none => none).bind g = (match o.dst with
    | some d => match f[d]? with
      | some _ => opK E f o fun s ls => match s.on d || ls.any fun c => s.on c with
        | true => none
        | false => K' (.put d s ls)
      | none => none
    | none => none) := by
    split
    · split
      · exact opK_push fun s ls => by split <;> first | rfl | exact h _
      · rfl
    · rfl
  obtain ⟨dst, op, T, pos, aft, gd⟩ := o
  cases op with
  | store D x v =>
    simp only [opR0]
    cases dst with
    | none => exact storeR_push h
    | some d => rfl
  | _ => exact put
theorem curR_push {d : Nat} {cs : CurSpec} {os : List Operand} {K : Rec → Option α} {K' : Rec → Option β} {g : α → Option β} (h : ∀ r, (K r).bind g = K' r) : (curR f d cs os K).bind g = curR f d cs os K' := by
  unfold curR
  split
  · split
    · split
      · split
        · refine argsK_push _ _ fun xs => ?_
          cases cs.fn _ xs with
          | none => rfl
          | some zv => exact h _
        · rfl
      · rfl
    · rfl
  · rfl
theorem rootK_push {i : Nat} {K : Nat → (t : Ty) → t.den → Option α} {K' : Nat → (t : Ty) → t.den → Option β} {g : α → Option β} (h : ∀ q t y, (K q t y).bind g = K' q t y) : (rootK f i K).bind g = rootK f i K' := by
  unfold rootK
  repeat' (first | rfl | exact h _ _ _ | split)
theorem bmutR_push {d : Nat} {ms : MutSpec} {os : List Operand} {K : Rec → Option α} {K' : Rec → Option β} {g : α → Option β} (h : ∀ r, (K r).bind g = K' r) : (bmutR f d ms os K).bind g = bmutR f d ms os K' := by
  unfold bmutR
  split
  · split
    · refine rootK_push fun q t y => ?_
      split
      · split
        · refine argsK_push _ _ fun xs => ?_
          cases ms.fn _ xs with
          | none => rfl
          | some zv =>
            simp only [Option.bind_some]
            cases flatS ms.res zv.2 with
            | none => rfl
            | some s => exact h _
        · rfl
      · rfl
    · rfl
  · rfl
theorem opR_push {o : Oper} {K : Rec → Option α} {K' : Rec → Option β} {g : α → Option β} (h : ∀ r, (K r).bind g = K' r) : (opR E f o K).bind g = opR E f o K' := by
  unfold opR
  split
  · exact curR_push h
  · split
    · exact bmutR_push h
    · exact opR0_push h
theorem skipR_push {o : Oper} {K : Rec → Option α} {K' : Rec → Option β} {g : α → Option β} (h : ∀ r, (K r).bind g = K' r) : (skipR f o K).bind g = skipR f o K' := by
  unfold skipR
  repeat' (first | rfl | exact h _ | split)
theorem skipR_same {o : Oper} {K : Rec → Option α} (h : ∀ d, o.dst = some d → (f[d]?).isSome = true → (f'[d]?).isSome = true) {out : α} (hk : skipR f o K = some out) : skipR f' o K = some out := by
  unfold skipR at hk ⊢
  split at hk
  · rename_i d hd
    split at hk
    · rename_i s hs
      have := h d hd (by simp [hs])
      obtain ⟨s', hs'⟩ := Option.isSome_iff_exists.1 this
      simp only [hs']; exact hk
    · simp at hk
  · exact hk
def storeAlso (f : Frame) (o : Oper) : List Nat :=
  match o.op with
  | .store _ a _ => match copyS f a with
    | some (.adr _ r _ _ _ _ _) => [r]
    | _ => []
  | _ => []
def callAlso (f : Frame) (o : Oper) : List Nat :=
  match o.op with
  | .call _ => (match tmpsOf o with
    | i :: _ => match f[i]? with
      | some (.cref r) => [r]
      | _ => []
    | [] => []) ++ (tmpsOf o).filterMap (refRoot f)
  | _ => []
theorem opR0_same {o : Oper} {K : Rec → Option α} (h : ∀ t ∈ tmpsOf o, f'[t]? = f[t]?) (h2 : ∀ t ∈ assignAlso f o, f'[t]? = f[t]?) (h3 : ∀ t ∈ storeAlso f o, f'[t]? = f[t]?) (h4 : ∀ d, o.dst = some d → (f[d]?).isSome = true → (f'[d]?).isSome = true)
    {out : α} (hk : opR0 E f o K = some out) : opR0 E f' o K = some out := by
  have put : (match o.dst with
    | some d => match f[d]? with
      | some _ => opK E f o fun s ls => match s.on d || ls.any fun c => s.on c with
        | true => none
        | false => K (.put d s ls)
      | none => none
    | none => none) = some out → (match o.dst with
    | some d => match f'[d]? with
      | some _ => opK E f' o fun s ls => match s.on d || ls.any fun c => s.on c with
        | true => none
        | false => K (.put d s ls)
      | none => none
    | none => none) = some out := by
    intro hk
    split at hk
    · rename_i d hd
      split at hk
      · rename_i s hs
        have := h4 d hd (by simp [hs])
        obtain ⟨s', hs'⟩ := Option.isSome_iff_exists.1 this
        simp only [hs', opK_same h h2]; exact hk
      · simp at hk
    · simp at hk
  have hs : ∀ x ∈ o.op.operands, Same f f' x := fun x hx i e => h i (List.mem_filterMap.2 ⟨.tmp i, by subst e; simpa using hx, rfl⟩)
  obtain ⟨dst, op, T, pos, aft, gd⟩ := o
  cases op with
  | store D x v =>
    simp only [opR0] at hk ⊢
    cases dst with
    | some d => simp at hk
    | none =>
      simp only at hk ⊢
      have hx := hs x (by simp [Op.operands])
      have hv := hs v (by simp [Op.operands])
      simp only [storeAlso] at h3
      unfold storeR at hk ⊢
      rw [copyS_same hx]
      split at hk
      · rename_i o r p tr t y u hc
        rw [hc] at h3
        have hr : f'[r]? = f[r]? := h3 r (by simp)
        rw [kindOf_same hv]
        simp only [valK_same hv]
        cases v with
        | tmp j => simp only [hv j rfl, hr]; exact hk
        | _ => simp only [hr]; exact hk
      · simp at hk
  | _ => exact put hk
theorem curR_same {o : Oper} {d : Nat} {cs : CurSpec} {os : List Operand} {K : Rec → Option α} (hm : curAt E o = some (d, cs, os)) (h : ∀ t ∈ tmpsOf o, f'[t]? = f[t]?) (h2 : ∀ t ∈ callAlso f o, f'[t]? = f[t]?) (h4 : ∀ d, o.dst = some d → (f[d]?).isSome = true → (f'[d]?).isSome = true)
    {out : α} (hk : curR f d cs os K = some out) : curR f' d cs os K = some out := by
  have hs : ∀ x ∈ o.op.operands, Same f f' x := fun x hx i e => h i (List.mem_filterMap.2 ⟨.tmp i, by subst e; simpa using hx, rfl⟩)
  unfold curAt at hm
  split at hm
  · rename_i d' c hdst hop
    split at hm
    · rename_i g hcal
      split at hm
      · rename_i cs' hcs
        simp only [Option.some.injEq, Prod.mk.injEq] at hm
        obtain ⟨rfl, rfl, rfl⟩ := hm
        obtain ⟨dst, op, T, pos, aft, gd⟩ := o
        simp only at hdst hop
        subst hdst; subst hop
        obtain ⟨cal, args, tys⟩ := c
        simp only at hcal; subst hcal
        have hops : (Op.call ⟨.value (.func g), args, tys⟩).operands.toList = .func g :: args.toList := by simp [Op.operands, Call.operands]
        unfold curR at hk ⊢
        split at hk
        · rename_i i os hoi
          have hoi' : args.toList = Operand.tmp i :: os := hoi
          have htm : tmpsOf ⟨some d', .call ⟨.value (.func g), args, tys⟩, T, pos, aft, gd⟩ = i :: os.filterMap (fun | .tmp t => some t | _ => none) := by
            unfold tmpsOf
            rw [hops, hoi']
            rfl
          have hrest : ∀ x ∈ os, Same f f' x := fun x hx => hs x (by
            have : x ∈ (Op.call ⟨.value (.func g), args, tys⟩).operands.toList := by rw [hops, hoi']; simp [hx]
            simpa using this)
          have hall : ∀ q, os.all (clear f' q) = os.all (clear f q) := fun q => by
            rw [Bool.eq_iff_iff]; simp only [List.all_eq_true]
            exact ⟨fun k x hx => by rw [← clear_same (hrest x hx)]; exact k x hx, fun k x hx => by rw [clear_same (hrest x hx)]; exact k x hx⟩
          have hi : f'[i]? = f[i]? := h i (by rw [htm]; simp)
          have hroot : curRoot f' i = curRoot f i := by
            unfold curRoot
            rw [hi]
            cases hfi : f[i]? with
            | none => rfl
            | some s0 =>
              cases s0 with
              | cref q => simp only; rw [h2 q (by unfold callAlso; refine List.mem_append_left _ ?_; simp only [htm, hfi, List.mem_singleton])]
              | own t0 y0 => cases t0 <;> rfl
              | _ => rfl
          split at hk
          · rename_i sd hfd
            obtain ⟨s', hs'⟩ := Option.isSome_iff_exists.1 (h4 d' rfl (by rw [hfd]; rfl))
            rw [hs', hroot]
            simp only
            split at hk
            · rename_i q y hr
              rw [hall]
              simp only [argsK_same cs'.rest os hrest]
              exact hk
            · simp at hk
          · simp at hk
        · simp at hk
      · simp at hm
    · simp at hm
  · simp at hm
theorem rootK_same {i : Nat} {K : Nat → (t : Ty) → t.den → Option α} (h : f'[i]? = f[i]?) (h2 : ∀ q, refRoot f i = some q → f'[q]? = f[q]?) : rootK f' i K = rootK f i K := by
  unfold rootK
  rw [h]
  cases hfi : f[i]? with
  | none => rfl
  | some s0 =>
    cases s0 with
    | ref q p tr t y u =>
      cases p with
      | nil => simp only; rw [h2 q (by unfold refRoot; simp only [hfi])]
      | cons _ _ => rfl
    | _ => rfl
theorem bmutR_same {o : Oper} {d : Nat} {ms : MutSpec} {os : List Operand} {K : Rec → Option α} (hm : bmutAt E o = some (d, ms, os)) (h : ∀ t ∈ tmpsOf o, f'[t]? = f[t]?) (h2 : ∀ t ∈ callAlso f o, f'[t]? = f[t]?) (h4 : ∀ d, o.dst = some d → (f[d]?).isSome = true → (f'[d]?).isSome = true)
    {out : α} (hk : bmutR f d ms os K = some out) : bmutR f' d ms os K = some out := by
  have hs : ∀ x ∈ o.op.operands, Same f f' x := fun x hx i e => h i (List.mem_filterMap.2 ⟨.tmp i, by subst e; simpa using hx, rfl⟩)
  unfold bmutAt at hm
  split at hm
  · rename_i d' c hdst hop
    split at hm
    · rename_i g hcal
      split at hm
      · rename_i ms' hms
        split at hm
        case h_2 => simp at hm
        simp only [Option.some.injEq, Prod.mk.injEq] at hm
        obtain ⟨rfl, rfl, rfl⟩ := hm
        obtain ⟨dst, op, T, pos, aft, gd⟩ := o
        simp only at hdst hop
        subst hdst; subst hop
        obtain ⟨cal, args, tys⟩ := c
        simp only at hcal; subst hcal
        have hops : (Op.call ⟨.value (.func g), args, tys⟩).operands.toList = .func g :: args.toList := by simp [Op.operands, Call.operands]
        have harg : ∀ x ∈ args.toList, Same f f' x := fun x hx => hs x (by
          have : x ∈ (Op.call ⟨.value (.func g), args, tys⟩).operands.toList := by rw [hops]; simp [hx]
          simpa using this)
        have hrest : ∀ x ∈ args.toList.eraseIdx ms'.pos, Same f f' x := fun x hx => harg x (List.mem_of_mem_eraseIdx hx)
        have hall : ∀ q, (args.toList.eraseIdx ms'.pos).all (clear f' q) = (args.toList.eraseIdx ms'.pos).all (clear f q) := fun q => by
          rw [Bool.eq_iff_iff]; simp only [List.all_eq_true]
          exact ⟨fun k x hx => by rw [← clear_same (hrest x hx)]; exact k x hx, fun k x hx => by rw [clear_same (hrest x hx)]; exact k x hx⟩
        unfold bmutR at hk ⊢
        split at hk
        · rename_i i hoi
          have hmem : Operand.tmp i ∈ args.toList := List.mem_of_getElem? hoi
          have hti : i ∈ tmpsOf ⟨some d', .call ⟨.value (.func g), args, tys⟩, T, pos, aft, gd⟩ := by
            unfold tmpsOf
            rw [hops]
            exact List.mem_filterMap.2 ⟨.tmp i, List.mem_cons_of_mem _ hmem, rfl⟩
          split at hk
          · rename_i sd hfd
            obtain ⟨s', hs'⟩ := Option.isSome_iff_exists.1 (h4 d' rfl (by rw [hfd]; rfl))
            rw [hs']
            simp only
            rw [rootK_same (h i hti) fun q hq => h2 q (by
              unfold callAlso
              exact List.mem_append_right _ (List.mem_filterMap.2 ⟨i, hti, hq⟩))]
            simp only [hall, argsK_same ms'.rest (args.toList.eraseIdx ms'.pos) hrest]
            exact hk
          · simp at hk
        · simp at hk
      · simp at hm
    · simp at hm
  · simp at hm
theorem opR_same {o : Oper} {K : Rec → Option α} (h : ∀ t ∈ tmpsOf o, f'[t]? = f[t]?) (h2 : ∀ t ∈ assignAlso f o, f'[t]? = f[t]?) (h3 : ∀ t ∈ storeAlso f o, f'[t]? = f[t]?) (h5 : ∀ t ∈ callAlso f o, f'[t]? = f[t]?) (h4 : ∀ d, o.dst = some d → (f[d]?).isSome = true → (f'[d]?).isSome = true)
    {out : α} (hk : opR E f o K = some out) : opR E f' o K = some out := by
  unfold opR at hk ⊢
  split at hk
  · rename_i d cs os hm
    exact curR_same hm h h5 h4 hk
  split at hk
  · rename_i d ms os hm
    exact bmutR_same hm h h5 h4 hk
  · exact opR0_same h h2 h3 h4 hk
theorem opR_weak {o : Oper} {K : Rec → Option α} {i : Nat} (hw : weakOf f o = [i]) {y : Option (Value × Int × Int)} (hi : f'[i]? = some (.own .cur y)) (h4 : ∀ d, o.dst = some d → (f[d]?).isSome = true → (f'[d]?).isSome = true) {out : α} (hk : opR E f o K = some out) : opR E f' o K = some out := by
  obtain ⟨dst, op, T, pos, aft, gd⟩ := o
  unfold weakOf at hw
  split at hw
  · rename_i i' hop
    simp only at hop
    subst hop
    split at hw
    · rename_i t x hfi
      split at hw
      · rename_i hc
        simp only [List.cons.injEq, and_true] at hw
        subst hw
        have e := Ty.isCur_eq hc
        subst e
        cases dst with
        | none => simp [opR, curAt, bmutAt, opR0] at hk
        | some d =>
          simp only [opR, curAt, bmutAt, opR0] at hk ⊢
          split at hk
          · rename_i sd hfd
            obtain ⟨s', hs'⟩ := Option.isSome_iff_exists.1 (h4 d rfl (by rw [hfd]; rfl))
            rw [hs']
            simp only [opK, copyS, hfi, hi, Ty.flat, Ty.isCur] at hk ⊢
            exact hk
          · simp at hk
      · simp at hw
    · simp at hw
  · simp at hw
def guardB (all : List Oper) (f : Frame) (o : Oper) : Option Bool :=
  match o.guard with
  | none => some true
  | some (j, want) => match all[j]? with
    | some oj => match oj.dst with
      | some d => match f[d]? with
        | some (.ro none .bool b) => match b with
          | true => some want
          | false => some (!want)
        | some .undef => some false
        | _ => none
      | none => none
    | none => none
theorem stepK_eq {all : List Oper} {o : Oper} {K : Frame → Rec → Option α} : stepK E all f o K = match guardB all f o with
    | some true => opR E f o (K f)
    | some false => skipR f o (K f)
    | none => none := by
  unfold stepK guardB
  cases hg : o.guard with
  | none => rfl
  | some jw =>
    obtain ⟨j, want⟩ := jw
    simp only
    cases all[j]? with
    | none => rfl
    | some oj =>
      simp only
      cases oj.dst with
      | none => rfl
      | some d =>
        simp only
        cases hb : f[d]? with
        | none => rfl
        | some s =>
          cases s with
          | undef => rfl
          | ro r t b =>
            cases r with
            | none =>
              cases t with
              | bool =>
                change Bool at b
                cases b <;> cases want <;> simp only [set_same hb] <;> rfl
              | _ => rfl
            | some _ => rfl
          | _ => rfl
end Go.Sx
namespace Go.Sx
variable {α β : Type} {f f' : Frame} {E : Env}
structure Valid (st : St) (f : Frame) : Prop where
  reads : ∀ p ∈ st.reads, f[p.1]? = some p.2
  sets : ∀ p ∈ st.did.sets, (f[p.1]?).isSome = true
  root : ∀ d, st.did.dst = some d → isRootAt f d = st.root
  weak : ∀ i ∈ st.weak, ∃ y, f[i]? = some (.own .cur y)
  cur : ∀ q, st.did.curOf = some q → ∃ y, f[q]? = some (.own .cur y)
  ne : ∀ q d, st.did.qOf = some q → st.did.dst = some d → d ≠ q
structure Good (E : Env) (all : List Oper) (st : St) : Prop where
  live : ∀ p ∈ st.reads, p.2 ≠ .dead
  again : ∀ f', Valid st f' → stepK E all f' st.o (fun _ r => some r) = some st.did
def Runs : List St → Frame → Frame → Prop
  | [], f, g => f = g
  | st :: l, f, g => Valid st f ∧ Runs l (st.did.act f) g
theorem kill_point (r : Nat) (f : Frame) (t : Nat) : (kill r f)[t]? = (f[t]?).map fun s => cond (s.on r) Slot.dead s := by
  rw [kill_get]
  congr 1
theorem dead_cond (b : Bool) : cond b Slot.dead Slot.dead = Slot.dead := by cases b <;> rfl
theorem useUp_point : ∀ (ls : List Nat) (f : Frame) (t : Nat), (useUp f ls)[t]? = (f[t]?).map fun s => cond (ls.contains t || ls.any (fun c => s.on c)) Slot.dead s
  | [], f, t => by simp [useUp]
  | c :: r, f, t => by
    simp only [useUp]
    rw [useUp_point r, List.getElem?_set]
    by_cases e : c = t
    · subst e
      simp only [if_true, kill_length]
      by_cases hlt : c < f.length
      · simp only [if_pos hlt, Option.map_some, dead_cond]
        rw [List.getElem?_eq_getElem hlt]
        simp
      · simp only [if_neg hlt]
        rw [List.getElem?_eq_none (by omega)]; rfl
    · simp only [if_neg e, kill_point]
      cases f[t]? with
      | none => rfl
      | some s =>
        simp only [Option.map_some]
        have e2 : (t == c) = false := by simpa using Ne.symm e
        cases hc : s.on c with
        | true => simp only [List.any_cons, hc, Bool.true_or, Bool.or_true, cond_true, dead_cond]
        | false => simp only [List.contains_cons, e2, List.any_cons, hc, Bool.false_or, cond_false]
def frailOf (n s : Slot) : Bool := match n with | .ext r _ _ _ _ _ => s.frail r | _ => false
theorem killFrail_point (f : Frame) (n : Slot) (t : Nat) : (killFrail f n)[t]? = (f[t]?).map fun s => cond (frailOf n s) Slot.dead s := by
  cases n with
  | ext r p tr t0 x u =>
    simp only [killFrail, List.getElem?_map, frailOf]
    congr 1
  | _ => simp [killFrail, frailOf]
theorem putS_point (f : Frame) (d : Nat) (n : Slot) (t : Nat) : (putS f d n)[t]? = (f[t]?).map fun s => if d = t then n else cond (isRootAt f d && s.on d) Slot.dead s := by
  simp only [putS]
  rw [List.getElem?_set]
  by_cases e : d = t
  · subst e
    cases isRootAt f d <;> simp only [if_true, kill_length]
    all_goals
      by_cases hlt : d < f.length
      · rw [if_pos hlt, List.getElem?_eq_getElem hlt]; rfl
      · rw [if_neg hlt, List.getElem?_eq_none (by omega)]; rfl
  · simp only [if_neg e]
    cases isRootAt f d with
    | true => simp only [kill_point, Bool.true_and]
    | false => simp
theorem hit_put {o : Oper} {d : Nat} {n : Slot} {ls : List Nat} {root : Bool} {reads : List (Nat × Slot)} {weak : List Nat} (t : Nat) (s : Slot) :
    St.hit ⟨o, .put d n ls, root, reads, weak⟩ t s = (ls.contains t || ls.any (fun c => s.on c) || (root && s.on d) || frailOf n s) := by
  simp only [St.hit]
  cases n <;> rfl
theorem root_keeps {s : Slot} (h : s.isRoot = true) : (∀ c, s.on c = false) ∧ ∀ r, s.frail r = false := by
  cases s <;> simp [Slot.isRoot] at h <;> exact ⟨fun _ => rfl, fun _ => rfl⟩
theorem root_onC {s : Slot} (h : s.isRoot = true) (c : Nat) : s.onC c = false := by
  cases s <;> simp [Slot.isRoot] at h <;> rfl
theorem root_hit {st : St} {t : Nat} {s : Slot} (h : s.isRoot = true) (hd : st.did.dies.contains t = false) : st.hit t s = false := by
  obtain ⟨h1, h2⟩ := root_keeps h
  unfold St.hit
  unfold Rec.dies at hd
  split
  · rename_i d n ls e
    rw [e] at hd
    simp only at hd
    simp only [hd, h1, Bool.and_false, Bool.or_false, Bool.false_or, Bool.or_eq_false_iff]
    refine ⟨by simp, ?_⟩
    split
    · exact h2 _
    · rfl
  · rename_i r n ls e
    rw [e] at hd
    simp only at hd
    simp only [hd, h1, Bool.or_false, Bool.false_or]
    simp
  · simp only [root_onC h, h1, Bool.and_false, Bool.or_false]
  · rfl
theorem look_in {β : Type} : ∀ {l : List (Nat × β)} {t : Nat} {n : β}, look l t = some n → (t, n) ∈ l
  | [], t, n, h => by simp [look] at h
  | (k, x) :: r, t, n, h => by
    simp only [look] at h
    split at h
    · rename_i e
      have e := Nat.eq_of_beq_eq_true e
      simp only [Option.some.injEq] at h
      rw [← e, ← h]; simp
    · exact List.mem_cons_of_mem _ (look_in h)
theorem look_none {β : Type} : ∀ {l : List (Nat × β)} {t : Nat}, look l t = none → ∀ p ∈ l, p.1 ≠ t
  | [], t, h => by simp
  | (k, x) :: r, t, h => by
    simp only [look] at h
    split at h
    · simp at h
    · rename_i e
      intro p hp
      rcases List.mem_cons.1 hp with rfl | hp
      · intro e'; simp only at e'; rw [e', Nat.beq_refl] at e; simp at e
      · exact look_none h p hp
theorem killC_point (r : Nat) (f : Frame) (t : Nat) : (killC r f)[t]? = (f[t]?).map fun s => cond (s.onC r) Slot.dead s := by
  rw [killC_get]
  congr 1
def St.at (st : St) (t : Nat) (s : Slot) : Slot := match look st.did.sets t with
  | some n => n
  | none => cond (st.hit t s) Slot.dead s
theorem act_point {st : St} (hv : Valid st f) (t : Nat) : (st.did.act f)[t]? = (f[t]?).map (st.at t) := by
  obtain ⟨o, did, root, reads, weak⟩ := st
  cases did with
  | nop =>
    simp only [Rec.act]
    cases f[t]? <;> rfl
  | store r n ls =>
    simp only [Rec.act]
    rw [List.getElem?_set]
    by_cases e : r = t
    · subst e
      simp only [if_true, kill_length, useUp_length]
      by_cases hlt : r < f.length
      · rw [if_pos hlt, List.getElem?_eq_getElem hlt]; simp [St.at, Rec.sets, look, Nat.beq_refl]
      · rw [if_neg hlt, List.getElem?_eq_none (by omega)]; rfl
    · simp only [if_neg e, kill_point, useUp_point]
      cases f[t]? with
      | none => rfl
      | some s =>
        have hb : Nat.beq r t = false := by cases h : Nat.beq r t with | false => rfl | true => exact absurd (Nat.eq_of_beq_eq_true h) e
        simp only [Option.map_some, St.at, Rec.sets, look, hb, St.hit]
        cases h1 : (ls.contains t || ls.any fun c => s.on c) with
        | true => simp [Slot.on]
        | false => simp
  | cur q ty y d n =>
    obtain ⟨_, hsets, hroot, _, hcur, hne⟩ := hv
    have hdq : d ≠ q := hne q d rfl rfl
    obtain ⟨y0, hy0⟩ := Option.isSome_iff_exists.1 (hsets (q, .own ty y) (by simp [Rec.sets]))
    simp only at hy0
    have hd2 : isRootAt f d = root := hroot d rfl
    have hqlt : q < f.length := (List.getElem?_eq_some_iff.1 hy0).1
    simp only [Rec.act, applyS, putS_point, useUp]
    have hroot' : isRootAt ((killC q f).set q (.own ty y)) d = root := by
      rw [← hd2]
      simp only [isRootAt]
      rw [List.getElem?_set_ne (Ne.symm hdq), killC_point]
      cases f[d]? with
      | none => rfl
      | some sd =>
        simp only [Option.map_some]
        cases hr : sd.isRoot with
        | true => rw [root_onC hr]; exact hr
        | false => cases sd.onC q <;> first | exact hr | rfl
    rw [hroot']
    by_cases eq : q = t
    · subst eq
      have hb : Nat.beq d q = false := by cases h : Nat.beq d q with | false => rfl | true => exact absurd (Nat.eq_of_beq_eq_true h) hdq
      rw [List.getElem?_set]
      simp only [if_true, killC_length, hqlt, Option.map_some, if_neg hdq, hy0, St.at, Rec.sets, look, hb, Nat.beq_refl]
      simp [Slot.on]
    · rw [List.getElem?_set_ne eq, killC_point]
      cases f[t]? with
      | none => rfl
      | some s =>
        simp only [Option.map_some]
        have hbq : Nat.beq q t = false := by cases h : Nat.beq q t with | false => rfl | true => exact absurd (Nat.eq_of_beq_eq_true h) eq
        by_cases ed : d = t
        · subst ed
          simp only [if_true, St.at, Rec.sets, look, Nat.beq_refl]
        · have hbd : Nat.beq d t = false := by cases h : Nat.beq d t with | false => rfl | true => exact absurd (Nat.eq_of_beq_eq_true h) ed
          simp only [if_neg ed, St.at, Rec.sets, look, hbd, hbq, St.hit]
          cases s.onC q with
          | true => simp [Slot.on]
          | false => simp
  | put d n ls =>
    obtain ⟨_, hsets, hroot, _, _, _⟩ := hv
    have hd1 : (f[d]?).isSome = true := hsets (d, n) (by simp [Rec.sets])
    have hd2 : isRootAt f d = root := hroot d rfl
    simp only [Rec.act, applyS, putS_point, useUp_point, killFrail_point]
    have hroot : isRootAt (useUp (killFrail f n) ls) d = (root && !ls.contains d) := by
      rw [← hd2]
      simp only [isRootAt, useUp_point, killFrail_point]
      obtain ⟨sd, hsd⟩ := Option.isSome_iff_exists.1 hd1
      rw [hsd]
      simp only [Option.map_some]
      cases hr : sd.isRoot with
      | true =>
        obtain ⟨k1, k2⟩ := root_keeps hr
        have hfr : frailOf n sd = false := by unfold frailOf; split <;> first | exact k2 _ | rfl
        rw [hfr]
        simp only [k1, cond_false]
        cases hc : ls.contains d with
        | true => simp [Slot.isRoot]
        | false =>
          have : (ls.any fun c => false) = false := by simp
          simp only [Bool.false_or, this, cond_false, hr]; rfl
      | false =>
        simp only [Bool.false_and]
        cases frailOf n sd <;> simp only [cond_true, cond_false]
        · cases (ls.contains d || ls.any fun c => sd.on c) <;> first | exact hr | rfl
        · cases (ls.contains d || ls.any fun c => Slot.dead.on c) <;> rfl
    rw [hroot]
    cases f[t]? with
    | none => rfl
    | some s =>
      simp only [Option.map_some]
      by_cases e : d = t
      · subst e; simp only [if_true, St.at, Rec.sets, look, Nat.beq_refl]
      · have hbd : Nat.beq d t = false := by cases h : Nat.beq d t with | false => rfl | true => exact absurd (Nat.eq_of_beq_eq_true h) e
        simp only [if_neg e, St.at, Rec.sets, look, hbd, hit_put]
        congr 1
        cases h2 : frailOf n s with
        | true =>
          simp only [cond_true, Bool.or_true]
          cases (ls.contains t || ls.any fun c => Slot.dead.on c) <;> simp [Slot.on]
        | false =>
          simp only [cond_false, Bool.or_false]
          cases h1 : (ls.contains t || ls.any fun c => s.on c) with
          | true => simp [Slot.on]
          | false =>
            simp only [cond_false, Bool.false_or]
            cases hk : ls.contains d with
            | false => simp
            | true =>
              have hon : s.on d = false := by
                simp only [Bool.or_eq_false_iff] at h1
                have := List.any_eq_false.1 h1.2 d (by simpa using hk)
                simpa using this
              simp [hon]
end Go.Sx
namespace Go.Sx
variable {α β : Type} {f f' : Frame} {E : Env}
theorem sets_dst {rec : Rec} {d : Nat} (h : rec.dst = some d) : ∃ s, (d, s) ∈ rec.sets := by
  cases rec <;> simp only [Rec.dst, Option.some.injEq, reduceCtorEq] at h
  all_goals (subst h; simp [Rec.sets])
theorem sets_cur {rec : Rec} {q : Nat} (h : rec.curOf = some q) : ∃ y, (q, .own .cur y) ∈ rec.sets := by
  cases rec <;> simp only [Rec.curOf, reduceCtorEq] at h
  rename_i q' t y d s
  split at h
  · rename_i hc
    have e := Ty.isCur_eq hc
    subst e
    simp only [Option.some.injEq] at h
    subst h; exact ⟨y, by simp [Rec.sets]⟩
  · simp at h
theorem look_unset {st : St} {t : Nat} (h : ∀ p ∈ st.did.sets, p.1 ≠ t) : look st.did.sets t = none := by
  cases hl : look st.did.sets t with
  | none => rfl
  | some n => exact absurd rfl (h _ (look_in hl))
theorem root_same {st : St} (hv : Valid st f) {d : Nat} (hne : ∀ p ∈ st.did.sets, p.1 ≠ d) (hd : st.did.dies.contains d = false) : isRootAt (st.did.act f) d = isRootAt f d := by
  simp only [isRootAt, act_point hv]
  cases hf : f[d]? with
  | none => rfl
  | some s =>
    simp only [Option.map_some, St.at, look_unset hne]
    cases hr : s.isRoot with
    | true => rw [root_hit hr hd]; exact hr
    | false => cases st.hit d s <;> first | exact hr | rfl
theorem some_same {st : St} {d : Nat} : ((st.did.act f)[d]?).isSome = (f[d]?).isSome := by
  have : (st.did.act f).length = f.length := act_length _ _
  rw [Bool.eq_iff_iff]
  simp [this]
theorem hit_dead {st : St} {t : Nat} : cond (st.hit t Slot.dead) Slot.dead Slot.dead = Slot.dead := dead_cond _
theorem cond_eq {b : Bool} {s s' : Slot} (h : cond b Slot.dead s = s') (hs : s' ≠ .dead) : s = s' ∧ b = false := by
  cases b with
  | true => exact absurd h.symm hs
  | false => exact ⟨h, rfl⟩
theorem before {st : St} (hv : Valid st f) {t : Nat} {s : Slot} (hs : s ≠ .dead) (hne : ∀ p ∈ st.did.sets, p.1 ≠ t) (h : (st.did.act f)[t]? = some s) : f[t]? = some s := by
  rw [act_point hv] at h
  cases hf : f[t]? with
  | none => rw [hf] at h; simp at h
  | some s0 =>
    rw [hf] at h
    simp only [Option.map_some, Option.some.injEq, St.at, look_unset hne] at h
    rw [(cond_eq h hs).1]
theorem behind {st : St} (hv : Valid st f) {t : Nat} {s : Slot} (hs : s.isRoot = true) (hne : ∀ p ∈ st.did.sets, p.1 ≠ t) (hd : st.did.dies.contains t = false) (h : f[t]? = some s) : (st.did.act f)[t]? = some s := by
  rw [act_point hv, h]
  simp only [Option.map_some, St.at, look_unset hne, root_hit hs hd, cond_false]
theorem weakOk_spec {ws : List Nat} {rec : Rec} {d i : Nat} (h : weakOk ws rec d = true) (hi : i ∈ ws) : i ≠ d ∨ rec.curOf = some i := by
  have := List.all_eq_true.1 h i hi
  simp only [Bool.or_eq_true, Bool.not_eq_true'] at this
  rcases this with h | h
  · left; rintro rfl; rw [Nat.beq_refl] at h; simp at h
  · right
    split at h
    · rename_i q hq
      rw [hq, Nat.eq_of_beq_eq_true h]
    · simp at h
theorem swap {all : List Oper} {x y : St} (_gx : Good E all x) (gy : Good E all y) (hx : Valid x f) (hy : Valid y (x.did.act f)) (h : swapOk x y = true) :
    Valid y f ∧ Valid x (y.did.act f) ∧ y.did.act (x.did.act f) = x.did.act (y.did.act f) := by
  simp only [swapOk, Bool.and_eq_true] at h
  obtain ⟨⟨⟨h1, h2⟩, h3⟩, h4⟩ := h
  have k1 : ∀ p ∈ x.did.sets, (∀ e ∈ y.did.sets, p.1 ≠ e.1) ∧ (∀ r ∈ y.reads, r.1 ≠ p.1) ∧ y.did.dies.contains p.1 = false ∧ y.hit p.1 p.2 = false ∧ weakOk y.weak x.did p.1 = true := by
    intro p hp
    have h1 := List.all_eq_true.1 h1 p hp
    simp only [Bool.and_eq_true, Bool.not_eq_true'] at h1
    obtain ⟨⟨⟨⟨a1, a2⟩, a3⟩, a4⟩, a5⟩ := h1
    refine ⟨fun e he e' => ?_, fun r hr e => ?_, a3, a4, a5⟩
    · have := List.all_eq_true.1 a1 e he
      rw [e'] at this; simp [Nat.beq_refl] at this
    · have := List.all_eq_true.1 a2 r hr
      rw [e] at this; simp [Nat.beq_refl] at this
  have k2 : ∀ p ∈ y.did.sets, (∀ r ∈ x.reads, r.1 ≠ p.1) ∧ x.did.dies.contains p.1 = false ∧ x.hit p.1 p.2 = false ∧ weakOk x.weak y.did p.1 = true := by
    intro p hp
    have h2 := List.all_eq_true.1 h2 p hp
    simp only [Bool.and_eq_true, Bool.not_eq_true'] at h2
    obtain ⟨⟨⟨a2, a3⟩, a4⟩, a5⟩ := h2
    refine ⟨fun r hr e => ?_, a3, a4, a5⟩
    have := List.all_eq_true.1 a2 r hr
    rw [e] at this; simp [Nat.beq_refl] at this
  have k3 : ∀ e ∈ y.did.sets, ∀ p ∈ x.did.sets, p.1 ≠ e.1 := fun e he p hp => (k1 p hp).1 e he
  have vy : Valid y f := by
    refine ⟨fun r hr => ?_, fun p hp => ?_, fun d hd => ?_, fun i hi => ?_, fun q hq => ?_, hy.ne⟩
    · exact before hx (gy.live r hr) (fun p hp e => (k1 p hp).2.1 r hr e.symm) (hy.reads r hr)
    · have := hy.sets p hp; rwa [some_same] at this
    · obtain ⟨s, hs⟩ := sets_dst hd
      have := hy.root d hd
      rwa [root_same hx (fun p hp e => k3 _ hs p hp e) (k2 _ hs).2.1] at this
    · obtain ⟨y0, hy0⟩ := hy.weak i hi
      by_cases hset : ∀ p ∈ x.did.sets, p.1 ≠ i
      · exact ⟨y0, before hx (by simp) hset hy0⟩
      · have : ∃ p ∈ x.did.sets, p.1 = i := by
          apply Classical.byContradiction
          intro hn
          exact hset fun p hp e => hn ⟨p, hp, e⟩
        obtain ⟨p, hp, e⟩ := this
        rcases weakOk_spec (k1 p hp).2.2.2.2 hi with h | h
        · exact absurd e.symm h
        · exact hx.cur i h
    · obtain ⟨y0, hy0⟩ := hy.cur q hq
      obtain ⟨y1, hy1⟩ := sets_cur hq
      exact ⟨y0, before hx (by simp) (fun p hp e => k3 _ hy1 p hp e) hy0⟩
  have vx : Valid x (y.did.act f) := by
    refine ⟨fun r hr => ?_, fun p hp => ?_, fun d hd => ?_, fun i hi => ?_, fun q hq => ?_, hx.ne⟩
    · rw [act_point vy, hx.reads r hr]
      have := List.all_eq_true.1 h3 r hr
      simp only [Bool.not_eq_true'] at this
      simp only [Option.map_some, St.at, look_unset (st := y) (t := r.1) (fun p hp e => (k2 p hp).1 r hr e.symm), this, cond_false]
    · rw [some_same]; exact hx.sets p hp
    · obtain ⟨s, hs⟩ := sets_dst hd
      obtain ⟨b1, b2, b3, b4, _⟩ := k1 _ hs
      rw [root_same vy (fun p hp e => b1 p hp e.symm) b3]; exact hx.root d hd
    · obtain ⟨y0, hy0⟩ := hx.weak i hi
      have hdie : y.did.dies.contains i = false := by
        have := List.all_eq_true.1 h4 i hi
        simpa using this
      by_cases hset : ∀ p ∈ y.did.sets, p.1 ≠ i
      · exact ⟨y0, behind vy rfl hset hdie hy0⟩
      · have : ∃ p ∈ y.did.sets, p.1 = i := by
          apply Classical.byContradiction
          intro hn
          exact hset fun p hp e => hn ⟨p, hp, e⟩
        obtain ⟨p, hp, e⟩ := this
        rcases weakOk_spec (k2 p hp).2.2.2 hi with h | h
        · exact absurd e.symm h
        · -- y is a cursor's step at i
          rw [act_point vy, hy0]
          simp only [Option.map_some, Option.some.injEq, St.at]
          obtain ⟨⟨oy, didy, ry, rdy, wy⟩⟩ : Nonempty St := ⟨y⟩
          cases hdy : y.did with
          | cur q ty y1 d s =>
            rw [hdy] at h
            simp only [Rec.curOf] at h
            split at h
            case h_2 => simp at h
            rename_i hc
            have e := Ty.isCur_eq hc
            subst e
            simp only [Option.some.injEq] at h
            subst h
            have hdq : d ≠ q := vy.ne q d (by rw [hdy]; rfl) (by rw [hdy]; rfl)
            have hb : Nat.beq d q = false := by cases h : Nat.beq d q with | false => rfl | true => exact absurd (Nat.eq_of_beq_eq_true h) hdq
            exact ⟨y1, by simp only [Rec.sets, look, hb, Nat.beq_refl]⟩
          | _ => rw [hdy] at h; simp [Rec.curOf] at h
    · obtain ⟨y0, hy0⟩ := hx.cur q hq
      obtain ⟨y1, hy1⟩ := sets_cur hq
      obtain ⟨b1, b2, b3, b4, _⟩ := k1 _ hy1
      exact ⟨y0, behind vy rfl (fun p hp e => b1 p hp e.symm) b3 hy0⟩
  refine ⟨vy, vx, ?_⟩
  apply List.ext_getElem?; intro t
  rw [act_point hy, act_point vx, act_point hx, act_point vy]
  cases f[t]? with
  | none => rfl
  | some s =>
    simp only [Option.map_some, Option.some.injEq]
    cases ex : look x.did.sets t with
    | some n =>
      obtain ⟨b1, b2, b3, b4, _⟩ := k1 _ (look_in ex)
      have ey : look y.did.sets t = none := look_unset fun p hp e => b1 p hp e.symm
      simp only [St.at, ex, ey, b4, cond_false]
    | none =>
      cases ey : look y.did.sets t with
      | some n =>
        obtain ⟨b1, b2, b3, _⟩ := k2 _ (look_in ey)
        simp only [St.at, ex, ey, b3, cond_false]
      | none =>
        simp only [St.at, ex, ey]
        cases hxs : x.hit t s <;> cases hys : y.hit t s <;> simp only [cond_true, cond_false, hxs, hys, dead_cond]
theorem bubble {all : List Oper} {y : St} (gy : Good E all y) : ∀ (l : List St) (r : List St) (f g : Frame), (∀ x ∈ l, Good E all x ∧ swapOk x y = true) → Runs (l ++ y :: r) f g → Valid y f ∧ Runs (l ++ r) (y.did.act f) g
  | [], r, f, g, _, h => h
  | x :: l, r, f, g, hl, h => by
    obtain ⟨hx, h⟩ := h
    obtain ⟨hy, h⟩ := bubble gy l r _ g (fun z hz => hl z (by simp [hz])) h
    obtain ⟨gx, hs⟩ := hl x (by simp)
    obtain ⟨vy, vx, e⟩ := swap gx gy hx hy hs
    exact ⟨vy, vx, e ▸ h⟩
theorem readsOf_spec : ∀ (l : List Nat) {r : List (Nat × Slot)}, readsOf f l = some r → (∀ p ∈ r, f[p.1]? = some p.2 ∧ p.2 ≠ .dead) ∧ ∀ t ∈ l, ∃ s, (t, s) ∈ r
  | [], r, h => by simp [readsOf] at h; subst h; simp
  | t :: l, r, h => by
    simp only [readsOf] at h
    split at h
    · simp at h
    · rename_i s l' hs hne hl
      simp at h; subst h
      obtain ⟨i1, i2⟩ := readsOf_spec l hl
      refine ⟨fun p hp => ?_, fun t' ht' => ?_⟩
      · rcases List.mem_cons.1 hp with rfl | hp
        · exact ⟨hne, fun e => hs (by rw [← e])⟩
        · exact i1 p hp
      · rcases List.mem_cons.1 ht' with rfl | ht'
        · exact ⟨s, by simp⟩
        · obtain ⟨s', hs'⟩ := i2 t' ht'; exact ⟨s', by simp [hs']⟩
    · simp at h
end Go.Sx
namespace Go.Sx
variable {α β : Type} {f f' : Frame} {E : Env}
theorem bind_some' {X : Option β} {K : β → Option α} {out : α} (h : X.bind K = some out) : ∃ r, X = some r ∧ K r = some out := Option.bind_eq_some_iff.1 h
structure Fits (f : Frame) (rec : Rec) : Prop where
  sets : ∀ p ∈ rec.sets, (f[p.1]?).isSome = true
  cur : ∀ q, rec.curOf = some q → ∃ y, f[q]? = some (.own .cur y)
  ne : ∀ q d, rec.qOf = some q → rec.dst = some d → d ≠ q
theorem storeR_dst {T : Nat} {a v : Operand} {rec : Rec} (h : storeR E f T a v (fun r => some r) = some rec) : Fits f rec := by
  unfold storeR at h
  split at h
  · split at h
    · obtain ⟨t', x, h, _⟩ := valK_nat h
      obtain ⟨e, h⟩ := castK_some h
      subst e
      simp only at h
      have leaf : ∀ (r : Nat) (tr : Ty) (x : tr.den) (b : Bool) (s : Slot) (ls : List Nat), rootS f[r]? tr x b = some s → some (Rec.store r s ls) = some rec → Fits f rec := by
        intro r tr x b s ls hroot h
        simp only [Option.some.injEq] at h
        subst h
        refine ⟨fun p hp => ?_, fun q hq => by simp [Rec.curOf] at hq, fun q d hq => by simp [Rec.qOf] at hq⟩
        simp only [Rec.sets, List.mem_singleton] at hp
        subst hp
        rcases rootS_some hroot with ⟨_, ⟨_, _, e⟩, _⟩ | ⟨⟨_, _, _, e⟩, _⟩ <;> rw [e] <;> rfl
      repeat' (first | (simp at h; done) | exact leaf _ _ _ _ _ _ ‹_› h | split at h)
    · simp at h
  · simp at h
theorem argsK_some : ∀ (ts : List Ty) (os : List Operand) {K : Args ts → Option α} {out : α}, argsK f ts os K = some out → ∃ xs, K xs = some out
  | [], [], K, out, h => ⟨(), h⟩
  | t :: ts, o :: os, K, out, h => by
    simp only [argsK] at h
    obtain ⟨t', x, h, _⟩ := valK_nat h
    obtain ⟨e, h⟩ := castK_some h
    subst e
    obtain ⟨xs, h⟩ := argsK_some ts os h
    exact ⟨_, h⟩
  | [], _ :: _, _, _, h => by simp [argsK] at h
  | _ :: _, [], _, _, h => by simp [argsK] at h
theorem curR_dst {o : Oper} {d : Nat} {cs : CurSpec} {os : List Operand} (hm : curAt E o = some (d, cs, os)) {rec : Rec} (h : curR f d cs os (fun r => some r) = some rec) : Fits f rec ∧ ∀ d, o.dst = some d → rec.dst = some d := by
  have hd : o.dst = some d := by
    unfold curAt at hm
    split at hm
    · rename_i d' c hdst hop
      split at hm
      · split at hm
        · simp only [Option.some.injEq, Prod.mk.injEq] at hm
          rw [hdst, hm.1]
        · simp at hm
      · simp at hm
    · simp at hm
  unfold curR at h
  split at h
  · rename_i i os
    split at h
    · rename_i sd hfd
      split at h
      · rename_i q y hr
        split at h
        · rename_i hcond
          simp only [Bool.and_eq_true, Bool.not_eq_true'] at hcond
          have hdq : d ≠ q := fun e => by have := hcond.1; rw [e, Nat.beq_refl] at this; simp at this
          have hq : f[q]? = some (.own .cur y) := by
            unfold curRoot at hr
            split at hr
            · split at hr
              · rename_i hq; simp only [Option.some.injEq] at hr; obtain ⟨rfl, rfl⟩ := hr; exact hq
              · simp at hr
            · rename_i hq; simp only [Option.some.injEq] at hr; obtain ⟨rfl, rfl⟩ := hr; exact hq
            · simp at hr
          obtain ⟨xs, h⟩ := argsK_some _ _ h
          obtain ⟨zv, _, h⟩ := bind_some' h
          simp only [Option.some.injEq] at h
          subst h
          refine ⟨⟨fun p hp => ?_, fun q' hq' => ?_, fun q' d' h1 h2 => ?_⟩, fun d' h' => ?_⟩
          · simp only [Rec.sets, List.mem_cons, List.not_mem_nil, or_false] at hp
            rcases hp with rfl | rfl
            · rw [hfd]; rfl
            · rw [hq]; rfl
          · simp only [Rec.curOf, Ty.isCur, Option.some.injEq] at hq'; subst hq'; exact ⟨y, hq⟩
          · simp only [Rec.qOf, Option.some.injEq] at h1; simp only [Rec.dst, Option.some.injEq] at h2; rw [← h1, ← h2]; exact hdq
          · rw [hd] at h'; exact h'
        · simp at h
      · simp at h
    · simp at h
  · simp at h
theorem rootK_some {i : Nat} {K : Nat → (t : Ty) → t.den → Option α} {out : α} (h : rootK f i K = some out) : ∃ q t y, f[q]? = some (.own t y) ∧ K q t y = some out := by
  unfold rootK at h
  split at h
  · split at h
    · split at h
      · rename_i hq; exact ⟨_, _, _, hq, h⟩
      · simp at h
    · simp at h
  · rename_i hq; exact ⟨_, _, _, hq, h⟩
  · simp at h
theorem own_cur {q : Nat} {t : Ty} (e : t = .cur) {y : t.den} (h : f[q]? = some (.own t y)) : ∃ y, f[q]? = some (.own .cur y) := by
  subst e; exact ⟨y, h⟩
theorem bmutR_dst {o : Oper} {d : Nat} {ms : MutSpec} {os : List Operand} (hm : bmutAt E o = some (d, ms, os)) {rec : Rec} (h : bmutR f d ms os (fun r => some r) = some rec) : Fits f rec ∧ ∀ d, o.dst = some d → rec.dst = some d := by
  have hd : o.dst = some d := by
    unfold bmutAt at hm
    split at hm
    · rename_i d' c hdst hop
      split at hm
      · split at hm
        · split at hm
          · simp only [Option.some.injEq, Prod.mk.injEq] at hm
            rw [hdst, hm.1]
          · simp at hm
        · simp at hm
      · simp at hm
    · simp at hm
  unfold bmutR at h
  split at h
  · split at h
    · rename_i sd hfd
      obtain ⟨q, t, y, hq, h⟩ := rootK_some h
      split at h
      · rename_i ht _
        subst ht
        split at h
        · rename_i hcond
          simp only [Bool.and_eq_true, Bool.not_eq_true'] at hcond
          have hdq : d ≠ q := fun e => by have := hcond.1; rw [e, Nat.beq_refl] at this; simp at this
          obtain ⟨xs, h⟩ := argsK_some _ _ h
          obtain ⟨zv, _, h⟩ := bind_some' h
          obtain ⟨s, _, h⟩ := bind_some' h
          simp only [Option.some.injEq] at h
          subst h
          refine ⟨⟨fun p hp => ?_, fun q' hq' => ?_, fun q' d' h1 h2 => ?_⟩, fun d' h' => ?_⟩
          · simp only [Rec.sets, List.mem_cons, List.not_mem_nil, or_false] at hp
            rcases hp with rfl | rfl
            · rw [hfd]; rfl
            · rw [hq]; rfl
          · simp only [Rec.curOf] at hq'
            split at hq'
            · rename_i hc
              simp only [Option.some.injEq] at hq'
              subst hq'
              exact own_cur (Ty.isCur_eq hc) hq
            · simp at hq'
          · simp only [Rec.qOf, Option.some.injEq] at h1; simp only [Rec.dst, Option.some.injEq] at h2; rw [← h1, ← h2]; exact hdq
          · rw [hd] at h'; exact h'
        · simp at h
      · simp at h
    · simp at h
  · simp at h
theorem opR_dst {o : Oper} {rec : Rec} (h : opR E f o (fun r => some r) = some rec) : Fits f rec ∧ ∀ d, o.dst = some d → rec.dst = some d := by
  have put : (match o.dst with
    | some d => match f[d]? with
      | some _ => opK E f o fun s ls => match s.on d || ls.any fun c => s.on c with
        | true => none
        | false => some (Rec.put d s ls)
      | none => none
    | none => none) = some rec → Fits f rec ∧ ∀ d, o.dst = some d → rec.dst = some d := by
    intro h
    split at h
    · rename_i d hd
      split at h
      · rename_i s hs
        have hp := opK_push (E := E) (f := f) (o := o) (K := fun s ls => some (s, ls)) (g := fun p => match p.1.on d || p.2.any fun c => p.1.on c with | true => none | false => some (Rec.put d p.1 p.2)) (K' := fun s ls => match s.on d || ls.any fun c => s.on c with | true => none | false => some (Rec.put d s ls)) (fun s ls => rfl)
        rw [← hp] at h
        obtain ⟨p, _, h⟩ := bind_some' h
        split at h
        · simp at h
        · simp only [Option.some.injEq] at h
          subst h
          refine ⟨⟨fun p hp => ?_, fun q hq => by simp [Rec.curOf] at hq, fun q d hq => by simp [Rec.qOf] at hq⟩, fun d' e => ?_⟩
          · simp only [Rec.sets, List.mem_singleton] at hp; subst hp; rw [hs]; rfl
          · rw [hd] at e; exact e
      · simp at h
    · simp at h
  unfold opR at h
  split at h
  · rename_i d cs os hm
    exact curR_dst hm h
  split at h
  · rename_i d ms os hm
    exact bmutR_dst hm h
  obtain ⟨dst, op, T, pos, aft, gd⟩ := o
  cases op with
  | store D x v =>
    simp only [opR0] at h
    cases dst with
    | none => exact ⟨storeR_dst h, by simp⟩
    | some d => simp at h
  | _ => exact put h
theorem skipR_dst {o : Oper} {rec : Rec} (h : skipR f o (fun r => some r) = some rec) : Fits f rec ∧ ∀ d, o.dst = some d → rec.dst = some d := by
  unfold skipR at h
  split at h
  · rename_i d hd
    split at h
    · rename_i s hs
      simp only [Option.some.injEq] at h
      subst h
      refine ⟨⟨fun p hp => ?_, fun q hq => by simp [Rec.curOf] at hq, fun q d hq => by simp [Rec.qOf] at hq⟩, fun d' e => ?_⟩
      · simp only [Rec.sets, List.mem_singleton] at hp; subst hp; rw [hs]; rfl
      · rw [hd] at e; exact e
    · simp at h
  · rename_i hd
    simp only [Option.some.injEq] at h
    subst h
    exact ⟨⟨by simp [Rec.sets], by simp [Rec.curOf], by simp [Rec.qOf]⟩, fun d e => by rw [hd] at e; simp at e⟩
theorem stepK_rec {all : List Oper} {o : Oper} {K : Frame → Rec → Option α} {out : α} (hk : stepK E all f o K = some out) : ∃ rec, stepK E all f o (fun _ r => some r) = some rec ∧ K f rec = some out := by
  rw [stepK_eq] at hk
  simp only [stepK_eq]
  cases hg : guardB all f o with
  | none => rw [hg] at hk; simp at hk
  | some b =>
    rw [hg] at hk
    cases b with
    | true =>
      simp only at hk ⊢
      have := opR_push (E := E) (f := f) (o := o) (g := K f) (K := fun r => some r) (K' := K f) (fun r => rfl)
      rw [← this] at hk
      exact bind_some' hk
    | false =>
      simp only at hk ⊢
      have := skipR_push (f := f) (o := o) (g := K f) (K := fun r => some r) (K' := K f) (fun r => rfl)
      rw [← this] at hk
      exact bind_some' hk
theorem guardB_same {all : List Oper} {o : Oper} (h : ∀ j want oj d, o.guard = some (j, want) → all[j]? = some oj → oj.dst = some d → f'[d]? = f[d]?) : guardB all f' o = guardB all f o := by
  unfold guardB
  cases hg : o.guard with
  | none => rfl
  | some jw =>
    obtain ⟨j, want⟩ := jw
    simp only
    cases hj : all[j]? with
    | none => rfl
    | some oj =>
      simp only
      cases hd : oj.dst with
      | none => rfl
      | some d => simp only [h j want oj d hg hj hd]
theorem stepK_dst {all : List Oper} {o : Oper} {rec : Rec} (h : stepK E all f o (fun _ r => some r) = some rec) : Fits f rec ∧ ∀ d, o.dst = some d → rec.dst = some d := by
  rw [stepK_eq] at h
  split at h
  · exact opR_dst h
  · exact skipR_dst h
  · simp at h
theorem also_guard {all : List Oper} {o : Oper} {j : Nat} {want : Bool} {oj : Oper} {d : Nat} (h1 : o.guard = some (j, want)) (h2 : all[j]? = some oj) (h3 : oj.dst = some d) : d ∈ alsoOf all f o := by
  unfold alsoOf
  rw [h1]
  simp only [h2, h3]
  simp
theorem also_assign {all : List Oper} {o : Oper} {t : Nat} (h : t ∈ assignAlso f o) : t ∈ alsoOf all f o := by
  unfold alsoOf
  refine List.mem_append_right _ ?_
  obtain ⟨dst, op, T, pos, aft, gd⟩ := o
  cases op with
  | assign x => cases x <;> exact h
  | _ => simp [assignAlso] at h
theorem also_store {all : List Oper} {o : Oper} {t : Nat} (h : t ∈ storeAlso f o) : t ∈ alsoOf all f o := by
  unfold alsoOf
  refine List.mem_append_right _ ?_
  obtain ⟨dst, op, T, pos, aft, gd⟩ := o
  cases op with
  | store D x v => exact h
  | _ => simp [storeAlso] at h
theorem also_call {all : List Oper} {o : Oper} {t : Nat} (h : t ∈ callAlso f o) : t ∈ alsoOf all f o := by
  unfold alsoOf
  refine List.mem_append_right _ ?_
  obtain ⟨dst, op, T, pos, aft, gd⟩ := o
  cases op with
  | call c => exact h
  | _ => simp [callAlso] at h
theorem weakOf_spec {o : Oper} : weakOf f o = [] ∨ ∃ i y, weakOf f o = [i] ∧ f[i]? = some (.own .cur y) := by
  unfold weakOf
  split
  · rename_i i _
    split
    · rename_i t x hf
      split
      · rename_i hc
        have e := Ty.isCur_eq hc
        subst e
        exact .inr ⟨i, x, rfl, hf⟩
      · exact .inl rfl
    · exact .inl rfl
  · exact .inl rfl
theorem good_of {all : List Oper} {o : Oper} {rec : Rec} {reads : List (Nat × Slot)} (h : stepK E all f o (fun _ r => some r) = some rec) (hr : readsOf f (seesOf f o ++ alsoOf all f o) = some reads) :
    Good E all ⟨o, rec, rootOf f rec, reads, weakOf f o⟩ ∧ Valid ⟨o, rec, rootOf f rec, reads, weakOf f o⟩ f := by
  obtain ⟨r1, r2⟩ := readsOf_spec _ hr
  obtain ⟨d1, d2⟩ := stepK_dst h
  refine ⟨⟨fun p hp => (r1 p hp).2, fun f' hv => ?_⟩, ⟨fun p hp => (r1 p hp).1, d1.sets, fun d hd => by simp only at hd ⊢; simp only [rootOf, hd], fun i hi => ?_, d1.cur, d1.ne⟩⟩
  · have hsame : ∀ t ∈ seesOf f o ++ alsoOf all f o, f'[t]? = f[t]? := by
      intro t ht
      obtain ⟨s, hs⟩ := r2 t ht
      rw [hv.reads _ hs, (r1 _ hs).1]
    have hdst : ∀ d, o.dst = some d → (f[d]?).isSome = true → (f'[d]?).isSome = true := fun d hd _ => by
      obtain ⟨s, hs⟩ := sets_dst (d2 d hd)
      exact hv.sets _ hs
    rw [stepK_eq] at h ⊢
    rw [guardB_same fun j want oj d e1 e2 e3 => hsame d (List.mem_append_right _ (also_guard e1 e2 e3))]
    cases hg : guardB all f o with
    | none => rw [hg] at h; simp at h
    | some b =>
      rw [hg] at h
      cases b with
      | true =>
        rcases weakOf_spec (f := f) (o := o) with hw | ⟨i, y, hw, _⟩
        · have hsee : seesOf f o = tmpsOf o := by unfold seesOf; rw [hw]
          exact opR_same (fun t ht => hsame t (List.mem_append_left _ (hsee ▸ ht))) (fun t ht => hsame t (List.mem_append_right _ (also_assign ht))) (fun t ht => hsame t (List.mem_append_right _ (also_store ht))) (fun t ht => hsame t (List.mem_append_right _ (also_call ht))) hdst h
        · obtain ⟨y', hy'⟩ := hv.weak i (by simp only [hw, List.mem_singleton])
          exact opR_weak hw hy' hdst h
      | false => exact skipR_same hdst h
  · simp only at hi
    rcases weakOf_spec (f := f) (o := o) with hw | ⟨i', y, hw, hf⟩
    · rw [hw] at hi; simp at hi
    · rw [hw] at hi; simp only [List.mem_singleton] at hi; subst hi; exact ⟨y, hf⟩
theorem recK_spec {all : List Oper} {K : Frame → List St → Option α} {out : α} : ∀ (l : List Oper) (f : Frame) (acc : List St), recK E all l f acc K = some out →
    ∃ sts fN, K fN (acc.reverse ++ sts) = some out ∧ Runs sts f fN ∧ sts.map St.o = l ∧ ∀ st ∈ sts, Good E all st
  | [], f, acc, h => ⟨[], f, by simpa [recK] using h, rfl, rfl, by simp⟩
  | o :: l, f, acc, h => by
    simp only [recK] at h
    obtain ⟨rec, h1, h2⟩ := stepK_rec h
    split at h2
    · rename_i reads hr
      obtain ⟨g1, g2⟩ := good_of h1 hr
      obtain ⟨sts, fN, k1, k2, k3, k4⟩ := recK_spec l _ _ h2
      refine ⟨_ :: sts, fN, ?_, ⟨g2, k2⟩, by simp [k3], fun st hst => ?_⟩
      · simpa using k1
      · rcases List.mem_cons.1 hst with rfl | hst
        · exact g1
        · exact k4 st hst
    · simp at h2
end Go.Sx
namespace Go.Sx
variable {α β : Type} {w0 : World} {lent : Nat → Prop} {f : Frame} {a : Act} {w : World} {own : Own} {P : Program} {E : Env} {ops : Array Oper}
theorem maskOf_bit {acc : List Nat} : ∀ (es : List Edge) (j : Nat), Nat.testBit (maskOf acc es) j = true → ∃ e ∈ es, Region.binds .any e = true ∧ (e.on = j ∨ Nat.testBit (acc.getD e.on 0) j = true)
  | [], j, h => by simp [maskOf] at h
  | e :: r, j, h => by
    simp only [maskOf] at h
    split at h
    · rename_i hb
      have h' : Nat.testBit ((2 ^ e.on ||| acc.getD e.on 0) ||| maskOf acc r) j = true := h
      rw [Nat.testBit_or, Nat.testBit_or, Nat.testBit_two_pow] at h'
      simp only [Bool.or_eq_true, decide_eq_true_eq] at h'
      rcases h' with (h' | h') | h'
      · exact ⟨e, by simp, hb, .inl h'⟩
      · exact ⟨e, by simp, hb, .inr h'⟩
      · obtain ⟨e', h1, h2⟩ := maskOf_bit r j h'
        exact ⟨e', by simp [h1], h2⟩
    · obtain ⟨e', h1, h2⟩ := maskOf_bit r j h
      exact ⟨e', by simp [h1], h2⟩
theorem masks_ext : ∀ (l : List Oper) (acc : List Nat), ∃ r, masks l acc = acc ++ r
  | [], acc => ⟨[], by simp [masks]⟩
  | o :: l, acc => by
    obtain ⟨r, h⟩ := masks_ext l (acc ++ [maskOf acc o.after.toList])
    exact ⟨maskOf acc o.after.toList :: r, by simp only [masks, h]; simp⟩
theorem masks_get : ∀ (l : List Oper) (acc : List Nat) (i : Nat) (o : Oper), l[i]? = some o → (masks l acc).getD (acc.length + i) 0 = maskOf ((masks l acc).take (acc.length + i)) o.after.toList
  | [], _, i, o, h => by simp at h
  | o0 :: l, acc, i, o, h => by
    cases i with
    | zero =>
      simp at h; subst h
      obtain ⟨r, hr⟩ := masks_ext l (acc ++ [maskOf acc o0.after.toList])
      simp only [masks, hr, Nat.add_zero, List.append_assoc]
      rw [List.take_left' rfl]
      simp
    | succ i =>
      have := masks_get l (acc ++ [maskOf acc o0.after.toList]) i o (by simpa using h)
      simp only [List.length_append, List.length_cons, List.length_nil] at this
      simp only [masks]
      rw [show acc.length + (i + 1) = acc.length + (0 + 1) + i by omega]
      exact this
theorem edgesOk_spec : ∀ (l : List Oper) (k : Nat), edgesOk l k = true → ∀ (i : Nat) (o : Oper), l[i]? = some o → (∀ e ∈ o.after, Region.binds .any e = true → e.on < k + i) ∧ ∀ cs b, o.op ≠ .select cs b
  | [], _, _, i, o, h => by simp at h
  | o0 :: l, k, h, i, o, hi => by
    simp only [edgesOk, Bool.and_eq_true] at h
    obtain ⟨⟨h1, h2⟩, h3⟩ := h
    cases i with
    | zero =>
      simp at hi; subst hi
      refine ⟨fun e he hb => ?_, fun cs b e => by rw [e] at h2; simp at h2⟩
      have := List.all_eq_true.1 h1 e (by simpa using he)
      simp only [hb, Bool.not_true, Bool.false_or] at this
      have h9 := Nat.le_of_ble_eq_true this
      omega
    | succ i =>
      have := edgesOk_spec l (k + 1) h3 i o (by simpa using hi)
      rw [show k + (i + 1) = k + 1 + i by omega]
      exact this
structure Closed (ops : Array Oper) (listed : Array Bool) : Prop where
  size : listed.size = ops.size
  closed : ∀ (j : Nat) (oj : Oper), ops[j]? = some oj → listed.getD j false = true → ∀ e ∈ oj.after, Region.binds .any e = true → listed.getD e.on false = true
theorem anc_listed {listed : Array Bool} (hedge : edgesOk ops.toList 0 = true) (hc : Closed ops listed) : ∀ (i : Nat) (o : Oper), ops[i]? = some o → (∀ e ∈ o.after, Region.binds .any e = true → listed.getD e.on false = true) →
    ∀ j, Nat.testBit ((masks ops.toList []).getD i 0) j = true → listed.getD j false = true := by
  intro i
  induction i using Nat.strongRecOn with
  | _ i ih =>
    intro o ho hall j hj
    have ho' : ops.toList[i]? = some o := by simpa using ho
    have := masks_get ops.toList [] i o ho'
    simp only [List.length_nil, Nat.zero_add] at this
    rw [this] at hj
    obtain ⟨e, he, hb, h⟩ := maskOf_bit _ _ hj
    have he' : e ∈ o.after := by simpa using he
    have hl := hall e he' hb
    rcases h with h | h
    · exact h ▸ hl
    · have hlt : e.on < i := by have := (edgesOk_spec _ _ hedge i o ho').1 e he' hb; omega
      have hget : ((masks ops.toList []).take i).getD e.on 0 = (masks ops.toList []).getD e.on 0 := by
        simp only [List.getD_eq_getElem?_getD, List.getElem?_take, if_pos hlt]
      rw [hget] at h
      have hisz : i < ops.size := (Array.getElem?_eq_some_iff.1 ho).1
      have hoe : ops[e.on]? = some ops[e.on] := Array.getElem?_eq_getElem (by omega)
      exact ih e.on hlt _ hoe (hc.closed e.on _ hoe hl) j h
theorem rowOk_spec {ms : List Nat} {sts : List St} {i : Nat} {y : St} : ∀ (l : List St) (j0 : Nat), rowOk ops ms sts i y l j0 = true → ∀ (j : Nat) (x : St), l[j]? = some x → j0 + j < i →
    pairOk ms sts (j0 + j) i x y = true ∧ (quietB x.o = true → waits y.o (j0 + j) = true ∨ x.o.apart ops y.o = true)
  | [], _, _, j, x, h, _ => by simp at h
  | x0 :: l, j0, h, j, x, hj, hlt => by
    simp only [rowOk] at h
    split at h
    · simp only [Bool.and_eq_true] at h
      obtain ⟨⟨h1, h2⟩, h3⟩ := h
      cases j with
      | zero =>
        simp at hj; subst hj
        refine ⟨h1, fun hq => ?_⟩
        simp only [hq, Bool.not_true, Bool.false_or, Bool.or_eq_true] at h2
        exact h2
      | succ j =>
        have := rowOk_spec l (j0 + 1) h3 j x (by simpa using hj) (by omega)
        rw [show j0 + (j + 1) = j0 + 1 + j by omega]
        exact this
    · rename_i hb
      exfalso
      have : Nat.blt j0 i = true := by rw [Nat.blt_eq]; omega
      rw [this] at hb; simp at hb
theorem rowsOk_spec {ms : List Nat} {sts : List St} : ∀ (l : List St) (i0 : Nat), rowsOk ops ms sts l i0 = true → ∀ (i : Nat) (y : St), l[i]? = some y → rowOk ops ms sts (i0 + i) y sts 0 = true
  | [], _, _, i, y, h => by simp at h
  | y0 :: l, i0, h, i, y, hi => by
    simp only [rowsOk, Bool.and_eq_true] at h
    cases i with
    | zero => simp at hi; subst hi; exact h.1
    | succ i =>
      have := rowsOk_spec l (i0 + 1) h.2 i y (by simpa using hi)
      rw [show i0 + (i + 1) = i0 + 1 + i by omega]
      exact this
end Go.Sx
namespace Go.Sx
variable {α β : Type} {w0 : World} {lent : Lent} {f : Frame} {a : Act} {w : World} {own : Own} {P : Program} {E : Env} {ops : Array Oper}
structure RState (ops : Array Oper) (sts : List St) (L : List (Nat × St)) (listed : Array Bool) : Prop extends Closed ops listed where
  sorted : L.Pairwise (fun a b => a.1 < b.1)
  mem : ∀ p ∈ L, sts[p.1]? = some p.2
  un : ∀ k, k < ops.size → (listed.getD k true = false ↔ ∃ st, (k, st) ∈ L)
theorem getD_in' {listed : Array Bool} {i : Nat} (hi : i < listed.size) : listed.getD i false = listed.getD i true := by simp [hi]
theorem RState.remove {sts : List St} {L1 L2 : List (Nat × St)} {k : Nat} {st : St} {listed : Array Bool} (h : RState ops sts (L1 ++ (k, st) :: L2) listed) (hk : k ∈ Region.ready .any ops listed) :
    RState ops sts (L1 ++ L2) (listed.setIfInBounds k true) := by
  obtain ⟨hun, ok, hok, hall⟩ := mem_ready.1 hk
  have hsub : List.Sublist (L1 ++ L2) (L1 ++ (k, st) :: L2) := List.Sublist.append (List.Sublist.refl _) (List.sublist_cons_self _ _)
  have hks : k < ops.size := (Array.getElem?_eq_some_iff.1 hok).1
  refine ⟨⟨by simp [h.size], fun j oj hj hl e he hb => ?_⟩, h.sorted.sublist hsub, fun p hp => h.mem p (hsub.subset hp), fun k' hk' => ?_⟩
  · by_cases hkj : k = j
    · subst hkj
      have : oj = ok := Option.some.inj (hj.symm.trans hok)
      subst this
      exact getD_set_true (hall e he hb)
    · rw [getD_set_ne false hkj] at hl
      exact getD_set_true (h.closed j oj hj hl e he hb)
  · by_cases e : k = k'
    · subst e
      have h1 : (listed.setIfInBounds k true).getD k true = true := by simp [h.size, hks]
      rw [h1]
      simp only [Bool.true_eq_false, false_iff, not_exists]
      intro st' hst'
      have hs := h.sorted
      rw [List.pairwise_append] at hs
      obtain ⟨_, s2, s3⟩ := hs
      rw [List.pairwise_cons] at s2
      rcases List.mem_append.1 hst' with hm | hm
      · have := s3 _ hm (k, st) (by simp); simp at this
      · have := s2.1 _ hm; simp at this
    · rw [getD_set_ne true e, h.un k' hk']
      constructor
      · rintro ⟨st', hm⟩
        refine ⟨st', ?_⟩
        rcases List.mem_append.1 hm with hm | hm
        · exact List.mem_append_left _ hm
        · rcases List.mem_cons.1 hm with hm | hm
          · simp at hm; exact absurd hm.1.symm e
          · exact List.mem_append_right _ hm
      · rintro ⟨st', hm⟩; exact ⟨st', hsub.subset hm⟩
theorem quiet_spec {o : Oper} (h : quietB o = true) : o.guard = none ∧ ∃ x n, o.op = .extract x n := by
  unfold quietB at h
  split at h
  · rename_i e1 e2; exact ⟨e1, _, _, e2⟩
  · simp at h
theorem quiet_yields {o : Oper} (hq : quietB o = true) {next : Act → World → Prop} {Q : Exit → Act → World → Prop} (_hQ : ∀ c a w, ¬ Q (.panic c) a w) (h : o.wp P a w next Q) : ∃ v, Yields P ops o v a ∧ next (a.put o.dst v) w := by
  obtain ⟨hg, x, n, hop⟩ := quiet_spec hq
  have hw : Region.wanted o (yielded ops a.tmps) = true := by simp [Region.wanted, hg]
  have hrun : ∀ w, (execOp a.eval o).run P w = (do pure (.value (← Instr.extract (a.eval x) n)) : Sem Next).run P w := by
    intro w; unfold execOp; rw [hop]
  have pureOr : (∃ v, Instr.extract (a.eval x) n = pure v) ∨ (∃ m, Instr.extract (a.eval x) n = stuck m) := by
    unfold Instr.extract
    split
    · split
      · exact .inl ⟨_, rfl⟩
      · exact .inr ⟨_, rfl⟩
    · exact .inr ⟨_, rfl⟩
  rcases pureOr with ⟨v, hv⟩ | ⟨m, hm⟩
  · have hr : ∀ w, (execOp a.eval o).run P w = .ok (.value v) w := by
      intro w; rw [hrun, hv]; simp only [Sem.run_bind, Sem.run_pure, Result.andThen_ok]
    refine ⟨v, .inl ⟨hw, hr⟩, ?_⟩
    unfold Oper.wp at h
    rw [hr w] at h
    exact h
  · unfold Oper.wp at h
    rw [hrun, hm] at h
    simp [stuck, Oper.upon] at h
theorem region_any (hE : EnvAt P E w0 lent.mem) {sts : List St} (hdraw : drawOk ops sts = true) (hst : sts.map St.o = ops.toList) (hgood : ∀ st ∈ sts, Good E ops.toList st) (hfree : ∀ o ∈ ops.toList, FreeOp lent o) {g : Frame} {Q : Exit → Act → World → Prop} (hQ : ∀ c a w, ¬ Q (.panic c) a w)
    (hK : ∀ a w own, InvP w0 lent g a w own → Q .normal a w) : ∀ (n : Nat) (L : List (Nat × St)) (listed : Array Bool) (f : Frame) (a : Act) (w : World) (own : Own), L.length = n → RState ops sts L listed → Runs (L.map Prod.snd) f g → InvP w0 lent f a w own →
      wpAny P .any ops Q n listed a w := by
  simp only [drawOk, Bool.and_eq_true] at hdraw
  obtain ⟨hedge, hrows⟩ := hdraw
  have hop : ∀ (k : Nat) (st : St), sts[k]? = some st → ops[k]? = some st.o := by
    intro k st h
    have : (sts.map St.o)[k]? = some st.o := by simp [h]
    rw [hst] at this
    simpa using this
  have hsel : ∀ (j : Nat) (o : Oper) cs b, ops[j]? = some o → o.op ≠ .select cs b := fun j o cs b ho => (edgesOk_spec _ _ hedge j o (by simpa using ho)).2 cs b
  have hready_mem : ∀ L listed, RState ops sts L listed → ∀ i ∈ Region.ready .any ops listed, ∃ st, (i, st) ∈ L := by
    intro L listed hR i hi
    obtain ⟨hun, o, ho, _⟩ := mem_ready.1 hi
    exact (hR.un i (Array.getElem?_eq_some_iff.1 ho).1).1 hun
  intro n
  induction n with
  | zero =>
    intro L listed f a w own hn hR hrun hinv
    have hL : L = [] := List.length_eq_zero_iff.1 hn
    subst hL
    simp only [List.map_nil, Runs] at hrun
    subst hrun
    refine ⟨?_, hK a w own hinv⟩
    apply List.eq_nil_iff_forall_not_mem.2
    intro i hi
    obtain ⟨st, hm⟩ := hready_mem _ _ hR i hi
    simp at hm
  | succ n ih =>
    intro L listed f a w own hn hR hrun hinv
    match L, hn with
    | (k0, st0) :: L', hn =>
    have hs0 := hR.mem (k0, st0) (by simp)
    have ho0 := hop _ _ hs0
    have hk0s : k0 < ops.size := (Array.getElem?_eq_some_iff.1 ho0).1
    have hmin : ∀ p ∈ L', k0 < p.1 := (List.pairwise_cons.1 hR.sorted).1
    have hk0 : k0 ∈ Region.ready .any ops listed := by
      refine mem_ready.2 ⟨(hR.un k0 hk0s).2 ⟨st0, by simp⟩, _, ho0, fun e he hb => ?_⟩
      have hlt := (edgesOk_spec _ _ hedge k0 _ (by simpa using ho0)).1 e he hb
      have hes : e.on < ops.size := by omega
      rw [getD_in' (by rw [hR.size]; exact hes)]
      cases hl : listed.getD e.on true with
      | true => rfl
      | false =>
        obtain ⟨st, hm⟩ := (hR.un e.on hes).1 hl
        rcases List.mem_cons.1 hm with hm | hm
        · simp at hm; omega
        · have := hmin _ hm; simp at this; omega
    have hgood0 := hgood st0 (List.mem_of_getElem? hs0)
    by_cases hq : quietB st0.o = true
    · -- taken first
      simp only [List.map_cons, Runs] at hrun
      obtain ⟨hv, hrun⟩ := hrun
      have hstep := hgood0.again f hv
      rw [stepK_eq] at hstep
      have hgb : guardB ops.toList f st0.o = some true := by unfold guardB; rw [(quiet_spec hq).1]
      rw [hgb] at hstep
      have hwp : st0.o.wp P a w (fun a' w' => ∃ own', InvP w0 lent (st0.did.act f) a' w' own') Q := by
        refine opR_sound hE hinv (hfree _ (by have := Array.getElem?_eq_some_iff.1 ho0; rw [← this.2]; simp)) hstep fun a' w' own' rec hrec hinv' => ?_
        simp only [Option.some.injEq] at hrec
        subst hrec
        exact ⟨own', hinv'⟩
      obtain ⟨v, hy, own', hinv'⟩ := quiet_yields (ops := ops) hq hQ hwp
      refine wpAny_first ho0 hsel (fun c a w h => absurd h (hQ c _ w)) n listed a w (fun j oj hoj hne hun hno => ?_) hk0 hy ?_
      · obtain ⟨st, hm⟩ := (hR.un j (Array.getElem?_eq_some_iff.1 hoj).1).1 hun
        have hlt : k0 < j := by
          rcases List.mem_cons.1 hm with hm | hm
          · simp at hm; exact absurd hm.1 hne
          · exact hmin _ hm
        have hsj := hR.mem _ hm
        have hoj' := hop _ _ hsj
        have : oj = st.o := Option.some.inj (hoj.symm.trans hoj')
        subst this
        have hrow := rowsOk_spec _ _ hrows j st hsj
        rw [Nat.zero_add] at hrow
        rcases (rowOk_spec _ _ hrow k0 st0 hs0 (by omega)).2 hq with h | h
        · exfalso
          rw [Nat.zero_add] at h
          obtain ⟨e, he, hb⟩ := List.any_eq_true.1 h
          simp only [Bool.and_eq_true] at hb
          exact hno e (by simpa using he) hb.1 (Nat.eq_of_beq_eq_true hb.2)
        · exact h
      · exact ih L' _ _ _ _ own' (by simpa using hn) (RState.remove (L1 := []) hR hk0) hrun hinv'
    · refine ⟨fun h => by rw [h] at hk0; simp at hk0, fun i hi => ?_⟩
      obtain ⟨sti, hm⟩ := hready_mem _ _ hR i hi
      obtain ⟨L1, L2, hL⟩ := List.append_of_mem hm
      have hsi := hR.mem _ hm
      have hoi := hop _ _ hsi
      obtain ⟨_, oi, hoi2, hall⟩ := mem_ready.1 hi
      have : oi = sti.o := Option.some.inj (hoi2.symm.trans hoi)
      subst this
      have hanc := anc_listed hedge hR.toClosed i _ hoi hall
      have hgoodi := hgood sti (List.mem_of_getElem? hsi)
      have hrow := rowsOk_spec _ _ hrows i sti hsi
      rw [Nat.zero_add] at hrow
      have hsort := hR.sorted
      have hR' := hR
      rw [hL] at hsort hR' hrun
      have hbefore : ∀ p ∈ L1, p.1 < i := by
        intro p hp
        exact (List.pairwise_append.1 hsort).2.2 p hp (i, sti) (by simp)
      have hunl : ∀ p ∈ (k0, st0) :: L', listed.getD p.1 false = false := by
        intro p hp
        have hps := (Array.getElem?_eq_some_iff.1 (hop _ _ (hR.mem p hp))).1
        rw [getD_in' (by rw [hR.size]; exact hps)]
        exact (hR.un p.1 hps).2 ⟨p.2, hp⟩
      have hswap : ∀ x ∈ L1.map Prod.snd, Good E ops.toList x ∧ swapOk x sti = true := by
        intro x hx
        obtain ⟨p, hp, rfl⟩ := List.mem_map.1 hx
        have hpL : p ∈ (k0, st0) :: L' := by rw [hL]; exact List.mem_append_left _ hp
        have hsp := hR.mem p hpL
        refine ⟨hgood _ (List.mem_of_getElem? hsp), ?_⟩
        have hpair := (rowOk_spec _ _ hrow p.1 p.2 hsp (by have := hbefore p hp; omega)).1
        rw [Nat.zero_add] at hpair
        unfold pairOk at hpair
        simp only [Bool.or_eq_true] at hpair
        rcases hpair with (h1 | h1) | h1
        · exfalso
          have := hanc _ h1
          rw [hunl p hpL] at this; simp at this
        · exact h1
        · exfalso
          simp only [Bool.and_eq_true] at h1
          have hpk : k0 < p.1 := by
            rcases List.mem_cons.1 hpL with e | e
            · rw [e] at h1; exact absurd h1.1 hq
            · exact hmin _ e
          have h2 := List.all_eq_true.1 h1.2 k0 (List.mem_range.2 hpk)
          rw [hs0] at h2
          simp only [Bool.or_eq_true] at h2
          rcases h2 with h2 | h2
          · have := hanc _ h2
            rw [hunl (k0, st0) (by simp)] at this; simp at this
          · exact hq h2
      rw [List.map_append, List.map_cons] at hrun
      obtain ⟨hv, hrun'⟩ := bubble hgoodi _ _ f g hswap hrun
      refine stepK_sound hE hinv rfl hoi (hfree _ (by have := Array.getElem?_eq_some_iff.1 hoi; rw [← this.2]; simp)) (hgoodi.again f hv) fun a' w' own' rec hrec hinv' => ?_
      simp only [Option.some.injEq] at hrec
      subst hrec
      refine ih (L1 ++ L2) _ _ _ _ own' ?_ (RState.remove hR' hi) (by rw [List.map_append]; exact hrun') hinv'
      have := congrArg List.length hL
      simp only [List.length_append, List.length_cons] at this hn ⊢
      omega
end Go.Sx
namespace Go.Sx
variable {α β : Type} {w0 : World} {lent : Nat → Prop} {f : Frame} {a : Act} {w : World} {own : Own} {P : Program} {E : Env} {ops : Array Oper}
theorem Inv.useUp (h : Inv w0 lent f a w own) (ls : List Nat) : Inv w0 lent (Sx.useUp f ls) a w own := by
  refine ⟨h.defers, by rw [useUp_length]; exact h.size, h.fresh, fun i sl hi => ?_, h.grow, h.old, h.calm⟩
  rcases useUp_get ls hi with rfl | ⟨hf, hnl, hon⟩
  · trivial
  · have hk : ∀ r, Keeps own w own w r := fun r c hc => ⟨hc, rfl⟩
    refine (h.slots i sl hf).keep (fun r s hs => h.slots r s hs) (hk _) (hk _) fun r hr => ⟨fun sl' hsl' hroot => ⟨?_, rfl⟩, hk _⟩
    exact useUp_root ls hsl' hroot fun hc => by rw [hon r hc] at hr; simp at hr
theorem Inv.heap (h : Inv w0 lent f a w own) {w' : World} (hw : w'.heap = w.heap) (hc : Calm w w') : Inv w0 lent f a w' own := by
  refine ⟨h.defers, h.size, by rw [hw]; exact h.fresh, fun i sl hi => ?_, by rw [hw]; exact h.grow, by rw [hw]; exact h.old, h.calm.trans hc⟩
  have hk : ∀ r, Keeps own w own w' r := fun r c hc => ⟨⟨hc.1, by rw [hw]; exact hc.2⟩, by rw [hw]⟩
  exact (h.slots i sl hi).keep (fun r s hs => h.slots r s hs) (hk _) (hk _) fun r hr => ⟨fun sl' hsl' hroot => ⟨hsl', rfl⟩, hk _⟩
theorem Runs.length : ∀ (l : List St) (f g : Frame), Runs l f g → g.length = f.length
  | [], f, g, h => by rw [show f = g from h]
  | st :: l, f, g, h => (Runs.length l _ g h.2).trans (act_length _ _)
theorem idx_sorted : ∀ (l : List St) (n : Nat), ((l.zipIdx n).map fun p => (p.2, p.1)).Pairwise (fun a b => a.1 < b.1)
  | [], n => by simp
  | x :: l, n => by
    simp only [List.zipIdx_cons, List.map_cons, List.pairwise_cons]
    refine ⟨fun p hp => ?_, idx_sorted l (n + 1)⟩
    obtain ⟨q, hq, rfl⟩ := List.mem_map.1 hp
    have := List.le_snd_of_mem_zipIdx hq
    simp only at this ⊢
    omega
theorem InvP.useUp {lent : Lent} (h : InvP w0 lent f a w own) (ls : List Nat) : InvP w0 lent (Sx.useUp f ls) a w own := ⟨h.base.useUp ls, h.pin⟩
theorem InvP.heap {lent : Lent} (h : InvP w0 lent f a w own) {w' : World} (hw : w'.heap = w.heap) (hc : Calm w w') : InvP w0 lent f a w' own := ⟨h.base.heap hw hc, h.pin⟩
theorem drawOk_sound {lent : Lent} (hE : EnvAt P E w0 lent.mem) (hm : P.follows .mixedOrders = true) : DrawOk P E w0 lent := by
  intro α out id ops f a w own K Q hfree h hk hn
  unfold drawK at hk
  obtain ⟨sts, fN, k1, k2, k3, k4⟩ := recK_spec _ _ _ hk
  simp only [List.reverse_nil, List.nil_append] at k1
  split at k1
  · rename_i hdraw
    have hlen : fN.length = f.length := (Runs.length _ _ _ k2).trans (useUp_length _ _)
    have hsz : sts.length = ops.size := by
      have := congrArg List.length k3
      simpa using this
    have hinv := (h.useUp (ops.toList.filterMap localDst)).heap (w' := { w with drawn := w.drawn + 1 }) rfl ⟨rfl, rfl, fun _ => rfl⟩
    have hR : RState ops sts ((sts.zipIdx 0).map fun p => (p.2, p.1)) (Array.replicate ops.size false) := by
      refine ⟨⟨by simp, fun j oj _ hl => by simp only [Array.getD_eq_getD_getElem?, Array.getElem?_replicate] at hl; split at hl <;> simp at hl⟩, idx_sorted _ _, fun p hp => ?_, fun k hk => ?_⟩
      · obtain ⟨q, hq, rfl⟩ := List.mem_map.1 hp
        exact List.mem_zipIdx_iff_getElem?.1 hq
      · have : (Array.replicate ops.size false).getD k true = false := by simp [hk]
        rw [this]
        simp only [true_iff]
        have hlt : k < sts.length := by omega
        refine ⟨sts[k], List.mem_map.2 ⟨(sts[k], k), List.mem_zipIdx_iff_getElem?.2 (by simp), rfl⟩⟩
    have hany := region_any (Q := fun e a w => match e with | .normal => Q .normal a w | _ => False) hE hdraw k3 k4 hfree (fun c a w h => h) (fun a w own hi => hn fN a w own hlen k1 hi) ops.size _ _ _ a { w with drawn := w.drawn + 1 } own (by simp [hsz]) hR
      (by simpa [Function.comp_def] using k2) hinv
    have := wp_region_any (id := id) hm hany
    intro b k cs
    obtain ⟨e, a', w', q, r⟩ := this b k cs
    cases e with
    | normal => exact ⟨_, a', w', q, r⟩
    | _ => exact q.elim
  · simp at k1
theorem contract (hE : EnvOk P E) (hm : P.follows .mixedOrders = true) {g : Nat} {fn : Func} {c : Code} (hf : P.funcs[g]? = some fn) (hb : fn.body = some c) {sp : FnSpec} (hn : sp.args.length ≤ fn.ntmps)
    (h : ∀ xs r, sp.fn xs = some r → ∃ N ann, LoopsOk N E ann fn.ntmps (retOf E fn sp.res) (loopsOf c) ∧ fnK N E fn sp.args sp.res ann xs = some r) : ContractA P E.amb g sp :=
  contract_of hE (fun _ _ hE => drawOk_sound hE hm) hf hb hn h
theorem mutC (hE : EnvOk P E) (ha : E.amb = none) (hm : P.follows .mixedOrders = true) {g : Nat} {fn : Func} {c : Code} (hf : P.funcs[g]? = some fn) (hb : fn.body = some c) {ms : MutSpec} (hn : ms.rest.length + 1 ≤ fn.ntmps) (hpos : ms.pos ≤ ms.rest.length) (hnd : noDst ms.pos c = true)
    (h : ∀ y xs r, ms.fn y xs = some r → ∃ N ann, LoopsOk N E ann fn.ntmps (retM E fn ms) (loopsOf c) ∧ fnMut N E fn ms ann y xs = some r) : MutC P g ms :=
  mutC_of hE ha (fun _ _ hE => drawOk_sound hE hm) hf hb hn hpos hnd h
theorem curC (hE : EnvOk P E) (hm : P.follows .mixedOrders = true) {g : Nat} {fn : Func} {c : Code} (hf : P.funcs[g]? = some fn) (hb : fn.body = some c) {cs : CurSpec} (hn : cs.rest.length + 1 ≤ fn.ntmps) (hnd : noDst 0 c = true)
    (h : ∀ y xs r, cs.fn y xs = some r → ∃ N ann, LoopsOk N E ann fn.ntmps (retC E fn cs) (loopsOf c) ∧ fnCur N E fn cs ann y xs = some r) : CurC P E.amb g cs :=
  curC_of hE (fun _ _ hE => drawOk_sound hE hm) hf hb hn hnd h
end Go.Sx
namespace Go.Sx
variable {P : Program} {E : Env}
def cellIs : Value → Value → Bool
  | .int k n, .int j m => decide (k = j) && decide (n = m)
  | .bool a, .bool b => beqB a b
  | .slice none 0 0, .slice none 0 0 => true
  | _, _ => false
def cellsAre : List Value → List Value → Bool
  | [], [] => true
  | a :: l, b :: r => cellIs a b && cellsAre l r
  | _, _ => false
theorem cellIs_eq {a b : Value} (h : cellIs a b = true) : a = b := by
  unfold cellIs at h
  split at h
  · simp at h; rw [h.1, h.2]
  · rename_i x y; cases x <;> cases y <;> simp_all [beqB]
  · rfl
  · simp at h
theorem cellsAre_eq : ∀ {a b : List Value}, cellsAre a b = true → a = b
  | [], [], _ => rfl
  | a :: l, b :: r, h => by
    simp only [cellsAre, Bool.and_eq_true] at h
    rw [cellIs_eq h.1, cellsAre_eq h.2]
  | [], _ :: _, h => by simp [cellsAre] at h
  | _ :: _, [], h => by simp [cellsAre] at h
def tyB (P : Program) (E : Env) (T : Nat) (t : Ty) : Bool :=
  match P.info? T with
  | some i => Nat.beq i.size t.size && Nat.ble i.bytes 256 && (match i.zero with | some z => cellsAre z.cells.toList t.zeroCells | none => false) &&
    (match t, P.underlying T with
      | .num k, some (.int j) => decide (k = j)
      | .bool, some .bool => true
      | .slice e, some (.slice T') => optIs (E.tyOf T') e
      | .raw, some (.slice T') => optIs (E.tyOf T') (.num .u8)
      | .pair _ _, some (.struct _) => true
      | .pair _ _, some (.array _ _) => true
      | _, _ => false)
  | none => false
theorem optIs_eq {o : Option Ty} {t : Ty} (h : optIs o t = true) : o = some t := by
  unfold optIs at h
  split at h
  · rename_i t0
    simp only [Ty.is] at h
    split at h
    · rename_i hh _
      obtain ⟨e⟩ := hh
      rw [e]
    · simp at h
  · simp at h
theorem tyB_sound {T : Nat} {t : Ty} (h : tyB P E T t = true) : TyFact P E T t := by
  unfold tyB at h
  split at h
  · rename_i i hi
    simp only [Bool.and_eq_true] at h
    obtain ⟨⟨⟨h1, h2⟩, h3⟩, h4⟩ := h
    split at h3
    · rename_i z hz
      have hc := cellsAre_eq h3
      have hinfo : ∃ i z, P.info? T = some i ∧ i.size = t.size ∧ i.bytes ≤ 256 ∧ i.zero = some z ∧ z.cells.toList = t.zeroCells :=
        ⟨i, z, hi, Nat.eq_of_beq_eq_true h1, Nat.le_of_ble_eq_true h2, hz, hc⟩
      split at h4
      · rename_i k j hu
        simp at h4; subst h4
        exact ⟨hinfo, fun k e => by cases e; exact hu, by simp, by simp, by simp, by simp, by simp, by simp, by simp⟩
      · rename_i hu
        exact ⟨hinfo, by simp, fun _ => hu, by simp, by simp, by simp, by simp, by simp, by simp⟩
      · rename_i e T' hu
        exact ⟨hinfo, by simp, by simp, fun e' he => by cases he; exact ⟨T', hu, optIs_eq h4⟩, by simp, by simp, by simp, by simp, by simp⟩
      · rename_i T' hu
        exact ⟨hinfo, by simp, by simp, by simp, by simp, by simp, by simp, fun _ => ⟨T', hu, optIs_eq h4⟩, by simp⟩
      · rename_i fs hu
        exact ⟨hinfo, by simp, by simp, by simp, fun _ _ _ => .inl ⟨fs, hu⟩, by simp, by simp, by simp, by simp⟩
      · rename_i n e hu
        exact ⟨hinfo, by simp, by simp, by simp, fun _ _ _ => .inr ⟨n, e, hu⟩, by simp, by simp, by simp, by simp⟩
      · simp at h4
    · simp at h3
  · simp at h
def fieldB (E : Env) (fs : Array Field) (k off : Nat) (a : Ty) : Bool :=
  match fs[k]? with
  | some fd => Nat.beq fd.offset off && optIs (E.tyOf fd.type) a && (fd.name != "_")
  | none => false
def fieldsB (E : Env) (fs : Array Field) : Ty → Nat → Nat → Bool
  | .pair a (.pair b c), k, off => fieldB E fs k off a && fieldsB E fs (.pair b c) (k + 1) (off + a.size)
  | .pair a b, k, off => fieldB E fs k off a && fieldB E fs (k + 1) (off + a.size) b && Nat.beq fs.size (k + 2)
  | _, _, _ => false
theorem fieldB_spec {fs : Array Field} {k off : Nat} {a : Ty} (h : fieldB E fs k off a = true) : ∃ fd, fs[k]? = some fd ∧ fd.offset = off ∧ E.tyOf fd.type = some a ∧ fd.name ≠ "_" := by
  unfold fieldB at h
  split at h
  · rename_i fd hfd
    simp only [Bool.and_eq_true] at h
    exact ⟨fd, hfd, Nat.eq_of_beq_eq_true h.1.1, optIs_eq h.1.2, by simpa using h.2⟩
  · simp at h
theorem fieldsB_spec {fs : Array Field} : ∀ (t : Ty) (k off : Nat), fieldsB E fs t k off = true → FieldsOk P E fs t k off := by
  intro t
  induction t with
  | pair a b _ ih =>
    intro k off h
    cases b with
    | pair c d =>
      simp only [fieldsB, Bool.and_eq_true] at h
      obtain ⟨fd, h1, h2, h3, _⟩ := fieldB_spec h.1
      exact ⟨⟨fd, h1, h2, h3⟩, ih _ _ h.2⟩
    | _ =>
      simp only [fieldsB, Bool.and_eq_true] at h
      obtain ⟨fd, h1, h2, h3, _⟩ := fieldB_spec h.1.1
      obtain ⟨fd', h1', h2', h3', _⟩ := fieldB_spec h.1.2
      exact ⟨⟨fd, h1, h2, h3⟩, ⟨fd', h1', h2', h3'⟩, Nat.eq_of_beq_eq_true h.2⟩
  | _ => intro k off h; simp [fieldsB] at h
def elemsB (e : Ty) : Ty → Nat → Bool
  | .pair a (.pair b c), n + 1 => a.is e && elemsB e (.pair b c) n
  | .pair a b, 2 => a.is e && b.is e
  | _, _ => false
theorem is_eq {a b : Ty} (h : a.is b = true) : a = b := by
  have := optIs_eq (o := some a) (t := b) (by simpa [optIs] using h)
  simpa using this
theorem elemsB_spec {e : Ty} : ∀ (t : Ty) (n : Nat), elemsB e t n = true → ElemsOk e t n := by
  intro t
  induction t with
  | pair a b _ ih =>
    intro n h
    cases b with
    | pair c d =>
      cases n with
      | zero => simp [elemsB] at h
      | succ n =>
        simp only [elemsB, Bool.and_eq_true] at h
        exact ⟨is_eq h.1, ih n h.2⟩
    | _ =>
      match n, h with
      | 2, h =>
        simp only [elemsB, Bool.and_eq_true] at h
        exact ⟨is_eq h.1, is_eq h.2⟩
      | 0, h => simp [elemsB] at h
      | 1, h => simp [elemsB] at h
      | n + 3, h => simp [elemsB] at h
  | _ => intro n h; simp [elemsB] at h
def leafB : Ty → Bool
  | .num _ | .bool => true
  | _ => false
def flatRow : Ty → Bool
  | .pair a (.pair b c) => leafB a && flatRow (.pair b c)
  | .pair a b => leafB a && leafB b
  | _ => false
def hasSlice : Ty → Bool
  | .slice _ => true
  | .raw => true
  | .pair a b => hasSlice a || hasSlice b
  | _ => false
theorem eqb_slice : ∀ (t : Ty) (x y : t.den), hasSlice t = true → eqb t x y = none := by
  intro t
  induction t with
  | slice _ => intro x y _; rfl
  | raw => intro x y _; rfl
  | pair a b iha ihb =>
    intro x y h
    simp only [hasSlice, Bool.or_eq_true] at h
    simp only [eqb]
    rcases h with h | h
    · rw [iha _ _ h]
    · rw [ihb _ _ h]; cases eqb a x.1 y.1 <;> rfl
  | _ => intro x y h; simp [hasSlice] at h
theorem leaf_eq {w : World} {T : Nat} {a : Ty} (hl : leafB a = true) (hty : TyFact P E T a) {xs ys : Array Value} {off : Nat} {x y : a.den} {S S' : Nat → Prop} (hx : Rep false w a ((xs.toList.drop off).take a.size) x S)
    (hy : Rep false w a ((ys.toList.drop off).take a.size) y S') {r : Bool} (hr : eqb a x y = some r) :
    ∃ p q, (part T xs off).run P w = .ok p w ∧ (part T ys off).run P w = .ok q w ∧ (Op.equalIn 9999 T p q).run P w = .ok r w := by
  have hagg := run_isAgg hty w
  have cell : ∀ (zs : Array Value) (v : Value), (zs.toList.drop off).take 1 = [v] → zs[off]? = some v := by
    intro zs v h
    have : ((zs.toList.drop off).take 1)[0]? = some v := by rw [h]; rfl
    simpa using this
  cases a with
  | num k =>
    simp only [Rep] at hx hy
    have h1 := cell xs _ hx
    have h2 := cell ys _ hy
    refine ⟨_, _, by simp only [part, Sem.run_bind, hagg, Result.andThen_ok, h1]; rfl, by simp only [part, Sem.run_bind, hagg, Result.andThen_ok, h2]; rfl, ?_⟩
    rw [run_equalIn_int w 9998 T k k x y (hty.num k rfl)]
    simp only [eqb, Option.some.injEq, intEq] at hr
    subst hr
    rfl
  | bool =>
    simp only [Rep] at hx hy
    have h1 := cell xs _ hx
    have h2 := cell ys _ hy
    refine ⟨_, _, by simp only [part, Sem.run_bind, hagg, Result.andThen_ok, h1]; rfl, by simp only [part, Sem.run_bind, hagg, Result.andThen_ok, h2]; rfl, ?_⟩
    rw [run_equalIn_bool' w 9998 T x y (hty.bool rfl)]
    simp only [eqb, Option.some.injEq] at hr
    subst hr
    cases x <;> cases y <;> rfl
  | _ => simp [leafB] at hl
end Go.Sx
namespace Go.Sx
variable {P : Program} {E : Env}
theorem eqFields_row {w : World} (hty : ∀ T t, E.tyOf T = some t → TyFact P E T t) {fs : Array Field} {xs ys : Array Value} : ∀ (t : Ty) (k off : Nat), flatRow t = true → fieldsB E fs t k off = true → ∀ (x y : t.den) (r : Bool) (S S' : Nat → Prop),
    Rep false w t ((xs.toList.drop off).take t.size) x S → Rep false w t ((ys.toList.drop off).take t.size) y S' → eqb t x y = some r → (Op.eqFields 9999 xs ys (fs.toList.drop k)).run P w = .ok r w := by
  have step : ∀ (k off : Nat) (a : Ty) (x y : a.den) (r q : Bool) (S S' : Nat → Prop), leafB a = true → fieldB E fs k off a = true → Rep false w a ((xs.toList.drop off).take a.size) x S → Rep false w a ((ys.toList.drop off).take a.size) y S' → eqb a x y = some r →
      (Op.eqFields 9999 xs ys (fs.toList.drop (k + 1))).run P w = .ok q w → (Op.eqFields 9999 xs ys (fs.toList.drop k)).run P w = .ok (r && q) w := by
    intro k off a x y r q S S' hl hf hx hy hr hq
    obtain ⟨fd, h1, h2, h3, h4⟩ := fieldB_spec hf
    have h1' : fs.toList[k]? = some fd := by simpa using h1
    have hd : fs.toList.drop k = fd :: fs.toList.drop (k + 1) := by
      obtain ⟨hlt, e⟩ := List.getElem?_eq_some_iff.1 h1'
      rw [List.drop_eq_getElem_cons hlt, e]
    obtain ⟨p, q', e1, e2, e3⟩ := leaf_eq (w := w) hl (hty _ _ h3) hx hy hr
    rw [hd]
    simp only [Op.eqFields]
    rw [if_pos h4, h2]
    simp only [Sem.run_bind, e1, e2, e3, Result.andThen_ok]
    cases r with
    | true => simpa using hq
    | false => simp
  intro t
  induction t with
  | pair a b _ ih =>
    intro k off hrow hf x y r S S' hx hy hr
    have split : ∀ (zs : Array Value) (z : (Ty.pair a b).den) (S : Nat → Prop), Rep false w (.pair a b) ((zs.toList.drop off).take (Ty.pair a b).size) z S →
        (∃ S1, Rep false w a ((zs.toList.drop off).take a.size) z.1 S1) ∧ ∃ S2, Rep false w b ((zs.toList.drop (off + a.size)).take b.size) z.2 S2 := by
      intro zs z S h
      obtain ⟨c1, c2, S1, S2, hc, h1, h2, _⟩ := h
      have e1 : c1 = (zs.toList.drop off).take a.size := by
        have := congrArg (List.take a.size) hc
        rw [List.take_take, List.take_left' h1.len] at this
        rw [← this]; congr 1; simp [Ty.size]
      have e2 : c2 = (zs.toList.drop (off + a.size)).take b.size := by
        have := congrArg (List.drop a.size) hc
        rw [List.drop_take, List.drop_left' h1.len, List.drop_drop] at this
        rw [← this]; congr 1; simp [Ty.size]
      exact ⟨⟨S1, e1 ▸ h1⟩, ⟨S2, e2 ▸ h2⟩⟩
    obtain ⟨⟨S1, hx1⟩, ⟨S2, hx2⟩⟩ := split xs x S hx
    obtain ⟨⟨S3, hy1⟩, ⟨S4, hy2⟩⟩ := split ys y S' hy
    simp only [eqb] at hr
    split at hr
    · rename_i p q hp hq
      simp at hr; subst hr
      have last : leafB b = true → fieldB E fs (k + 1) (off + a.size) b = true → Nat.beq fs.size (k + 2) = true → (Op.eqFields 9999 xs ys (fs.toList.drop (k + 1))).run P w = .ok q w := by
        intro hl hfb hsz
        have hsz := Nat.eq_of_beq_eq_true hsz
        have := step (k + 1) (off + a.size) b x.2 y.2 q true _ _ hl hfb hx2 hy2 hq (by rw [List.drop_eq_nil_of_le (by simp; omega)]; simp [Op.eqFields])
        simpa using this
      cases b with
      | pair c d =>
        simp only [flatRow, Bool.and_eq_true] at hrow
        simp only [fieldsB, Bool.and_eq_true] at hf
        exact step k off a x.1 y.1 p q _ _ hrow.1 hf.1 hx1 hy1 hp (ih (k + 1) (off + a.size) hrow.2 hf.2 x.2 y.2 q _ _ hx2 hy2 hq)
      | _ =>
        simp only [flatRow, Bool.and_eq_true] at hrow
        simp only [fieldsB, Bool.and_eq_true] at hf
        exact step k off a x.1 y.1 p q _ _ hrow.1 hf.1.1 hx1 hy1 hp (last hrow.2 hf.1.2 hf.2)
    · simp at hr
  | _ => intro k off hrow; simp [flatRow] at hrow
def rowB (P : Program) (E : Env) (T : Nat) (t : Ty) : Bool :=
  tyB P E T t && (match t with
    | .pair a b => match E.isArr T with
      | true => (match P.underlying T with
        | some (.array n T') => (match E.tyOf T' with
          | some e => elemsB e (.pair a b) n
          | none => false)
        | _ => false)
      | false => (match P.underlying T with
        | some (.struct fs) => fieldsB E fs (.pair a b) 0 0 && !P.stoodInHeld T && !P.eqGuardType P.depth T && (flatRow (.pair a b) || hasSlice (.pair a b))
        | _ => false)
    | _ => true)
def tableB (P : Program) (E : Env) : List (Nat × Ty) → Bool
  | [] => true
  | (T, t) :: r => rowB P E T t && tableB P E r
theorem tableB_look : ∀ {l : List (Nat × Ty)}, tableB P E l = true → ∀ T t, look l T = some t → rowB P E T t = true
  | [], _, T, t, h => by simp [look] at h
  | (T0, t0) :: r, hb, T, t, h => by
    simp only [tableB, Bool.and_eq_true] at hb
    simp only [look] at h
    split at h
    · rename_i e
      simp at h; subst h
      rw [← Nat.eq_of_beq_eq_true e]; exact hb.1
    · exact tableB_look hb.2 T t h
theorem envOk (hb : tableB P E E.ty = true) (hs : ∀ g sp, E.specOf g = some sp → ContractA P E.amb g sp ∧ There P g) (hm : ∀ g ms, E.mutOf g = some ms → MutG P g ms ∧ There P g) (hcu : ∀ g cs, E.curOf g = some cs → CurC P E.amb g cs ∧ There P g) : EnvOk P E := by
  have hrow : ∀ T t, E.tyOf T = some t → rowB P E T t = true := fun T t h => tableB_look hb T t h
  have hty : ∀ T t, E.tyOf T = some t → TyFact P E T t := by
    intro T t h
    have := hrow T t h
    simp only [rowB, Bool.and_eq_true] at this
    exact tyB_sound this.1
  have hstr : ∀ T a b, E.tyOf T = some (.pair a b) → E.isArr T = false → ∃ fs, P.underlying T = some (.struct fs) ∧ fieldsB E fs (.pair a b) 0 0 = true ∧ P.stoodInHeld T = false ∧ P.eqGuardType P.depth T = false ∧ (flatRow (.pair a b) || hasSlice (.pair a b)) = true := by
    intro T a b h ha
    have := hrow T _ h
    simp only [rowB, ha, Bool.and_eq_true] at this
    obtain ⟨_, this⟩ := this
    split at this
    · rename_i fs hu
      simp only [Bool.and_eq_true, Bool.not_eq_true'] at this
      exact ⟨fs, hu, this.1.1.1, this.1.1.2, this.1.2, this.2⟩
    · simp at this
  refine ⟨hty, fun T a b h ha => ?_, fun T a b h ha => ?_, hs, hcu, hm, fun T a b h ha x y r c1 c2 w hr hx hy op v hv X Y => ?_⟩
  · obtain ⟨fs, h1, h2, _⟩ := hstr T a b h ha
    exact ⟨fs, h1, fieldsB_spec _ _ _ h2⟩
  · have := hrow T _ h
    simp only [rowB, ha, Bool.and_eq_true] at this
    obtain ⟨_, this⟩ := this
    split at this
    · rename_i n T' hu
      split at this
      · rename_i e he
        exact ⟨n, T', e, hu, he, elemsB_spec _ _ this⟩
      · simp at this
    · simp at this
  · obtain ⟨fs, h1, h2, h3, h4, h5⟩ := hstr T a b h ha
    simp only [Bool.or_eq_true] at h5
    rcases h5 with h5 | h5
    · have hfo : P.fieldsOf T = fs := by simp [Program.fieldsOf, h1]
      have hu : P.underlying T = some (.struct (P.fieldsOf T)) := by rw [hfo]; exact h1
      have e1 : (c1.toArray.toList.drop 0).take (Ty.pair a b).size = c1 := by simp only [List.drop_zero]; exact List.take_of_length_le (by rw [hx.len]; exact Nat.le_refl _)
      have e2 : (c2.toArray.toList.drop 0).take (Ty.pair a b).size = c2 := by simp only [List.drop_zero]; exact List.take_of_length_le (by rw [hy.len]; exact Nat.le_refl _)
      have heq := eqFields_row (w := w) hty (fs := fs) (xs := c1.toArray) (ys := c2.toArray) _ 0 0 h5 h2 x y r _ _ (e1.symm ▸ hx) (e2.symm ▸ hy) hr
      rw [List.drop_zero] at heq
      have hin : (Op.equalIn 10000 T (.agg c1.toArray) (.agg c2.toArray)).run P w = .ok r w := by
        rw [run_equalIn_struct w 9999 T _ _ hu h3, hfo]; exact heq
      simp only [Sem.run_bind, run_eqGuard_agg w _ T X Y _ _ h4, Result.andThen_ok]
      rcases hv with ⟨rfl, rfl⟩ | ⟨rfl, rfl⟩
      · rw [run_eql_struct, hin]; rfl
      · rw [run_neq_struct, hin]; rfl
    · rw [eqb_slice _ _ _ h5] at hr; simp at hr
end Go.Sx
namespace Go.Sx
variable {P : Program} {E : Env} {w : World} {H : Type} {enc : TypeId × Value → H} {base : Nat} {spare : Nat → Bool} {held : Bool}
def Ty.ok : (t : Ty) → t.den → Prop
  | .num k, n => k.min ≤ (show Int from n) ∧ (show Int from n) ≤ k.max
  | .bool, _ => True
  | .fn _, _ => True
  | .raw, _ => True
  | .cur, _ => True
  | .pair a b, x => a.ok x.1 ∧ b.ok x.2
  | .tup a b, x => a.ok x.1 ∧ b.ok x.2
  | .slice t, xs => List.length (α := t.den) xs ≤ 9223372036854775807 ∧ ∀ i y, lget (α := t.den) xs i = some y → t.ok y
theorem TyFact.cells {T : Nat} {t : Ty} (h : TyFact P E T t) : P.cellsOf T = t.size := by
  obtain ⟨i, z, hi, hs, _⟩ := h.info
  simp [Program.cellsOf, hi, hs]
def Opens (P : Program) (E : Env) (w : World) (enc : TypeId × Value → H) (base : Nat) (spare : Nat → Bool) (held : Bool) (t : Ty) : Prop :=
  ∀ (T : TypeId) (fuel : Nat) (cs : List Value) (d : DataW H × List MemPlace), E.tyOf T = some t → DataW.trod enc P w base spare held fuel T cs = some d →
    ∃ x : t.den, t.ok x ∧ Rep false w t cs x (fun c => c < w.heap.size)
theorem list_of {β : Type} : ∀ (n : Nat) {Q : Nat → β → Prop}, (∀ i, i < n → ∃ x, Q i x) → ∃ xs : List β, xs.length = n ∧ ∀ i x, xs[i]? = some x → Q i x
  | 0, _, _ => ⟨[], rfl, by simp⟩
  | n + 1, Q, h => by
    obtain ⟨xs, h1, h2⟩ := list_of n (Q := Q) fun i hi => h i (by omega)
    obtain ⟨x, hx⟩ := h n (by omega)
    refine ⟨xs ++ [x], by simp [h1], fun i y hy => ?_⟩
    rw [List.getElem?_append] at hy
    split at hy
    · exact h2 i y hy
    · rename_i hlt
      have hi : i = n := by
        have := (List.getElem?_eq_some_iff.1 hy).1
        simp at this; omega
      subst hi
      simp [h1] at hy; subst hy; exact hx
theorem cell_row {a : Addr} {v : Value} (h : w.cell? a = some v) : ∃ L El fz, w.heap[a.block]? = some (.cells L El fz) ∧ a = ⟨a.block, a.off, none⟩ ∧ L[a.off]? = some v := by
  unfold World.cell? at h
  split at h
  · rename_i L El fz hh
    split at h
    · simp at h
    · rename_i hs
      refine ⟨L, El, fz, hh, ?_, h⟩
      obtain ⟨b, o, s⟩ := a
      cases s with
      | none => rfl
      | some _ => simp at hs
  · simp at h
theorem opens_slice (hE : EnvOk P E) {e : Ty} (ih : Opens P E w enc base spare held e) : Opens P E w enc base spare held (.slice e) := by
  intro T fuel cs d hT h
  obtain ⟨T', hu, hT'⟩ := (hE.ty _ _ hT).slice e rfl
  have hc := (hE.ty _ _ hT').cells
  have hpos := e.size_pos
  rcases DataW.trod_slice hu h with ⟨rfl, rfl⟩ | ⟨a, len, cap, elems, rest, n, _, rfl, rfl, hb, hle, hm, hlen, hel, _⟩
  · exact ⟨([] : List e.den), ⟨by simp, by intro i y h; simp [lget] at h⟩, none, 0, rfl, Nat.le_refl _, .inl rfl⟩
  · have each : ∀ i, i < len → ∃ x : e.den, e.ok x ∧ ∃ cs', w.cells? base (a.add (i * e.size)) e.size = some cs' ∧ Rep false w e cs' x (fun c => c < w.heap.size) := by
      intro i hi
      have h1 := hel i hi
      rw [hc] at h1
      have : ∃ y, elems[i]? = some y := ⟨_, List.getElem?_eq_getElem (by omega)⟩
      obtain ⟨y, hy⟩ := this
      rw [hy, Option.bind_eq_some_iff] at h1
      obtain ⟨cs', h2, h3⟩ := h1
      obtain ⟨x, hx, hr⟩ := ih T' n cs' y hT' h3
      exact ⟨x, hx, cs', h2, hr⟩
    obtain ⟨xs, hxl, hxs⟩ := list_of len each
    have hml : List.length xs ≤ 9223372036854775807 := by
      have : maxLen = 9223372036854775807 := rfl
      rw [hxl]; omega
    refine ⟨xs, ⟨hml, fun i y hy => (hxs i y hy).1⟩, some a, cap, by rw [hxl], by rw [hxl]; exact hle, ?_⟩
    simp only [cond_false]
    by_cases h0 : len = 0
    · left; rw [hxl]; exact h0
    · right
      have first : ∃ v, w.cell? a = some v := by
        obtain ⟨x, _, cs', h2, hr⟩ := each 0 (by omega)
        obtain ⟨_, hl, hg⟩ := World.cells?_some h2
        have := hg 0 hpos
        have hadd : (a.add (0 * e.size)).add 0 = a := by simp [Addr.add]
        rw [hadd] at this
        exact ⟨_, this.trans (List.getElem?_eq_getElem (by omega))⟩
      obtain ⟨v, hv⟩ := first
      obtain ⟨L, El, fz, hh, ha, _⟩ := cell_row hv
      have row : ∀ i, i < len → ∀ cs', w.cells? base (a.add (i * e.size)) e.size = some cs' → seg L (a.off + i * e.size) e.size = cs' ∧ a.off + i * e.size + e.size ≤ L.size := by
        intro i hi cs' h2
        obtain ⟨_, hl, hg⟩ := World.cells?_some h2
        have hgj : ∀ j, j < e.size → L[a.off + i * e.size + j]? = cs'[j]? := by
          intro j hj
          have := hg j hj
          rw [ha, add_block, add_block] at this
          simp only [World.cell?, hh] at this
          simpa using this
        refine ⟨?_, ?_⟩
        · apply List.ext_getElem?; intro j
          rw [seg_get]
          by_cases hj : j < e.size
          · rw [if_pos hj]; simpa using hgj j hj
          · rw [if_neg hj, List.getElem?_eq_none (by omega)]
        · have := hgj (e.size - 1) (by omega)
          rw [List.getElem?_eq_getElem (by omega : e.size - 1 < cs'.length)] at this
          have := (Array.getElem?_eq_some_iff.1 this).1
          omega
      refine ⟨a.block, a.off, L, El, fz, by rw [← ha], hh, heap_lt hh, by simp, ?_, fun _ c => c < w.heap.size, fun i y hy => ?_, fun i c h => ⟨h, by simp⟩, by simp⟩
      · rw [hxl]
        obtain ⟨x, _, cs', h2, _⟩ := each (len - 1) (by omega)
        have := (row (len - 1) (by omega) cs' h2).2
        have e1 : len * e.size = (len - 1) * e.size + e.size := by
          conv => lhs; rw [show len = (len - 1) + 1 by omega, Nat.add_mul, Nat.one_mul]
        omega
      · obtain ⟨_, cs', h2, hr⟩ := hxs i y hy
        have hi : i < len := by rw [← hxl]; exact (List.getElem?_eq_some_iff.1 hy).1
        rw [(row i hi cs' h2).1]
        exact hr
theorem take_drop_split {cs : List Value} {off n m : Nat} : (cs.drop off).take (n + m) = (cs.drop off).take n ++ (cs.drop (off + n)).take m := by
  rw [List.take_add, List.drop_drop]
theorem opens_all (hE : EnvOk P E) (hA : E.arr = []) : ∀ t : Ty, Opens P E w enc base spare held t ∧
    ∀ (fs : Array Field) (k off n : Nat) (cs : List Value) (xs : List (DataW H × List MemPlace)), FieldsOk P E fs t k off → xs.length = fs.size →
      (∀ (i : Nat) (f : Field), fs[i]? = some f → DataW.trod enc P w base spare held n f.type ((cs.drop f.offset).take (P.cellsOf f.type)) = xs[i]?) →
      ∃ x : t.den, t.ok x ∧ Rep false w t ((cs.drop off).take t.size) x (fun c => c < w.heap.size) := by
  intro t
  induction t with
  | num k =>
    refine ⟨fun T fuel cs d hT h => ?_, fun fs k off n cs xs hf => hf.elim⟩
    obtain ⟨m, rfl, _, hw⟩ := DataW.trod_int ((hE.ty _ _ hT).num k rfl) h
    simp only [Lit.wf, Bool.and_eq_true, decide_eq_true_eq] at hw
    exact ⟨m, hw, rfl⟩
  | bool =>
    refine ⟨fun T fuel cs d hT h => ?_, fun fs k off n cs xs hf => hf.elim⟩
    obtain ⟨b, rfl, _⟩ := DataW.trod_bool ((hE.ty _ _ hT).bool rfl) h
    exact ⟨b, trivial, rfl⟩
  | slice e ih => exact ⟨opens_slice hE ih.1, fun fs k off n cs xs hf => hf.elim⟩
  | tup a b => exact ⟨fun T fuel cs d hT h => absurd rfl ((hE.ty _ _ hT).tup a b), fun fs k off n cs xs hf => hf.elim⟩
  | fn g => exact ⟨fun T fuel cs d hT h => absurd rfl ((hE.ty _ _ hT).nofn g), fun fs k off n cs xs hf => hf.elim⟩
  | cur => exact ⟨fun T fuel cs d hT h => absurd rfl (hE.ty _ _ hT).nocur, fun fs k off n cs xs hf => hf.elim⟩
  | raw =>
    refine ⟨fun T fuel cs d hT h => ?_, fun fs k off n cs xs hf => hf.elim⟩
    obtain ⟨T', hu, _⟩ := (hE.ty _ _ hT).raw rfl
    rcases DataW.trod_slice hu h with ⟨rfl, rfl⟩ | ⟨a, len, cap, elems, rest, n, _, rfl, rfl, _⟩
    · exact ⟨(.slice none 0 0 : Value), trivial, rfl, rfl⟩
    · exact ⟨(.slice (some a) len cap : Value), trivial, rfl, rfl⟩
  | pair a b iha ihb =>
    have rows : ∀ (fs : Array Field) (k off n : Nat) (cs : List Value) (xs : List (DataW H × List MemPlace)), FieldsOk P E fs (.pair a b) k off → xs.length = fs.size →
      (∀ (i : Nat) (f : Field), fs[i]? = some f → DataW.trod enc P w base spare held n f.type ((cs.drop f.offset).take (P.cellsOf f.type)) = xs[i]?) →
      ∃ x : (Ty.pair a b).den, (Ty.pair a b).ok x ∧ Rep false w (.pair a b) ((cs.drop off).take (Ty.pair a b).size) x (fun c => c < w.heap.size) := by
      intro fs k off n cs xs hf hxl hx
      have one : ∀ (c : Ty) (j o : Nat), Opens P E w enc base spare held c → (∃ fd, fs[j]? = some fd ∧ fd.offset = o ∧ E.tyOf fd.type = some c) → ∃ x : c.den, c.ok x ∧ Rep false w c ((cs.drop o).take c.size) x (fun c => c < w.heap.size) := by
        rintro c j o hop ⟨fd, h1, h2, h3⟩
        have h4 := hx j fd h1
        rw [(hE.ty _ _ h3).cells, h2] at h4
        have hlt : j < xs.length := by rw [hxl]; exact (Array.getElem?_eq_some_iff.1 h1).1
        rw [List.getElem?_eq_getElem hlt] at h4
        exact hop _ _ _ _ h3 h4
      have join : (∃ x : a.den, a.ok x ∧ Rep false w a ((cs.drop off).take a.size) x (fun c => c < w.heap.size)) → (∃ y : b.den, b.ok y ∧ Rep false w b ((cs.drop (off + a.size)).take b.size) y (fun c => c < w.heap.size)) →
          ∃ x : (Ty.pair a b).den, (Ty.pair a b).ok x ∧ Rep false w (.pair a b) ((cs.drop off).take (Ty.pair a b).size) x (fun c => c < w.heap.size) := by
        rintro ⟨x, ox, rx⟩ ⟨y, oy, ry⟩
        exact ⟨(x, y), ⟨ox, oy⟩, _, _, _, _, take_drop_split, rx, ry, fun _ h => h, fun _ h => h, by simp⟩
      cases b with
      | pair c d => exact join (one a k off iha.1 hf.1) (ihb.2 fs (k + 1) (off + a.size) n cs xs hf.2 hxl hx)
      | _ => exact join (one a k off iha.1 hf.1) (one _ (k + 1) (off + a.size) ihb.1 hf.2.1)
    refine ⟨fun T fuel cs d hT h => ?_, rows⟩
    have harr : E.isArr T = false := by simp [Env.isArr, hA]
    obtain ⟨fs, hu, hfo⟩ := hE.str _ _ _ hT harr
    obtain ⟨xs, n, _, _, hl, hxl, hx⟩ := DataW.trod_struct hu h
    obtain ⟨x, ox, rx⟩ := rows fs 0 0 n cs xs hfo hxl hx
    rw [List.drop_zero, List.take_of_length_le (by rw [hl, (hE.ty _ _ hT).cells]; exact Nat.le_refl _)] at rx
    exact ⟨x, ox, rx⟩
end Go.Sx
namespace Go.Sx
variable {α : Type}
def wr (x : Int) : Int := IntKind.i64.wrap x
theorem wr_id {x : Int} (h1 : -9223372036854775808 ≤ x) (h2 : x ≤ 9223372036854775807) : wr x = x := by
  simp only [wr, IntKind.wrap, IntKind.bits, IntKind.signed]
  simp
  split <;> omega
theorem LoopsOk.nil {N : Nat} {E : Env} {ann : List (Nat × Loop α)} {n : Nat} {ret : Frame → Option α} : LoopsOk N E ann n ret [] := fun p hp => by simp at hp
theorem LoopsOk.cons {N : Nat} {E : Env} {ann : List (Nat × Loop α)} {n : Nat} {ret : Frame → Option α} {id : Nat} {c : Code} {r : List (Nat × Code)} {L : Loop α} (hl : look ann id = some L)
    (h : ∀ (s : ShDen L.live) (kc ke : ShDen L.live → Option α) (env : Nat → Frame → Option α), runK N E ann n ret c (encS n L.live s) (exitK id (fun f => decK f L.live ke) env) (fun f => decK f L.live kc) = L.body s kc ke)
    (hr : LoopsOk N E ann n ret r) : LoopsOk N E ann n ret ((id, c) :: r) := by
  intro p hp L' hL'
  rcases List.mem_cons.1 hp with rfl | hp
  · rw [hl] at hL'; simp only [Option.some.injEq] at hL'; subst hL'; exact h
  · exact hr p hp L' hL'
theorem LoopsOk.of {N : Nat} {E : Env} {ann : List (Nat × Loop α)} {n : Nat} {ret : Frame → Option α} {c : Code} {l : List (Nat × Code)} (h : loopsOf c = l) (hl : LoopsOk N E ann n ret l) : LoopsOk N E ann n ret (loopsOf c) := h ▸ hl
def lb (fn : Func) (i : Nat) : Code := ((loopsOf (fn.body.getD .skip)).getD i (0, .skip)).2
def SpecsOk (P : Program) (A : Option (Nat × Obj)) : List (Nat × FnSpec) → Prop
  | [] => True
  | (g, sp) :: r => (ContractA P A g sp ∧ There P g) ∧ SpecsOk P A r
theorem specsOk_look {P : Program} {A : Option (Nat × Obj)} : ∀ {l : List (Nat × FnSpec)}, SpecsOk P A l → ∀ g sp, look l g = some sp → ContractA P A g sp ∧ There P g
  | [], _, g, sp, h => by simp [look] at h
  | (k, x) :: r, hl, g, sp, h => by
    simp only [look] at h
    split at h
    · rename_i he
      simp only [Option.some.injEq] at h; subst h
      rw [← Nat.eq_of_beq_eq_true he]; exact hl.1
    · exact specsOk_look hl.2 g sp h
def MutsOk (P : Program) : List (Nat × MutSpec) → Prop
  | [] => True
  | (g, ms) :: r => (MutG P g ms ∧ There P g) ∧ MutsOk P r
theorem mutsOk_look {P : Program} : ∀ {l : List (Nat × MutSpec)}, MutsOk P l → ∀ g ms, look l g = some ms → MutG P g ms ∧ There P g
  | [], _, g, ms, h => by simp [look] at h
  | (k, x) :: r, hl, g, ms, h => by
    simp only [look] at h
    split at h
    · rename_i he
      simp only [Option.some.injEq] at h; subst h
      rw [← Nat.eq_of_beq_eq_true he]; exact hl.1
    · exact mutsOk_look hl.2 g ms h
def CursOk (P : Program) (A : Option (Nat × Obj)) : List (Nat × CurSpec) → Prop
  | [] => True
  | (g, cs) :: r => (CurC P A g cs ∧ There P g) ∧ CursOk P A r
theorem cursOk_look {P : Program} {A : Option (Nat × Obj)} : ∀ {l : List (Nat × CurSpec)}, CursOk P A l → ∀ g cs, look l g = some cs → CurC P A g cs ∧ There P g
  | [], _, g, cs, h => by simp [look] at h
  | (k, x) :: r, hl, g, cs, h => by
    simp only [look] at h
    split at h
    · rename_i he
      simp only [Option.some.injEq] at h; subst h
      rw [← Nat.eq_of_beq_eq_true he]; exact hl.1
    · exact cursOk_look hl.2 g cs h
theorem envOf {P : Program} {ty : List (Nat × Ty)} {arr : List Nat} {sp : List (Nat × FnSpec)} {mu : List (Nat × MutSpec)} {cu : List (Nat × CurSpec)} {A : Option (Nat × Obj)} {fz : List Nat} (hb : ∀ sp mu cu A fz, tableB P ⟨ty, arr, sp, mu, cu, A, fz⟩ ty = true) (hs : SpecsOk P A sp) (hm : MutsOk P mu) (hc : CursOk P A cu) : EnvOk P ⟨ty, arr, sp, mu, cu, A, fz⟩ :=
  envOk (hb sp mu cu A fz) (specsOk_look hs) (mutsOk_look hm) (cursOk_look hc)
theorem Contract.mono {P : Program} {g : Nat} {args : List Ty} {res : Ty} {f f' : Args args → Option res.den} (h : Contract P g ⟨args, res, f⟩) (hf : ∀ xs r, f' xs = some r → f xs = some r) : Contract P g ⟨args, res, f'⟩ :=
  fun xs r vs w hr ha => h xs r vs w (hf xs r hr) ha
end Go.Sx
namespace Go.Sx
class Sm (α : Type) where
  sm : Nat → α → Prop
instance : Sm Int := ⟨fun _ x => -9223372036854775808 ≤ x ∧ x ≤ 9223372036854775807⟩
instance : Sm Bool := ⟨fun _ _ => True⟩
instance : Sm Unit := ⟨fun _ _ => True⟩
instance {α β : Type} [Sm α] [Sm β] : Sm (α × β) := ⟨fun B x => Sm.sm B x.1 ∧ Sm.sm B x.2⟩
instance {α : Type} [Sm α] : Sm (List α) := ⟨fun B x => x.length ≤ B ∧ ∀ y ∈ x, Sm.sm B y⟩
theorem sm_int {B : Nat} {x : Int} : Sm.sm B x ↔ -9223372036854775808 ≤ x ∧ x ≤ 9223372036854775807 := Iff.rfl
theorem sm_bool {B : Nat} {x : Bool} : Sm.sm B x ↔ True := Iff.rfl
theorem sm_unit {B : Nat} {x : Unit} : Sm.sm B x ↔ True := Iff.rfl
theorem sm_pair {α β : Type} [Sm α] [Sm β] {B : Nat} {x : α} {y : β} : Sm.sm B (x, y) ↔ Sm.sm B x ∧ Sm.sm B y := Iff.rfl
theorem sm_prod {α β : Type} [Sm α] [Sm β] {B : Nat} {x : α × β} : Sm.sm B x ↔ Sm.sm B x.1 ∧ Sm.sm B x.2 := Iff.rfl
theorem sm_list {α : Type} [Sm α] {B : Nat} {x : List α} : Sm.sm B x ↔ x.length ≤ B ∧ ∀ y ∈ x, Sm.sm B y := Iff.rfl
theorem sm_get {α : Type} [Sm α] {B : Nat} {x : List α} (h : Sm.sm B x) {i : Nat} {y : α} (hy : x[i]? = some y) : Sm.sm B y := h.2 _ (List.mem_of_getElem? hy)
open Classical in
noncomputable def G (B : Nat) {A R : Type} [Sm A] (f : A → R) (a : A) : Option R := if Sm.sm B a then some (f a) else none
theorem G_pos {B : Nat} {A R : Type} [Sm A] {f : A → R} {a : A} (h : Sm.sm B a) : G B f a = some (f a) := by simp [G, h]
theorem G_some {B : Nat} {A R : Type} [Sm A] {f : A → R} {a : A} {r : R} (h : G B f a = some r) : Sm.sm B a ∧ r = f a := by
  unfold G at h; split at h
  · exact ⟨‹_›, by simpa using h.symm⟩
  · simp at h
noncomputable def GP {A R : Type} (p : A → Prop) (f : A → R) (a : A) : Option R := open Classical in if p a then some (f a) else none
theorem GP_pos {A R : Type} {p : A → Prop} {f : A → R} {a : A} (h : p a) : GP p f a = some (f a) := by simp [GP, h]
theorem GP_some {A R : Type} {p : A → Prop} {f : A → R} {a : A} {r : R} (h : GP p f a = some r) : p a ∧ r = f a := by
  unfold GP at h; split at h
  · exact ⟨‹_›, by simpa using h.symm⟩
  · simp at h
theorem getI_nat {β : Type} (xs : List β) (i : Nat) : getI xs (i : Int) = xs[i]? := by
  unfold getI; simp
theorem getI_zero {β : Type} (xs : List β) : getI xs 0 = xs[0]? := by
  unfold getI; simp
theorem getI_neg {β : Type} (xs : List β) {i : Int} (h : i < 0) : getI xs i = none := by
  unfold getI
  have : decide (0 ≤ i) = false := by simp; omega
  rw [this]
def rangeK {β σ R : Type} : List β → Nat → σ → (σ → Nat → β → (σ → Option R) → Option R) → (σ → Option R) → Option R
  | [], _, st, _, k => k st
  | x :: l, i, st, step, k => step st i x fun st' => rangeK l (i + 1) st' step k
theorem iter_range {β σ S R : Type} {body : S → (S → Option R) → (S → Option R) → Option R} (l : List β) (mk : σ → Int → S) (step : σ → Nat → β → (σ → Option R) → Option R)
    (h : ∀ st (i : Nat) x kc ke, l[i]? = some x → i < l.length → body (mk st i) kc ke = step st i x fun st' => kc (mk st' ((i + 1 : Nat) : Int)))
    (h2 : ∀ st kc ke, body (mk st l.length) kc ke = ke (mk st l.length)) {N : Nat} (hN : l.length < N) (st : σ) (ke : S → Option R) :
    iterK body N (mk st 0) ke = rangeK l 0 st step fun st' => ke (mk st' l.length) := by
  have gen : ∀ (r : List β) (i N : Nat) (st : σ), i + r.length = l.length → l.drop i = r → r.length < N → iterK body N (mk st i) ke = rangeK r i st step fun st' => ke (mk st' l.length) := by
    intro r
    induction r with
    | nil =>
      intro i N st hi hd hN
      obtain ⟨m, rfl⟩ : ∃ m, N = m + 1 := ⟨N - 1, by omega⟩
      simp only [iterK, rangeK]
      have : i = l.length := by simpa using hi
      rw [this, h2]
    | cons x r ih =>
      intro i N st hi hd hN
      obtain ⟨m, rfl⟩ : ∃ m, N = m + 1 := ⟨N - 1, by omega⟩
      simp only [List.length_cons] at hi hN
      have hx : l[i]? = some x := by
        have := congrArg (fun l => l[0]?) hd
        simpa using this
      simp only [iterK, rangeK]
      rw [h st i x _ _ hx (by omega)]
      congr 1
      funext st'
      exact ih (i + 1) m st' (by omega) (by rw [← List.drop_drop, hd]; simp) (by omega)
  exact gen l 0 N st (by simp) (by simp) hN
theorem rangeK_congr {β σ R : Type} {step step' : σ → Nat → β → (σ → Option R) → Option R} {k k' : σ → Option R} : ∀ {l : List β} {i : Nat} {st : σ},
    (∀ st j x k, j < l.length → l[j]? = some x → step st (i + j) x k = step' st (i + j) x k) → (∀ st, k st = k' st) → rangeK l i st step k = rangeK l i st step' k'
  | [], i, st, _, hk => hk st
  | x :: l, i, st, h, hk => by
    simp only [rangeK]
    rw [show step st i x = step' st i x from funext fun k => by simpa using h st 0 x k (by simp) (by simp)]
    congr 1
    funext st'
    exact rangeK_congr (fun st j x k hj hx => by
      have := h st (j + 1) x k (by simp; omega) (by simpa using hx)
      rw [show i + 1 + j = i + (j + 1) by omega]; exact this) hk
theorem rangeK_stop {β R : Type} {step : Unit → Nat → β → (Unit → Option R) → Option R} (bad : Nat → β → Bool) (out : Option R) (k : Unit → Option R) : ∀ (l : List β) (i : Nat),
    (∀ j x k, l[j]? = some x → step () (i + j) x k = cond (bad (i + j) x) out (k ())) → rangeK l i () step k = cond ((l.zipIdx i).any fun p => bad p.2 p.1) out (k ())
  | [], i, _ => rfl
  | x :: l, i, h => by
    simp only [rangeK, List.zipIdx_cons, List.any_cons]
    have h0 := h 0 x (fun st' => rangeK l (i + 1) st' step k) (by simp)
    simp only [Nat.add_zero] at h0
    rw [h0]
    cases bad i x with
    | true => rfl
    | false =>
      simp only [cond_false, Bool.false_or]
      exact rangeK_stop bad out k l (i + 1) fun j x k hx => by
        have := h (j + 1) x k (by simpa using hx)
        rw [show i + 1 + j = i + (j + 1) by omega]; exact this
theorem any_zipIdx {β : Type} (p : β → Bool) : ∀ (l : List β) (i : Nat), ((l.zipIdx i).any fun q => p q.1) = l.any p
  | [], _ => rfl
  | x :: l, i => by simp [List.zipIdx_cons, any_zipIdx p l (i + 1)]
theorem rangeK_stop' {β R : Type} {step : Unit → Nat → β → (Unit → Option R) → Option R} (bad : β → Bool) (out : Option R) (k : Unit → Option R) (l : List β) (i : Nat)
    (h : ∀ j x k, l[j]? = some x → step () (i + j) x k = cond (bad x) out (k ())) : rangeK l i () step k = cond (l.any bad) out (k ()) := by
  rw [rangeK_stop (fun _ x => bad x) out k l i h, any_zipIdx]
def foldI {β σ : Type} (g : σ → Nat → β → σ) : List β → Nat → σ → σ
  | [], _, st => st
  | x :: l, i, st => foldI g l (i + 1) (g st i x)
theorem rangeK_fold {β σ R : Type} {step : σ → Nat → β → (σ → Option R) → Option R} (g : σ → Nat → β → σ) (k : σ → Option R) : ∀ (l : List β) (i : Nat) (st : σ),
    (∀ st j x k, l[j]? = some x → step st (i + j) x k = k (g st (i + j) x)) → rangeK l i st step k = k (foldI g l i st)
  | [], i, st, _ => rfl
  | x :: l, i, st, h => by
    simp only [rangeK, foldI]
    have h0 := h st 0 x (fun st' => rangeK l (i + 1) st' step k) (by simp)
    simp only [Nat.add_zero] at h0
    rw [h0]
    exact rangeK_fold g k l (i + 1) _ fun st j x k hx => by
      have := h st (j + 1) x k (by simpa using hx)
      rw [show i + 1 + j = i + (j + 1) by omega]; exact this
theorem rangeK_foldP {β σ R : Type} {step : σ → Nat → β → (σ → Option R) → Option R} (p : Nat → σ → Prop) (g : σ → Nat → β → σ) (k : σ → Option R) : ∀ (l : List β) (i : Nat) (st : σ), p i st →
    (∀ st j x k, p (i + j) st → l[j]? = some x → step st (i + j) x k = k (g st (i + j) x) ∧ p (i + j + 1) (g st (i + j) x)) → rangeK l i st step k = k (foldI g l i st) ∧ p (i + l.length) (foldI g l i st)
  | [], i, st, hp, _ => ⟨rfl, hp⟩
  | x :: l, i, st, hp, h => by
    simp only [rangeK, foldI]
    have h0 := h st 0 x (fun st' => rangeK l (i + 1) st' step k) hp (by simp)
    simp only [Nat.add_zero] at h0
    rw [h0.1]
    have := rangeK_foldP p g k l (i + 1) _ h0.2 fun st j x k hp hx => by
      have := h st (j + 1) x k (by rw [show i + (j + 1) = i + 1 + j by omega]; exact hp) (by simpa using hx)
      rw [show i + 1 + j = i + (j + 1) by omega]; exact this
    refine ⟨this.1, ?_⟩
    rw [show i + (x :: l).length = i + 1 + l.length by simp; omega]; exact this.2
theorem rangeK_isSome {β σ R : Type} {step : σ → Nat → β → (σ → Option R) → Option R} {k : σ → Option R} (p : Nat → σ → Prop) : ∀ (l : List β) (i : Nat) (st : σ), p i st →
    (∀ st j x k, p (i + j) st → l[j]? = some x → (∀ st', p (i + j + 1) st' → (k st').isSome = true) → (step st (i + j) x k).isSome = true) → (∀ st, p (i + l.length) st → (k st).isSome = true) →
    (rangeK l i st step k).isSome = true
  | [], i, st, hp, _, hk => hk st hp
  | x :: l, i, st, hp, h, hk => by
    simp only [rangeK]
    refine h st 0 x _ hp (by simp) fun st' hp' => ?_
    refine rangeK_isSome p l (i + 1) st' hp' (fun st j x k hp hx hk => ?_) fun st hp => hk st (by rw [show i + (x :: l).length = i + 1 + l.length by simp; omega]; exact hp)
    have := h st (j + 1) x k (by rw [show i + (j + 1) = i + 1 + j by omega]; exact hp) (by simpa using hx) (fun st' hp' => hk st' (by rw [show i + 1 + j + 1 = i + (j + 1) + 1 by omega]; exact hp'))
    rw [show i + 1 + j = i + (j + 1) by omega]; exact this
theorem lt_len {β : Type} {l : List β} {i : Nat} : decide ((i : Int) < (l.length : Int)) = decide (i < l.length) := by simp
theorem wr_succ {i n : Nat} (h : i < n) (hn : n ≤ 9223372036854775807) : wr ((i : Int) + 1) = ((i + 1 : Nat) : Int) := by
  rw [wr_id (by omega) (by omega)]; simp
abbrev B1 : Nat := 1073741824
abbrev BB : Nat := 9223372036854775807
theorem len_lt {α : Type} [Sm α] {l : List α} {N : Nat} (h : Sm.sm B1 l) (hN : BB < N) : l.length < N := by
  have := h.1; simp only [B1, BB] at *; omega
theorem len_ltB {α : Type} [Sm α] {l : List α} {N : Nat} (h : Sm.sm BB l) (hN : BB < N) : l.length < N := by
  have := h.1; simp only [BB] at *; omega
theorem wr_len {α : Type} [Sm α] {l : List α} {i : Nat} (hi : i < l.length) (h : Sm.sm B1 l) : wr ((i : Int) + 1) = ((i + 1 : Nat) : Int) :=
  wr_succ hi (by have := h.1; simp only [B1] at this; omega)
theorem wr_lenB {α : Type} [Sm α] {l : List α} {i : Nat} (hi : i < l.length) (h : Sm.sm BB l) : wr ((i : Int) + 1) = ((i + 1 : Nat) : Int) :=
  wr_succ hi h.1
theorem dec_eq {m n : Nat} : decide ((m : Int) = (n : Int)) = decide (m = n) := by rw [decide_eq_decide]; omega
theorem dec_lt {m n : Nat} : decide ((m : Int) < (n : Int)) = decide (m < n) := by rw [decide_eq_decide]; omega
theorem dec_le {m n : Nat} : decide ((m : Int) ≤ (n : Int)) = decide (m ≤ n) := by rw [decide_eq_decide]; omega
theorem not_lt_self {n : Nat} : decide ((n : Int) < (n : Int)) = false := by simp
theorem Sm.mono {α : Type} [Sm α] (mono : ∀ {B B' : Nat} {x : α}, B ≤ B' → Sm.sm B x → Sm.sm B' x) {B B' : Nat} {x : List α} (h : B ≤ B') (hx : Sm.sm B x) : Sm.sm B' x :=
  ⟨Nat.le_trans hx.1 h, fun y hy => mono h (hx.2 y hy)⟩
theorem N0_ex : ∃ n : Nat, 9223372036854775807 < n := ⟨_, Nat.lt_succ_self _⟩
noncomputable def N0 : Nat := Classical.choose N0_ex
theorem N0_gt : BB < N0 := Classical.choose_spec N0_ex
theorem rangeK_rule {β σ R : Type} {step : σ → Nat → β → (σ → Option R) → Option R} {k : σ → Option R} (Q : Option R → Prop) (p : Nat → σ → Prop) : ∀ (l : List β) (i : Nat) (st : σ), p i st →
    (∀ st j x k, p (i + j) st → l[j]? = some x → (∀ st', p (i + j + 1) st' → Q (k st')) → Q (step st (i + j) x k)) → (∀ st, p (i + l.length) st → Q (k st)) →
    Q (rangeK l i st step k)
  | [], i, st, hp, _, hk => hk st hp
  | x :: l, i, st, hp, h, hk => by
    simp only [rangeK]
    refine h st 0 x _ hp (by simp) fun st' hp' => ?_
    refine rangeK_rule Q p l (i + 1) st' hp' (fun st j x k hp hx hk => ?_) fun st hp => hk st (by rw [show i + (x :: l).length = i + 1 + l.length by simp; omega]; exact hp)
    have := h st (j + 1) x k (by rw [show i + (j + 1) = i + 1 + j by omega]; exact hp) (by simpa using hx) (fun st' hp' => hk st' (by rw [show i + 1 + j + 1 = i + (j + 1) + 1 by omega]; exact hp'))
    rw [show i + 1 + j = i + (j + 1) by omega]; exact this
theorem foldI_set {β γ : Type} (g : β → γ) : ∀ (l : List β) (pre rest : List γ), rest.length = l.length → foldI (fun st i x => st.set i (g x)) l pre.length (pre ++ rest) = pre ++ l.map g
  | [], pre, rest, h => by
    have : rest = [] := List.length_eq_zero_iff.1 (by simpa using h)
    simp [foldI, this]
  | x :: l, pre, [], h => by simp at h
  | x :: l, pre, y :: rest, h => by
    simp only [foldI]
    have : (pre ++ y :: rest).set pre.length (g x) = (pre ++ [g x]) ++ rest := by simp
    rw [this]
    have := foldI_set g l (pre ++ [g x]) rest (by simpa using h)
    simp only [List.length_append, List.length_cons, List.length_nil, Nat.zero_add] at this
    rw [this]; simp
theorem rangeK_copy {β γ R : Type} {step : List γ → Nat → β → (List γ → Option R) → Option R} (g : β → γ) (d : γ) (k : List γ → Option R) (l : List β)
    (h : ∀ st j x k, List.length st = l.length → l[j]? = some x → step st j x k = k (st.set j (g x))) : rangeK l 0 (List.replicate l.length d) step k = k (l.map g) := by
  have := (rangeK_foldP (step := step) (fun _ st => List.length st = l.length) (fun st i x => st.set i (g x)) k l 0 (List.replicate l.length d) (by simp) (fun st j x k hp hx => by
    simp only [Nat.zero_add] at hp ⊢
    exact ⟨h st j x k hp hx, by simpa using hp⟩)).1
  rw [this]
  have := foldI_set g l [] (List.replicate l.length d) (by simp)
  simp only [List.length_nil, List.nil_append] at this
  rw [this]
theorem sm_mono_int {B B' : Nat} {x : Int} (h : Sm.sm B x) : Sm.sm B' x := h
theorem get_lt {β : Type} {l : List β} {i : Nat} {x : β} (h : l[i]? = some x) : i < l.length := (List.getElem?_eq_some_iff.1 h).1
theorem getI_has {β : Type} {st : List β} {n i : Nat} (h : st.length = n) (hi : i < n) : ∃ y, getI st (i : Int) = some y := ⟨_, (getI_nat st i).trans (List.getElem?_eq_getElem (by omega))⟩
theorem ble_true {m n : Nat} (h : m ≤ n) : Nat.ble m n = true := Nat.ble_eq_true_of_le h
end Go.Sx
namespace Go.Sx
open Go.ChangeShapes Go.WideShapes Go.ChangeAt Go.RowKit
variable {P : Program} {E : Env} {H : Type} {enc : TypeId × Value → H}
def Args.okAll : (ts : List Ty) → Args ts → Prop
  | [], _ => True
  | t :: ts, xs => t.ok xs.1 ∧ Args.okAll ts xs.2
def parsB (P : Program) (E : Env) : List TypeId → List Ty → Bool
  | [], [] => true
  | T :: Ts, t :: ts => optIs (E.tyOf T) t && Nat.blt T P.types.size && parsB P E Ts ts
  | _, _ => false
theorem trod_shape (hE : EnvOk P E) (hA : E.arr = []) {w : World} {base' : Nat} {T : Nat} {t : Ty} (hT : E.tyOf T = some t) {v : Value}
    (hv : Value.okWide P w .any base' T v) : Shape t v v.cells.toList := by
  unfold Value.okWide at hv
  have F := hE.ty _ _ hT
  cases t with
  | num k =>
    have hu := F.num k rfl
    rw [hu] at hv; simp only [Cell.okWide, hu, Cell.ok] at hv
    cases v <;> simp_all [Shape, Shape1, Value.cells]
  | bool =>
    have hu := F.bool rfl
    rw [hu] at hv; simp only [Cell.okWide, hu, Cell.ok] at hv
    cases v <;> simp_all [Shape, Shape1, Value.cells]
  | slice e =>
    obtain ⟨T', hu, _⟩ := F.slice e rfl
    rw [hu] at hv; simp only [Cell.okWide, hu, Cell.ok] at hv
    cases v <;> simp_all [Shape, Shape1, Value.cells]
  | tup a b => exact absurd rfl (F.tup a b)
  | fn g => exact absurd rfl (F.nofn g)
  | cur => exact absurd rfl F.nocur
  | raw =>
    obtain ⟨T', hu, _⟩ := F.raw rfl
    rw [hu] at hv; simp only [Cell.okWide, hu, Cell.ok] at hv
    cases v <;> simp_all [Shape, Shape1, Value.cells]
  | pair a b =>
    have harr : E.isArr T = false := by simp [Env.isArr, hA]
    obtain ⟨fs, hu, _⟩ := hE.str _ _ _ hT harr
    rw [hu] at hv
    obtain ⟨cs, rfl, _⟩ := hv
    simp [Shape, Shape1, Value.cells]
theorem open_args (hE : EnvOk P E) (hA : E.arr = []) {w : World} {base base' : Nat} {spare : Nat → Bool} {held : Bool} : ∀ {Ts : List TypeId} {ts : List Ty} {vs : List Value} {ds : List (DataW H)} {ps : List MemPlace},
    parsB P E Ts ts = true → DataW.TrodAll enc P w base spare held Ts vs ds ps → (∀ (j : Nat) t v, Ts[j]? = some t → vs[j]? = some v → Value.okWide P w .any base' t v) → ∃ xs : Args ts, ArgsOk w ts vs xs ∧ Args.okAll ts xs ∧ ds.length = ts.length
  | [], [], [], [], _, _, _, _ => ⟨(), rfl, trivial, rfl⟩
  | T :: Ts, t :: ts, v :: vs, d :: ds, ps, hp, ⟨p, q, h1, h2, _⟩, hv => by
    simp only [parsB, Bool.and_eq_true] at hp
    have hT := optIs_eq hp.1.1
    obtain ⟨xs, ha, ho, hl⟩ := open_args hE hA hp.2 h2 (fun j t v ht hv' => hv (j + 1) t v (by simpa using ht) (by simpa using hv'))
    have hs := trod_shape hE hA hT (hv 0 T v rfl rfl)
    obtain ⟨n, hn⟩ := h1
    obtain ⟨x, hx, hr⟩ := (opens_all hE hA t).1 T n _ _ hT hn
    exact ⟨(x, xs), ⟨v, vs, rfl, ⟨_, hs, hr⟩, ha⟩, ⟨hx, ho⟩, by simp [hl]⟩
theorem Grow.sameAt {w w' : World} (h : Grow w w') {p : MemPlace} (hp : p.block < w.heap.size) : w.sameAt w' p := by
  cases p with
  | cell b off =>
    have : w'.heap[b]? = w.heap[b]? := h.same b hp
    simp only [World.sameAt, World.cell?, this]
  | map b => exact h.same b hp
theorem trodAll_carry {w w' : World} {base : Nat} {spare : Nat → Bool} {held : Bool} : ∀ {ts : List TypeId} {vs : List Value} {ds : List (DataW H)} {ps : List MemPlace},
    DataW.TrodAll enc P w base spare held ts vs ds ps → (∀ p ∈ ps, w.sameAt w' p) → DataW.TrodAll enc P w' base spare held ts vs ds ps
  | [], [], [], _, h, _ => h
  | _ :: _, _ :: _, _ :: _, _, ⟨p, q, ⟨n, hn⟩, h2, e⟩, hs => ⟨p, q, ⟨n, DataW.trod_carry n _ _ _ hn fun x hx => hs x (by rw [e]; exact List.mem_append_left _ hx)⟩,
      trodAll_carry h2 (fun x hx => hs x (by rw [e]; exact List.mem_append_right _ hx)), e⟩
theorem Grow.kept {w w' : World} (h : Grow w w') (may : MemPlace → Prop) : w.keptBut w' may := by
  refine ⟨h.calm.os, h.calm.output, fun i hi => ?_⟩
  rw [h.same i hi]
  cases w.heap[i]? with
  | none => rfl
  | some o => cases o <;> simp
theorem pars_lt : ∀ {Ts : List TypeId} {ts : List Ty}, parsB P E Ts ts = true → ∀ T ∈ Ts, T < P.types.size
  | [], [], _, _, h => by simp at h
  | T :: Ts, t :: ts, hp, T', h => by
    simp only [parsB, Bool.and_eq_true] at hp
    rcases List.mem_cons.1 h with rfl | h
    · have := hp.1.2
      simp only [Nat.blt_eq] at this
      exact this
    · exact pars_lt hp.2 _ h
theorem lifted_of {C : Checked} {os : Os} (started : os.Started) {g : Nat} {fn : Func} {s : ChangeSpec} {conds : List PathCond} {apart fresh handsOn again : Bool} {tb : TypeId} {ts : List Ty} {f : Args ts → Option Bool}
    (own : ownKnob C.prog.godebug = none) (noInit : C.prog.inits.idxOf? g = none) (hfn : C.prog.funcs[g]? = some fn)
    (witness : ∃ (w : World) (tape : Tape) (i : Input), w.os = os ∧ (w.forCall tape i).Shaped C.prog ∧ i.vars = [] ∧ Input.okWide C.prog (w.forCall tape i) .any w.heap.size g i ∧
      s.pre6 enc C.prog fn conds apart (w.forCall tape i).memory i.args ∧ ({} : Assume).holds C.prog (lone (Frame.enter C.prog g i.args .normal) [] (w.forCall tape i)))
    (hE : EnvOk C.prog E) (hA : E.arr = []) (laid : laidOutB C.prog = true) (maps : mapsRowed C.prog = true)
    (full : ((List.range C.prog.types.size).all fun t => match C.prog.underlying t with | some (.slice e) => decide (0 < C.prog.cellsOf e) | _ => true) = true)
    (hvars : s.vars = []) (hspec : ∀ ds : List (DataW H), ds.length = ts.length → s.fn H ds = { results := [.lit (.bool true)], args := ds })
    (hps : parsB C.prog E fn.params.toList ts = true) (hrt : fn.resultTypes = #[tb]) (hub : C.prog.underlying tb = some .bool)
    (hc : Contract C.prog g ⟨ts, .bool, f⟩) (hlaw : ∀ xs : Args ts, Args.okAll ts xs → f xs = some true) :
    ReturnsInHanded {} C os g .any (s.pre6 enc C.prog fn conds apart) (s.post enc C.prog fn apart fresh handsOn again) := by
  refine returnsInHanded_of_change (C := C) own started noInit hfn witness ?_
  intro W base args ds gs before hval hW hcnd _
  have hW' := hW
  obtain ⟨p, q, hA0, hV, he, hfz, hnd⟩ := hW
  rw [hvars] at hV
  obtain ⟨hgs, hq⟩ := trodVars_none hV
  subst hgs; subst hq
  have hbefore : before = p := by rw [he]; simp
  subst hbefore
  obtain ⟨xs, ha, ho, hl⟩ := open_args (base' := base) hE hA hps hA0 (fun j t v h1 h2 => hval j t v (by simpa using h1) (by simpa using h2))
  have hcall := hc xs true args.toList W (hlaw xs ho) ha fun _ _ e => by simp at e
  have hfnds : s.fn H (ds ++ []) = { results := [.lit (.bool true)], args := ds } := by rw [List.append_nil]; exact hspec ds hl
  have ea : args.toList.toArray = args := by simp
  rw [ea] at hcall
  refine hcall.mono fun e W' ⟨v, cs, he, hg, hsh, hrep⟩ => ?_
  subst he
  have hv : v = .bool true := by
    simp only [Rep] at hrep; subst hrep
    simp only [Shape, Shape1] at hsh
    simpa using hsh.symm
  subst hv
  have kids : Kids C.prog (· < C.prog.types.size) := kids_rows laid maps
  refine ⟨_, rfl, post_of_same (pa := before) (pv := []) hW' ?_ ?_ ?_ (by simp) (hg.kept _) hg.calm.frozen (ok_one hrt rfl (okWide_bool_mk hub _))⟩
  · intro b sp hd
    rw [hfnds, hrt]
    exact trodAll_mk1 (shut_bool hub _)
  · intro sp hsp
    rw [hfnds]
    exact trodAll_carry (DataW.TrodAll.respare kids (slices_full_of C.prog full) (pars_lt hps) hA0 hsp) fun p hp => hg.sameAt (hW'.lt p hp)
  · intro sp hsp
    rw [hfnds, hvars]
    rfl
def CodeOk (A : Option (Nat × Obj)) (v : Value) : Prop := ∃ p n c, v = .slice p n c ∧ n ≤ c ∧ n ≤ 9223372036854775807 ∧ ∀ i, i < n → ∃ x, readAt A v (i : Nat) = some x ∧ 0 ≤ x ∧ x ≤ 255
theorem lifted_code {C : Checked} {os : Os} (started : os.Started) {g : Nat} {fn : Func} {s : ChangeSpec} {conds : List PathCond} {apart fresh handsOn again : Bool} {tb : TypeId} {f : Option (Nat × Obj) → Args [.raw] → Option Bool}
    (own : ownKnob C.prog.godebug = none) (noInit : C.prog.inits.idxOf? g = none) (hfn : C.prog.funcs[g]? = some fn)
    (witness : ∃ (w : World) (tape : Tape) (i : Input), w.os = os ∧ (w.forCall tape i).Shaped C.prog ∧ i.vars = [] ∧ Input.okWide C.prog (w.forCall tape i) .any w.heap.size g i ∧
      s.pre6 enc C.prog fn conds apart (w.forCall tape i).memory i.args ∧ ({} : Assume).holds C.prog (lone (Frame.enter C.prog g i.args .normal) [] (w.forCall tape i)))
    (hE : EnvOk C.prog E) (hA : E.arr = []) (laid : laidOutB C.prog = true) (maps : mapsRowed C.prog = true)
    (full : ((List.range C.prog.types.size).all fun t => match C.prog.underlying t with | some (.slice e) => decide (0 < C.prog.cellsOf e) | _ => true) = true)
    (hvars : s.vars = []) (hspec : ∀ ds : List (DataW H), ds.length = 1 → s.fn H ds = { results := [.lit (.bool true)], args := ds })
    (hps : parsB C.prog E fn.params.toList [.slice (.num .u8)] = true) (hrt : fn.resultTypes = #[tb]) (hub : C.prog.underlying tb = some .bool)
    (hc : ∀ A, ContractA C.prog A g ⟨[.raw], .bool, f A⟩) (hlaw : ∀ A v, CodeOk A v → f A (v, ()) = some true) :
    ReturnsInHanded {} C os g .any (s.pre6 enc C.prog fn conds apart) (s.post enc C.prog fn apart fresh handsOn again) := by
  refine returnsInHanded_of_change (C := C) own started noInit hfn witness ?_
  intro W base args ds gs before hval hW hcnd _
  have hW' := hW
  obtain ⟨p, q, hA0, hV, he, hfz, hnd⟩ := hW
  rw [hvars] at hV
  obtain ⟨hgs, hq⟩ := trodVars_none hV
  subst hgs; subst hq
  have hbefore : before = p := by rw [he]; simp
  subst hbefore
  obtain ⟨xs, ha, ho, hl⟩ := open_args (base' := base) hE hA hps hA0 (fun j t v h1 h2 => hval j t v (by simpa using h1) (by simpa using h2))
  obtain ⟨v0, vr, hargs0, ⟨cs0, hsh0, hrep0⟩, hvr⟩ := ha
  simp only [ArgsOk] at hvr
  subst hvr
  obtain ⟨p0, c0, hcs0, hle0, hrest0⟩ := hrep0
  subst hcs0
  simp only [Shape, Shape1, List.cons.injEq, and_true] at hsh0
  have hv0 : v0 = .slice p0 (List.length (α := (Ty.num .u8).den) xs.1) c0 := hsh0.symm
  have hlen0 : List.length (α := (Ty.num .u8).den) xs.1 ≤ 9223372036854775807 := ho.1.1
  have hA : ∃ A, CodeOk A v0 ∧ AmbOk A W (fun _ => False) := by
    rcases hrest0 with h0 | ⟨b, o, L, El, fz, hp, hh, _, _, hsz, Si, h1, _, _⟩
    · refine ⟨none, ⟨_, _, _, hv0, hle0, hlen0, fun i hi => ?_⟩, fun _ _ e => by simp at e⟩
      simp only [cond_false] at h0
      omega
    · refine ⟨some (b, .cells L El fz), ⟨_, _, _, hv0, hle0, hlen0, fun i hi => ?_⟩, fun b' r e => ?_⟩
      · obtain ⟨y, hy⟩ : ∃ y, lget (α := (Ty.num .u8).den) xs.1 i = some y := ⟨_, List.getElem?_eq_getElem hi⟩
        have hr := h1 i y hy
        have hok := ho.1.2 i y hy
        simp only [Rep, Ty.size, Nat.mul_one] at hr
        have hg : L[o + i]? = some (.int .u8 y) := by
          have : (seg L (o + i) 1)[0]? = some (.int .u8 y) := by rw [hr]; rfl
          rw [seg_get] at this
          simpa using this
        refine ⟨y, ?_, ?_⟩
        · rw [hv0, hp]
          simp only [readAt, Nat.beq_refl, Int.natCast_nonneg, decide_true, Int.ofNat_lt, Int.toNat_natCast, hi, hg]
        · have h1 : IntKind.u8.min ≤ (show Int from y) := hok.1
          have h2 : (show Int from y) ≤ IntKind.u8.max := hok.2
          simp [IntKind.min, IntKind.max, IntKind.signed, IntKind.bits] at h1 h2
          exact ⟨by omega, by omega⟩
      · simp only [Option.some.injEq, Prod.mk.injEq] at e
        obtain ⟨rfl, rfl⟩ := e
        exact ⟨hh, id⟩
  obtain ⟨A, hcode, hamb⟩ := hA
  have hcall := hc A (v0, ()) true args.toList W (hlaw A v0 hcode) ⟨v0, [], hargs0, ⟨[v0], rfl, by rw [hv0]; exact ⟨rfl, rfl⟩⟩, rfl⟩ hamb
  have hfnds : s.fn H (ds ++ []) = { results := [.lit (.bool true)], args := ds } := by rw [List.append_nil]; exact hspec ds hl
  have ea : args.toList.toArray = args := by simp
  rw [ea] at hcall
  refine hcall.mono fun e W' ⟨v, cs, he, hg, hsh, hrep⟩ => ?_
  subst he
  have hv : v = .bool true := by
    simp only [Rep] at hrep; subst hrep
    simp only [Shape, Shape1] at hsh
    simpa using hsh.symm
  subst hv
  have kids : Kids C.prog (· < C.prog.types.size) := kids_rows laid maps
  refine ⟨_, rfl, post_of_same (pa := before) (pv := []) hW' ?_ ?_ ?_ (by simp) (hg.kept _) hg.calm.frozen (ok_one hrt rfl (okWide_bool_mk hub _))⟩
  · intro b sp hd
    rw [hfnds, hrt]
    exact trodAll_mk1 (shut_bool hub _)
  · intro sp hsp
    rw [hfnds]
    exact trodAll_carry (DataW.TrodAll.respare kids (slices_full_of C.prog full) (pars_lt hps) hA0 hsp) fun p hp => hg.sameAt (hW'.lt p hp)
  · intro sp hsp
    rw [hfnds, hvars]
    rfl
theorem ok_int (x : Int) (h : (Ty.num .i64).ok x) : Sm.sm BB x := by
  obtain ⟨h1, h2⟩ := h
  simp [IntKind.min, IntKind.max, IntKind.signed, IntKind.bits] at h1 h2
  exact ⟨by omega, by omega⟩
theorem ok_slice (t : Ty) [Sm t.den] (h : ∀ x : t.den, t.ok x → Sm.sm BB x) (xs : List t.den) (hx : (Ty.slice t).ok xs) : Sm.sm BB xs :=
  ⟨hx.1, fun y hy => by
    obtain ⟨i, hi⟩ := List.getElem?_of_mem hy
    exact h y (hx.2 i y hi)⟩
theorem ok_intS (x : List Int) (h : (Ty.slice (.num .i64)).ok x) : Sm.sm BB x := @ok_slice (.num .i64) (inferInstanceAs (Sm Int)) ok_int x h
theorem ok_intSS (x : List (List Int)) (h : (Ty.slice (.slice (.num .i64))).ok x) : Sm.sm BB x := @ok_slice (.slice (.num .i64)) (inferInstanceAs (Sm (List Int))) ok_intS x h
theorem ok_ratio (x : Int × Int) (h : (Ty.pair (.num .i64) (.num .i64)).ok x) : Sm.sm BB x := ⟨ok_int _ h.1, ok_int _ h.2⟩
theorem ok_ratioS (x : List (Int × Int)) (h : (Ty.slice (.pair (.num .i64) (.num .i64))).ok x) : Sm.sm BB x := @ok_slice (.pair (.num .i64) (.num .i64)) (inferInstanceAs (Sm (Int × Int))) ok_ratio x h
theorem ok_ratioSS (x : List (List (Int × Int))) (h : (Ty.slice (.slice (.pair (.num .i64) (.num .i64)))).ok x) : Sm.sm BB x := @ok_slice (.slice (.pair (.num .i64) (.num .i64))) (inferInstanceAs (Sm (List (Int × Int)))) ok_ratioS x h
theorem ok_wire (x : Int × Int × Int) (h : (Ty.pair (.num .i64) (.pair (.num .i64) (.num .i64))).ok x) : Sm.sm BB x := ⟨ok_int _ h.1, ok_int _ h.2.1, ok_int _ h.2.2⟩
theorem ok_wireS (x : List (Int × Int × Int)) (h : (Ty.slice (.pair (.num .i64) (.pair (.num .i64) (.num .i64)))).ok x) : Sm.sm BB x := @ok_slice (.pair (.num .i64) (.pair (.num .i64) (.num .i64))) (inferInstanceAs (Sm (Int × Int × Int))) ok_wire x h
theorem ok_net (x : Int × Int × Int × List (Int × Int × Int)) (h : (Ty.pair (.num .i64) (.pair (.num .i64) (.pair (.num .i64) (.slice (.pair (.num .i64) (.pair (.num .i64) (.num .i64))))))).ok x) : Sm.sm BB x :=
  ⟨ok_int _ h.1, ok_int _ h.2.1, ok_int _ h.2.2.1, ok_wireS _ h.2.2.2⟩
end Go.Sx
namespace Go.Sx
variable {P : Program} {E : Env}
theorem ops_value {ops : Array Oper} {Q : Exit → Act → World → Prop} {i : Nat} {rest : List Nat} {o : Oper} {a : Act} {w w' : World} {v : Value} (hi : ops[i]? = some o) (hg : o.guard = none)
    (hrun : (execOp a.eval o).run P w = .ok (.value v) w') (h : wpOps P ops Q rest (a.put o.dst v) w') : wpOps P ops Q (i :: rest) a w := by
  rw [wpOps_cons]
  exact wpOp_wanted hi (by simp [Region.wanted, hg]) (does_value hrun h)
def aNet : Ty := .pair (.num .i64) (.pair (.num .i64) (.pair (.num .i64) (.slice (.pair (.num .i64) (.pair (.num .i64) (.num .i64))))))
def aWires : Ty := .slice (.pair (.num .i64) (.pair (.num .i64) (.num .i64)))
theorem getD_put {a : Act} {d i : Nat} {v : Value} (hd : d < a.tmps.size) : (a.put (some d) v).eval (.tmp i) = if i = d then v else a.eval (.tmp i) := act_put_get a d v hd i
theorem mutC_net (hE : EnvOk P E) {D S : TypeId} {r0 r1 r2 : Nat} {T0 T1 T2 T3 T4 T5 T6 T7 T8 : TypeId} {p0 p1 p2 p3 p4 p5 p6 p7 p8 : String} {e0 e1 e2 e3 e4 e5 e6 e7 e8 : Array Edge} {tys : Array TypeId} (hD : E.tyOf D = some aNet) (hA : E.isArr D = false) (hS : E.tyOf S = some aWires)
    {g gw : Nat} {fw : aWires.den → Args [.num .i64] → Option (aWires.den × Int)} (hw : MutC P gw ⟨aWires, 0, [.num .i64], some (.num .i64), fw⟩) (hthere : There P gw) {fn : Func} (hf : P.funcs[g]? = some fn)
    (hb : fn.body = some (.seq (.region r0 #[⟨some 2, .box D (.tmp 0), T0, p0, e0, none⟩, ⟨some 4, .assign (.const (.int .i64 0)), T1, p1, e1, none⟩] false)
      (.seq (.region r1 #[⟨some 5, .fieldAddr D (.tmp 2) 3, T2, p2, e2, none⟩, ⟨some 6, .load S (.tmp 5), T3, p3, e3, none⟩, ⟨some 7, .move (.tmp 1), T4, p4, e4, none⟩, ⟨some 8, .call ⟨.value (.func gw), #[.tmp 6, .tmp 7], tys⟩, T5, p5, e5, none⟩, ⟨some 1, .assign (.tmp 8), T6, p6, e6, none⟩] false)
      (.seq (.region r2 #[⟨some 9, .move (.tmp 1), T7, p7, e7, none⟩, ⟨some 4, .assign (.tmp 9), T8, p8, e8, none⟩] false) .ret))))
    (hn : fn.ntmps = 10) (hr : fn.results = #[.tmp 4]) :
    MutC P g ⟨aNet, 0, [.num .i64], some (.num .i64), fun y a => (fw y.2.2.2 a).map fun r => ((y.1, y.2.1, y.2.2.1, r.1), r.2)⟩ := by
  intro y xs z r vs vt cs Sm w hfn hvt hargs hsh hrep hSm
  obtain ⟨y1, y2, y3, yw⟩ := y
  obtain ⟨k, ⟨⟩⟩ := xs
  obtain ⟨vk, rfl⟩ : ∃ vk, vs = [vt, vk] := by
    cases vs with
    | nil => simp at hvt
    | cons v vr =>
      simp at hvt; subst hvt
      simp only [List.eraseIdx_zero, List.tail_cons, ArgsOff] at hargs
      obtain ⟨v, vr', rfl, _, rfl⟩ := hargs
      exact ⟨v, rfl⟩
  simp only [List.eraseIdx_zero, List.tail_cons, ArgsOff] at hargs
  obtain ⟨v, vr', e, ⟨ck, hk1, hk2⟩, enil⟩ := hargs
  simp only [List.cons.injEq] at e
  obtain ⟨rfl, rfl⟩ := e
  simp only [Rep] at hk2
  subst hk2
  simp only [Shape, Shape1, List.cons.injEq, and_true] at hk1
  subst hk1
  simp only [Shape, aNet, Shape1] at hsh
  subst hsh
  obtain ⟨c1, r1', S1, S1', rfl, h1, hq1, _, s1, _⟩ := hrep
  obtain ⟨c2, r2', S2, S2', rfl, h2, hq2, _, s2, _⟩ := hq1
  obtain ⟨c3, c4, S3, S4, rfl, h3, h4, _, s3, _⟩ := hq2
  simp only [Rep] at h1 h2 h3
  subst h1; subst h2; subst h3
  obtain ⟨p, c, hc4, hle, hrest⟩ := id h4
  subst hc4
  have hfw : ∃ z', fw yw (k, ()) = some (z', r) ∧ z = (y1, y2, y3, z') := by
    simp only [Option.map_eq_some_iff] at hfn
    obtain ⟨q, hq, e⟩ := hfn
    obtain ⟨q1, q2⟩ := q
    simp only at e
    obtain ⟨rfl, rfl⟩ := e
    exact ⟨q1, hq, rfl⟩
  obtain ⟨z', hz', rfl⟩ := hfw
  let netV : Value := .agg #[.int .i64 y1, .int .i64 y2, .int .i64 y3, .slice p (List.length yw) c]
  show Calls P g #[netV, .int .i64 k] w _
  have hlenY : List.length (α := (Ty.pair (.num .i64) (.pair (.num .i64) (.num .i64))).den) yw = List.length yw := rfl
  refine calls_of_wp hf hb ?_
  generalize ha0 : ({ tmps := #[netV, .int .i64 k] ++ Array.replicate (fn.ntmps - (#[netV, .int .i64 k] : Array Value).size) undef, defers := [] } : Act) = a0
  have hsz0 : a0.tmps.size = 10 := by rw [← ha0, hn]; rfl
  have hd0 : a0.defers = [] := by rw [← ha0]
  have g0 : a0.eval (.tmp 0) = netV := by rw [← ha0, hn]; rfl
  have g1 : a0.eval (.tmp 1) = .int .i64 k := by rw [← ha0, hn]; rfl
  have hFD := hE.ty _ _ hD
  have hFS := hE.ty _ _ hS
  obtain ⟨_, hfnw, hname, hbody⟩ := hthere
  generalize hw1 : pushW w (.cells #[.int .i64 y1, .int .i64 y2, .int .i64 y3, .slice p (List.length yw) c] D) = w1
  have hg1 : Grow w w1 := hw1 ▸ pushW_grow w _ D
  have hbox : w1.heap[w.heap.size]? = some (.cells #[.int .i64 y1, .int .i64 y2, .int .i64 y3, .slice p (List.length yw) c] D (0, 0)) := hw1 ▸ pushW_get w _
  have hput : ∀ (a : Act) (d i : Nat) (v : Value), a.tmps.size = 10 → d < 10 → (a.put (some d) v).eval (.tmp i) = if i = d then v else a.eval (.tmp i) := fun a d i v h1 h2 => getD_put (by omega)
  have hpsz : ∀ (a : Act) (d : Nat) (v : Value), a.tmps.size = 10 → (a.put (some d) v).tmps.size = 10 := fun a d v h => by rw [act_put_size]; exact h
  refine wp_seq (wp_region ?_)
  show wpOps P _ _ [0, 1] a0 w
  refine ops_value (o := ⟨some 2, .box D (.tmp 0), T0, p0, e0, none⟩) (v := .pointer (some ⟨w.heap.size, 0, none⟩)) (w' := w1) rfl rfl ?_ ?_
  · simp only [execOp, g0, netV, Instr.box, Sem.run_bind, newVar, run_newRow, Result.andThen_ok, Sem.run_pure, Value.cells, hw1]
  generalize ha1 : a0.put (some 2) (.pointer (some ⟨w.heap.size, 0, none⟩)) = a1
  have s1z : a1.tmps.size = 10 := ha1 ▸ hpsz _ _ _ hsz0
  have d1 : a1.defers = [] := ha1 ▸ hd0
  have a1_2 : a1.eval (.tmp 2) = .pointer (some ⟨w.heap.size, 0, none⟩) := by rw [← ha1, hput _ _ _ _ hsz0 (by omega)]; rfl
  have a1_1 : a1.eval (.tmp 1) = .int .i64 k := by rw [← ha1, hput _ _ _ _ hsz0 (by omega), if_neg (by omega), g1]
  refine ops_value (o := ⟨some 4, .assign (.const (.int .i64 0)), T1, p1, e1, none⟩) (v := .int .i64 0) (w' := w1) rfl rfl rfl ?_
  generalize ha2 : a1.put (some 4) (.int .i64 0) = a2
  have s2z : a2.tmps.size = 10 := ha2 ▸ hpsz _ _ _ s1z
  have d2 : a2.defers = [] := ha2 ▸ d1
  have a2_2 : a2.eval (.tmp 2) = .pointer (some ⟨w.heap.size, 0, none⟩) := by rw [← ha2, hput _ _ _ _ s1z (by omega), if_neg (by omega), a1_2]
  have a2_1 : a2.eval (.tmp 1) = .int .i64 k := by rw [← ha2, hput _ _ _ _ s1z (by omega), if_neg (by omega), a1_1]
  show Code.wp P _ _ a2 w1
  refine wp_seq (wp_region ?_)
  show wpOps P _ _ [0, 1, 2, 3, 4] a2 w1
  refine ops_value (o := ⟨some 5, .fieldAddr D (.tmp 2) 3, T2, p2, e2, none⟩) (v := .pointer (some ⟨w.heap.size, 3, none⟩)) (w' := w1) rfl rfl ?_ ?_
  · obtain ⟨fs, hu, hfo⟩ := hE.str D _ _ hD hA
    obtain ⟨_, _, _, ⟨fd, f1, f2, f3⟩, _⟩ := hfo
    have f2' : fd.offset = 3 := f2
    simp only [execOp, Instr.fieldAt, Sem.run_bind, run_underlying hu, Result.andThen_ok, f1, a2_2, Instr.sureAddr, Sem.run_pure, run_fieldPlace hE f3, f2']
    try rfl
  generalize ha3 : a2.put (some 5) (.pointer (some ⟨w.heap.size, 3, none⟩)) = a3
  have s3z : a3.tmps.size = 10 := ha3 ▸ hpsz _ _ _ s2z
  have d3 : a3.defers = [] := ha3 ▸ d2
  have a3_5 : a3.eval (.tmp 5) = .pointer (some ⟨w.heap.size, 3, none⟩) := by rw [← ha3, hput _ _ _ _ s2z (by omega)]; rfl
  have a3_1 : a3.eval (.tmp 1) = .int .i64 k := by rw [← ha3, hput _ _ _ _ s2z (by omega), if_neg (by omega), a2_1]
  refine ops_value (o := ⟨some 6, .load S (.tmp 5), T3, p3, e3, none⟩) (v := .slice p (List.length yw) c) (w' := w1) rfl rfl ?_ ?_
  · have hld := run_loadVar' hFS hbox (o := 3) (Nat.le_refl 4)
    simp only [execOp, Instr.loadAt, a3_5, Instr.sureAddr, Sem.run_bind, Sem.run_pure, Result.andThen_ok, hld]
    rfl
  generalize ha4 : a3.put (some 6) (.slice p (List.length yw) c) = a4
  have s4z : a4.tmps.size = 10 := ha4 ▸ hpsz _ _ _ s3z
  have d4 : a4.defers = [] := ha4 ▸ d3
  have a4_6 : a4.eval (.tmp 6) = .slice p (List.length yw) c := by rw [← ha4, hput _ _ _ _ s3z (by omega)]; rfl
  have a4_1 : a4.eval (.tmp 1) = .int .i64 k := by rw [← ha4, hput _ _ _ _ s3z (by omega), if_neg (by omega), a3_1]
  refine ops_value (o := ⟨some 7, .move (.tmp 1), T4, p4, e4, none⟩) (v := .int .i64 k) (w' := w1) rfl rfl (by simp only [execOp, a4_1, Sem.run_pure]) ?_
  generalize ha5 : a4.put (some 7) (.int .i64 k) = a5
  have s5z : a5.tmps.size = 10 := ha5 ▸ hpsz _ _ _ s4z
  have d5 : a5.defers = [] := ha5 ▸ d4
  have a5_6 : a5.eval (.tmp 6) = .slice p (List.length yw) c := by rw [← ha5, hput _ _ _ _ s4z (by omega), if_neg (by omega), a4_6]
  have a5_7 : a5.eval (.tmp 7) = .int .i64 k := by rw [← ha5, hput _ _ _ _ s4z (by omega)]; rfl
  have hS4 : ∀ b, S4 b → Sm b := fun b hb => s1 b (s2 b (s3 b hb))
  have hcall := hw yw (k, ()) z' r [.slice p (List.length yw) c, .int .i64 k] (.slice p (List.length yw) c) [.slice p (List.length yw) c] S4 w1 hz' rfl
    ⟨.int .i64 k, [], rfl, ⟨[.int .i64 k], rfl, rfl⟩, rfl⟩ rfl (h4.agree fun b hb => hg1.same b (hSm b (hS4 b hb))) (fun b hb => Nat.lt_of_lt_of_le (hSm b (hS4 b hb)) hg1.size)
  have hrunC : (execOp a5.eval ⟨some 8, .call ⟨.value (.func gw), #[.tmp 6, .tmp 7], tys⟩, T5, p5, e5, none⟩).run P w1 = .ok (.enter gw [.slice p (List.length yw) c, .int .i64 k].toArray) w1 := by
    have e1 : ((#[] : Array Value) ++ (#[Operand.tmp 6, Operand.tmp 7] : Array Operand).map a5.eval) ++ #[] = [.slice p (List.length yw) c, .int .i64 k].toArray := by
      simp [a5_6, a5_7]
    simp only [execOp, resolve, Act.eval, Deferred.ofValue, Sem.run_bind, Sem.run_pure, Result.andThen_ok, invoke, callFunc, run_program, hfnw, hname, hbody, Bool.false_eq_true, if_false, e1]
  rw [wpOps_cons]
  refine wpOp_wanted (o := ⟨some 8, .call ⟨.value (.func gw), #[.tmp 6, .tmp 7], tys⟩, T5, p5, e5, none⟩) rfl rfl ?_
  simp only [Oper.wp, hrunC, Oper.upon]
  refine hcall.mono fun e w2 ⟨rv, S', he, hgrow, hcalm, hoth, hrep', hsub, hres⟩ => ?_
  subst he
  obtain ⟨cr, hr1, hr2⟩ := hres
  simp only [Rep] at hr2
  subst hr2
  simp only [Shape, Shape1, List.cons.injEq, and_true] at hr1
  subst hr1
  show wpOps P _ _ [4] (a5.put (some 8) (.int .i64 r)) w2
  generalize ha6 : a5.put (some 8) (.int .i64 r) = a6
  have s6z : a6.tmps.size = 10 := ha6 ▸ hpsz _ _ _ s5z
  have d6 : a6.defers = [] := ha6 ▸ d5
  have a6_8 : a6.eval (.tmp 8) = .int .i64 r := by rw [← ha6, hput _ _ _ _ s5z (by omega)]; rfl
  refine ops_value (o := ⟨some 1, .assign (.tmp 8), T6, p6, e6, none⟩) (v := .int .i64 r) (w' := w2) rfl rfl (by simp only [execOp, a6_8, Sem.run_pure]) ?_
  generalize ha7 : a6.put (some 1) (.int .i64 r) = a7
  have s7z : a7.tmps.size = 10 := ha7 ▸ hpsz _ _ _ s6z
  have d7 : a7.defers = [] := ha7 ▸ d6
  have a7_1 : a7.eval (.tmp 1) = .int .i64 r := by rw [← ha7, hput _ _ _ _ s6z (by omega)]; rfl
  show Code.wp P _ _ a7 w2
  refine wp_seq (wp_region ?_)
  show wpOps P _ _ [0, 1] a7 w2
  refine ops_value (o := ⟨some 9, .move (.tmp 1), T7, p7, e7, none⟩) (v := .int .i64 r) (w' := w2) rfl rfl (by simp only [execOp, a7_1, Sem.run_pure]) ?_
  generalize ha8 : a7.put (some 9) (.int .i64 r) = a8
  have s8z : a8.tmps.size = 10 := ha8 ▸ hpsz _ _ _ s7z
  have d8 : a8.defers = [] := ha8 ▸ d7
  have a8_9 : a8.eval (.tmp 9) = .int .i64 r := by rw [← ha8, hput _ _ _ _ s7z (by omega)]; rfl
  refine ops_value (o := ⟨some 4, .assign (.tmp 9), T8, p8, e8, none⟩) (v := .int .i64 r) (w' := w2) rfl rfl (by simp only [execOp, a8_9, Sem.run_pure]) ?_
  generalize ha9 : a8.put (some 4) (.int .i64 r) = a9
  have d9 : a9.defers = [] := ha9 ▸ d8
  have a9_4 : a9.eval (.tmp 4) = .int .i64 r := by rw [← ha9, hput _ _ _ _ s8z (by omega)]; rfl
  show Code.wp P _ _ a9 w2
  refine wp_ret ⟨d9, .int .i64 r, ?_, ?_⟩
  · unfold results
    rw [hr]
    have : a9.tmps.getD 4 undef = .int .i64 r := a9_4
    rw [Array.getD_eq_getD_getElem?] at this
    simp [this]
  · refine ⟨.int .i64 r, S', rfl, Nat.le_trans hg1.size hgrow, hg1.calm.trans hcalm, fun b hb hnb => ?_, ?_, fun b hb => ?_, ⟨[.int .i64 r], rfl, rfl⟩⟩
    · exact (hoth b (Nat.lt_of_lt_of_le hb hg1.size) fun h => hnb (hS4 b h)).trans (hg1.same b hb)
    · exact ⟨[.int .i64 y1], _, fun _ => False, S', rfl, rfl, ⟨[.int .i64 y2], _, fun _ => False, S', rfl, rfl, ⟨[.int .i64 y3], _, fun _ => False, S', rfl, rfl, hrep', by simp, fun _ h => h, by simp⟩, by simp, fun _ h => h, by simp⟩, by simp, fun _ h => h, by simp⟩
    · rcases hsub b hb with h | h
      · exact .inl (hS4 b h)
      · by_cases hlt : b < w.heap.size
        · have := hg1.size; omega
        · exact .inr ⟨by omega, h.2⟩
end Go.Sx
namespace Go.Sx
variable {P : Program}
noncomputable def revFn (y : List Int) (_ : Unit) : Option (List Int × Unit) := open Classical in if y.length ≤ 9223372036854775807 then some (y.reverse, ()) else none
theorem mutC_reverse {g : Nat} (hc : ∀ (blk off cap : Nat) (zs : List Int) (w : World), Go.Sort.Holds (Value.int .i64) w blk off zs.toArray → zs.length ≤ 9223372036854775807 →
      Calls P g #[.slice (some ⟨blk, off, none⟩) zs.length cap] w fun e w' => e = .returned (.tuple #[]) ∧ ∃ n, w' = Go.Sort.putRow (Value.int .i64) (Go.Sort.ahead w n) blk off zs.reverse.toArray)
    (he : ∀ (a : Option Addr) (cap : Nat) (w : World), Calls P g #[.slice a 0 cap] w fun e w' => e = .returned (.tuple #[]) ∧ w' = w) :
    MutC P g ⟨.slice (.num .i64), 0, [], none, revFn⟩ := by
  intro (y : List Int) xs (z : List Int) r vs vt cs S w hfn hvt hargs hsh hrep hS
  have hvs : vs = [vt] := by
    cases vs with
    | nil => simp at hvt
    | cons v vr =>
      simp at hvt; subst hvt
      simp only [List.eraseIdx_zero, List.tail_cons, ArgsOff] at hargs
      rw [hargs]
  subst hvs
  have hfn' : revFn y () = some (z, r) := hfn
  have hz : y.length ≤ 9223372036854775807 ∧ z = y.reverse := by
    unfold revFn at hfn'
    split at hfn'
    · rename_i h
      exact ⟨h, (congrArg Prod.fst (Option.some.inj hfn')).symm⟩
    · simp at hfn'
  obtain ⟨hlen, rfl⟩ := hz
  obtain ⟨p, c, hcs, hle, hrest⟩ := id hrep
  have hle : y.length ≤ c := hle
  have hcs : cs = [.slice p y.length c] := hcs
  subst hcs
  have hvt' : vt = .slice p y.length c := by
    simp only [Shape, Shape1, List.cons.injEq, and_true] at hsh; exact hsh.symm
  subst hvt'
  show Calls P g #[.slice p y.length c] w _
  by_cases hy : y.length = 0
  · have hy0 : y = [] := List.length_eq_zero_iff.1 hy
    subst hy0
    refine (he p c w).mono fun e w' ⟨e1, e2⟩ => ?_
    subst e1; subst e2
    exact ⟨_, S, rfl, Nat.le_refl _, Calm.refl _, fun _ _ _ => rfl, hrep, fun c hc => .inl hc, trivial⟩
  · rcases hrest with h0 | ⟨b, o, L, El, fz, rfl, hh, hSb, hf, hroom, Si, hel, _, _⟩
    · simp only [cond_true] at h0; omega
    obtain ⟨hfz, hcm⟩ := hf rfl
    subst hfz
    simp only [cond_true, Ty.size, Nat.mul_one] at hroom
    have hcell : ∀ (i : Nat) (v : Int), y[i]? = some v → L[o + i]? = some (.int .i64 v) := by
      intro i v hv
      have h1 := hel i v hv
      simp only [Rep, Ty.size, Nat.mul_one] at h1
      have h2 := congrArg (fun l => l[0]?) h1
      simp only [seg_get, List.getElem?_cons_zero] at h2
      simpa using h2
    have hholds : Go.Sort.Holds (Value.int .i64) w b o y.toArray := by
      intro j hj
      have hj' : j < y.length := by simpa using hj
      have hv : y[j]? = some y[j] := List.getElem?_eq_getElem hj'
      refine ⟨?_, ?_⟩
      · simp only [World.cell?, hh]
        rw [hcell j _ hv]
        simp [hj']
      · simp [World.frozen?, hh]
    refine (hc b o c y w hholds hlen).mono fun e w' ⟨e1, n, e2⟩ => ?_
    subst e1
    have hheap : ∀ k, w'.heap[k]? = if b = k then (w.heap[k]?).map (Go.Sort.onCells (Go.Sort.putCells (Value.int .i64) o y.reverse.toArray)) else w.heap[k]? := by
      intro k
      rw [e2]
      simp only [Go.Sort.putRow, Go.Sort.mapBlock, Go.Sort.ahead, Array.getElem?_modify]
    have hsz : w'.heap.size = w.heap.size := by rw [e2, Go.Sort.size_putRow]; rfl
    have hb' : w'.heap[b]? = some (.cells (Go.Sort.putCells (Value.int .i64) o y.reverse.toArray L) El (0, 0)) := by
      rw [hheap b, if_pos rfl, hh]; rfl
    refine ⟨_, S, rfl, by rw [hsz]; exact Nat.le_refl _, ⟨by rw [e2]; rfl, by rw [e2]; rfl, fun a => by rw [e2, Go.Sort.frozen?_putRow]; rfl⟩, fun k hk hnS => ?_, ?_, fun c hc => .inl hc, trivial⟩
    · rw [hheap k, if_neg]; rintro rfl; exact hnS hSb
    · refine ⟨some ⟨b, o, none⟩, c, ?_, ?_, .inr ⟨b, o, _, El, (0, 0), rfl, hb', hSb, fun _ => ⟨rfl, hcm⟩, ?_, fun _ _ => False, fun i v hv => ?_, fun _ _ h => h.elim, fun _ _ _ _ _ h => h.elim⟩⟩
      · show [Value.slice (some ⟨b, o, none⟩) y.length c] = [.slice (some ⟨b, o, none⟩) y.reverse.length c]
        rw [List.length_reverse]
      · show y.reverse.length ≤ c
        rw [List.length_reverse]; exact hle
      · simp only [cond_true, Ty.size, Nat.mul_one, Go.Sort.putCells, Array.size_mapIdx]; exact hroom
      · have hv : y.reverse[i]? = some v := hv
        have hi : i < y.length := by have := (List.getElem?_eq_some_iff.1 hv).1; simpa using this
        have hLi : o + i < L.size := by omega
        simp only [Rep, Ty.size, Nat.mul_one]
        apply List.ext_getElem?; intro j
        rw [seg_get]
        by_cases hj : j = 0
        · subst hj
          rw [if_pos (by omega)]
          simp only [Nat.add_zero, Go.Sort.putCells, List.getElem?_cons_zero]
          rw [Array.getElem?_toList, Array.getElem?_mapIdx, Array.getElem?_eq_getElem hLi]
          have hcond : o ≤ o + i ∧ o + i < o + y.reverse.toArray.size := by simp; omega
          simp only [Option.map_some, if_pos hcond]
          have : (y.reverse.toArray)[o + i - o]! = v := by
            have e : o + i - o = i := by omega
            rw [e]
            have h3 : (y.reverse.toArray)[i]? = some v := by rw [List.getElem?_toArray]; exact hv
            rw [getElem!_def, h3]
          rw [this]
        · rw [if_neg (by omega), List.getElem?_eq_none (by simp; omega)]
end Go.Sx
namespace Go.Sx
variable {P : Program}
noncomputable def delFn (y : List Int) (a : Int × Int × Unit) : Option (List Int × List Int) :=
  cond (decide (0 ≤ a.1 ∧ a.1 ≤ a.2.1 ∧ a.2.1 ≤ (y.length : Int))) (some (y, y.take a.1.toNat ++ y.drop a.2.1.toNat)) none
theorem delFn_some {y z r : List Int} {a : Int × Int × Unit} (h : delFn y a = some (z, r)) : (0 ≤ a.1 ∧ a.1 ≤ a.2.1 ∧ a.2.1 ≤ (y.length : Int)) ∧ r = y.take a.1.toNat ++ y.drop a.2.1.toNat := by
  unfold delFn at h
  cases hd : decide (0 ≤ a.1 ∧ a.1 ≤ a.2.1 ∧ a.2.1 ≤ (y.length : Int)) with
  | false => rw [hd] at h; simp at h
  | true =>
    rw [hd] at h
    simp only [cond_true, Option.some.injEq, Prod.mk.injEq] at h
    exact ⟨by simpa using hd, h.2.symm⟩
theorem takeC_delete {g : Nat} (hc : ∀ (blk off cap i j : Nat) (zs : List Int) (w : World), Go.Sort.Holds (Value.int .i64) w blk off zs.toArray → zs.length ≤ cap → cap ≤ 9223372036854775807 → i ≤ j → j ≤ zs.length →
      Calls P g #[.slice (some ⟨blk, off, none⟩) zs.length cap, .int .i64 i, .int .i64 j] w fun e w' => e = .returned (.slice (some ⟨blk, off, none⟩) (zs.length - (j - i)) cap) ∧ ∃ q, w' = Go.Sort.putRow (Value.int .i64) (Go.Sort.ahead w q) blk off (zs.take i ++ zs.drop j ++ List.replicate (j - i) 0).toArray)
    (he : ∀ (a : Option Addr) (cap : Nat) (w : World), Calls P g #[.slice a 0 cap, .int .i64 0, .int .i64 0] w fun e w' => e = .returned (.slice a 0 cap) ∧ w' = w) :
    TakeC P g ⟨.slice (.num .i64), 0, [.num .i64, .num .i64], some (.slice (.num .i64)), delFn⟩ := by
  intro (y : List Int) (xs : Int × Int × Unit) (z : List Int) (r : List Int) vs vt cs S w hfn hvt hargs hsh hrep hS
  obtain ⟨i, j, u⟩ := xs
  obtain ⟨⟨hi0, hij, hj⟩, rfl⟩ := delFn_some (show delFn y (i, j, u) = some (z, r) from hfn)
  simp only at hi0 hij hj
  obtain ⟨I, rfl⟩ : ∃ I : Nat, i = I := ⟨i.toNat, by omega⟩
  obtain ⟨J, rfl⟩ : ∃ J : Nat, j = J := ⟨j.toNat, by omega⟩
  have hvs : vs = [vt, .int .i64 I, .int .i64 J] := by
    cases vs with
    | nil => simp at hvt
    | cons v vr =>
      simp at hvt; subst hvt
      simp only [List.eraseIdx_zero, List.tail_cons, ArgsOff] at hargs
      obtain ⟨v1, r1, rfl, ⟨c1, s1, p1⟩, v2, r2, rfl, ⟨c2, s2, p2⟩, rfl⟩ := hargs
      simp only [Rep] at p1 p2
      subst p1; subst p2
      simp only [Shape, Shape1, List.cons.injEq, and_true] at s1 s2
      rw [s1, s2]
  subst hvs
  obtain ⟨p, c, hcs, hle, hrest⟩ := id hrep
  have hle : y.length ≤ c := hle
  have hcs : cs = [.slice p y.length c] := hcs
  subst hcs
  have hvt' : vt = .slice p y.length c := by
    simp only [Shape, Shape1, List.cons.injEq, and_true] at hsh; exact hsh.symm
  subst hvt'
  simp only [Int.toNat_natCast]
  show Calls P g #[.slice p y.length c, .int .i64 I, .int .i64 J] w _
  by_cases hy : y.length = 0
  · have hy0 : y = [] := List.length_eq_zero_iff.1 hy
    subst hy0
    have hJ : J = 0 := by simp at hj; omega
    have hI : I = 0 := by omega
    subst hJ; subst hI
    refine (he p c w).mono fun e w' ⟨e1, e2⟩ => ?_
    subst e1; subst e2
    exact ⟨_, S, rfl, Nat.le_refl _, Calm.refl _, fun _ _ _ => rfl, fun c hc => .inl hc, _, rfl, hrep⟩
  · rcases hrest with h0 | ⟨b, o, L, El, fz, rfl, hh, hSb, hf, hroom, Si, hel, _, _⟩
    · simp only [cond_true] at h0; omega
    obtain ⟨hfz, hcm⟩ := hf rfl
    subst hfz
    simp only [cond_true, Ty.size, Nat.mul_one] at hroom
    have hcell : ∀ (i : Nat) (v : Int), y[i]? = some v → L[o + i]? = some (.int .i64 v) := by
      intro i v hv
      have h1 := hel i v hv
      simp only [Rep, Ty.size, Nat.mul_one] at h1
      have h2 := congrArg (fun l => l[0]?) h1
      simp only [seg_get, List.getElem?_cons_zero] at h2
      simpa using h2
    have hholds : Go.Sort.Holds (Value.int .i64) w b o y.toArray := by
      intro j hj
      have hj' : j < y.length := by simpa using hj
      have hv : y[j]? = some y[j] := List.getElem?_eq_getElem hj'
      refine ⟨?_, ?_⟩
      · simp only [World.cell?, hh]
        rw [hcell j _ hv]
        simp [hj']
      · simp [World.frozen?, hh]
    have hJl : J ≤ y.length := by omega
    have hIJ : I ≤ J := by omega
    refine (hc b o c I J y w hholds hle hcm hIJ hJl).mono fun e w' ⟨e1, n, e2⟩ => ?_
    subst e1
    generalize hN : y.take I ++ y.drop J ++ List.replicate (J - I) 0 = N at e2
    have hNl : N.length = y.length := by rw [← hN]; simp; omega
    have hheap : ∀ k, w'.heap[k]? = if b = k then (w.heap[k]?).map (Go.Sort.onCells (Go.Sort.putCells (Value.int .i64) o N.toArray)) else w.heap[k]? := by
      intro k
      rw [e2]
      simp only [Go.Sort.putRow, Go.Sort.mapBlock, Go.Sort.ahead, Array.getElem?_modify]
    have hsz : w'.heap.size = w.heap.size := by rw [e2, Go.Sort.size_putRow]; rfl
    have hb' : w'.heap[b]? = some (.cells (Go.Sort.putCells (Value.int .i64) o N.toArray L) El (0, 0)) := by
      rw [hheap b, if_pos rfl, hh]; rfl
    have hrl : (y.take I ++ y.drop J).length = y.length - (J - I) := by simp; omega
    refine ⟨_, S, rfl, by rw [hsz]; exact Nat.le_refl _, ⟨by rw [e2]; rfl, by rw [e2]; rfl, fun a => by rw [e2, Go.Sort.frozen?_putRow]; rfl⟩, fun k hk hnS => ?_, fun c hc => .inl hc, [.slice (some ⟨b, o, none⟩) (y.length - (J - I)) c], rfl, ?_⟩
    · rw [hheap k, if_neg]; rintro rfl; exact hnS hSb
    · refine ⟨some ⟨b, o, none⟩, c, ?_, ?_, .inr ⟨b, o, _, El, (0, 0), rfl, hb', hSb, fun _ => ⟨rfl, hcm⟩, ?_, fun _ _ => False, fun i v hv => ?_, fun _ _ h => h.elim, fun _ _ _ _ _ h => h.elim⟩⟩
      · show [Value.slice (some ⟨b, o, none⟩) (y.length - (J - I)) c] = [.slice (some ⟨b, o, none⟩) (y.take I ++ y.drop J).length c]
        rw [hrl]
      · show (y.take I ++ y.drop J).length ≤ c
        rw [hrl]; omega
      · simp only [cond_true, Ty.size, Nat.mul_one, Go.Sort.putCells, Array.size_mapIdx]; exact hroom
      · have hv : (y.take I ++ y.drop J)[i]? = some v := hv
        have hi : i < (y.take I ++ y.drop J).length := (List.getElem?_eq_some_iff.1 hv).1
        have hiN : i < N.length := by rw [hNl]; omega
        have hvN : N[i]? = some v := by
          rw [← hN, List.getElem?_append_left hi]; exact hv
        have hLi : o + i < L.size := by omega
        simp only [Rep, Ty.size, Nat.mul_one]
        apply List.ext_getElem?; intro j
        rw [seg_get]
        by_cases hj : j = 0
        · subst hj
          rw [if_pos (by omega)]
          simp only [Nat.add_zero, Go.Sort.putCells, List.getElem?_cons_zero]
          rw [Array.getElem?_toList, Array.getElem?_mapIdx, Array.getElem?_eq_getElem hLi]
          have hcond : o ≤ o + i ∧ o + i < o + N.toArray.size := by simp; omega
          simp only [Option.map_some, if_pos hcond]
          have : (N.toArray)[o + i - o]! = v := by
            have e : o + i - o = i := by omega
            rw [e]
            have h3 : (N.toArray)[i]? = some v := by rw [List.getElem?_toArray]; exact hvN
            rw [getElem!_def, h3]
          rw [this]
        · rw [if_neg (by omega), List.getElem?_eq_none (by simp; omega)]
end Go.Sx
namespace Go.Sx
variable {α : Type} {w0 : World} {f : Frame} {a : Act} {w : World} {own : Own} {P : Program} {E : Env}
def CapsOk (w : World) : (ts : List Ty) → List Value → Args ts → Prop
  | [], vs, _ => vs = []
  | t :: ts, vs, xs => ∃ b L El vr, vs = .pointer (some ⟨b, 0, none⟩) :: vr ∧ w.heap[b]? = some (.cells L El (0, 0)) ∧ L.size = t.size ∧ Rep false w t L.toList xs.1 (fun c => c < w.heap.size) ∧ CapsOk w ts vr xs.2
def initC : Nat → (ts : List Ty) → Args ts → List Slot
  | n, [], _ => List.replicate n .dead
  | n, t :: ts, y => .radr none t y.1 :: initC (n - 1) ts y.2
def initR (n : Nat) (ts : List Ty) (xs : Args ts) (caps : List Ty) (ys : Args caps) : Frame := initS ts.length ts xs ++ initC (n - ts.length) caps ys
theorem heap_blk {w : World} {b : Nat} {o : Obj} (h : w.heap[b]? = some o) : b < w.heap.size := by
  rcases Nat.lt_or_ge b w.heap.size with h' | h'
  · exact h'
  · simp [Array.getElem?_eq_none h'] at h
theorem initC_spec : ∀ (ts : List Ty) (n : Nat) (xs : Args ts) (vs : List Value) (w : World), CapsOk w ts vs xs → ts.length ≤ n → vs.length = ts.length ∧ (initC n ts xs).length = n ∧
    ∀ (i : Nat) (s : Slot), (initC n ts xs)[i]? = some s → s = Slot.dead ∨ ∃ t x v, s = Slot.radr none t x ∧ vs[i]? = some v ∧ ∃ b L El, v = .pointer (some ⟨b, 0, none⟩) ∧ w.heap[b]? = some (.cells L El (0, 0)) ∧ L.size = t.size ∧ Rep false w t L.toList x (fun c => c < w.heap.size)
  | [], n, xs, vs, w, h, _ => by
    simp only [CapsOk] at h; subst h
    refine ⟨rfl, by simp [initC], fun i s hi => ?_⟩
    simp only [initC, List.getElem?_replicate] at hi
    split at hi <;> simp at hi
    exact .inl hi.symm
  | t :: ts, n, xs, vs, w, h, hn => by
    obtain ⟨b, L, El, vr, rfl, h1, h2, h3, h⟩ := h
    simp only [List.length_cons] at hn
    obtain ⟨i1, i2, i3⟩ := initC_spec ts (n - 1) xs.2 vr w h (by omega)
    refine ⟨by simp [i1], by simp [initC, i2]; omega, fun i s hi => ?_⟩
    cases i with
    | zero =>
      simp [initC] at hi
      exact .inr ⟨t, xs.1, _, hi.symm, rfl, b, L, El, rfl, h1, h2, h3⟩
    | succ i =>
      simp [initC] at hi
      rcases i3 i s hi with h | ⟨t', x', v', e1, e2, e3⟩
      · exact .inl h
      · exact .inr ⟨t', x', v', e1, by simpa using e2, e3⟩
theorem contractR (hE : EnvOk P E) (ha : E.amb = none) (hm : P.follows .mixedOrders = true) {g : Nat} {fn : Func} {c : Code} (hf : P.funcs[g]? = some fn) (hb : fn.body = some c) {ts caps : List Ty} {res : Ty} (hn : ts.length + caps.length ≤ fn.ntmps)
    {N : Nat} {ann : List (Nat × Loop res.den)} {xs : Args ts} {ys : Args caps} {r : res.den} (hl : LoopsOk N E ann fn.ntmps (retOf E fn res) (loopsOf c))
    (hk : runK N E ann fn.ntmps (retOf E fn res) c (initR fn.ntmps ts xs caps ys) (fun _ _ => none) (retOf E fn res) = some r) {vs ws : List Value} {w : World} (hargs : ArgsOk w ts vs xs) (hcaps : CapsOk w caps ws ys) :
    Calls P g (vs ++ ws).toArray w fun e w' => ∃ v cs, e = .returned v ∧ Grow w w' ∧ Shape res v cs ∧ Rep true w' res cs r (fun c => w.heap.size ≤ c ∧ c < w'.heap.size) := by
  obtain ⟨i1, i2, i3⟩ := initS_spec ts ts.length xs vs w hargs (Nat.le_refl _)
  obtain ⟨j1, j2, j3⟩ := initC_spec caps (fn.ntmps - ts.length) ys ws w hcaps (by omega)
  have hflen : (initR fn.ntmps ts xs caps ys).length = fn.ntmps := by simp only [initR, List.length_append, i2, j2]; omega
  have hget : ∀ i v, (vs ++ ws)[i]? = some v → ((vs ++ ws).toArray ++ Array.replicate (fn.ntmps - (vs ++ ws).toArray.size) undef).getD i undef = v := by
    intro i v hv
    have hlt : i < (vs ++ ws).length := (List.getElem?_eq_some_iff.1 hv).1
    rw [Array.getD_eq_getD_getElem?, Array.getElem?_append_left (by simpa using hlt), List.getElem?_toArray, hv]
    rfl
  have hinv : InvP w noLent (initR fn.ntmps ts xs caps ys) { tmps := (vs ++ ws).toArray ++ Array.replicate (fn.ntmps - (vs ++ ws).toArray.size) undef, defers := [] } w (fun _ => none) := by
    refine ⟨⟨rfl, ?_, fun _ _ => rfl, fun i s hi => ?_, Nat.le_refl _, fun _ _ _ => ⟨rfl, rfl⟩, Calm.refl w⟩, fun i v h => by simp [noLent] at h⟩
    · rw [hflen]; simp [i1, j1]; omega
    · simp only [initR] at hi
      rw [List.getElem?_append] at hi
      split at hi
      · rename_i hlt
        rw [i2] at hlt
        rcases i3 i s hi with rfl | ⟨t, x, v, rfl, hv, cs, hs, hrep⟩
        · trivial
        · refine ⟨cs, ?_, hrep.mono fun c hc => ⟨rfl, hc⟩⟩
          rw [hget i v (by rw [List.getElem?_append_left (by omega)]; exact hv)]; exact hs
      · rename_i hlt
        rw [i2] at hlt hi
        rcases j3 _ s hi with rfl | ⟨t, x, v, rfl, hv, b, L, El, rfl, h1, h2, h3⟩
        · trivial
        · refine ⟨b, 0, L, El, (0, 0), ?_, h1, ⟨rfl, heap_blk h1⟩, by omega, ?_⟩
          · exact hget i _ (by rw [List.getElem?_append_right (by omega), i1]; exact hv)
          · have : seg L 0 t.size = L.toList := by
              simp only [seg, List.drop_zero]
              exact List.take_of_length_le (by simp; omega)
            rw [this]
            exact h3.mono fun c hc => ⟨rfl, hc⟩
  refine calls_of_wp hf hb ?_
  have fin : ∀ (f : Frame) (a : Act) (w' : World) (own : Own), retOf E fn res f = some r → InvP w noLent f a w' own →
      a.defers = [] ∧ ∃ v, (results fn a.tmps).run P w' = .ok v w' ∧ ∃ v' cs, Ending.returned v = .returned v' ∧ Grow w w' ∧ Shape res v' cs ∧ Rep true w' res cs r (fun c => w.heap.size ≤ c ∧ c < w'.heap.size) := by
    intro f a w' own hk h
    have h := h.base
    obtain ⟨x, ls, val, cs, hK, hrun, hs, hrep⟩ := retsK_sound hE h hk
    simp at hK; subst hK
    refine ⟨h.defers, val, hrun, val, cs, rfl, ⟨h.grow, fun b hb => (h.old b hb id).2, h.calm⟩, hs, hrep.mono fun c ⟨l, _, hc⟩ => ⟨?_, hc.2⟩⟩
    rcases Nat.lt_or_ge c w.heap.size with hlt | hge
    · have := (h.old c hlt id).1
      rw [hc.1] at this; simp at this
    · exact hge
  have hat : EnvAt P E w noLent.mem := ⟨hE, fun b r e => by rw [ha] at e; simp at e⟩
  exact (runK_sound N ann fn.ntmps (retOf E fn res) hat (drawOk_sound hat hm) c).1 (free_none c) _ _ _ _ w _ _ hl hflen hinv hk (fun f a w' own _ hk h => fin f a w' own hk h) (fun _ _ _ _ _ _ hk _ => by simp at hk) (fun f a w' own _ hk h => fin f a w' own hk h)
end Go.Sx
namespace Go.Sx
open Go Go.Proofs Go.RowKit
theorem Grow.trans {w w1 w2 : World} (h : Grow w w1) (h' : Grow w1 w2) : Grow w w2 :=
  ⟨Nat.le_trans h.size h'.size, fun b hb => (h'.same b (Nat.lt_of_lt_of_le hb h.size)).trans (h.same b hb), h.calm.trans h'.calm⟩
theorem heap_in {w : World} {b : Nat} {o : Obj} (h : w.heap[b]? = some o) : b < w.heap.size := by
  rcases Nat.lt_or_ge b w.heap.size with h' | h'
  · exact h'
  · simp [Array.getElem?_eq_none h'] at h
theorem Grow.alloc (w : World) (L : Array Value) (T : TypeId) : Grow w (w.alloc (.cells L T)) := by
  refine ⟨by simp only [World.alloc, Array.size_push]; omega, fun b hb => ?_, rfl, rfl, fun a => ?_⟩
  · simp only [World.alloc, Array.getElem?_push, Nat.ne_of_lt hb, if_false]
  · simp only [World.frozen?, World.alloc, Array.getElem?_push]
    by_cases h : a.block = w.heap.size
    · rw [if_pos h, Array.getElem?_eq_none (by omega)]
      simp
    · rw [if_neg h]
theorem alloc_new (w : World) (o : Obj) : (w.alloc o).heap[w.heap.size]? = some o := by
  simp only [World.alloc, Array.getElem?_push_size]
theorem alloc_size (w : World) (o : Obj) : (w.alloc o).heap.size = w.heap.size + 1 := by
  simp only [World.alloc, Array.size_push]
structure Rew (w wr : World) (blk off : Nat) (El : TypeId) (L : Array Value) (dk : List (Int × Int)) : Prop where
  size : w.heap.size ≤ wr.heap.size
  calm : Calm w wr
  other : ∀ c, c < w.heap.size → c ≠ blk → wr.heap[c]? = w.heap[c]?
  row : ∃ L' : Array Value, wr.heap[blk]? = some (.cells L' El (0, 0)) ∧ L'.size = L.size ∧ ∀ t x, dk[t]? = some x → L'[off + t * 2]? = some (.int .i64 x.1) ∧ L'[off + t * 2 + 1]? = some (.int .i64 x.2)
variable {w wr : World} {b off : Nat} {El : TypeId} {L : Array Value} {dk : List (Int × Int)}
theorem Rew.grow (h : Rew w wr b off El L dk) {w' : World} (hg : Grow wr w') : Rew w w' b off El L dk := by
  obtain ⟨L', h1, h2, h3⟩ := h.row
  exact ⟨Nat.le_trans h.size hg.size, h.calm.trans hg.calm, fun c hc hn => (hg.same c (Nat.lt_of_lt_of_le hc h.size)).trans (h.other c hc hn), L', (hg.same b (heap_in h1)).trans h1, h2, h3⟩
theorem setCell_block {w : World} {b o : Nat} {v : Value} {L : Array Value} {T : TypeId} {fz : Nat × Nat} (h : w.heap[b]? = some (.cells L T fz)) : (w.setCell ⟨b, o, none⟩ v).heap[b]? = some (.cells (L.setIfInBounds o v) T fz) := by
  simp only [World.setCell, Array.getElem?_modify, if_true, h]; rfl
theorem setCell_others {w : World} {b o c : Nat} {v : Value} (h : c ≠ b) : (w.setCell ⟨b, o, none⟩ v).heap[c]? = w.heap[c]? := by
  simp only [World.setCell, Array.getElem?_modify, if_neg (Ne.symm h)]
theorem setCell_calm (w : World) (b o : Nat) (v : Value) : Calm w (w.setCell ⟨b, o, none⟩ v) := ⟨rfl, rfl, fun _a => World.frozen?_setCell _ _ _ _⟩
theorem Rew.put (h : Rew w wr b off El L dk) {i : Nat} (hi : i < dk.length) (x : Int × Int) :
    Rew w ((wr.setCell ⟨b, off + i * 2, none⟩ (.int .i64 x.1)).setCell ⟨b, off + i * 2 + 1, none⟩ (.int .i64 x.2)) b off El L (dk.set i x) := by
  obtain ⟨L', h1, h2, h3⟩ := h.row
  refine ⟨by simpa using h.size, h.calm.trans ((setCell_calm _ _ _ _).trans (setCell_calm _ _ _ _)), fun c hc hn => by rw [setCell_others hn, setCell_others hn]; exact h.other c hc hn, _, setCell_block (setCell_block h1), by simpa using h2, fun t y hy => ?_⟩
  have hin := h3 i dk[i] (List.getElem?_eq_getElem hi)
  have hb1 := (Array.getElem?_eq_some_iff.1 hin.1).1
  have hb2 := (Array.getElem?_eq_some_iff.1 hin.2).1
  rw [List.getElem?_set] at hy
  simp only [Array.getElem?_setIfInBounds, Array.size_setIfInBounds]
  by_cases e : i = t
  · subst e
    rw [if_pos rfl, if_pos hi] at hy
    simp only [Option.some.injEq] at hy; subst hy
    rw [if_neg (by omega), if_pos rfl, if_pos hb1, if_pos rfl, if_pos hb2]
    exact ⟨rfl, rfl⟩
  · rw [if_neg e] at hy
    obtain ⟨k1, k2⟩ := h3 t y hy
    rw [if_neg (by omega), if_neg (by omega), if_neg (by omega), if_neg (by omega)]
    exact ⟨k1, k2⟩
theorem setCells_block {b : Nat} {T : TypeId} {fz : Nat × Nat} : ∀ (vs : List Value) (o : Nat) {w : World} {L : Array Value}, w.heap[b]? = some (.cells L T fz) → ∃ L', (w.setCells b o vs).heap[b]? = some (.cells L' T fz) ∧ L'.size = L.size ∧ ∀ t, t < o → L'[t]? = L[t]?
  | [], o, w, L, h => ⟨L, h, rfl, fun _ _ => rfl⟩
  | v :: vs, o, w, L, h => by
    obtain ⟨L', h1, h2, h3⟩ := setCells_block vs (o + 1) (setCell_block (o := o) (v := v) h)
    refine ⟨L', h1, by simpa using h2, fun t ht => ?_⟩
    rw [h3 t (by omega), Array.getElem?_setIfInBounds, if_neg (by omega)]
theorem setCells_other' {b c : Nat} (hn : c ≠ b) : ∀ (vs : List Value) (o : Nat) {w : World}, (w.setCells b o vs).heap[c]? = w.heap[c]?
  | [], _, _ => rfl
  | _v :: vs, o, _w => (setCells_other' hn vs (o + 1)).trans (setCell_others hn)
theorem setCells_size {b : Nat} : ∀ (vs : List Value) (o : Nat) {w : World}, (w.setCells b o vs).heap.size = w.heap.size
  | [], _, _ => rfl
  | v :: vs, o, w => (setCells_size vs (o + 1)).trans (by simp)
theorem setCells_calm {b : Nat} : ∀ (vs : List Value) (o : Nat) (w : World), Calm w (w.setCells b o vs)
  | [], _, w => Calm.refl w
  | v :: vs, o, w => (setCell_calm w b o v).trans (setCells_calm vs (o + 1) _)
theorem Rew.wipe (h : Rew w wr b off El L dk) (i : Nat) (vs : List Value) : Rew w (wr.setCells b (off + i * 2) vs) b off El L (dk.take i) := by
  obtain ⟨L', h1, h2, h3⟩ := h.row
  obtain ⟨L2, k1, k2, k3⟩ := setCells_block vs (off + i * 2) h1
  refine ⟨by rw [setCells_size]; exact h.size, h.calm.trans (setCells_calm _ _ _), fun c hc hn => by rw [setCells_other' hn]; exact h.other c hc hn, L2, k1, by omega, fun t x hx => ?_⟩
  rw [List.getElem?_take] at hx
  split at hx
  · rename_i ht
    obtain ⟨q1, q2⟩ := h3 t x hx
    rw [k3 _ (by omega), k3 _ (by omega)]
    exact ⟨q1, q2⟩
  · simp at hx
theorem Rew.cells (h : Rew w wr b off El L dk) {i : Nat} {x : Int × Int} (hi : dk[i]? = some x) : wr.cell? ⟨b, off + i * 2, none⟩ = some (.int .i64 x.1) ∧ wr.cell? ⟨b, off + i * 2 + 1, none⟩ = some (.int .i64 x.2) ∧
    wr.frozen? ⟨b, off + i * 2, none⟩ = false ∧ wr.frozen? ⟨b, off + i * 2 + 1, none⟩ = false := by
  obtain ⟨L', h1, h2, h3⟩ := h.row
  obtain ⟨q1, q2⟩ := h3 i x hi
  simp only [World.cell?, World.frozen?, h1]
  exact ⟨q1, q2, by simp, by simp⟩
end Go.Sx
namespace Go.Sx
variable {P : Program} {E : Env} {w wr : World}
abbrev T1 : Ty := .slice (.num .i64)
abbrev T2 : Ty := .slice T1
abbrev T3 : Ty := .slice T2
def Drain (w : World) (p : Option Addr) (c : Nat) (Q : List (List Int)) (j : Nat) (S : Nat → Prop) : Prop :=
  Q.length ≤ c ∧ (Q = [] ∨ ∃ b o L El fz, p = some ⟨b, o, none⟩ ∧ w.heap[b]? = some (.cells L El fz) ∧ S b ∧
    ∃ Si : Nat → Nat → Prop, (∀ i y, j ≤ i → Q[i]? = some y → Rep true w T1 (seg L (o + i) 1) y (Si i)) ∧ (∀ i c, j ≤ i → Si i c → S c ∧ c ≠ b) ∧ (∀ i i' c, j ≤ i → j ≤ i' → i ≠ i' → Si i c → ¬ Si i' c))
theorem Drain.of {p : Option Addr} {n c : Nat} {Q : List (List Int)} {S : Nat → Prop} (h : Rep true w T2 [.slice p n c] Q S) : Drain w p c Q 0 S ∧ n = Q.length := by
  obtain ⟨p', c', hc, hle, h⟩ := h
  have hle : Q.length ≤ c' := hle
  simp only [List.cons.injEq, Value.slice.injEq, and_true] at hc
  obtain ⟨rfl, hn, rfl⟩ := hc
  refine ⟨⟨hle, ?_⟩, hn⟩
  rcases h with h | ⟨b, o, L, El, fz, rfl, hh, hS, hf, hroom, Si, h1, h2, h3⟩
  · simp only [cond_true] at h
    exact .inl (List.length_eq_zero_iff.1 (by omega))
  · refine .inr ⟨b, o, L, El, fz, rfl, hh, hS, Si, fun i y _ hy => ?_, fun i c _ hc => ⟨(h2 i c hc).1, (h2 i c hc).2 rfl⟩, fun i i' c _ _ hne => h3 rfl i i' c hne⟩
    have := h1 i y hy
    simpa [Ty.size] using this
theorem Drain.agree {p : Option Addr} {c j : Nat} {Q : List (List Int)} {S : Nat → Prop} (h : Drain w p c Q j S) (hs : ∀ c, S c → wr.heap[c]? = w.heap[c]?) : Drain wr p c Q j S := by
  obtain ⟨hl, h⟩ := h
  refine ⟨hl, ?_⟩
  rcases h with h | ⟨b, o, L, El, fz, rfl, hh, hS, Si, h1, h2, h3⟩
  · exact .inl h
  · exact .inr ⟨b, o, L, El, fz, rfl, (hs b hS).trans hh, hS, Si, fun i y hi hy => (h1 i y hi hy).agree fun c hc => hs c (h2 i c hi hc).1, h2, h3⟩
theorem Drain.take {p : Option Addr} {c j : Nat} {Q : List (List Int)} {S : Nat → Prop} {y : List Int} (h : Drain w p c Q j S) (hy : Q[j]? = some y) :
    ∃ b o u S1, p = some ⟨b, o, none⟩ ∧ w.cell? ⟨b, o + j, none⟩ = some u ∧ Rep true w T1 [u] y S1 ∧ (∀ c, S1 c → S c) ∧ Drain w p c Q (j + 1) (fun c => S c ∧ ¬ S1 c) := by
  obtain ⟨hl, h⟩ := h
  have hj := (List.getElem?_eq_some_iff.1 hy).1
  rcases h with h | ⟨b, o, L, El, fz, rfl, hh, hS, Si, h1, h2, h3⟩
  · rw [h] at hj; simp at hj
  · have hr := h1 j y (Nat.le_refl _) hy
    obtain ⟨pu, cu, hcu, hrest⟩ := id hr
    have hu := congrArg (fun l => l[0]?) hcu
    simp only [seg_get] at hu
    have hu : L[o + j]? = some (.slice pu y.length cu) := by
      have h9 := hu
      rw [if_pos (by decide), Nat.add_zero, Array.getElem?_toList] at h9
      exact h9
    refine ⟨b, o, .slice pu y.length cu, Si j, rfl, by simp only [World.cell?, hh]; exact hu, ?_, fun c hc => (h2 j c (Nat.le_refl _) hc).1, hl, .inr ⟨b, o, L, El, fz, rfl, hh, ⟨hS, fun hc => (h2 j b (Nat.le_refl _) hc).2 rfl⟩, Si, fun i y hi => h1 i y (by omega), fun i c hi hc => ⟨⟨(h2 i c (by omega) hc).1, h3 i j c (by omega) (Nat.le_refl _) (by omega) hc⟩, (h2 i c (by omega) hc).2⟩, fun i i' c hi hi' => h3 i i' c (by omega) (by omega)⟩⟩
    have hcu : seg L (o + j) 1 = [.slice pu y.length cu] := hcu
    rw [hcu] at hr
    exact hr
structure Gath (w wr : World) (vo : Value) (out : List (List (List Int))) (vp : Value) (p : List Int) (vP : Value) (P : List (List Int)) (pq : Option Addr) (cq : Nat) (Q : List (List Int)) (j : Nat) : Prop where
  grow : Grow w wr
  ex : ∃ So SP SQ : Nat → Prop, Rep true wr T3 [vo] out So ∧ Rep false wr T1 [vp] p SP ∧ Rep false wr T2 [vP] P SP ∧ Drain wr pq cq Q j SQ ∧ (∀ c, So c → ¬ SP c ∧ ¬ SQ c) ∧ (∀ c, SQ c → ¬ SP c) ∧
    (∀ c, So c → w.heap.size ≤ c ∧ c < wr.heap.size) ∧ (∀ c, SP c → c < wr.heap.size) ∧ (∀ c, SQ c → w.heap.size ≤ c ∧ c < wr.heap.size)
variable {vo vp vP : Value} {out : List (List (List Int))} {p : List Int} {PL Q : List (List Int)} {pq : Option Addr} {cq j : Nat}
theorem Gath.later (h : Gath w wr vo out vp p vP PL pq cq Q j) {w' : World} (hg : Grow wr w') : Gath w w' vo out vp p vP PL pq cq Q j := by
  obtain ⟨So, SP, SQ, h1, h2, h3, h4, h5, h6, h7, h8, h9⟩ := h.ex
  have hs : ∀ c, c < wr.heap.size → w'.heap[c]? = wr.heap[c]? := fun c hc => hg.same c hc
  exact ⟨h.grow.trans hg, So, SP, SQ, h1.agree fun c hc => hs c (h7 c hc).2, h2.agree fun c hc => hs c (h8 c hc), h3.agree fun c hc => hs c (h8 c hc), h4.agree fun c hc => hs c (h9 c hc).2, h5, h6,
    fun c hc => ⟨(h7 c hc).1, Nat.lt_of_lt_of_le (h7 c hc).2 hg.size⟩, fun c hc => Nat.lt_of_lt_of_le (h8 c hc) hg.size, fun c hc => ⟨(h9 c hc).1, Nat.lt_of_lt_of_le (h9 c hc).2 hg.size⟩⟩
theorem Gath.skip (h : Gath w wr vo out vp p vP PL pq cq Q j) {y : List Int} (hy : Q[j]? = some y) : Gath w wr vo out vp p vP PL pq cq Q (j + 1) := by
  obtain ⟨So, SP, SQ, h1, h2, h3, h4, h5, h6, h7, h8, h9⟩ := h.ex
  obtain ⟨b, o, u, S1, _, _, _, _, hd⟩ := h4.take hy
  exact ⟨h.grow, So, SP, _, h1, h2, h3, hd, fun c hc => ⟨(h5 c hc).1, fun hq => (h5 c hc).2 hq.1⟩, fun c hc => h6 c hc.1, h7, h8, fun c hc => h9 c hc.1⟩
theorem rep_cells {w : World} {t : Ty} {b n : Nat} {L : Array Value} {El : TypeId} {xs : List t.den} {S : Nat → Prop} {Si : Nat → Nat → Prop} (hb : w.heap[b]? = some (.cells L El (0, 0))) (hn : List.length xs = n) (hm : n ≤ 9223372036854775807)
    (hsz : n * t.size ≤ L.size) (hel : ∀ i y, lget xs i = some y → Rep true w t (seg L (i * t.size) t.size) y (Si i)) (hS : S b) (h2 : ∀ i c, Si i c → S c ∧ c ≠ b) (h3 : ∀ i j c, i ≠ j → Si i c → ¬ Si j c) :
    Rep true w (.slice t) [.slice (some ⟨b, 0, none⟩) n n] xs S := by
  subst hn
  exact ⟨some ⟨b, 0, none⟩, _, rfl, Nat.le_refl _, .inr ⟨b, 0, L, El, (0, 0), rfl, hb, hS, fun _ => ⟨rfl, hm⟩, by simpa using hsz, Si, fun i y hy => by simpa using hel i y hy, fun i c hc => ⟨(h2 i c hc).1, fun _ => (h2 i c hc).2⟩, fun _ i j c => h3 i j c⟩⟩
theorem Gath.push (hE : EnvOk P E) {T A B : TypeId} (hT : E.tyOf T = some T3) (h : Gath w wr vo out vp p vP PL pq cq Q j) {y : List Int} (hy : Q[j]? = some y) {b o : Nat} {u : Value} (hpq : pq = some ⟨b, o, none⟩) (hu : wr.cell? ⟨b, o + j, none⟩ = some u)
    {w1 : World} {vc : Value} (hg1 : Grow wr w1) (hc : Rep true w1 T1 [vc] p (fun c => wr.heap.size ≤ c ∧ c < w1.heap.size)) (hlen : out.length ≤ 17179869183) (ty : TypeId) :
    ∃ (v' : Value) (w' : World), (Builtin.append_ #[T, T] ty #[vo, .slice (some ⟨w1.heap.size + 1, 0, none⟩) 1 1]).run P ((w1.alloc (.cells #[vc, u] A)).alloc (.cells #[.slice (some ⟨w1.heap.size, 0, none⟩) 2 2] B)) = .ok v' w' ∧
      Gath w w' v' (out ++ [[p, y]]) vp p vP PL pq cq Q (j + 1) := by
  have h0 := h.later hg1
  obtain ⟨So0, SP0, SQ0, a1, a2, a3, a4, a5, a6, a7, a8, a9⟩ := h.ex
  obtain ⟨b', o', u', S1, e1, e2, e3, e4, e5⟩ := a4.take hy
  rw [hpq] at e1
  simp only [Option.some.injEq, Addr.mk.injEq, and_true] at e1
  obtain ⟨rfl, rfl⟩ := e1
  rw [hu] at e2
  simp only [Option.some.injEq] at e2
  subst e2
  obtain ⟨w2, hw2⟩ : ∃ w2, w2 = w1.alloc (.cells #[vc, u] A) := ⟨_, rfl⟩
  obtain ⟨w3, hw3⟩ : ∃ w3, w3 = w2.alloc (.cells #[.slice (some ⟨w1.heap.size, 0, none⟩) 2 2] B) := ⟨_, rfl⟩
  have g2 : Grow w1 w2 := by rw [hw2]; exact Grow.alloc _ _ _
  have g3 : Grow w2 w3 := by rw [hw3]; exact Grow.alloc _ _ _
  have s2 : w2.heap.size = w1.heap.size + 1 := by rw [hw2, alloc_size]
  have s3 : w3.heap.size = w1.heap.size + 2 := by rw [hw3, alloc_size, s2]
  have k2 : w3.heap[w1.heap.size]? = some (.cells #[vc, u] A (0, 0)) := by rw [g3.same _ (by omega), hw2, alloc_new]
  have k3 : w3.heap[w1.heap.size + 1]? = some (.cells #[.slice (some ⟨w1.heap.size, 0, none⟩) 2 2] B (0, 0)) := by rw [← s2, hw3, alloc_new]
  have g13 : Grow wr w3 := hg1.trans (g2.trans g3)
  have same : ∀ c, c < wr.heap.size → w3.heap[c]? = wr.heap[c]? := fun c hc => g13.same c hc
  have lt1 : ∀ c, S1 c → w.heap.size ≤ c ∧ c < wr.heap.size := fun c hc => a9 c (e4 c hc)
  have hwr1 := hg1.size
  have rp : Rep true w3 T1 [vc] p (fun c => wr.heap.size ≤ c ∧ c < w1.heap.size) := hc.agree fun c hc => (g2.trans g3).same c hc.2
  have rq : Rep true w3 T1 [u] y S1 := e3.agree fun c hc => same c (lt1 c hc).2
  have rpair : Rep true w3 T2 [.slice (some ⟨w1.heap.size, 0, none⟩) 2 2] ([p, y] : List (List Int)) (fun c => c = w1.heap.size ∨ S1 c ∨ (wr.heap.size ≤ c ∧ c < w1.heap.size)) := by
    refine rep_cells (t := T1) (Si := fun i c => (i = 0 ∧ wr.heap.size ≤ c ∧ c < w1.heap.size) ∨ (i = 1 ∧ S1 c)) k2 rfl (by omega) (by simp [Ty.size]) (fun i z hz => ?_) (.inl rfl) (fun i c hc => ?_) (fun i j c hne hi hj => ?_)
    · match i, hz with
      | 0, hz =>
        have hz : some p = some z := hz
        have hz := Option.some.inj hz
        subst hz
        have : seg #[vc, u] (0 * T1.size) T1.size = [vc] := rfl
        rw [this]
        exact rp.mono fun c hc => .inl ⟨rfl, hc⟩
      | 1, hz =>
        have hz : some y = some z := hz
        have hz := Option.some.inj hz
        subst hz
        have : seg #[vc, u] (1 * T1.size) T1.size = [u] := rfl
        rw [this]
        exact rq.mono fun c hc => .inr ⟨rfl, hc⟩
      | i + 2, hz =>
        have hz : (none : Option (List Int)) = some z := hz
        simp at hz
    · rcases hc with ⟨_, h1, h2⟩ | ⟨_, h1⟩
      · exact ⟨.inr (.inr ⟨h1, h2⟩), by omega⟩
      · have := lt1 c h1
        exact ⟨.inr (.inl h1), by omega⟩
    · rcases hi with ⟨rfl, h1, h2⟩ | ⟨rfl, h1⟩
      · rcases hj with ⟨rfl, _⟩ | ⟨rfl, h3⟩
        · exact hne rfl
        · have := lt1 c h3; omega
      · rcases hj with ⟨rfl, h3, h4⟩ | ⟨rfl, _⟩
        · have := lt1 c h1; omega
        · exact hne rfl
  obtain ⟨SY, hSY⟩ : ∃ SY : Nat → Prop, SY = fun c => c = w1.heap.size + 1 ∨ c = w1.heap.size ∨ S1 c ∨ (wr.heap.size ≤ c ∧ c < w1.heap.size) := ⟨_, rfl⟩
  have rone : Rep true w3 T3 [.slice (some ⟨w1.heap.size + 1, 0, none⟩) 1 1] ([[p, y]] : List (List (List Int))) SY := by
    subst hSY
    refine rep_cells (t := T2) (Si := fun i c => i = 0 ∧ (c = w1.heap.size ∨ S1 c ∨ (wr.heap.size ≤ c ∧ c < w1.heap.size))) k3 rfl (by omega) (by simp [Ty.size]) (fun i z hz => ?_) (.inl rfl) (fun i c hc => ?_) (fun i j c hne hi hj => hne (hi.1.trans hj.1.symm))
    · match i, hz with
      | 0, hz =>
        have hz : some [p, y] = some z := hz
        have hz := Option.some.inj hz
        subst hz
        have : seg #[.slice (some ⟨w1.heap.size, 0, none⟩) 2 2] (0 * T2.size) T2.size = [.slice (some ⟨w1.heap.size, 0, none⟩) 2 2] := rfl
        rw [this]
        exact rpair.mono fun c hc => ⟨rfl, hc⟩
      | i + 1, hz =>
        have hz : (none : Option (List (List Int))) = some z := hz
        simp at hz
    · obtain ⟨_, hc⟩ := hc
      refine ⟨.inr hc, ?_⟩
      rcases hc with rfl | h1 | ⟨h1, h2⟩
      · omega
      · have := lt1 c h1; omega
      · omega
  have ltY : ∀ c, SY c → w.heap.size ≤ c ∧ c < w3.heap.size := by
    subst hSY
    intro c hc
    have := h.grow.size
    rcases hc with rfl | rfl | h1 | ⟨h1, h2⟩
    · omega
    · omega
    · have := lt1 c h1; omega
    · omega
  have dis : ∀ c, So0 c → ¬ SY c := by
    subst hSY
    intro c hc
    have h7 := a7 c hc
    rintro (rfl | rfl | h1 | ⟨h1, h2⟩)
    · omega
    · omega
    · exact (a5 c hc).2 (e4 c h1)
    · omega
  have rout : Rep true w3 T3 [vo] out So0 := a1.agree fun c hc => same c (a7 c hc).2
  obtain ⟨po, co, hvo, _⟩ := id rout
  have hvo : vo = .slice po out.length co := (List.cons.inj hvo).1
  subst hvo
  obtain ⟨v', w', r1, r2, _, r4, r5⟩ := append_run hE hT hT (ty := ty) rout rone (.inr ⟨rfl, rfl, dis⟩) (fun c hc => by have := a7 c hc; omega) (fun c hc => (ltY c hc).2) (by
    show out.length + 1 ≤ 17179869184
    omega)
  subst hw3; subst hw2
  refine ⟨v', w', r1, ?_⟩
  have keep : ∀ c, c < wr.heap.size → ¬ So0 c → w'.heap[c]? = wr.heap[c]? := by
    intro c hc hn
    rcases r5 with hg | ⟨bb, oo, L, El, news, _, _, _, hbS, rfl, _⟩
    · rw [hg.same c (by omega)]; exact same c hc
    · rw [setRow_other (fun e => hn (by rw [e]; exact hbS))]; exact same c hc
  have hcalm : Calm ((w1.alloc (.cells #[vc, u] A)).alloc (.cells #[.slice (some ⟨w1.heap.size, 0, none⟩) 2 2] B)) w' := by
    rcases r5 with hg | ⟨bb, oo, L, El, news, _, _, _, hbS, rfl, _⟩
    · exact hg.calm
    · exact setRow_calm _ _ _
  have hsz := h.grow.size
  refine ⟨⟨by omega, fun c hc => (keep c (by omega) fun hS => by have := a7 c hS; omega).trans (h.grow.same c hc), h.grow.calm.trans (g13.calm.trans hcalm)⟩, _, SP0, fun c => SQ0 c ∧ ¬ S1 c, r4, ?_, ?_, ?_, ?_, fun c hc => a6 c hc.1, ?_, fun c hc => by have := a8 c hc; omega, fun c hc => by have := a9 c hc.1; omega⟩
  · exact a2.agree fun c hc => keep c (a8 c hc) fun hS => (a5 c hS).1 hc
  · exact a3.agree fun c hc => keep c (a8 c hc) fun hS => (a5 c hS).1 hc
  · exact e5.agree fun c hc => keep c (a9 c hc.1).2 fun hS => (a5 c hS).2 hc.1
  · intro c hc
    subst hSY
    rcases hc with hc | (rfl | rfl | h1 | ⟨h1, h2⟩) | ⟨h1, h2⟩
    · exact ⟨(a5 c hc).1, fun hq => (a5 c hc).2 hq.1⟩
    · exact ⟨fun hq => by have := a8 _ hq; omega, fun hq => by have := a9 _ hq.1; omega⟩
    · exact ⟨fun hq => by have := a8 _ hq; omega, fun hq => by have := a9 _ hq.1; omega⟩
    · exact ⟨a6 c (e4 c h1), fun hq => hq.2 h1⟩
    · exact ⟨fun hq => by have := a8 _ hq; omega, fun hq => by have := a9 _ hq.1; omega⟩
    · exact ⟨fun hq => by have := a8 _ hq; omega, fun hq => by have := a9 _ hq.1; omega⟩
  · intro c hc
    rcases hc with hc | hc | ⟨h1, h2⟩
    · have := a7 c hc; omega
    · have := ltY c hc; omega
    · omega
structure Gath1 (w wr : World) (vo : Value) (out : List (List (List Int))) (vP : Value) (P : List (List Int)) : Prop where
  grow : Grow w wr
  ex : ∃ So SP : Nat → Prop, Rep true wr T3 [vo] out So ∧ Rep false wr T2 [vP] P SP ∧ (∀ c, So c → ¬ SP c) ∧ (∀ c, So c → w.heap.size ≤ c ∧ c < wr.heap.size) ∧ (∀ c, SP c → c < wr.heap.size)
structure Gath0 (w wr : World) (vo : Value) (out : List (List (List Int))) : Prop where
  grow : Grow w wr
  ex : ∃ So : Nat → Prop, Rep true wr T3 [vo] out So ∧ (∀ c, So c → w.heap.size ≤ c ∧ c < wr.heap.size)
section more
variable {w wr w1 : World} {vo vp vP : Value} {out : List (List (List Int))} {p : List Int} {PL Q : List (List Int)} {pq : Option Addr} {cq j : Nat}
theorem Gath0.with (h : Gath0 w wr vo out) (hg : Grow wr w1) (hr : Rep true w1 T2 [vP] PL (fun c => wr.heap.size ≤ c ∧ c < w1.heap.size)) : Gath1 w w1 vo out vP PL := by
  obtain ⟨So, h1, h2⟩ := h.ex
  exact ⟨h.grow.trans hg, So, _, h1.agree fun c hc => hg.same c (h2 c hc).2, hr.weak, fun c hc hc2 => by have := (h2 c hc).2; omega, fun c hc => ⟨(h2 c hc).1, Nat.lt_of_lt_of_le (h2 c hc).2 hg.size⟩, fun c hc => hc.2⟩
theorem Gath1.drop (h : Gath1 w wr vo out vP PL) : Gath0 w wr vo out := by
  obtain ⟨So, SP, h1, _, _, h4, _⟩ := h.ex
  exact ⟨h.grow, So, h1, h4⟩
theorem Gath.drop (h : Gath w wr vo out vp p vP PL pq cq Q j) : Gath1 w wr vo out vP PL := by
  obtain ⟨So, SP, SQ, h1, h2, h3, h4, h5, h6, h7, h8, h9⟩ := h.ex
  exact ⟨h.grow, So, SP, h1, h3, fun c hc => (h5 c hc).1, h7, h8⟩
theorem Gath1.elem {pP : Option Addr} {n c i : Nat} (h : Gath1 w wr vo out (.slice pP n c) PL) (hp : PL[i]? = some p) : ∃ b o vp, pP = some ⟨b, o, none⟩ ∧ wr.cell? ⟨b, o + i, none⟩ = some vp ∧ Gath w wr vo out vp p (.slice pP n c) PL none 0 [] 0 := by
  obtain ⟨So, SP, h1, h2, h3, h4, h5⟩ := h.ex
  have hi := (List.getElem?_eq_some_iff.1 hp).1
  obtain ⟨p', c', hc, hle, hr⟩ := id h2
  simp only [List.cons.injEq, Value.slice.injEq, and_true] at hc
  obtain ⟨rfl, _, rfl⟩ := hc
  rcases hr with hr | ⟨b, o, L, El, fz, rfl, hh, hS, _, hroom, Si, k1, k2, _⟩
  · simp only [cond_false] at hr
    have : PL.length = 0 := hr
    omega
  · have r1 : Rep false wr T1 (seg L (o + i * 1) 1) p (Si i) := k1 i p hp
    rw [Nat.mul_one] at r1
    obtain ⟨pu, cu, hcu, _⟩ := id r1
    have hcu : seg L (o + i) 1 = [.slice pu p.length cu] := hcu
    have hu := congrArg (fun l => l[0]?) hcu
    simp only [seg_get] at hu
    rw [if_pos (by decide), Nat.add_zero, Array.getElem?_toList] at hu
    have hu : L[o + i]? = some (.slice pu p.length cu) := hu
    rw [hcu] at r1
    exact ⟨b, o, _, rfl, by simp only [World.cell?, hh]; exact hu, h.grow, So, SP, fun _ => False, h1, r1.mono fun c hc => (k2 i c hc).1, h2, ⟨Nat.zero_le _, .inl rfl⟩, fun c hc => ⟨h3 c hc, id⟩, fun c hc => hc.elim, h4, h5, fun c hc => hc.elim⟩
theorem Gath.fresh {n : Nat} (h : Gath w wr vo out vp p vP PL none 0 [] 0) (hg : Grow wr w1) (hr : Rep true w1 T2 [.slice pq n cq] Q (fun c => wr.heap.size ≤ c ∧ c < w1.heap.size)) : Gath w w1 vo out vp p vP PL pq cq Q 0 := by
  obtain ⟨So, SP, SQ, h1, h2, h3, h4, h5, h6, h7, h8, h9⟩ := (h.later hg).ex
  obtain ⟨So0, SP0, SQ0, g1, g2, g3, g4, g5, g6, g7, g8, g9⟩ := h.ex
  have hs : ∀ c, c < wr.heap.size → w1.heap[c]? = wr.heap[c]? := fun c hc => hg.same c hc
  have hsz := h.grow.size
  have hsz2 := hg.size
  exact ⟨h.grow.trans hg, So0, SP0, _, g1.agree fun c hc => hs c (g7 c hc).2, g2.agree fun c hc => hs c (g8 c hc), g3.agree fun c hc => hs c (g8 c hc), (Drain.of hr).1, fun c hc => ⟨(g5 c hc).1, fun hc2 => by have := (g7 c hc).2; omega⟩, fun c hc hc2 => by have := g8 c hc2; omega,
    fun c hc => by have := g7 c hc; omega, fun c hc => by have := g8 c hc; omega, fun c hc => by omega⟩
theorem Gath.argp (h : Gath w wr vo out vp p vP PL pq cq Q j) : Rep false wr T1 [vp] p (fun c => c < wr.heap.size) := by
  obtain ⟨So, SP, SQ, h1, h2, h3, h4, h5, h6, h7, h8, h9⟩ := h.ex
  exact h2.mono h8
theorem Gath.elem (h : Gath w wr vo out vp p vP PL pq cq Q j) {y : List Int} (hy : Q[j]? = some y) : ∃ b o pu cu, pq = some ⟨b, o, none⟩ ∧ wr.cell? ⟨b, o + j, none⟩ = some (.slice pu y.length cu) ∧ Rep false wr T1 [.slice pu y.length cu] y (fun c => c < wr.heap.size) := by
  obtain ⟨So, SP, SQ, h1, h2, h3, h4, h5, h6, h7, h8, h9⟩ := h.ex
  obtain ⟨b, o, u, S1, e1, e2, e3, e4, e5⟩ := h4.take hy
  obtain ⟨pu, cu, hu, _⟩ := id e3
  have hu : u = .slice pu y.length cu := (List.cons.inj hu).1
  subst hu
  exact ⟨b, o, pu, cu, e1, e2, e3.weak.mono fun c hc => (h9 c (e4 c hc)).2⟩
theorem Gath.head (h : Gath w wr vo out vp p vP PL pq cq Q j) : ∃ po co, vo = .slice po out.length co := by
  obtain ⟨So, SP, SQ, h1, _⟩ := h.ex
  obtain ⟨po, co, hv, _⟩ := h1
  exact ⟨po, co, (List.cons.inj hv).1⟩
end more
theorem wpList_append_run {ops : Array Oper} {rest : List Oper} {o : Oper} {a : Act} {Q : Exit → Act → World → Prop} (hg : o.guard = none) {x y : Operand} {T T' : TypeId} (ho : o.op = .call { callee := .builtin .append, args := #[x, y], argTypes := #[T, T'] })
    {vx vy v : Value} {w' : World} (hx : a.eval x = vx) (hy : a.eval y = vy) (hrun : (Builtin.append_ #[T, T'] o.type #[vx, vy]).run P w = .ok v w') (h : wpList P ops Q rest (a.put o.dst v) w') : wpList P ops Q (o :: rest) a w := by
  refine wpList_plain hg fun K hK => ?_
  refine does_value (v := v) (w' := w') ?_ (hK _ _ h)
  obtain ⟨dst, op, T0, pos, aft, gd⟩ := o
  simp only at ho
  subst ho
  subst hx; subst hy
  simp only [execOp, resolve, Sem.run_bind, Sem.run_pure, Result.andThen_ok, invoke, builtin]
  have : (#[x, y] : Array Operand).map a.eval = #[a.eval x, a.eval y] := by simp
  rw [this, hrun]; rfl
theorem row_elem {t : Ty} {tr : Bool} {p : Option Addr} {n c i : Nat} {xs : List (List t.den)} {y : List t.den} {S : Nat → Prop} (h : Rep tr w (.slice (.slice t)) [.slice p n c] xs S) (hy : xs[i]? = some y) :
    ∃ b o pu cu, p = some ⟨b, o, none⟩ ∧ w.cell? ⟨b, o + i, none⟩ = some (.slice pu y.length cu) ∧ Rep tr w (.slice t) [.slice pu y.length cu] y S := by
  have hi := (List.getElem?_eq_some_iff.1 hy).1
  obtain ⟨p', c', hc, hle, hr⟩ := h
  have hle : xs.length ≤ c' := hle
  simp only [List.cons.injEq, Value.slice.injEq, and_true] at hc
  obtain ⟨rfl, _, rfl⟩ := hc
  rcases hr with hr | ⟨b, o, L, El, fz, rfl, hh, hS, _, hroom, Si, k1, k2, _⟩
  · have hr : cond tr c xs.length = 0 := hr
    have : xs.length ≤ cond tr c xs.length := cond_ge hle
    omega
  · have r1 : Rep tr w (.slice t) (seg L (o + i * 1) 1) y (Si i) := k1 i y hy
    rw [Nat.mul_one] at r1
    obtain ⟨pu, cu, hcu, _⟩ := id r1
    have hcu : seg L (o + i) 1 = [.slice pu y.length cu] := hcu
    have hu := congrArg (fun l => l[0]?) hcu
    simp only [seg_get] at hu
    rw [if_pos (by decide), Nat.add_zero, Array.getElem?_toList] at hu
    have hu : L[o + i]? = some (.slice pu y.length cu) := hu
    rw [hcu] at r1
    exact ⟨b, o, pu, cu, rfl, by simp only [World.cell?, hh]; exact hu, r1.mono fun c hc => (k2 i c hc).1⟩
theorem row_some {t : Ty} {p : Option Addr} {n c : Nat} {xs : List t.den} {S : Nat → Prop} (h : Rep true w (.slice t) [.slice p n c] xs S) (hne : xs ≠ []) : p.isSome = true := by
  obtain ⟨p', c', hc, hle, hr⟩ := h
  have hle : xs.length ≤ c' := hle
  simp only [List.cons.injEq, Value.slice.injEq, and_true] at hc
  obtain ⟨rfl, _, rfl⟩ := hc
  rcases hr with hr | ⟨b, o, L, El, fz, rfl, _⟩
  · have hr : c = 0 := hr
    exact absurd (List.length_eq_zero_iff.1 (by omega)) hne
  · rfl
theorem row_len {t : Ty} {p : Option Addr} {n c : Nat} {xs : List t.den} {S : Nat → Prop} (h : Rep true w (.slice t) [.slice p n c] xs S) : List.length xs ≤ 9223372036854775807 := by
  obtain ⟨p', c', hc, hle, hr⟩ := h
  have hle : List.length xs ≤ c' := hle
  rcases hr with hr | ⟨b, o, L, El, fz, rfl, _, _, hf, _⟩
  · have hr : c' = 0 := hr
    omega
  · have := (hf rfl).2
    omega
theorem Grow.drew (w : World) : Grow w w.drew := ⟨Nat.le_refl _, fun _ _ => rfl, rfl, rfl, fun _ => rfl⟩
end Go.Sx
namespace Go.Sx
variable {α : Type} {w0 : World} {lent : Lent} {f : Frame} {a : Act} {w : World} {own : Own}
variable {P : Program} {E : Env} {out : α}
def curTy : Ty := .pair .raw (.pair (.num .i64) (.num .i64))
def retNew (fn : Func) (f : Frame) : Option (Option (Value × Int × Int)) := match fn.results.toList with
  | [.tmp i] => match f[i]? with
    | some (.box true t x) => match t.eqP curTy with
      | some ⟨h⟩ => some (some (h ▸ x : curTy.den))
      | none => none
    | _ => none
  | _ => none
noncomputable def fnNew (N : Nat) (E : Env) (fn : Func) (ts : List Ty) (ann : List (Nat × Loop (Option (Value × Int × Int)))) (a : Args ts) : Option (Option (Value × Int × Int)) :=
  match fn.body with
  | some c => runK N E ann fn.ntmps (retNew fn) c (initS fn.ntmps ts a) (fun _ _ => none) (retNew fn)
  | none => none
theorem results_one {fn : Func} {i : Nat} (h : fn.results.toList = [.tmp i]) {tmps : Array Value} : (results fn tmps).run P w = .ok (tmps.getD i undef) w := by
  have e : fn.results = #[.tmp i] := by rw [← Array.toArray_toList (xs := fn.results), h]
  unfold results
  rw [e]
  simp
theorem box_cur {x : curTy.den} {L : Array Value} {S : Nat → Prop} (h : Rep true w curTy L.toList x S) : L = #[x.1, .int .i64 x.2.1, .int .i64 x.2.2] ∧ (rawLen (x.1 : Value)).isSome = true := by
  obtain ⟨c1, c2, S1, S2, e, h1, h2, _⟩ := h
  obtain ⟨c3, c4, S3, S4, e2, h3, h4, _⟩ := h2
  obtain ⟨e3, hr⟩ := h1
  simp only [Rep] at h3 h4
  subst e3; subst h3; subst h4; subst e2
  exact ⟨Array.ext' e, hr⟩
theorem cur_box {x : curTy.den} {v : Value} {i k : Int} (e : x = (v, i, k)) (hr : (rawLen v).isSome = true) {S : Nat → Prop} : Rep true w curTy (#[v, .int .i64 i, .int .i64 k] : Array Value).toList x S := by
  subst e
  exact ⟨[v], [.int .i64 i, .int .i64 k], fun _ => False, fun _ => False, rfl, ⟨rfl, hr⟩, ⟨[.int .i64 i], [.int .i64 k], fun _ => False, fun _ => False, rfl, rfl, rfl, fun _ h => h.elim, fun _ h => h.elim, fun _ _ h => h.elim⟩, fun _ h => h.elim, fun _ h => h.elim, fun _ _ h => h.elim⟩
theorem newC (hE : EnvOk P E) (hm : P.follows .mixedOrders = true) {g : Nat} {fn : Func} {c : Code} (hf : P.funcs[g]? = some fn) (hb : fn.body = some c) {ts : List Ty} {fs : Args ts → Option (Option (Value × Int × Int))} (hn : ts.length ≤ fn.ntmps)
    (h : ∀ xs r, fs xs = some r → ∃ N ann, LoopsOk N E ann fn.ntmps (retNew fn) (loopsOf c) ∧ fnNew N E fn ts ann xs = some r) : ContractA P E.amb g ⟨ts, .cur, fs⟩ := by
  intro xs r vs w hr hargs hamb
  have hat : EnvAt P E w noLent.mem := ⟨hE, hamb⟩
  obtain ⟨N, ann, hl, hk⟩ := h xs r hr
  simp only [fnNew, hb] at hk
  obtain ⟨i1, i2, i3⟩ := initS_spec ts fn.ntmps xs vs w hargs hn
  have hinv : InvP w noLent (initS fn.ntmps ts xs) { tmps := vs.toArray ++ Array.replicate (fn.ntmps - vs.toArray.size) undef, defers := [] } w (fun _ => none) := by
    refine ⟨⟨rfl, ?_, fun _ _ => rfl, fun i s hi => ?_, Nat.le_refl _, fun _ _ _ => ⟨rfl, rfl⟩, Calm.refl w⟩, fun i v h => by simp [noLent] at h⟩
    · simp only [Array.size_append, Array.size_replicate, List.size_toArray, i1]
      have hn' : ts.length ≤ fn.ntmps := hn
      rw [i2]; omega
    · rcases i3 i s hi with rfl | ⟨t, x, v, rfl, hv, cs, hs, hrep⟩
      · trivial
      · refine ⟨cs, ?_, hrep.mono fun c hc => ⟨rfl, hc⟩⟩
        have : (vs.toArray ++ Array.replicate (fn.ntmps - vs.toArray.size) undef).getD i undef = v := by
          have hlt : i < vs.length := (List.getElem?_eq_some_iff.1 hv).1
          rw [Array.getD_eq_getD_getElem?, Array.getElem?_append_left (by simpa using hlt)]
          simp [hv]
        rw [this]; exact hs
  refine calls_of_wp hf hb ?_
  have fin : ∀ (f : Frame) (a : Act) (w' : World) (own : Own), retNew fn f = some r → InvP w noLent f a w' own →
      a.defers = [] ∧ ∃ v, (results fn a.tmps).run P w' = .ok v w' ∧ ∃ v' cs, Ending.returned v = .returned v' ∧ Grow w w' ∧ Shape .cur v' cs ∧ Rep true w' .cur cs r (fun c => w.heap.size ≤ c ∧ c < w'.heap.size) := by
    intro f a w' own hk h
    have h := h.base
    unfold retNew at hk
    split at hk
    · rename_i i hres
      split at hk
      · rename_i t x hfi
        split at hk
        · rename_i e _
          subst e
          have hk := (Option.some.inj hk).symm
          subst hk
          obtain ⟨b, L, El, hv, hob, hh, hsz, h1, _⟩ := h.slots i _ hfi
          obtain ⟨hL, hraw⟩ := box_cur (h1 rfl)
          refine ⟨h.defers, _, results_one hres, _, [a.tmps.getD i undef], rfl, ⟨h.grow, fun b hb => (h.old b hb id).2, h.calm⟩, rfl, ?_⟩
          refine ⟨b, El, by rw [hv], ⟨by rw [hh, hL]; rfl, hraw⟩, ?_, heap_lt hh⟩
          rcases Nat.lt_or_ge b w.heap.size with hlt | hge
          · have := (h.old b hlt id).1
            rw [hob] at this; simp at this
          · exact hge
        · simp at hk
      · simp at hk
    · simp at hk
  exact (runK_sound N ann fn.ntmps (retNew fn) hat (drawOk_sound hat hm) c).1 (free_none c) _ _ _ _ w _ _ hl i2 hinv hk (fun f a w' own _ hk h => fin f a w' own hk h) (fun _ _ _ _ _ _ hk _ => by simp at hk) (fun f a w' own _ hk h => fin f a w' own hk h)
def initB (n : Nat) (y : Value × Int × Int) (ts : List Ty) (xs : Args ts) : List Slot := .box true curTy y :: initS (n - 1) ts xs
def retB (E : Env) (fn : Func) (res : Ty) (f : Frame) : Option (Option (Value × Int × Int) × res.den) := match f[0]? with
  | some (Slot.box true t y) => match t.eqP curTy with
    | some ⟨h⟩ => retsK E f fn.results.toList res fun x ls => match ls.contains 0 with
      | true => none
      | false => some (some (h ▸ y : curTy.den), x)
    | none => none
  | _ => none
noncomputable def fnByte (N : Nat) (E : Env) (fn : Func) (cs : CurSpec) (ann : List (Nat × Loop (Option (Value × Int × Int) × cs.res.den))) (y : Value × Int × Int) (xs : Args cs.rest) : Option (Option (Value × Int × Int) × cs.res.den) :=
  match fn.body with
  | some c => runK N E ann fn.ntmps (retB E fn cs.res) c (initB fn.ntmps y cs.rest xs) (fun _ _ => none) (retB E fn cs.res)
  | none => none
theorem byteC (hE : EnvOk P E) (hm : P.follows .mixedOrders = true) {g : Nat} {fn : Func} {c : Code} (hf : P.funcs[g]? = some fn) (hb : fn.body = some c) {cs : CurSpec} (hn : cs.rest.length + 1 ≤ fn.ntmps) (hnd : noDst 0 c = true)
    (h : ∀ y xs r, cs.fn y xs = some r → ∃ y0 N ann, y = some y0 ∧ LoopsOk N E ann fn.ntmps (retB E fn cs.res) (loopsOf c) ∧ fnByte N E fn cs ann y0 xs = some r) : CurC P E.amb g cs := by
  classical
  intro y xs z r vt vs S w hr hargs hcur hS hamb
  have hat : EnvAt P E w S := ⟨hE, hamb⟩
  obtain ⟨⟨v0, i0, k0⟩, N, ann, rfl, hl, hk⟩ := h y xs (z, r) hr
  obtain ⟨b0, E0, hvt, ⟨hh0, hraw0⟩, hSb0⟩ := hcur
  have hvt : vt = .pointer (some ⟨b0, 0, none⟩) := (List.cons.inj hvt).1
  have hat : EnvAt P E w (fun c => c = b0) := ⟨hE, fun b r e => ⟨(hamb b r e).1, fun h => (hamb b r e).2 (by rw [h]; exact hSb0)⟩⟩
  have hargs := hargs.sub (S' := fun c => c = b0) (fun c h => by rw [h]; exact hSb0)
  simp only [fnByte, hb] at hk
  obtain ⟨i1, i2, i3⟩ := initS_off (S := fun c => c = b0) cs.rest (fn.ntmps - 1) xs vs w hargs (by omega)
  have hget : ∀ (i : Nat) (v : Value), (vt :: vs)[i]? = some v → ((vt :: vs).toArray ++ Array.replicate (fn.ntmps - (vt :: vs).toArray.size) undef).getD i undef = v := by
    intro i v hv
    have hlt : i < (vt :: vs).length := (List.getElem?_eq_some_iff.1 hv).1
    rw [Array.getD_eq_getD_getElem?, Array.getElem?_append_left (by simpa using hlt)]
    rw [List.getElem?_toArray, hv]; rfl
  have hflen : (initB fn.ntmps (v0, i0, k0) cs.rest xs).length = fn.ntmps := by
    simp only [initB, List.length_cons, i2]; omega
  have hinv : InvP w ⟨fun c => c = b0, fun i => if i = 0 then some vt else none⟩ (initB fn.ntmps (v0, i0, k0) cs.rest xs) { tmps := (vt :: vs).toArray ++ Array.replicate (fn.ntmps - (vt :: vs).toArray.size) undef, defers := [] } w (fun b => if b = b0 then some 0 else none) := by
    refine ⟨⟨rfl, ?_, fun b hb => ?_, fun i s hi => ?_, Nat.le_refl _, fun b _ hb => ⟨if_neg hb, rfl⟩, Calm.refl w⟩, fun i v h => ?_⟩
    · rw [hflen]
      simp only [Array.size_append, Array.size_replicate, List.size_toArray, List.length_cons, i1]
      omega
    · rw [if_neg]; rintro rfl; have := heap_lt hh0; omega
    · cases i with
      | zero =>
        simp only [initB, List.getElem?_cons_zero, Option.some.injEq] at hi
        subst hi
        refine ⟨b0, _, E0, ?_, if_pos rfl, hh0, rfl, fun _ => cur_box rfl hraw0, by simp⟩
        simp only
        rw [hget 0 vt rfl, hvt]
      | succ i =>
        simp only [initB, List.getElem?_cons_succ] at hi
        rcases i3 i s hi with rfl | ⟨t, x, v, rfl, hv, cs, hs, hrep⟩
        · trivial
        · refine ⟨cs, ?_, hrep.mono fun c hc => ⟨if_neg hc.2, hc.1⟩⟩
          simp only
          rw [hget (i + 1) v (by simpa using hv)]; exact hs
    · simp only at h
      split at h
      · rename_i e; subst e
        simp only [Option.some.injEq] at h; subst h
        exact hget 0 _ rfl
      · simp at h
  refine calls_of_wp hf hb ?_
  have fin : ∀ (f : Frame) (a : Act) (w' : World) (own : Own), retB E fn cs.res f = some (z, r) → InvP w ⟨fun c => c = b0, fun i => if i = 0 then some vt else none⟩ f a w' own →
      a.defers = [] ∧ ∃ v, (results fn a.tmps).run P w' = .ok v w' ∧ ∃ v' c, Ending.returned v = .returned v' ∧ w.heap.size ≤ w'.heap.size ∧ Calm w w' ∧ (∀ b, b < w.heap.size → ¬ S b → w'.heap[b]? = w.heap[b]?) ∧ CurOk w' [vt] z S ∧
        Shape cs.res v' c ∧ Rep true w' cs.res c r (fun c => w.heap.size ≤ c ∧ c < w'.heap.size) := by
    intro f a w' own hk h
    unfold retB at hk
    split at hk
    · rename_i t y' hfp
      split at hk
      · rename_i e _
        subst e
        obtain ⟨x, ls, val, c, hK, hrun, hs, hrep⟩ := retsK_sound hE h.base hk
        split at hK
        · simp at hK
        · rename_i h0
          simp only [Option.some.injEq, Prod.mk.injEq] at hK
          obtain ⟨rfl, rfl⟩ := hK
          obtain ⟨b, L, El, hv, hob, hh, hsz, h1, _⟩ := h.base.slots _ _ hfp
          rw [h.pin 0 vt (by simp), hvt] at hv
          simp at hv
          subst hv
          obtain ⟨hL, hraw⟩ := box_cur (h1 rfl)
          refine ⟨h.base.defers, val, hrun, val, c, rfl, h.base.grow, h.base.calm, fun b hb hnb => (h.base.old b hb fun e => hnb (by rw [e]; exact hSb0)).2, ?_, hs, hrep.mono fun b ⟨l, hl, hb⟩ => ⟨?_, hb.2⟩⟩
          · exact ⟨b0, El, by rw [hvt], ⟨by rw [hh, hL]; rfl, hraw⟩, hSb0⟩
          · rcases Nat.lt_or_ge b w.heap.size with hlt | hge
            · by_cases hSb : b = b0
              · exfalso
                subst hSb
                have := hob.symm.trans hb.1
                simp only [Option.some.injEq] at this
                subst this
                simp at h0; exact h0 hl
              · have := (h.base.old b hlt hSb).1
                rw [hb.1] at this; simp at this
            · exact hge
      · simp at hk
    · simp at hk
  exact (runK_sound N ann fn.ntmps (retB E fn cs.res) hat (drawOk_sound hat hm) c).1 (free_one c hnd) _ _ _ _ w _ _ hl hflen hinv hk (fun f a w' own _ hk h => fin f a w' own hk h) (fun _ _ _ _ _ _ hk _ => by simp at hk) (fun f a w' own _ hk h => fin f a w' own hk h)
end Go.Sx
