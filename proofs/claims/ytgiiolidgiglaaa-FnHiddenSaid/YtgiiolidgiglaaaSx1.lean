/- A typed interpreter of the program and its soundness, part 1. Conditions: none. -/
import Derived.Calls
import Derived.Still
import Derived.Laws.CopyRow
import Derived.Laws.Entries
/- Typed values over the model's memory: what a list of cells reads as. Conditions: none. -/
namespace Go.Sx

/-- The types of the values that the interpreter knows. `tup` is a call's several results. -/
inductive Ty where
  | num (k : IntKind)
  | bool
  | pair (a b : Ty)
  | tup (a b : Ty)
  | slice (t : Ty)
  | fn (g : Nat)
  | raw
  | cur

def Ty.eqP : (a b : Ty) → Option (PLift (a = b))
  | .num j, .num k => if h : j = k then some ⟨by rw [h]⟩ else none
  | .bool, .bool => some ⟨rfl⟩
  | .fn j, .fn k => if h : j = k then some ⟨by rw [h]⟩ else none
  | .raw, .raw => some ⟨rfl⟩
  | .cur, .cur => some ⟨rfl⟩
  | .pair a b, .pair c d => match eqP a c, eqP b d with
    | some ⟨h⟩, some ⟨h'⟩ => some ⟨by rw [h, h']⟩
    | _, _ => none
  | .tup a b, .tup c d => match eqP a c, eqP b d with
    | some ⟨h⟩, some ⟨h'⟩ => some ⟨by rw [h, h']⟩
    | _, _ => none
  | .slice a, .slice b => match eqP a b with
    | some ⟨h⟩ => some ⟨by rw [h]⟩
    | none => none
  | _, _ => none

def Ty.den : Ty → Type
  | .num _ => Int
  | .bool => Bool
  | .fn _ => Unit
  | .raw => Value
  | .cur => Option (Value × Int × Int)
  | .pair a b => a.den × b.den
  | .tup a b => a.den × b.den
  | .slice t => List t.den

def Ty.size : Ty → Nat
  | .num _ | .bool | .slice _ | .fn _ | .raw | .cur => 1
  | .pair a b | .tup a b => a.size + b.size

theorem Ty.size_pos : ∀ t : Ty, 0 < t.size
  | .num _ | .bool | .slice _ | .fn _ | .raw | .cur => Nat.one_pos
  | .pair a b | .tup a b => by have := a.size_pos; simp [Ty.size]; omega

/-- Holds no memory. -/
def Ty.flat : Ty → Bool
  | .num _ | .bool | .fn _ | .raw => true
  | .pair a b | .tup a b => a.flat && b.flat
  | .slice _ | .cur => false

def Ty.isCur : Ty → Bool
  | .cur => true
  | _ => false

theorem Ty.isCur_eq {t : Ty} (h : t.isCur = true) : t = .cur := by cases t <;> first | rfl | simp [Ty.isCur] at h

def Ty.zero : (t : Ty) → t.den
  | .num _ => (0 : Int)
  | .bool => false
  | .fn _ => ()
  | .raw => (.slice none 0 0 : Value)
  | .cur => (none : Option (Value × Int × Int))
  | .pair a b | .tup a b => (a.zero, b.zero)
  | .slice _ => ([] : List _)

def Ty.zeroCells : Ty → List Value
  | .num k => [.int k 0]
  | .bool => [.bool false]
  | .fn g => [.func (.func g) #[] #[]]
  | .raw => [.slice none 0 0]
  | .cur => [.pointer none]
  | .pair a b | .tup a b => a.zeroCells ++ b.zeroCells
  | .slice _ => [.slice none 0 0]

/-- A typed value. -/
structure TV where
  t : Ty
  x : t.den

abbrev lget {α : Type} (l : List α) (i : Nat) : Option α := l[i]?

/-- n cells from place o on. -/
def seg (L : Array Value) (o n : Nat) : List Value := (L.toList.drop o).take n

def rawLen : Value → Option Int
  | .slice _ n _ => some n
  | _ => none

/-- A slice that is never looked into. -/
def RawOk (cs : List Value) (x : Value) : Prop := cs = [x] ∧ (rawLen x).isSome = true

/-- A pointer to a cursor: its one block, of a slice and two numbers. -/
def CurOk (w : World) (cs : List Value) (x : Option (Value × Int × Int)) (S : Nat → Prop) : Prop := match x with
  | none => cs = [.pointer none]
  | some (v, i, h) => ∃ b E, cs = [.pointer (some ⟨b, 0, none⟩)] ∧ (w.heap[b]? = some (.cells #[v, .int .i64 i, .int .i64 h] E (0, 0)) ∧ (rawLen v).isSome = true) ∧ S b

theorem CurOk.len {w : World} {cs : List Value} {x : Option (Value × Int × Int)} {S : Nat → Prop} (h : CurOk w cs x S) : cs.length = 1 := by
  rcases x with _ | ⟨v, i, k⟩
  · simp only [CurOk] at h; rw [h]; rfl
  · obtain ⟨b, E, h, _⟩ := h; rw [h]; rfl

theorem CurOk.mono {w : World} {cs : List Value} {x : Option (Value × Int × Int)} {S S' : Nat → Prop} (hs : ∀ c, S c → S' c) (h : CurOk w cs x S) : CurOk w cs x S' := by
  rcases x with _ | ⟨v, i, k⟩
  · exact h
  · obtain ⟨b, E, h1, h2, h3⟩ := h; exact ⟨b, E, h1, h2, hs b h3⟩

theorem CurOk.agree {w w' : World} {cs : List Value} {x : Option (Value × Int × Int)} {S : Nat → Prop} (hs : ∀ c, S c → w'.heap[c]? = w.heap[c]?) (h : CurOk w cs x S) : CurOk w' cs x S := by
  rcases x with _ | ⟨v, i, k⟩
  · exact h
  · obtain ⟨b, E, h1, h2, h3⟩ := h; exact ⟨b, E, h1, ⟨(hs b h3).trans h2.1, h2.2⟩, h3⟩

/-- What cells read as. `tr`: a tree whose blocks (all in S) are met once and can be written; else: blocks in S, shared or not. -/
def Rep (tr : Bool) (w : World) : (t : Ty) → List Value → t.den → (Nat → Prop) → Prop
  | .num k, cs, x, _ => cs = [.int k x]
  | .bool, cs, x, _ => cs = [.bool x]
  | .fn g, cs, _, _ => cs = [.func (.func g) #[] #[]]
  | .raw, cs, x, _ => RawOk cs x
  | .cur, cs, x, S => CurOk w cs x S
  | .pair a b, cs, x, S => ∃ c1 c2 S1 S2, cs = c1 ++ c2 ∧ Rep tr w a c1 x.1 S1 ∧ Rep tr w b c2 x.2 S2 ∧
      (∀ c, S1 c → S c) ∧ (∀ c, S2 c → S c) ∧ (tr = true → ∀ c, S1 c → ¬ S2 c)
  | .tup a b, cs, x, S => ∃ c1 c2 S1 S2, cs = c1 ++ c2 ∧ Rep tr w a c1 x.1 S1 ∧ Rep tr w b c2 x.2 S2 ∧
      (∀ c, S1 c → S c) ∧ (∀ c, S2 c → S c) ∧ (tr = true → ∀ c, S1 c → ¬ S2 c)
  | .slice t, cs, x, S => ∃ p c, cs = [.slice p (List.length x) c] ∧ List.length x ≤ c ∧ (cond tr c (List.length x) = 0 ∨
      ∃ b o L E fz, p = some ⟨b, o, none⟩ ∧ w.heap[b]? = some (.cells L E fz) ∧ S b ∧ (tr = true → fz = (0, 0) ∧ c ≤ 9223372036854775807) ∧ o + cond tr c (List.length x) * t.size ≤ L.size ∧
      ∃ Si : Nat → Nat → Prop, (∀ i y, lget (α := t.den) x i = some y → Rep tr w t (seg L (o + i * t.size) t.size) y (Si i)) ∧
        (∀ i c, Si i c → S c ∧ (tr = true → c ≠ b)) ∧ (tr = true → ∀ i j c, i ≠ j → Si i c → ¬ Si j c))

theorem cond_ge {tr : Bool} {n c : Nat} (h : n ≤ c) : n ≤ cond tr c n := by cases tr <;> simp [h]

theorem Rep.len {tr : Bool} {w : World} : ∀ {t : Ty} {cs : List Value} {x : t.den} {S : Nat → Prop}, Rep tr w t cs x S → cs.length = t.size
  | .num _, _, _, _, h => by simp only [Rep] at h; simp [h, Ty.size]
  | .bool, _, _, _, h => by simp only [Rep] at h; simp [h, Ty.size]
  | .fn _, _, _, _, h => by simp only [Rep] at h; simp [h, Ty.size]
  | .raw, _, _, _, h => by simp only [Rep] at h; rw [h.1]; rfl
  | .cur, _, _, _, h => by simp only [Rep] at h; simp [h.len, Ty.size]
  | .pair a b, _, _, _, h => by
    obtain ⟨c1, c2, S1, S2, rfl, h1, h2, _⟩ := h
    simp [Ty.size, h1.len, h2.len]
  | .tup a b, _, _, _, h => by
    obtain ⟨c1, c2, S1, S2, rfl, h1, h2, _⟩ := h
    simp [Ty.size, h1.len, h2.len]
  | .slice t, _, _, _, h => by
    obtain ⟨p, c, rfl, _⟩ := h
    simp [Ty.size]

theorem Rep.mono {tr : Bool} {w : World} : ∀ {t : Ty} {cs : List Value} {x : t.den} {S S' : Nat → Prop}, (∀ c, S c → S' c) → Rep tr w t cs x S → Rep tr w t cs x S'
  | .num _, _, _, _, _, _, h => h
  | .bool, _, _, _, _, _, h => h
  | .fn _, _, _, _, _, _, h => h
  | .raw, _, _, _, _, _, h => h
  | .cur, _, _, _, _, hs, h => CurOk.mono hs h
  | .pair _a _b, _, _, _, _, hs, ⟨c1, c2, S1, S2, hc, h1, h2, g1, g2, g3⟩ =>
    ⟨c1, c2, S1, S2, hc, h1, h2, fun c h => hs c (g1 c h), fun c h => hs c (g2 c h), g3⟩
  | .tup _a _b, _, _, _, _, hs, ⟨c1, c2, S1, S2, hc, h1, h2, g1, g2, g3⟩ =>
    ⟨c1, c2, S1, S2, hc, h1, h2, fun c h => hs c (g1 c h), fun c h => hs c (g2 c h), g3⟩
  | .slice _t, _, _, _, _, hs, ⟨p, c, hc, hl, h⟩ =>
    ⟨p, c, hc, hl, h.imp id fun ⟨b, o, L, E, fz, hp, hh, hb, hf, ho, Si, h1, h2, h3⟩ =>
      ⟨b, o, L, E, fz, hp, hh, hs b hb, hf, ho, Si, h1, fun i c h => ⟨hs c (h2 i c h).1, (h2 i c h).2⟩, h3⟩⟩

/-- Only the blocks of S count. -/
theorem Rep.agree {tr : Bool} {w w' : World} : ∀ {t : Ty} {cs : List Value} {x : t.den} {S : Nat → Prop},
    (∀ c, S c → w'.heap[c]? = w.heap[c]?) → Rep tr w t cs x S → Rep tr w' t cs x S
  | .num _, _, _, _, _, h => h
  | .bool, _, _, _, _, h => h
  | .fn _, _, _, _, _, h => h
  | .raw, _, _, _, _, h => h
  | .cur, _, _, _, hs, h => CurOk.agree hs h
  | .pair _a _b, _, _, _, hs, ⟨c1, c2, S1, S2, hc, h1, h2, g1, g2, g3⟩ =>
    ⟨c1, c2, S1, S2, hc, h1.agree fun c h => hs c (g1 c h), h2.agree fun c h => hs c (g2 c h), g1, g2, g3⟩
  | .tup _a _b, _, _, _, hs, ⟨c1, c2, S1, S2, hc, h1, h2, g1, g2, g3⟩ =>
    ⟨c1, c2, S1, S2, hc, h1.agree fun c h => hs c (g1 c h), h2.agree fun c h => hs c (g2 c h), g1, g2, g3⟩
  | .slice _t, _, _, _, hs, ⟨p, c, hc, hl, h⟩ =>
    ⟨p, c, hc, hl, h.imp id fun ⟨b, o, L, E, fz, hp, hh, hb, hf, ho, Si, h1, h2, h3⟩ =>
      ⟨b, o, L, E, fz, hp, (hs b hb).trans hh, hb, hf, ho, Si, fun i y h => (h1 i y h).agree fun c hc => hs c (h2 i c hc).1, h2, h3⟩⟩

theorem Rep.weak {tr : Bool} {w : World} : ∀ {t : Ty} {cs : List Value} {x : t.den} {S : Nat → Prop}, Rep tr w t cs x S → Rep false w t cs x S
  | .num _, _, _, _, h => h
  | .bool, _, _, _, h => h
  | .fn _, _, _, _, h => h
  | .raw, _, _, _, h => h
  | .cur, _, _, _, h => h
  | .pair a b, _, _, _, ⟨c1, c2, S1, S2, hc, h1, h2, g1, g2, g3⟩ => ⟨c1, c2, S1, S2, hc, h1.weak, h2.weak, g1, g2, fun h => by simp at h⟩
  | .tup a b, _, _, _, ⟨c1, c2, S1, S2, hc, h1, h2, g1, g2, g3⟩ => ⟨c1, c2, S1, S2, hc, h1.weak, h2.weak, g1, g2, fun h => by simp at h⟩
  | .slice t, _, x, _, ⟨p, c, hc, hl, h⟩ => by
    have hle : List.length x ≤ cond tr c (List.length x) := by cases tr <;> simp [hl]
    refine ⟨p, c, hc, hl, ?_⟩
    simp only [cond_false]
    rcases h with h | ⟨b, o, L, E, fz, hp, hh, hb, hf, ho, Si, h1, h2, h3⟩
    · exact .inl (by omega)
    · have := Nat.mul_le_mul_right t.size hle
      exact .inr ⟨b, o, L, E, fz, hp, hh, hb, fun h => by simp at h, by omega, Si, fun i y h => (h1 i y h).weak, fun i c h => ⟨(h2 i c h).1, fun h => by simp at h⟩, fun h => by simp at h⟩

/-- A flat value hangs on no memory. -/
theorem Rep.flatAny {tr tr' : Bool} {w w' : World} : ∀ {t : Ty} {cs : List Value} {x : t.den} {S S' : Nat → Prop}, t.flat = true → Rep tr w t cs x S → Rep tr' w' t cs x S'
  | .num _, _, _, _, _, _, h => h
  | .bool, _, _, _, _, _, h => h
  | .fn _, _, _, _, _, _, h => h
  | .raw, _, _, _, _, _, h => h
  | .cur, _, _, _, _, hf, _ => by simp [Ty.flat] at hf
  | .pair a b, _, _, _, _, hf, ⟨c1, c2, S1, S2, hc, h1, h2, _⟩ => by
    simp only [Ty.flat, Bool.and_eq_true] at hf
    exact ⟨c1, c2, fun _ => False, fun _ => False, hc, h1.flatAny hf.1, h2.flatAny hf.2, fun c h => h.elim, fun c h => h.elim, fun _ c h => h.elim⟩
  | .tup a b, _, _, _, _, hf, ⟨c1, c2, S1, S2, hc, h1, h2, _⟩ => by
    simp only [Ty.flat, Bool.and_eq_true] at hf
    exact ⟨c1, c2, fun _ => False, fun _ => False, hc, h1.flatAny hf.1, h2.flatAny hf.2, fun c h => h.elim, fun c h => h.elim, fun _ c h => h.elim⟩
  | .slice t, _, _, _, _, hf, _ => by simp [Ty.flat] at hf

theorem Ty.zeroCells_rep (tr : Bool) (w : World) : ∀ (t : Ty) (S : Nat → Prop), Rep tr w t t.zeroCells t.zero S
  | .num _, _ => rfl
  | .bool, _ => rfl
  | .fn _, _ => rfl
  | .raw, _ => ⟨rfl, rfl⟩
  | .cur, _ => rfl
  | .pair a b, _ => ⟨a.zeroCells, b.zeroCells, fun _ => False, fun _ => False, rfl, zeroCells_rep tr w a _, zeroCells_rep tr w b _, fun c h => h.elim, fun c h => h.elim, fun _ c h => h.elim⟩
  | .tup a b, _ => ⟨a.zeroCells, b.zeroCells, fun _ => False, fun _ => False, rfl, zeroCells_rep tr w a _, zeroCells_rep tr w b _, fun c h => h.elim, fun c h => h.elim, fun _ c h => h.elim⟩
  | .slice t, _ => ⟨none, 0, rfl, Nat.le_refl _, .inl (by cases tr <;> rfl)⟩

theorem Ty.zeroCells_length (t : Ty) : t.zeroCells.length = t.size :=
  (zeroCells_rep true default t (fun _ => True)).len

/-- The blocks that a tree takes, no more. -/
def FP (w : World) : (t : Ty) → List Value → t.den → Nat → Prop
  | .num _, _, _, _ => False
  | .bool, _, _, _ => False
  | .fn _, _, _, _ => False
  | .raw, _, _, _ => False
  | .cur, cs, x, c => x.isSome = true ∧ cs = [.pointer (some ⟨c, 0, none⟩)]
  | .pair a b, cs, x, c => FP w a (cs.take a.size) x.1 c ∨ FP w b (cs.drop a.size) x.2 c
  | .tup a b, cs, x, c => FP w a (cs.take a.size) x.1 c ∨ FP w b (cs.drop a.size) x.2 c
  | .slice t, cs, x, c => ∃ n cap b o L E fz, cs = [.slice (some ⟨b, o, none⟩) n cap] ∧ cap ≠ 0 ∧ w.heap[b]? = some (.cells L E fz) ∧
      (c = b ∨ ∃ i y, lget (α := t.den) x i = some y ∧ FP w t (seg L (o + i * t.size) t.size) y c)

theorem Rep.tight {w : World} : ∀ {t : Ty} {cs : List Value} {x : t.den} {S : Nat → Prop}, Rep true w t cs x S → Rep true w t cs x (FP w t cs x) ∧ ∀ c, FP w t cs x c → S c
  | .num _, _, _, _, h => ⟨h, fun c h => h.elim⟩
  | .bool, _, _, _, h => ⟨h, fun c h => h.elim⟩
  | .fn _, _, _, _, h => ⟨h, fun c h => h.elim⟩
  | .raw, _, _, _, h => ⟨h, fun c h => h.elim⟩
  | .cur, _, none, _, h => ⟨h, fun c h => by simp [FP] at h⟩
  | .cur, _, some (v, i, k), _, h => by
    obtain ⟨b, E, h1, h2, h3⟩ := h
    subst h1
    refine ⟨⟨b, E, rfl, h2, rfl, rfl⟩, fun c hc => ?_⟩
    obtain ⟨_, e⟩ := hc
    simp at e; exact e ▸ h3
  | .pair a b, _, x, _, ⟨c1, c2, S1, S2, hc, h1, h2, g1, g2, g3⟩ => by
    have e1 := h1.len
    obtain ⟨r1, s1⟩ := h1.tight
    obtain ⟨r2, s2⟩ := h2.tight
    subst hc
    simp only [FP, List.take_left' e1, List.drop_left' e1]
    exact ⟨⟨c1, c2, _, _, rfl, r1, r2, fun c h => .inl h, fun c h => .inr h, fun ht c h h' => g3 ht c (s1 c h) (s2 c h')⟩, fun c h => h.elim (fun h => g1 c (s1 c h)) fun h => g2 c (s2 c h)⟩
  | .tup a b, _, x, _, ⟨c1, c2, S1, S2, hc, h1, h2, g1, g2, g3⟩ => by
    have e1 := h1.len
    obtain ⟨r1, s1⟩ := h1.tight
    obtain ⟨r2, s2⟩ := h2.tight
    subst hc
    simp only [FP, List.take_left' e1, List.drop_left' e1]
    exact ⟨⟨c1, c2, _, _, rfl, r1, r2, fun c h => .inl h, fun c h => .inr h, fun ht c h h' => g3 ht c (s1 c h) (s2 c h')⟩, fun c h => h.elim (fun h => g1 c (s1 c h)) fun h => g2 c (s2 c h)⟩
  | .slice t, _, x, S, ⟨p, c, hc, hl, h⟩ => by
    subst hc
    by_cases hz : c = 0
    · exact ⟨⟨p, c, rfl, hl, .inl hz⟩, fun c' ⟨n, cap, b, o, L, E, fz, h1, h2, _⟩ => by simp at h1; exact absurd (h1.2.2 ▸ hz) h2⟩
    · rcases h with h | ⟨b, o, L, E, fz, hp, hh, hb, hf, ho, Si, h1, h2, h3⟩
      · exact absurd h hz
      · subst hp
        have hs : ∀ i y, lget (α := t.den) x i = some y → ∀ c', FP w t (seg L (o + i * t.size) t.size) y c' → Si i c' := fun i y hy => ((h1 i y hy).tight).2
        refine ⟨⟨_, c, rfl, hl, .inr ⟨b, o, L, E, fz, rfl, hh, ⟨_, c, b, o, L, E, fz, rfl, hz, hh, .inl rfl⟩, hf, ho,
          fun i c' => ∃ y, lget (α := t.den) x i = some y ∧ FP w t (seg L (o + i * t.size) t.size) y c', fun i y hy => ((h1 i y hy).tight).1.mono fun c' h => ⟨y, hy, h⟩,
          fun i c' ⟨y, hy, h⟩ => ⟨⟨_, c, b, o, L, E, fz, rfl, hz, hh, .inr ⟨i, y, hy, h⟩⟩, fun ht => (h2 i c' (hs i y hy c' h)).2 ht⟩,
          fun ht i j c' hij ⟨y, hy, h⟩ ⟨y', hy', h'⟩ => h3 ht i j c' hij (hs i y hy c' h) (hs j y' hy' c' h')⟩⟩, ?_⟩
        rintro c' ⟨n, cap, b', o', L', E', fz', e, _, hh', h⟩
        simp at e
        obtain ⟨⟨rfl, rfl⟩, _, _⟩ := e
        rw [hh] at hh'; simp at hh'; obtain ⟨rfl, rfl, rfl⟩ := hh'
        rcases h with rfl | ⟨i, y, hy, h⟩
        · exact hb
        · exact (h2 i c' (hs i y hy c' h)).1

/-- A tree's own blocks are as they were: so are they counted. -/
theorem FP.agree {w w' : World} : ∀ {t : Ty} {cs : List Value} {x : t.den} {c : Nat}, (∀ c, FP w t cs x c → w'.heap[c]? = w.heap[c]?) → FP w t cs x c → FP w' t cs x c
  | .num _, _, _, _, _, h => h.elim
  | .bool, _, _, _, _, h => h.elim
  | .fn _, _, _, _, _, h => h.elim
  | .raw, _, _, _, _, h => h.elim
  | .cur, _, _, _, _, h => h
  | .pair _a _b, _, _, _, hs, h => h.imp (FP.agree fun c h => hs c (.inl h)) (FP.agree fun c h => hs c (.inr h))
  | .tup _a _b, _, _, _, hs, h => h.imp (FP.agree fun c h => hs c (.inl h)) (FP.agree fun c h => hs c (.inr h))
  | .slice _t, _, _, _, hs, ⟨n, cap, b, o, L, E, fz, hc, hz, hh, h⟩ =>
    ⟨n, cap, b, o, L, E, fz, hc, hz, (hs b ⟨n, cap, b, o, L, E, fz, hc, hz, hh, .inl rfl⟩).trans hh, h.imp id fun ⟨i, y, hy, h⟩ =>
      ⟨i, y, hy, FP.agree (fun c h => hs c ⟨n, cap, b, o, L, E, fz, hc, hz, hh, .inr ⟨i, y, hy, h⟩⟩) h⟩⟩

end Go.Sx

/- Places inside typed values: reading at a path, and what a store at a path makes of the whole. Conditions: none. -/
namespace Go.Sx

inductive PS where
  | fst | snd
  | idx (i : Nat)

abbrev Path := List PS

/-- At path p of x stands y; u: the whole, with something else in y's place. -/
inductive At : (t : Ty) → t.den → Path → (t' : Ty) → t'.den → (t'.den → t.den) → Prop
  | here {t : Ty} {x : t.den} : At t x [] t x id
  | fst {a b : Ty} {x : a.den} {z : b.den} {p : Path} {t' : Ty} {y : t'.den} {u : t'.den → a.den} : At a x p t' y u →
      At (.pair a b) (x, z) (.fst :: p) t' y (fun v => (u v, z))
  | snd {a b : Ty} {x : a.den} {z : b.den} {p : Path} {t' : Ty} {y : t'.den} {u : t'.den → b.den} : At b z p t' y u →
      At (.pair a b) (x, z) (.snd :: p) t' y (fun v => (x, u v))
  | tfst {a b : Ty} {x : a.den} {z : b.den} {p : Path} {t' : Ty} {y : t'.den} {u : t'.den → a.den} : At a x p t' y u →
      At (.tup a b) (x, z) (.fst :: p) t' y (fun v => (u v, z))
  | tsnd {a b : Ty} {x : a.den} {z : b.den} {p : Path} {t' : Ty} {y : t'.den} {u : t'.den → b.den} : At b z p t' y u →
      At (.tup a b) (x, z) (.snd :: p) t' y (fun v => (x, u v))
  | idx {t : Ty} {xs : List t.den} {i : Nat} {x : t.den} {p : Path} {t' : Ty} {y : t'.den} {u : t'.den → t.den} : lget xs i = some x → At t x p t' y u →
      At (.slice t) xs (.idx i :: p) t' y (fun v => List.set xs i (u v))

theorem At.self {t : Ty} {x : t.den} {p : Path} {t' : Ty} {y : t'.den} {u : t'.den → t.den} (h : At t x p t' y u) : u y = x := by
  induction h with
  | here => rfl
  | fst _ ih | snd _ ih | tfst _ ih | tsnd _ ih => simp only [ih]; rfl
  | idx hx _ ih =>
    simp only [ih]
    apply List.ext_getElem?; intro j
    rw [List.getElem?_set]
    split
    · rename_i e; subst e; split
      · exact hx.symm
      · rename_i hn; exact absurd (List.getElem?_eq_some_iff.1 hx).1 hn
    · rfl

inductive Loc where
  | reg (o : Nat)
  | mem (b o : Nat)

def Loc.add : Loc → Nat → Loc
  | .reg o, n => .reg (o + n)
  | .mem b o, n => .mem b (o + n)

/-- The cells from a place on. -/
def conts (w : World) (rc : List Value) : Loc → List Value
  | .reg o => rc.drop o
  | .mem b o => match w.heap[b]? with
    | some (.cells L _ _) => L.toList.drop o
    | _ => []

def locate (w : World) (rc : List Value) : Path → Ty → Loc → Option Loc
  | [], _, l => some l
  | .fst :: p, .pair a _, l => locate w rc p a l
  | .snd :: p, .pair a b, l => locate w rc p b (l.add a.size)
  | .fst :: p, .tup a _, l => locate w rc p a l
  | .snd :: p, .tup a b, l => locate w rc p b (l.add a.size)
  | .idx i :: p, .slice t, l => match conts w rc l with
    | .slice (some ⟨b, o, none⟩) _ _ :: _ => locate w rc p t (.mem b (o + i * t.size))
    | _ => none
  | _, _, _ => none

theorem conts_add (w : World) (rc : List Value) (l : Loc) (n : Nat) : conts w rc (l.add n) = (conts w rc l).drop n := by
  cases l with
  | reg o => simp [conts, Loc.add, List.drop_drop]
  | mem b o =>
    simp only [conts, Loc.add]
    split <;> simp [List.drop_drop]

theorem conts_mem {w : World} {rc : List Value} {b o : Nat} {L : Array Value} {E : TypeId} {fz : Nat × Nat} (h : w.heap[b]? = some (.cells L E fz)) :
    conts w rc (.mem b o) = L.toList.drop o := by simp [conts, h]

/-- The cells of a row, some of them others. -/
def splice (L : Array Value) (o : Nat) (cs : List Value) : Array Value := (L.toList.take o ++ (cs ++ L.toList.drop (o + cs.length))).toArray

theorem splice_get (L : Array Value) (o : Nat) (cs : List Value) (h : o ≤ L.size) (j : Nat) :
    (splice L o cs).toList[j]? = if j < o then L.toList[j]? else if j < o + cs.length then cs[j - o]? else L.toList[j]? := by
  have hl : (L.toList.take o).length = o := by simp; omega
  simp only [splice]
  rw [List.getElem?_append, hl]
  split
  · simp [*]
  · rw [List.getElem?_append]
    split
    · rw [if_pos (by omega)]
    · rw [if_neg (by omega), List.getElem?_drop]
      congr 1; omega

theorem splice_size (L : Array Value) (o : Nat) (cs : List Value) (h : o + cs.length ≤ L.size) : (splice L o cs).size = L.size := by
  simp [splice]; omega

theorem seg_get (L : Array Value) (o n j : Nat) : (seg L o n)[j]? = if j < n then L.toList[o + j]? else none := by
  simp only [seg, List.getElem?_take, List.getElem?_drop]

theorem seg_splice_in (L : Array Value) (o : Nat) (cs : List Value) (n : Nat) (hn : cs.length = n) (h : o ≤ L.size) : seg (splice L o cs) o n = cs := by
  apply List.ext_getElem?; intro j
  rw [seg_get, splice_get _ _ _ h]
  split
  · rw [if_neg (by omega), if_pos (by omega)]; congr 1; omega
  · rw [List.getElem?_eq_none (by omega)]

theorem seg_splice_out (L : Array Value) (o : Nat) (cs : List Value) (o' n : Nat) (h : o ≤ L.size) (hd : o' + n ≤ o ∨ o + cs.length ≤ o') :
    seg (splice L o cs) o' n = seg L o' n := by
  apply List.ext_getElem?; intro j
  rw [seg_get, seg_get, splice_get _ _ _ h]
  by_cases hj : j < n
  · rw [if_pos hj, if_pos hj]
    rcases hd with hd | hd
    · rw [if_pos (by omega)]
    · rw [if_neg (by omega), if_neg (by omega)]
  · rw [if_neg hj, if_neg hj]

theorem splice_id (L : Array Value) (o n : Nat) (h : o + n ≤ L.size) : splice L o (seg L o n) = L := by
  have hl : (seg L o n).length = n := by simp [seg]; omega
  apply Array.ext'
  apply List.ext_getElem?; intro j
  rw [splice_get _ _ _ (by omega), hl, seg_get]
  split
  · rfl
  · split
    · rw [if_pos (by omega)]; congr 1; omega
    · rfl

theorem seg_length {L : Array Value} {o n : Nat} (h : o + n ≤ L.size) : (seg L o n).length = n := by simp [seg]; omega

theorem seg_le {L : Array Value} {o n : Nat} (h : (seg L o n).length = n) (hn : 0 < n) : o + n ≤ L.size := by
  simp [seg] at h; omega

theorem take_conts_mem {w : World} {rc : List Value} {b o n : Nat} {L : Array Value} {E : TypeId} {fz : Nat × Nat} (h : w.heap[b]? = some (.cells L E fz)) :
    (conts w rc (.mem b o)).take n = seg L o n := by rw [conts_mem h]; rfl

/-- Where a place inside lies. -/
structure Inside (l : Loc) (n : Nat) (S S' : Nat → Prop) (l' : Loc) (n' : Nat) : Prop where
  reg : ∀ o', l' = .reg o' → ∃ o, l = .reg o ∧ o ≤ o' ∧ o' + n' ≤ o + n
  mem : ∀ b o', l' = .mem b o' → (∃ o, l = .mem b o ∧ o ≤ o' ∧ o' + n' ≤ o + n) ∨ (S b)

theorem Rep.focus {tr : Bool} {w : World} {rc : List Value} {t : Ty} {x : t.den} {p : Path} {t' : Ty} {y : t'.den} {u : t'.den → t.den} (hat : At t x p t' y u) :
    ∀ (l : Loc) (S : Nat → Prop), Rep tr w t ((conts w rc l).take t.size) x S →
      ∃ l' S', locate w rc p t l = some l' ∧ Rep tr w t' ((conts w rc l').take t'.size) y S' ∧ (∀ c, S' c → S c) ∧ Inside l t.size S S' l' t'.size := by
  induction hat with
  | here => exact fun l S h => ⟨l, S, rfl, h, fun _ h => h, ⟨fun o' h => ⟨o', h, Nat.le_refl _, Nat.le_refl _⟩, fun b o' h => .inl ⟨o', h, Nat.le_refl _, Nat.le_refl _⟩⟩⟩
  | @fst a b x z p t' y u _ ih | @tfst a b x z p t' y u _ ih =>
    intro l S h
    obtain ⟨c1, c2, S1, S2, hc, h1, h2, g1, g2, g3⟩ := h
    have e1 : c1 = (conts w rc l).take a.size := by
      have := congrArg (List.take a.size) hc
      rw [List.take_take, List.take_left' h1.len] at this
      rw [← this]; congr 1; simp [Ty.size]
    obtain ⟨l', S', hl, hr, hs, hi⟩ := ih l S1 (e1 ▸ h1)
    refine ⟨l', S', by simpa [locate] using hl, hr, fun c h => g1 c (hs c h), ⟨fun o' h => ?_, fun b o' h => ?_⟩⟩
    · obtain ⟨o, ho, h1, h2⟩ := hi.reg o' h
      exact ⟨o, ho, h1, by simp [Ty.size]; omega⟩
    · rcases hi.mem b o' h with ⟨o, ho, h1, h2⟩ | h
      · exact .inl ⟨o, ho, h1, by simp [Ty.size]; omega⟩
      · exact .inr (g1 b h)
  | @snd a b x z p t' y u _ ih | @tsnd a b x z p t' y u _ ih =>
    intro l S h
    obtain ⟨c1, c2, S1, S2, hc, h1, h2, g1, g2, g3⟩ := h
    have e2 : c2 = (conts w rc (l.add a.size)).take b.size := by
      have := congrArg (List.drop a.size) hc
      rw [List.drop_take, List.drop_left' h1.len] at this
      rw [← this, conts_add]; congr 1; simp [Ty.size]
    obtain ⟨l', S', hl, hr, hs, hi⟩ := ih (l.add a.size) S2 (e2 ▸ h2)
    refine ⟨l', S', by simpa [locate] using hl, hr, fun c h => g2 c (hs c h), ⟨fun o' h => ?_, fun b o' h => ?_⟩⟩
    · obtain ⟨o, ho, h1, h2⟩ := hi.reg o' h
      cases l with
      | reg o0 => simp [Loc.add] at ho; exact ⟨o0, rfl, by omega, by simp [Ty.size]; omega⟩
      | mem b0 o0 => simp [Loc.add] at ho
    · rcases hi.mem b o' h with ⟨o, ho, h1, h2⟩ | h
      · cases l with
        | reg o0 => simp [Loc.add] at ho
        | mem b0 o0 =>
          simp [Loc.add] at ho
          exact .inl ⟨o0, by rw [ho.1], by omega, by simp [Ty.size]; omega⟩
      · exact .inr (g2 b h)
  | @idx t xs i x p t' y u hx _ ih =>
    intro l S h
    obtain ⟨pp, c, hc, hl, h⟩ := h
    have hi : i < List.length xs := (List.getElem?_eq_some_iff.1 hx).1
    rcases h with h | ⟨b, o, L, E, fz, rfl, hh, hb, hf, ho, Si, h1, h2, h3⟩
    · have := cond_ge (tr := tr) hl; omega
    · have hr := h1 i x hx
      rw [← take_conts_mem (rc := rc) hh] at hr
      obtain ⟨l', S', hl', hr', hs, hi'⟩ := ih (.mem b (o + i * t.size)) (Si i) hr
      refine ⟨l', S', ?_, hr', fun c h => (h2 i c (hs c h)).1, ⟨fun o' h => ?_, fun b' o' h => ?_⟩⟩
      · have : conts w rc l = .slice (some ⟨b, o, none⟩) (List.length xs) c :: (conts w rc l).tail := by
          cases hcl : conts w rc l with
          | nil => rw [hcl] at hc; simp at hc
          | cons a r => rw [hcl] at hc; simp [Ty.size] at hc; simp [hc]
        rw [locate, this]; exact hl'
      · obtain ⟨o1, ho1, _⟩ := hi'.reg o' h
        simp at ho1
      · rcases hi'.mem b' o' h with ⟨o1, ho1, _⟩ | h
        · simp at ho1; rw [← ho1.1]; exact .inr hb
        · exact .inr (h2 i b' h).1

/-- A place lies where it lay while the blocks are as they were. -/
theorem Rep.locate_same {tr : Bool} {w w2 : World} {rc : List Value} {t : Ty} {x : t.den} {p : Path} {t' : Ty} {y : t'.den} {u : t'.den → t.den} (hat : At t x p t' y u) :
    ∀ (l : Loc) (S : Nat → Prop), Rep tr w t ((conts w rc l).take t.size) x S → (∀ c, S c → w2.heap[c]? = w.heap[c]?) →
      (∀ b o, l = .mem b o → w2.heap[b]? = w.heap[b]?) → locate w2 rc p t l = locate w rc p t l ∧ ∀ l', locate w rc p t l = some l' → conts w2 rc l' = conts w rc l' := by
  have hcon : ∀ l : Loc, (∀ b o, l = .mem b o → w2.heap[b]? = w.heap[b]?) → conts w2 rc l = conts w rc l := by
    intro l h
    cases l with
    | reg _ => rfl
    | mem b o => simp [conts, h b o rfl]
  induction hat with
  | here => exact fun l S _ _ h => ⟨rfl, fun l' e => by simp [locate] at e; subst e; exact hcon l h⟩
  | @fst a b x z p t' y u _ ih | @tfst a b x z p t' y u _ ih =>
    intro l S h hs hl
    obtain ⟨c1, c2, S1, S2, hc, h1, h2, g1, g2, g3⟩ := h
    have e1 : c1 = (conts w rc l).take a.size := by
      have := congrArg (List.take a.size) hc
      rw [List.take_take, List.take_left' h1.len] at this
      rw [← this]; congr 1; simp [Ty.size]
    simpa [locate] using ih l S1 (e1 ▸ h1) (fun c h => hs c (g1 c h)) hl
  | @snd a b x z p t' y u _ ih | @tsnd a b x z p t' y u _ ih =>
    intro l S h hs hl
    obtain ⟨c1, c2, S1, S2, hc, h1, h2, g1, g2, g3⟩ := h
    have e2 : c2 = (conts w rc (l.add a.size)).take b.size := by
      have := congrArg (List.drop a.size) hc
      rw [List.drop_take, List.drop_left' h1.len] at this
      rw [← this, conts_add]; congr 1; simp [Ty.size]
    simpa [locate] using ih (l.add a.size) S2 (e2 ▸ h2) (fun c h => hs c (g2 c h)) (fun b1 o1 e => by
      cases l with
      | reg _ => simp [Loc.add] at e
      | mem b0 o0 => simp [Loc.add] at e; exact e.1 ▸ hl b0 o0 rfl)
  | @idx t xs i x p t' y u hx _ ih =>
    intro l S h hs hl
    obtain ⟨pp, c, hc, hle, h⟩ := h
    have hi : i < List.length xs := (List.getElem?_eq_some_iff.1 hx).1
    rcases h with h | ⟨b, o, L, E, fz, rfl, hh, hb, hf, ho, Si, h1, h2, h3⟩
    · have := cond_ge (tr := tr) hle; omega
    · have hr := h1 i x hx
      rw [← take_conts_mem (rc := rc) hh] at hr
      have := ih (.mem b (o + i * t.size)) (Si i) hr (fun c h => hs c (h2 i c h).1) (fun b1 o1 e => by simp at e; exact e.1 ▸ hs b hb)
      have hhead : conts w rc l = .slice (some ⟨b, o, none⟩) (List.length xs) c :: (conts w rc l).tail := by
        cases hcl : conts w rc l with
        | nil => rw [hcl] at hc; simp at hc
        | cons a r => rw [hcl] at hc; simp [Ty.size] at hc; simp [hc]
      simp only [locate, hcon l hl]
      rw [hhead]
      exact this

end Go.Sx

/- What a store at a path of a tree makes of the whole. Conditions: none. -/
namespace Go.Sx

/-- What a store at a place b, o inside the whole makes of the whole. -/
def Wand (w : World) (rc : List Value) (t : Ty) (l : Loc) (S : Nat → Prop) (t' : Ty) (S' : Nat → Prop) (u : t'.den → t.den) (b o : Nat) : Prop :=
  ∀ (w2 : World) (L : Array Value) (E : TypeId) (fz : Nat × Nat) (cs2 : List Value) (y' : t'.den) (G : Nat → Prop),
    w.heap[b]? = some (.cells L E fz) → w2.heap[b]? = some (.cells (splice L o cs2) E fz) →
    (∀ c, S c → ¬ S' c → c ≠ b → w2.heap[c]? = w.heap[c]?) → (∀ b0 o0, l = .mem b0 o0 → b0 ≠ b → w2.heap[b0]? = w.heap[b0]?) →
    cs2.length = t'.size → Rep true w2 t' cs2 y' G → (∀ c, G c → c ≠ b ∧ (S c → S' c)) →
    Rep true w2 t ((conts w2 rc l).take t.size) (u y') (fun c => S c ∨ G c)

/-- The container of a place outside b is as it was; in b the cells beside the spliced ones are. -/
theorem conts_beside {w w2 : World} {rc : List Value} {l : Loc} {b o n : Nat} {L : Array Value} {E : TypeId} {fz : Nat × Nat} {cs2 : List Value}
    (hb : w.heap[b]? = some (.cells L E fz)) (hb2 : w2.heap[b]? = some (.cells (splice L o cs2) E fz)) (ho : o ≤ L.size)
    (hl : ∀ b0 o0, l = .mem b0 o0 → b0 ≠ b → w2.heap[b0]? = w.heap[b0]?) (hd : ∀ o0, l = .mem b o0 → o0 + n ≤ o ∨ o + cs2.length ≤ o0) :
    (conts w2 rc l).take n = (conts w rc l).take n := by
  cases l with
  | reg o0 => rfl
  | mem b0 o0 =>
    by_cases h : b0 = b
    · subst h
      rw [take_conts_mem hb2, take_conts_mem hb]
      exact seg_splice_out _ _ _ _ _ ho (hd o0 rfl)
    · simp [conts, hl b0 o0 rfl h]

theorem Rep.put {w : World} {rc : List Value} {t : Ty} {x : t.den} {p : Path} {t' : Ty} {y : t'.den} {u : t'.den → t.den} (hat : At t x p t' y u) :
    ∀ (l : Loc) (S : Nat → Prop), Rep true w t ((conts w rc l).take t.size) x S → (∀ b o, l = .mem b o → ¬ S b) →
      ∃ l' S', locate w rc p t l = some l' ∧ Rep true w t' ((conts w rc l').take t'.size) y S' ∧ S' = FP w t' ((conts w rc l').take t'.size) y ∧ (∀ c, S' c → S c) ∧ Inside l t.size S S' l' t'.size ∧
        (∀ b o, l' = .mem b o → ¬ S' b ∧ (S b → ∃ L E, w.heap[b]? = some (.cells L E (0, 0))) ∧ Wand w rc t l S t' S' u b o) := by
  induction hat with
  | @here t x =>
    intro l S h hn
    obtain ⟨ht, hts⟩ := h.tight
    refine ⟨l, _, rfl, ht, rfl, hts, ⟨fun o' h => ⟨o', h, Nat.le_refl _, Nat.le_refl _⟩, fun b o' h => .inl ⟨o', h, Nat.le_refl _, Nat.le_refl _⟩⟩, fun b o hl => ⟨fun h => hn b o hl (hts b h), fun hs => absurd hs (hn b o hl), ?_⟩⟩
    intro w2 L E fz cs2 y' G hb hb2 h1 h2 hlen hr hg
    subst hl
    have hlen' := h.len
    rw [take_conts_mem hb2]
    rw [take_conts_mem hb] at hlen'
    have := seg_le hlen' t.size_pos
    rw [seg_splice_in _ _ _ _ hlen (by omega)]
    exact hr.mono fun c h => .inr h
  | @fst a b x z p t' y u _ ih | @tfst a b x z p t' y u _ ih =>
    intro l S h hn
    obtain ⟨c1, c2, S1, S2, hc, h1, h2, g1, g2, g3⟩ := h
    have e1 : c1 = (conts w rc l).take a.size := by
      have := congrArg (List.take a.size) hc
      rw [List.take_take, List.take_left' h1.len] at this
      rw [← this]; congr 1; simp [Ty.size]
    have e2 : c2 = (conts w rc (l.add a.size)).take b.size := by
      have := congrArg (List.drop a.size) hc
      rw [List.drop_take, List.drop_left' h1.len] at this
      rw [← this, conts_add]; congr 1; simp [Ty.size]
    obtain ⟨l', S', hl, hr, hfp, hs, hi, hw⟩ := ih l S1 (e1 ▸ h1) (fun b o h hs => hn b o h (g1 b hs))
    refine ⟨l', S', by simpa [locate] using hl, hr, hfp, fun c h => g1 c (hs c h), ⟨fun o' h => ?_, fun b o' h => ?_⟩, fun bb o hl' => ?_⟩
    · obtain ⟨o, ho, h1, h2⟩ := hi.reg o' h
      exact ⟨o, ho, h1, by simp [Ty.size]; omega⟩
    · rcases hi.mem b o' h with ⟨o, ho, h1, h2⟩ | h
      · exact .inl ⟨o, ho, h1, by simp [Ty.size]; omega⟩
      · exact .inr (g1 b h)
    · obtain ⟨k1, k2, k3⟩ := hw bb o hl'
      have hside : (∃ o0, l = .mem bb o0 ∧ o0 ≤ o ∧ o + t'.size ≤ o0 + a.size) ∨ S1 bb := hi.mem bb o hl'
      have hnS2 : ¬ S2 bb := by
        rcases hside with ⟨o0, e, _⟩ | h
        · exact fun h => hn bb o0 e (g2 bb h)
        · exact fun h' => g3 rfl bb h h'
      refine ⟨k1, fun hSb => ?_, ?_⟩
      · rcases hside with ⟨o0, e, _⟩ | h
        · exact absurd hSb (hn bb o0 e)
        · exact k2 h
      · intro w2 L E fz cs2 y' G hb hb2 q1 q2 hlen hr2 hg
        have r1 := k3 w2 L E fz cs2 y' G hb hb2 (fun c hc hc' hcb => q1 c (g1 c hc) hc' hcb) q2 hlen hr2 (fun c hc => ⟨(hg c hc).1, fun h => (hg c hc).2 (g1 c h)⟩)
        have r2 : Rep true w2 b c2 z S2 := h2.agree fun c hc => q1 c (g2 c hc) (fun h => g3 rfl c (hs c h) hc) (fun e => hnS2 (e ▸ hc))
        refine ⟨(conts w2 rc l).take a.size, c2, fun c => S1 c ∨ G c, S2, ?_, r1, r2, fun c h => h.imp (g1 c) id, fun c h => .inl (g2 c h), fun _ c h h' => ?_⟩
        · have hroom : o + t'.size ≤ L.size := by
            have hh := hr.len
            rw [hl', take_conts_mem hb] at hh
            exact seg_le hh t'.size_pos
          have hs2 : (conts w2 rc (l.add a.size)).take b.size = c2 := by
            rw [e2]
            refine conts_beside hb hb2 (by omega) (fun b0 o0 e hne => ?_) (fun o0 e => ?_)
            · cases l with
              | reg _ => simp [Loc.add] at e
              | mem b1 o1 => simp [Loc.add] at e; exact q2 b0 o1 (by rw [e.1]) hne
            · cases l with
              | reg _ => simp [Loc.add] at e
              | mem b1 o1 =>
                simp [Loc.add] at e
                rcases hside with ⟨o2, e2, b1, b2⟩ | h
                · simp at e2; right; omega
                · exact absurd (g1 _ h) (hn bb o1 (by rw [e.1]))
          rw [← hs2, conts_add, Ty.size, ← List.take_add]
        · rcases h with h | h
          · exact g3 rfl c h h'
          · exact g3 rfl c (hs c ((hg c h).2 (g2 c h'))) h'
  | @snd a b x z p t' y u _ ih | @tsnd a b x z p t' y u _ ih =>
    intro l S h hn
    obtain ⟨c1, c2, S1, S2, hc, h1, h2, g1, g2, g3⟩ := h
    have e1 : c1 = (conts w rc l).take a.size := by
      have := congrArg (List.take a.size) hc
      rw [List.take_take, List.take_left' h1.len] at this
      rw [← this]; congr 1; simp [Ty.size]
    have e2 : c2 = (conts w rc (l.add a.size)).take b.size := by
      have := congrArg (List.drop a.size) hc
      rw [List.drop_take, List.drop_left' h1.len] at this
      rw [← this, conts_add]; congr 1; simp [Ty.size]
    have hadd : ∀ b1 o1, l.add a.size = .mem b1 o1 → ∃ o0, l = .mem b1 o0 ∧ o1 = o0 + a.size := by
      intro b1 o1 e
      cases l with
      | reg _ => simp [Loc.add] at e
      | mem b2 o2 => simp [Loc.add] at e; exact ⟨o2, by rw [e.1], e.2.symm⟩
    obtain ⟨l', S', hl, hr, hfp, hs, hi, hw⟩ := ih (l.add a.size) S2 (e2 ▸ h2) (fun b1 o1 h hs => by
      obtain ⟨o0, e, _⟩ := hadd b1 o1 h
      exact hn b1 o0 e (g2 b1 hs))
    refine ⟨l', S', by simpa [locate] using hl, hr, hfp, fun c h => g2 c (hs c h), ⟨fun o' h => ?_, fun b1 o' h => ?_⟩, fun bb o hl' => ?_⟩
    · obtain ⟨o, ho, h1, h2⟩ := hi.reg o' h
      cases l with
      | reg o0 => simp [Loc.add] at ho; exact ⟨o0, rfl, by omega, by simp [Ty.size]; omega⟩
      | mem b0 o0 => simp [Loc.add] at ho
    · rcases hi.mem b1 o' h with ⟨o, ho, h1, h2⟩ | h
      · obtain ⟨o0, e, ee⟩ := hadd _ _ ho
        exact .inl ⟨o0, e, by omega, by simp [Ty.size]; omega⟩
      · exact .inr (g2 b1 h)
    · obtain ⟨k1, k2, k3⟩ := hw bb o hl'
      have hside : (∃ o0, l = .mem bb o0 ∧ o0 + a.size ≤ o) ∨ S2 bb := (hi.mem bb o hl').imp (fun ⟨o1, ho, h1, h2⟩ => by
        obtain ⟨o0, e, ee⟩ := hadd _ _ ho
        exact ⟨o0, e, by omega⟩) id
      have hnS1 : ¬ S1 bb := by
        rcases hside with ⟨o0, e, _⟩ | h
        · exact fun h => hn bb o0 e (g1 bb h)
        · exact fun h' => g3 rfl bb h' h
      refine ⟨k1, fun hSb => ?_, ?_⟩
      · rcases hside with ⟨o0, e, _⟩ | h
        · exact absurd hSb (hn bb o0 e)
        · exact k2 h
      · intro w2 L E fz cs2 y' G hb hb2 q1 q2 hlen hr2 hg
        have r2 := k3 w2 L E fz cs2 y' G hb hb2 (fun c hc hc' hcb => q1 c (g2 c hc) hc' hcb) (fun b0 o0 e hne => by
          obtain ⟨o1, e1, _⟩ := hadd _ _ e
          exact q2 b0 o1 e1 hne) hlen hr2 (fun c hc => ⟨(hg c hc).1, fun h => (hg c hc).2 (g2 c h)⟩)
        have r1 : Rep true w2 a c1 x S1 := h1.agree fun c hc => q1 c (g1 c hc) (fun h => g3 rfl c hc (hs c h)) (fun e => hnS1 (e ▸ hc))
        refine ⟨c1, (conts w2 rc (l.add a.size)).take b.size, S1, fun c => S2 c ∨ G c, ?_, r1, r2, fun c h => .inl (g1 c h), fun c h => h.imp (g2 c) id, fun _ c h' h => ?_⟩
        · have hroom : o + t'.size ≤ L.size := by
            have hh := hr.len
            rw [hl', take_conts_mem hb] at hh
            exact seg_le hh t'.size_pos
          have hs1 : (conts w2 rc l).take a.size = c1 := by
            rw [e1]
            refine conts_beside hb hb2 (by omega) q2 (fun o0 e => ?_)
            rcases hside with ⟨o2, e2, b1⟩ | h
            · rw [e] at e2; simp at e2; left; omega
            · exact absurd (g2 _ h) (hn bb o0 e)
          rw [← hs1, conts_add, Ty.size, ← List.take_add]
        · rcases h with h | h
          · exact g3 rfl c h' h
          · exact g3 rfl c h' (hs c ((hg c h).2 (g1 c h')))
  | @idx t xs i x p t' y u hx _ ih =>
    intro l S h hn
    obtain ⟨pp, c, hc, hl, h⟩ := h
    have hi : i < List.length xs := (List.getElem?_eq_some_iff.1 hx).1
    rcases h with h | ⟨b, o, L, E, fz, rfl, hh, hb, hf, ho, Si, h1, h2, h3⟩
    · simp only [cond_true] at h; omega
    · simp only [cond_true] at ho
      obtain ⟨hf, hcm⟩ := hf rfl
      subst hf
      have hr := h1 i x hx
      rw [← take_conts_mem (rc := rc) hh] at hr
      obtain ⟨l', S', hl', hr', hfp, hs, hi', hw⟩ := ih (.mem b (o + i * t.size)) (Si i) hr (fun b1 o1 e hs => by
        simp at e; exact (h2 i b1 hs).2 rfl e.1.symm)
      have hhead : conts w rc l = .slice (some ⟨b, o, none⟩) (List.length xs) c :: (conts w rc l).tail := by
        cases hcl : conts w rc l with
        | nil => rw [hcl] at hc; simp at hc
        | cons a r => rw [hcl] at hc; simp [Ty.size] at hc; simp [hc]
      refine ⟨l', S', ?_, hr', hfp, fun c h => (h2 i c (hs c h)).1, ⟨fun o' h => ?_, fun b' o' h => ?_⟩, fun bb oo hl2 => ?_⟩
      · rw [locate, hhead]; exact hl'
      · obtain ⟨o1, ho1, _⟩ := hi'.reg o' h
        simp at ho1
      · rcases hi'.mem b' o' h with ⟨o1, ho1, _⟩ | h
        · simp at ho1; rw [← ho1.1]; exact .inr hb
        · exact .inr (h2 i b' h).1
      · obtain ⟨k1, k2, k3⟩ := hw bb oo hl2
        have hside : (b = bb ∧ o + i * t.size ≤ oo ∧ oo + t'.size ≤ o + i * t.size + t.size) ∨ Si i bb :=
          (hi'.mem bb oo hl2).imp (fun ⟨o1, ho, h1, h2⟩ => by simp at ho; exact ⟨ho.1, by omega, by omega⟩) id
        have hSbb : S bb := by
          rcases hside with ⟨e, _⟩ | h
          · exact e ▸ hb
          · exact (h2 i bb h).1
        refine ⟨k1, fun _ => ?_, ?_⟩
        · rcases hside with ⟨e, _⟩ | h
          · exact ⟨L, E, e ▸ hh⟩
          · exact k2 h
        · intro w2 L1 E1 fz1 cs2 y' G hb1 hb2 q1 q2 hlen hr2 hg
          have hbS' : ¬ S' b := fun h => (h2 i b (hs b h)).2 rfl rfl
          have hroom : oo + t'.size ≤ L1.size := by
            have hh := hr'.len
            rw [hl2, take_conts_mem hb1] at hh
            exact seg_le hh t'.size_pos
          have hGb : ∀ c, G c → c ≠ b := fun c hc e => hbS' ((e ▸ (hg c hc).2) hb)
          have r1 := k3 w2 L1 E1 fz1 cs2 y' G hb1 hb2 (fun c hc hc' hcb => q1 c (h2 i c hc).1 hc' hcb)
            (fun b0 o0 e hne => by simp at e; exact e.1 ▸ q1 b hb hbS' (e.1 ▸ hne)) hlen hr2 (fun c hc => ⟨(hg c hc).1, fun h => (hg c hc).2 (h2 i c h).1⟩)
          -- the header's cell
          have hhd : (conts w2 rc l).take 1 = [.slice (some ⟨b, o, none⟩) (List.length xs) c] := by
            have : (conts w2 rc l).take 1 = (conts w rc l).take 1 := by
              cases l with
              | reg _ => rfl
              | mem b0 o0 =>
                have hne : b0 ≠ bb := fun e => hn b0 o0 rfl (e ▸ hSbb)
                simp only [conts, q2 b0 o0 rfl hne]
            rw [this, hhead]; rfl
          -- the row's block
          have hrow : ∃ L2, w2.heap[b]? = some (.cells L2 E (0, 0)) ∧ L2.size = L.size ∧ ∀ j, j ≠ i → j < List.length xs → seg L2 (o + j * t.size) t.size = seg L (o + j * t.size) t.size := by
            by_cases e : b = bb
            · subst e
              rw [hh] at hb1; simp at hb1; obtain ⟨rfl, rfl, rfl⟩ := hb1
              refine ⟨_, hb2, splice_size _ _ _ (by omega), fun j hj _ => ?_⟩
              refine seg_splice_out _ _ _ _ _ (by omega) ?_
              rcases hside with ⟨_, h1, h2'⟩ | h
              · rcases Nat.lt_or_gt_of_ne hj with hlt | hgt
                · left
                  have : (j + 1) * t.size ≤ i * t.size := Nat.mul_le_mul_right _ hlt
                  rw [Nat.add_mul] at this; omega
                · right
                  have : (i + 1) * t.size ≤ j * t.size := Nat.mul_le_mul_right _ hgt
                  rw [Nat.add_mul] at this; omega
              · exact absurd rfl ((h2 i b h).2 rfl)
            · exact ⟨L, (q1 b hb hbS' e).trans hh, rfl, fun _ _ _ => rfl⟩
          obtain ⟨L2, hL2, hsz, hseg⟩ := hrow
          refine ⟨some ⟨b, o, none⟩, c, ?_, ?_, .inr ⟨b, o, L2, E, (0, 0), rfl, hL2, .inl hb, fun _ => ⟨rfl, hcm⟩, by simp only [cond_true]; omega, fun j => if j = i then (fun c => Si i c ∨ G c) else Si j, ?_, ?_, ?_⟩⟩
          · show (conts w2 rc l).take 1 = _
            rw [hhd]; simp
          · simpa using hl
          · intro j z hz
            have hj : j < List.length xs := by
              have := (List.getElem?_eq_some_iff.1 hz).1
              simpa using this
            by_cases e : j = i
            · subst e
              have : z = u y' := by
                simp [lget, hi] at hz; exact hz.symm
              subst this
              simp only [if_true]
              rwa [take_conts_mem hL2] at r1
            · simp only [if_neg e]
              rw [hseg j e hj]
              have hz' : lget xs j = some z := by
                simpa [lget, List.getElem?_set, Ne.symm e] using hz
              refine (h1 j z hz').agree fun c hc => q1 c (h2 j c hc).1 (fun h => h3 rfl j i c e hc (hs c h)) (fun ec => ?_)
              subst ec
              rcases hside with ⟨eb, _⟩ | h
              · exact (h2 j c hc).2 rfl eb.symm
              · exact h3 rfl j i c e hc h
          · intro j c hc
            by_cases e : j = i
            · subst e
              simp only [if_true] at hc
              rcases hc with hc | hc
              · exact ⟨.inl (h2 j c hc).1, (h2 j c hc).2⟩
              · exact ⟨.inr hc, fun _ => hGb c hc⟩
            · simp only [if_neg e] at hc
              exact ⟨.inl (h2 j c hc).1, (h2 j c hc).2⟩
          · intro _ j k c hjk hc hc'
            have hG : ∀ j, j ≠ i → Si j c → G c → False := fun j hj h hg' => h3 rfl j i c hj h (hs c ((hg c hg').2 (h2 j c h).1))
            by_cases ej : j = i
            · subst ej
              have ek : k ≠ j := Ne.symm hjk
              simp only [if_true] at hc; simp only [if_neg ek] at hc'
              rcases hc with hc | hc
              · exact h3 rfl j k c hjk hc hc'
              · exact hG k ek hc' hc
            · simp only [if_neg ej] at hc
              by_cases ek : k = i
              · subst ek
                simp only [if_true] at hc'
                rcases hc' with hc' | hc'
                · exact h3 rfl j k c hjk hc hc'
                · exact hG j ej hc hc'
              · simp only [if_neg ek] at hc'
                exact h3 rfl j k c hjk hc hc'

/-- The blocks of a part are the whole's. -/
theorem Rep.partBlocks {w : World} {rc : List Value} {t : Ty} {x : t.den} {p : Path} {t' : Ty} {y : t'.den} {u : t'.den → t.den} (hat : At t x p t' y u) {l l' : Loc} {S : Nat → Prop}
    (h : Rep true w t ((conts w rc l).take t.size) x S) (hn : ∀ b o, l = .mem b o → ¬ S b) (hl : locate w rc p t l = some l') :
    (∀ c, FP w t' ((conts w rc l').take t'.size) y c → S c) ∧ Rep true w t' ((conts w rc l').take t'.size) y (FP w t' ((conts w rc l').take t'.size) y) := by
  obtain ⟨l2, S', k1, k2, k3, k4, _⟩ := Rep.put hat l S h hn
  rw [hl] at k1; simp at k1; subst k1
  exact ⟨fun c hc => k4 c (k3 ▸ hc), k3 ▸ k2⟩

/-- A part's own blocks hold something else, the cells that lead to it stand as they stood. -/
theorem Rep.inner {w : World} {rc : List Value} {t : Ty} {x : t.den} {p : Path} {t' : Ty} {y : t'.den} {u : t'.den → t.den} (hat : At t x p t' y u) :
    ∀ (l : Loc) (S : Nat → Prop) (l' : Loc), Rep true w t ((conts w rc l).take t.size) x S → (∀ b o, l = .mem b o → ¬ S b) → locate w rc p t l = some l' →
      ∀ (w2 : World) (y' : t'.den), (∀ c, S c → ¬ FP w t' ((conts w rc l').take t'.size) y c → w2.heap[c]? = w.heap[c]?) →
        Rep true w2 t' ((conts w rc l').take t'.size) y' (FP w t' ((conts w rc l').take t'.size) y) → Rep true w2 t ((conts w rc l).take t.size) (u y') S := by
  induction hat with
  | @here t x =>
    intro l S l' h hn hl w2 y' _ hr
    simp [locate] at hl; subst hl
    exact hr.mono h.tight.2
  | @fst a b x z p t' y u hat ih | @tfst a b x z p t' y u hat ih =>
    intro l S l' h hn hl w2 y' hs hr
    obtain ⟨c1, c2, S1, S2, hc, h1, h2, g1, g2, g3⟩ := h
    have e1 : c1 = (conts w rc l).take a.size := by
      have := congrArg (List.take a.size) hc
      rw [List.take_take, List.take_left' h1.len] at this
      rw [← this]; congr 1; simp [Ty.size]
    simp only [locate] at hl
    have hn1 : ∀ b o, l = .mem b o → ¬ S1 b := fun b o h hs => hn b o h (g1 b hs)
    have hb := (Rep.partBlocks hat (e1 ▸ h1) hn1 hl).1
    have r1 := ih l S1 l' (e1 ▸ h1) hn1 hl w2 y' (fun c hc hc' => hs c (g1 c hc) hc') hr
    rw [← e1] at r1
    have r2 : Rep true w2 b c2 z S2 := h2.agree fun c hc => hs c (g2 c hc) fun h => g3 rfl c (hb c h) hc
    rw [hc]
    exact ⟨c1, c2, S1, S2, rfl, r1, r2, g1, g2, g3⟩
  | @snd a b x z p t' y u hat ih | @tsnd a b x z p t' y u hat ih =>
    intro l S l' h hn hl w2 y' hs hr
    obtain ⟨c1, c2, S1, S2, hc, h1, h2, g1, g2, g3⟩ := h
    have e2 : c2 = (conts w rc (l.add a.size)).take b.size := by
      have := congrArg (List.drop a.size) hc
      rw [List.drop_take, List.drop_left' h1.len] at this
      rw [← this, conts_add]; congr 1; simp [Ty.size]
    simp only [locate] at hl
    have hn1 : ∀ b o, l.add a.size = .mem b o → ¬ S2 b := fun b o h hs => by
      cases l with
      | reg _ => simp [Loc.add] at h
      | mem b1 o1 => simp [Loc.add] at h; exact hn b1 o1 rfl (h.1 ▸ g2 b hs)
    have hb := (Rep.partBlocks hat (e2 ▸ h2) hn1 hl).1
    have r2 := ih (l.add a.size) S2 l' (e2 ▸ h2) hn1 hl w2 y' (fun c hc hc' => hs c (g2 c hc) hc') hr
    rw [← e2] at r2
    have r1 : Rep true w2 a c1 x S1 := h1.agree fun c hc => hs c (g1 c hc) fun h => g3 rfl c hc (hb c h)
    rw [hc]
    exact ⟨c1, c2, S1, S2, rfl, r1, r2, g1, g2, g3⟩
  | @idx t xs i x p t' y u hx hat ih =>
    intro l S l' h hn hl w2 y' hs hr
    obtain ⟨pp, c, hc, hle, h⟩ := h
    have hi : i < List.length xs := (List.getElem?_eq_some_iff.1 hx).1
    rcases h with h | ⟨b, o, L, E, fz, rfl, hh, hb, hf, ho, Si, h1, h2, h3⟩
    · have hle' : List.length xs ≤ cond true c (List.length xs) := cond_ge hle
      omega
    · have hhead : conts w rc l = .slice (some ⟨b, o, none⟩) (List.length xs) c :: (conts w rc l).tail := by
        cases hcl : conts w rc l with
        | nil => rw [hcl] at hc; simp at hc
        | cons a r => rw [hcl] at hc; simp [Ty.size] at hc; simp [hc]
      have hr1 := h1 i x hx
      rw [← take_conts_mem (rc := rc) hh] at hr1
      have hn1 : ∀ b1 o1, Loc.mem b (o + i * t.size) = .mem b1 o1 → ¬ Si i b1 := fun b1 o1 e hs => by simp at e; exact (h2 i b1 hs).2 rfl e.1.symm
      simp only [locate] at hl
      rw [hhead] at hl
      simp only at hl
      have hbl := (Rep.partBlocks hat hr1 hn1 hl).1
      have r1 := ih _ _ l' hr1 hn1 hl w2 y' (fun c hc hc' => hs c (h2 i c hc).1 hc') hr
      have hbS' : ¬ FP w t' ((conts w rc l').take t'.size) y b := fun h => (h2 i b (hbl b h)).2 rfl rfl
      rw [take_conts_mem hh] at r1
      refine ⟨some ⟨b, o, none⟩, c, ?_, ?_, .inr ⟨b, o, L, E, fz, rfl, (hs b hb hbS').trans hh, hb, hf, ho, Si, fun j z hz => ?_, h2, h3⟩⟩
      · rw [hc]; simp
      · simpa using hle
      · by_cases e : j = i
        · subst e
          have : z = u y' := by
            simp [lget, hi] at hz; exact hz.symm
          subst this
          exact r1
        · have hz' : lget xs j = some z := by simpa [lget, List.getElem?_set, Ne.symm e] using hz
          exact (h1 j z hz').agree fun c hc => hs c (h2 j c hc).1 fun h => h3 rfl j i c e hc (hbl c h)

/-- .. and the part lies where it lay. -/
theorem Rep.locate_inner {w : World} {rc : List Value} {t : Ty} {x : t.den} {p : Path} {t' : Ty} {y : t'.den} {u : t'.den → t.den} (hat : At t x p t' y u) :
    ∀ (l : Loc) (S : Nat → Prop) (l' : Loc), Rep true w t ((conts w rc l).take t.size) x S → (∀ b o, l = .mem b o → ¬ S b) → locate w rc p t l = some l' →
      ∀ (w2 : World), (∀ c, S c → ¬ FP w t' ((conts w rc l').take t'.size) y c → w2.heap[c]? = w.heap[c]?) → (∀ b o, l = .mem b o → w2.heap[b]? = w.heap[b]?) →
        locate w2 rc p t l = some l' ∧ conts w2 rc l' = conts w rc l' := by
  have hcon : ∀ (w2 : World) (l : Loc), (∀ b o, l = .mem b o → w2.heap[b]? = w.heap[b]?) → conts w2 rc l = conts w rc l := by
    intro w2 l h
    cases l with
    | reg _ => rfl
    | mem b o => simp [conts, h b o rfl]
  induction hat with
  | here =>
    intro l S l' h hn hl w2 _ hc
    simp [locate] at hl; subst hl
    exact ⟨rfl, hcon w2 l hc⟩
  | @fst a b x z p t' y u hat ih | @tfst a b x z p t' y u hat ih =>
    intro l S l' h hn hl w2 hs hcl
    obtain ⟨c1, c2, S1, S2, hc, h1, h2, g1, g2, g3⟩ := h
    have e1 : c1 = (conts w rc l).take a.size := by
      have := congrArg (List.take a.size) hc
      rw [List.take_take, List.take_left' h1.len] at this
      rw [← this]; congr 1; simp [Ty.size]
    simp only [locate] at hl ⊢
    exact ih l S1 l' (e1 ▸ h1) (fun b o h hs => hn b o h (g1 b hs)) hl w2 (fun c hc hc' => hs c (g1 c hc) hc') hcl
  | @snd a b x z p t' y u hat ih | @tsnd a b x z p t' y u hat ih =>
    intro l S l' h hn hl w2 hs hcl
    obtain ⟨c1, c2, S1, S2, hc, h1, h2, g1, g2, g3⟩ := h
    have e2 : c2 = (conts w rc (l.add a.size)).take b.size := by
      have := congrArg (List.drop a.size) hc
      rw [List.drop_take, List.drop_left' h1.len] at this
      rw [← this, conts_add]; congr 1; simp [Ty.size]
    simp only [locate] at hl ⊢
    refine ih (l.add a.size) S2 l' (e2 ▸ h2) (fun b o h hs => ?_) hl w2 (fun c hc hc' => hs c (g2 c hc) hc') (fun b o h => ?_)
    · cases l with
      | reg _ => simp [Loc.add] at h
      | mem b1 o1 => simp [Loc.add] at h; exact hn b1 o1 rfl (h.1 ▸ g2 b hs)
    · cases l with
      | reg _ => simp [Loc.add] at h
      | mem b1 o1 => simp [Loc.add] at h; exact h.1 ▸ hcl b1 o1 rfl
  | @idx t xs i x p t' y u hx hat ih =>
    intro l S l' h hn hl w2 hs hcl
    obtain ⟨pp, c, hc, hle, h⟩ := h
    have hi : i < List.length xs := (List.getElem?_eq_some_iff.1 hx).1
    rcases h with h | ⟨b, o, L, E, fz, rfl, hh, hb, hf, ho, Si, h1, h2, h3⟩
    · have hle' : List.length xs ≤ cond true c (List.length xs) := cond_ge hle
      omega
    · have hhead : conts w rc l = .slice (some ⟨b, o, none⟩) (List.length xs) c :: (conts w rc l).tail := by
        cases hcl : conts w rc l with
        | nil => rw [hcl] at hc; simp at hc
        | cons a r => rw [hcl] at hc; simp [Ty.size] at hc; simp [hc]
      have hr1 := h1 i x hx
      rw [← take_conts_mem (rc := rc) hh] at hr1
      have hn1 : ∀ b1 o1, Loc.mem b (o + i * t.size) = .mem b1 o1 → ¬ Si i b1 := fun b1 o1 e hs => by simp at e; exact (h2 i b1 hs).2 rfl e.1.symm
      simp only [locate] at hl ⊢
      rw [hcon w2 l hcl, hhead]
      rw [hhead] at hl
      simp only at hl ⊢
      have hbl := (Rep.partBlocks hat hr1 hn1 hl).1
      have hbS' : ¬ FP w t' ((conts w rc l').take t'.size) y b := fun h => (h2 i b (hbl b h)).2 rfl rfl
      exact ih _ _ l' hr1 hn1 hl w2 (fun c hc hc' => hs c (h2 i c hc).1 hc') (fun b1 o1 e => by simp at e; exact e.1 ▸ hs b hb hbS')

end Go.Sx

/- Frames of typed values over a frame of the model's. Conditions: none. -/
namespace Go.Sx

inductive Slot where
  | dead
  | undef
  | ro (r : Option Nat) (t : Ty) (x : t.den)
  | own (t : Ty) (x : t.den)
  | box (o : Bool) (t : Ty) (x : t.den)
  | ref (r : Nat) (p : Path) (tr t : Ty) (y : t.den) (u : t.den → tr.den)
  | adr (o : Bool) (r : Nat) (p : Path) (tr t : Ty) (y : t.den) (u : t.den → tr.den)
  | radr (r : Option Nat) (t : Ty) (y : t.den)
  | ext (r : Nat) (p : Path) (tr t : Ty) (x : List t.den) (u : List t.den → tr.den)
  | cref (q : Nat)

abbrev Frame := List Slot
abbrev Own := Nat → Option Nat

def Of (own : Own) (w : World) (r : Option Nat) : Nat → Prop := fun c => own c = r ∧ c < w.heap.size

/-- A value and its cells. -/
def Shape1 : Ty → Value → List Value → Prop
  | .pair _ _, v, cs => v = .agg cs.toArray
  | .tup _ _, _, _ => False
  | _, v, cs => cs = [v]

def ShapeT : Ty → List Value → List Value → Prop
  | .tup a b, vs, cs => ∃ v vr c1 c2, vs = v :: vr ∧ cs = c1 ++ c2 ∧ Shape1 a v c1 ∧ c1.length = a.size ∧ ShapeT b vr c2
  | t, vs, cs => ∃ v, vs = [v] ∧ Shape1 t v cs

def Shape : Ty → Value → List Value → Prop
  | .tup a b, v, cs => ∃ vs : List Value, v = .tuple vs.toArray ∧ ShapeT (.tup a b) vs cs
  | t, v, cs => Shape1 t v cs

theorem Shape1.uniq {t : Ty} {v : Value} {c c' : List Value} (h : Shape1 t v c) (h' : Shape1 t v c') : c = c' := by
  cases t <;> simp only [Shape1] at h h'
  · rw [h, h']
  · rw [h, h']
  · rw [h] at h'; simpa using h'
  · rw [h, h']
  · rw [h, h']
  · rw [h, h']
  · rw [h, h']

theorem ShapeT.uniq : ∀ {t : Ty} {vs c c' : List Value}, ShapeT t vs c → ShapeT t vs c' → c = c'
  | .tup a b, _, _, _, ⟨v, vr, c1, c2, e, e1, h1, _, h2⟩, ⟨v', vr', c1', c2', e', e1', h1', _, h2'⟩ => by
    subst e; simp at e'; obtain ⟨rfl, rfl⟩ := e'
    rw [e1, e1', h1.uniq h1', h2.uniq h2']
  | .num _, _, _, _, ⟨v, e, h⟩, ⟨v', e', h'⟩ => by subst e; simp at e'; subst e'; exact h.uniq h'
  | .bool, _, _, _, ⟨v, e, h⟩, ⟨v', e', h'⟩ => by subst e; simp at e'; subst e'; exact h.uniq h'
  | .fn _, _, _, _, ⟨v, e, h⟩, ⟨v', e', h'⟩ => by subst e; simp at e'; subst e'; exact h.uniq h'
  | .raw, _, _, _, ⟨v, e, h⟩, ⟨v', e', h'⟩ => by subst e; simp at e'; subst e'; exact h.uniq h'
  | .cur, _, _, _, ⟨v, e, h⟩, ⟨v', e', h'⟩ => by subst e; simp at e'; subst e'; exact h.uniq h'
  | .pair _ _, _, _, _, ⟨v, e, h⟩, ⟨v', e', h'⟩ => by subst e; simp at e'; subst e'; exact h.uniq h'
  | .slice _, _, _, _, ⟨v, e, h⟩, ⟨v', e', h'⟩ => by subst e; simp at e'; subst e'; exact h.uniq h'

theorem Shape.uniq {t : Ty} {v : Value} {c c' : List Value} (h : Shape t v c) (h' : Shape t v c') : c = c' := by
  cases t with
  | tup a b =>
    obtain ⟨vs, e, h⟩ := h
    obtain ⟨vs', e', h'⟩ := h'
    rw [e] at e'; simp at e'; subst e'
    exact h.uniq h'
  | _ => simp only [Shape] at h h'; exact h.uniq h'

/-- Where root r keeps its value. -/
def Base (f : Frame) (T : Array Value) (o : Bool) (r : Nat) (tr : Ty) (x : tr.den) (rc : List Value) (l : Loc) : Prop :=
  (o = true ∧ f[r]? = some (.own tr x) ∧ Shape tr (T.getD r undef) rc ∧ l = .reg 0) ∨
  (f[r]? = some (.box o tr x) ∧ rc = [] ∧ ∃ b, T.getD r undef = .pointer (some ⟨b, 0, none⟩) ∧ l = .mem b 0)

/-- A path that leads through no slice. -/
def Path.near : Path → Bool
  | [] => true
  | .idx _ :: _ => false
  | _ :: p => Path.near p

def SlotOk (w : World) (own : Own) (f : Frame) (T : Array Value) (i : Nat) : Slot → Value → Prop
  | .dead, _ => True
  | .undef, v => v = Go.undef
  | .ro r t x, v => ∃ cs, Shape t v cs ∧ Rep false w t cs x (Of own w r)
  | .own t x, v => ∃ cs, Shape t v cs ∧ Rep true w t cs x (Of own w (some i))
  | .box o t x, v => ∃ b L E, v = .pointer (some ⟨b, 0, none⟩) ∧ own b = some i ∧ w.heap[b]? = some (.cells L E (0, 0)) ∧ L.size = t.size ∧
      (o = true → Rep true w t L.toList x (fun c => Of own w (some i) c ∧ c ≠ b)) ∧ (o = false → Rep false w t L.toList x (Of own w none))
  | .ref r p tr t y u, v => ∃ x rc l0 l cs, Base f T true r tr x rc l0 ∧ At tr x p t y u ∧ locate w rc p tr l0 = some l ∧ Shape t v cs ∧ cs = (conts w rc l).take t.size
  | .adr o r p tr t y u, v => ∃ x rc l0 b off, Base f T o r tr x rc l0 ∧ At tr x p t y u ∧ locate w rc p tr l0 = some (.mem b off) ∧ v = .pointer (some ⟨b, off, none⟩) ∧ (o = false → p.near = true)
  | .radr r t y, v => ∃ b o L E fz, v = .pointer (some ⟨b, o, none⟩) ∧ w.heap[b]? = some (.cells L E fz) ∧ Of own w r b ∧ o + t.size ≤ L.size ∧ Rep false w t (seg L o t.size) y (Of own w r)
  | .cref q, v => v = T.getD q Go.undef ∧ ∃ x, f[q]? = some (.own .cur x)
  | .ext r p tr t x u, v => ∃ xr rc l0 l ys cs, Base f T true r tr xr rc l0 ∧ At tr xr p (.slice t) ys u ∧ locate w rc p tr l0 = some l ∧ Shape (.slice t) v cs ∧
      Rep true w (.slice t) cs x (fun c => Of own w (some i) c ∨ FP w (.slice t) ((conts w rc l).take 1) ys c)

def Slot.isRoot : Slot → Bool
  | .own .. | .box .. => true
  | _ => false

/-- The slot hangs on root r. -/
def Slot.on (r : Nat) : Slot → Bool
  | .ro (some r') _ _ | .radr (some r') _ _ | .ref r' _ _ _ _ _ | .adr _ r' _ _ _ _ _ | .ext r' _ _ _ _ _ | .cref r' => r' == r
  | _ => false

/-- Block by block: what bore label r bears it still and is as it was. -/
def Keeps (own : Own) (w : World) (own' : Own) (w' : World) (r : Option Nat) : Prop :=
  ∀ c, Of own w r c → Of own' w' r c ∧ w'.heap[c]? = w.heap[c]?

/-- What a root's content reads as, at its base. -/
theorem Base.rep {w : World} {own : Own} {f : Frame} {T : Array Value} {o : Bool} {r : Nat} {tr : Ty} {x : tr.den} {rc : List Value} {l : Loc}
    (h : Base f T o r tr x rc l) (hok : ∀ s, f[r]? = some s → SlotOk w own f T r s (T.getD r undef)) :
    (∀ b off, l = .mem b off → own b = some r ∧ ∃ L E, w.heap[b]? = some (.cells L E (0, 0))) ∧
    (o = true → Rep true w tr ((conts w rc l).take tr.size) x (fun c => Of own w (some r) c ∧ ∀ off, l ≠ .mem c off)) ∧
    (o = false → Rep false w tr ((conts w rc l).take tr.size) x (Of own w none) ∧ ∃ b, l = .mem b 0) := by
  rcases h with ⟨ho, hf, hs, rfl⟩ | ⟨hf, rfl, b, hv, rfl⟩
  · obtain ⟨cs, hs', hr⟩ := hok _ hf
    have e := hs.uniq hs'
    subst e
    refine ⟨fun b off h => by simp at h, fun _ => ?_, fun h => by simp [ho] at h⟩
    have : (conts w rc (.reg 0)).take tr.size = rc := by
      simp only [conts, List.drop_zero]
      exact List.take_of_length_le (by rw [hr.len]; exact Nat.le_refl _)
    rw [this]
    exact hr.mono fun c h => ⟨h, fun off h => by simp at h⟩
  · obtain ⟨b', L, E, hv', hb, hh, hsz, ht, hf'⟩ := hok _ hf
    rw [hv] at hv'; simp at hv'; subst hv'
    have : (conts w [] (.mem b 0)).take tr.size = L.toList := by
      rw [take_conts_mem hh, seg, List.drop_zero]
      exact List.take_of_length_le (by simp; omega)
    refine ⟨fun b1 off h => ?_, fun h => ?_, fun h => ⟨?_, b, rfl⟩⟩
    · simp at h; rw [← h.1]; exact ⟨hb, L, E, hh⟩
    · rw [this]
      exact (ht h).mono fun c h => ⟨h.1, fun off e => by simp at e; exact h.2 e.1.symm⟩
    · rw [this]; exact hf' h

theorem Rep.keeps {tr : Bool} {w w' : World} {own own' : Own} {r : Option Nat} {t : Ty} {cs : List Value} {x : t.den} (h : Rep tr w t cs x (Of own w r)) (hk : Keeps own w own' w' r) :
    Rep tr w' t cs x (Of own' w' r) := (h.agree fun c hc => (hk c hc).2).mono fun c hc => (hk c hc).1

theorem near_locate (w w' : World) (rc : List Value) : ∀ (p : Path) (t : Ty) (l : Loc), p.near = true → locate w' rc p t l = locate w rc p t l
  | [], _, _, _ => rfl
  | .fst :: p, .pair a b, l, h => near_locate w w' rc p a l h
  | .snd :: p, .pair a b, l, h => near_locate w w' rc p b _ h
  | .fst :: p, .tup a b, l, h => near_locate w w' rc p a l h
  | .snd :: p, .tup a b, l, h => near_locate w w' rc p b _ h
  | .idx _ :: _, _, _, h => by simp [Path.near] at h
  | .fst :: _, .raw, _, _ | .fst :: _, .cur, _, _ | .fst :: _, .num _, _, _ | .fst :: _, .bool, _, _ | .fst :: _, .fn _, _, _ | .fst :: _, .slice _, _, _ => rfl
  | .snd :: _, .raw, _, _ | .snd :: _, .cur, _, _ | .snd :: _, .num _, _, _ | .snd :: _, .bool, _, _ | .snd :: _, .fn _, _, _ | .snd :: _, .slice _, _, _ => rfl

/-- Where a near path leads: into the very container. -/
theorem near_inside (w : World) (rc : List Value) : ∀ (p : Path) (t : Ty) (l l' : Loc), p.near = true → locate w rc p t l = some l' → ∃ n, l' = l.add n
  | [], _, l, l', _, e => ⟨0, by simp [locate] at e; subst e; cases l <;> rfl⟩
  | .fst :: p, .pair a b, l, l', h, e => near_inside w rc p a l l' h e
  | .snd :: p, .pair a b, l, l', h, e => by
    obtain ⟨n, hn⟩ := near_inside w rc p b _ l' h e
    exact ⟨a.size + n, by rw [hn]; cases l <;> simp [Loc.add, Nat.add_assoc]⟩
  | .fst :: p, .tup a b, l, l', h, e => near_inside w rc p a l l' h e
  | .snd :: p, .tup a b, l, l', h, e => by
    obtain ⟨n, hn⟩ := near_inside w rc p b _ l' h e
    exact ⟨a.size + n, by rw [hn]; cases l <;> simp [Loc.add, Nat.add_assoc]⟩
  | .idx _ :: _, _, _, _, h, _ => by simp [Path.near] at h
  | .fst :: _, .raw, _, _, _, e | .fst :: _, .cur, _, _, _, e | .fst :: _, .num _, _, _, _, e | .fst :: _, .bool, _, _, _, e | .fst :: _, .fn _, _, _, _, e | .fst :: _, .slice _, _, _, _, e => by simp [locate] at e
  | .snd :: _, .raw, _, _, _, e | .snd :: _, .cur, _, _, _, e | .snd :: _, .num _, _, _, _, e | .snd :: _, .bool, _, _, _, e | .snd :: _, .fn _, _, _, _, e | .snd :: _, .slice _, _, _, _, e => by simp [locate] at e

/-- A slot says what it said where its roots and their blocks are kept. -/
theorem SlotOk.keep {w w' : World} {own own' : Own} {f f' : Frame} {T T' : Array Value} {i : Nat} {s : Slot} {v : Value}
    (hall : ∀ r s, f[r]? = some s → SlotOk w own f T r s (T.getD r undef)) (h : SlotOk w own f T i s v)
    (hn : Keeps own w own' w' none) (hi : Keeps own w own' w' (some i))
    (hr : ∀ r, s.on r = true → (∀ sl, f[r]? = some sl → sl.isRoot = true → f'[r]? = some sl ∧ T'.getD r undef = T.getD r undef) ∧ Keeps own w own' w' (some r)) : SlotOk w' own' f' T' i s v := by
  have hbase : ∀ o r tr x rc l, (∀ sl, f[r]? = some sl → sl.isRoot = true → f'[r]? = some sl ∧ T'.getD r undef = T.getD r undef) ∧ Keeps own w own' w' (some r) → Base f T o r tr x rc l → Base f' T' o r tr x rc l := by
    rintro o r tr x rc l ⟨e, _⟩ h
    rcases h with ⟨ho, hf, hs, hl⟩ | ⟨hf, hc, b, hv, hl⟩
    · obtain ⟨e1, e2⟩ := e _ hf rfl
      exact .inl ⟨ho, e1, e2 ▸ hs, hl⟩
    · obtain ⟨e1, e2⟩ := e _ hf rfl
      exact .inr ⟨e1, hc, b, e2 ▸ hv, hl⟩
  have hloc : ∀ o r tr (x : tr.den) rc l0 p (t : Ty) (y : t.den) u l, Keeps own w own' w' (some r) → Base f T o r tr x rc l0 → At tr x p t y u → locate w rc p tr l0 = some l →
      (o = false → p.near = true) → locate w' rc p tr l0 = some l ∧ (o = true → conts w' rc l = conts w rc l) := by
    intro o r tr x rc l0 p t y u l hk hb hat hl hnear
    obtain ⟨h1, h2, h3⟩ := hb.rep (hall r)
    cases o with
    | true =>
      have := Rep.locate_same hat l0 _ (h2 rfl) (w2 := w') (fun c hc => (hk c hc.1).2) (fun b o e => by
        obtain ⟨hb, L, E, hh⟩ := h1 b o e
        have hsz : b < w.heap.size := by
          rcases Nat.lt_or_ge b w.heap.size with h | h
          · exact h
          · simp [Array.getElem?_eq_none h] at hh
        exact (hk b ⟨hb, hsz⟩).2)
      exact ⟨this.1.trans hl, fun _ => this.2 l hl⟩
    | false => exact ⟨(near_locate w w' rc p tr l0 (hnear rfl)).trans hl, fun h => by simp at h⟩
  cases s with
  | dead => trivial
  | undef => exact h
  | cref q =>
    obtain ⟨hv, x, hx⟩ := h
    obtain ⟨e1, e2⟩ := (hr q (by simp [Slot.on])).1 _ hx rfl
    exact ⟨by rw [hv, e2], x, e1⟩
  | ro r t x =>
    obtain ⟨cs, hs, hrep⟩ := h
    cases r with
    | none => exact ⟨cs, hs, hrep.keeps hn⟩
    | some r => exact ⟨cs, hs, hrep.keeps (hr r (by simp [Slot.on])).2⟩
  | own t x =>
    obtain ⟨cs, hs, hrep⟩ := h
    exact ⟨cs, hs, hrep.keeps hi⟩
  | box o t x =>
    obtain ⟨b, L, E, hv, hb, hh, hsz, h1, h2⟩ := h
    have hlt : b < w.heap.size := by
      rcases Nat.lt_or_ge b w.heap.size with h | h
      · exact h
      · simp [Array.getElem?_eq_none h] at hh
    obtain ⟨k1, k2⟩ := hi b ⟨hb, hlt⟩
    refine ⟨b, L, E, hv, k1.1, k2.trans hh, hsz, fun ho => ?_, fun ho => (h2 ho).keeps hn⟩
    exact ((h1 ho).agree fun c hc => (hi c hc.1).2).mono fun c hc => ⟨(hi c hc.1).1, hc.2⟩
  | ref r p tr t y u =>
    obtain ⟨x, rc, l0, l, cs, hb, hat, hl, hs, hcs⟩ := h
    have hk := hr r (by simp [Slot.on])
    obtain ⟨e1, e2⟩ := hloc true r tr x rc l0 p t y u l hk.2 hb hat hl (by simp)
    exact ⟨x, rc, l0, l, cs, hbase _ _ _ _ _ _ hk hb, hat, e1, hs, by rw [hcs, e2 rfl]⟩
  | adr o r p tr t y u =>
    obtain ⟨x, rc, l0, b, off, hb, hat, hl, hv, hnear⟩ := h
    have hk := hr r (by simp [Slot.on])
    obtain ⟨e1, _⟩ := hloc o r tr x rc l0 p t y u _ hk.2 hb hat hl hnear
    exact ⟨x, rc, l0, b, off, hbase _ _ _ _ _ _ hk hb, hat, e1, hv, hnear⟩
  | radr r t y =>
    obtain ⟨b, o, L, E, fz, hv, hh, hb, hsz, hrep⟩ := h
    have hk : Keeps own w own' w' r := by
      cases r with
      | none => exact hn
      | some r => exact (hr r (by simp [Slot.on])).2
    exact ⟨b, o, L, E, fz, hv, ((hk b hb).2).trans hh, (hk b hb).1, hsz, hrep.keeps hk⟩
  | ext r p tr t x u =>
    obtain ⟨xr, rc, l0, l, ys, cs, hb, hat, hl, hs, hrep⟩ := h
    have hk := hr r (by simp [Slot.on])
    obtain ⟨e1, e2⟩ := hloc true r tr xr rc l0 p _ ys u l hk.2 hb hat hl (by simp)
    obtain ⟨h1, h2, _⟩ := hb.rep (hall r)
    obtain ⟨l', S', g1, g2, g3, g4, _⟩ := Rep.put hat l0 _ (h2 rfl) (fun b o e h => h.2 o e)
    rw [hl] at g1; simp at g1; subst g1
    have hfp : ∀ c, FP w (.slice t) ((conts w rc l).take 1) ys c → Of own w (some r) c := fun c hc => (g4 c (g3 ▸ hc)).1
    have hfp2 : ∀ c, FP w (.slice t) ((conts w rc l).take 1) ys c → FP w' (.slice t) ((conts w' rc l).take 1) ys c := fun c hc => by
      rw [e2 rfl]
      exact FP.agree (fun c hc => (hk.2 c (hfp c hc)).2) hc
    exact ⟨xr, rc, l0, l, ys, cs, hbase _ _ _ _ _ _ hk hb, hat, e1, hs, (hrep.agree fun c hc => hc.elim (fun h => (hi c h).2) fun h => (hk.2 c (hfp c h)).2).mono
      fun c hc => hc.imp (fun h => (hi c h).1) (hfp2 c)⟩

end Go.Sx

/- The invariant of a frame, and the puts that keep it. Conditions: none. -/
namespace Go.Sx

/-- What no operation of ours touches: the system, the output, what is frozen. -/
structure Calm (w w' : World) : Prop where
  os : w'.os = w.os
  output : w'.output = w.output
  frozen : ∀ a, w'.frozen? a = w.frozen? a

theorem Calm.refl (w : World) : Calm w w := ⟨rfl, rfl, fun _ => rfl⟩
theorem Calm.trans {w w1 w2 : World} (h : Calm w w1) (h' : Calm w1 w2) : Calm w w2 := ⟨h'.os.trans h.os, h'.output.trans h.output, fun a => (h'.frozen a).trans (h.frozen a)⟩

structure Inv (w0 : World) (lent : Nat → Prop) (f : Frame) (a : Act) (w : World) (own : Own) : Prop where
  defers : a.defers = []
  size : f.length = a.tmps.size
  fresh : ∀ b, w.heap.size ≤ b → own b = none
  slots : ∀ i s, f[i]? = some s → SlotOk w own f a.tmps i s (a.tmps.getD i undef)
  grow : w0.heap.size ≤ w.heap.size
  old : ∀ b, b < w0.heap.size → ¬ lent b → own b = none ∧ w.heap[b]? = w0.heap[b]?
  calm : Calm w0 w

def kill (r : Nat) (f : Frame) : Frame := f.map fun s => match s.on r with | true => .dead | false => s

def isRootAt (f : Frame) (d : Nat) : Bool := match f[d]? with | some s => s.isRoot | none => false

def putS (f : Frame) (d : Nat) (s : Slot) : Frame := (match isRootAt f d with | true => kill d f | false => f).set d s

theorem kill_get (r : Nat) (f : Frame) (i : Nat) : (kill r f)[i]? = (f[i]?).map fun s => match s.on r with | true => Slot.dead | false => s := by
  simp [kill]

theorem kill_root {r : Nat} {f : Frame} {i : Nat} {s : Slot} (h : f[i]? = some s) (hr : s.isRoot = true) : (kill r f)[i]? = some s := by
  rw [kill_get, h]; cases s <;> simp_all [Slot.isRoot, Slot.on]

theorem kill_some {r : Nat} {f : Frame} {i : Nat} {s : Slot} (h : (kill r f)[i]? = some s) : s = .dead ∨ (f[i]? = some s ∧ s.on r = false) := by
  rw [kill_get] at h
  cases hf : f[i]? with
  | none => rw [hf] at h; simp at h
  | some s0 =>
    rw [hf] at h; simp at h
    cases ho : s0.on r with
    | true => rw [ho] at h; exact .inl h.symm
    | false => rw [ho] at h; subst h; exact .inr ⟨rfl, ho⟩

theorem kill_length (r : Nat) (f : Frame) : (kill r f).length = f.length := by simp [kill]

theorem putS_length (f : Frame) (d : Nat) (s : Slot) : (putS f d s).length = f.length := by
  simp only [putS]; split <;> simp [kill_length]

theorem putS_get {f : Frame} {d : Nat} {s : Slot} {i : Nat} {sl : Slot} (h : (putS f d s)[i]? = some sl) :
    (i = d ∧ sl = s) ∨ (i ≠ d ∧ (sl = .dead ∨ (f[i]? = some sl ∧ (sl.on d = false ∨ isRootAt f d = false)))) := by
  by_cases e : i = d
  · subst e
    left
    simp only [putS] at h
    rw [List.getElem?_set] at h
    simp at h
    exact ⟨rfl, h.2.symm⟩
  · right
    refine ⟨e, ?_⟩
    simp only [putS] at h
    rw [List.getElem?_set_ne (Ne.symm e)] at h
    split at h
    · exact (kill_some h).imp id fun h => ⟨h.1, .inl h.2⟩
    · exact .inr ⟨h, .inr (by simpa using ‹isRootAt f d = false›)⟩

theorem putS_root {f : Frame} {d : Nat} {s : Slot} {i : Nat} {sl : Slot} (e : i ≠ d) (h : f[i]? = some sl) (hr : sl.isRoot = true) : (putS f d s)[i]? = some sl := by
  simp only [putS]
  rw [List.getElem?_set_ne (Ne.symm e)]
  split
  · exact kill_root h hr
  · exact h

structure Grow (w w' : World) : Prop where
  size : w.heap.size ≤ w'.heap.size
  same : ∀ b, b < w.heap.size → w'.heap[b]? = w.heap[b]?
  calm : Calm w w'

theorem Grow.refl (w : World) : Grow w w := ⟨Nat.le_refl _, fun _ _ => rfl, Calm.refl w⟩

/-- The new blocks are d's. -/
def Own.add (own : Own) (w w' : World) (d : Nat) : Own := fun b => if w.heap.size ≤ b ∧ b < w'.heap.size then some d else own b

theorem Own.add_keeps {own : Own} {w w' : World} (h : Grow w w') (d : Nat) (r : Option Nat) : Keeps own w (own.add w w' d) w' r := by
  intro c ⟨hc, hlt⟩
  refine ⟨⟨?_, Nat.lt_of_lt_of_le hlt h.1⟩, h.2 c hlt⟩
  simp only [Own.add]
  rw [if_neg (by omega)]; exact hc

theorem Own.add_new {own : Own} {w w' : World} {d b : Nat} (h1 : w.heap.size ≤ b) (h2 : b < w'.heap.size) : Of (own.add w w' d) w' (some d) b :=
  ⟨by simp [Own.add, h1, h2], h2⟩

theorem act_put_get (a : Act) (d : Nat) (v : Value) (hd : d < a.tmps.size) (i : Nat) : (a.put (some d) v).tmps.getD i undef = if i = d then v else a.tmps.getD i undef := by
  simp only [Act.put, Array.getD_eq_getD_getElem?, Array.getElem?_setIfInBounds]
  by_cases e : d = i
  · subst e; simp [hd]
  · simp [e, Ne.symm e]

theorem act_put_size (a : Act) (d : Nat) (v : Value) : (a.put (some d) v).tmps.size = a.tmps.size := by simp [Act.put]

/-- The put of a local operation. -/
theorem Inv.putGrow {w0 : World} {lent : Nat → Prop} {f : Frame} {a : Act} {w : World} {own : Own} (h : Inv w0 lent f a w own) {w' : World} (hg : Grow w w') {d : Nat} {s : Slot} {v : Value}
    (hd : d < f.length)
    (hs : SlotOk w' (own.add w w' d) (putS f d s) (a.put (some d) v).tmps d s v) : Inv w0 lent (putS f d s) (a.put (some d) v) w' (own.add w w' d) := by
  have hda : d < a.tmps.size := h.size ▸ hd
  refine ⟨h.defers, ?_, fun b hb => ?_, fun i sl hi => ?_, Nat.le_trans h.grow hg.1, fun b hb hl => ?_, h.calm.trans hg.calm⟩
  · rw [putS_length, act_put_size, h.size]
  · simp only [Own.add]
    rw [if_neg (by omega)]; exact h.fresh b (Nat.le_trans hg.1 hb)
  · rw [act_put_get _ _ _ hda]
    rcases putS_get hi with ⟨e, e'⟩ | ⟨e, hsl⟩
    · rw [if_pos e, e', e]; exact hs
    · rw [if_neg e]
      rcases hsl with rfl | ⟨hf, hon⟩
      · trivial
      · refine (h.slots i sl hf).keep (fun r s hs => h.slots r s hs) (Own.add_keeps hg d _) (Own.add_keeps hg d _) fun r hr => ⟨fun sl' hsl' hroot => ?_, Own.add_keeps hg d _⟩
        have hne : r ≠ d := by
          rintro rfl
          rcases hon with hon | hon
          · rw [hon] at hr; simp at hr
          · simp [isRootAt, hsl', hroot] at hon
        exact ⟨putS_root hne hsl' hroot, by rw [act_put_get _ _ _ hda, if_neg hne]⟩
  · have := h.old b hb hl
    have hlt : b < w.heap.size := Nat.lt_of_lt_of_le hb h.grow
    refine ⟨?_, (hg.2 b hlt).trans this.2⟩
    simp only [Own.add]
    rw [if_neg (by omega)]; exact this.1

end Go.Sx

/- The interpreter's operations, in continuation style: each hands its slot, and the slots that it uses up, to K. Conditions: none (definitions). -/
namespace Go.Sx

variable {α : Type}

def Args : List Ty → Type
  | [] => Unit
  | t :: ts => t.den × Args ts

/-- What a function computes: none where nothing is said. -/
structure FnSpec where
  args : List Ty
  res : Ty
  fn : Args args → Option res.den

def resDen : Option Ty → Type
  | some t => t.den
  | none => Unit

/-- A function that changes what one of its arguments leads to, in place: what it makes of it, and its result. -/
structure MutSpec where
  t : Ty
  pos : Nat
  rest : List Ty
  res : Option Ty
  fn : t.den → Args rest → Option (t.den × resDen res)

/-- A function that moves a cursor on, its first argument, and hands something new. -/
structure CurSpec where
  rest : List Ty
  res : Ty
  fn : Option (Value × Int × Int) → Args rest → Option (Option (Value × Int × Int) × res.den)

structure Env where
  ty : List (Nat × Ty)
  arr : List Nat
  spec : List (Nat × FnSpec)
  muts : List (Nat × MutSpec)
  curs : List (Nat × CurSpec)
  amb : Option (Nat × Obj)
  frz : List Nat

def look {β : Type} : List (Nat × β) → Nat → Option β
  | [], _ => none
  | (k, x) :: r, n => match Nat.beq k n with
    | true => some x
    | false => look r n

/-- A byte of what lies around. -/
def readAt (A : Option (Nat × Obj)) (v : Value) (i : Int) : Option Int := match v with
  | .slice (some ⟨b, o, none⟩) n _ => match decide (0 ≤ i) with
    | true => match decide (i < (n : Int)) with
      | true => match A with
        | some (b', .cells L _ _) => match Nat.beq b b' with
          | true => match L[o + i.toNat]? with
            | some (.int .u8 x) => some x
            | _ => none
          | false => none
        | _ => none
      | false => none
    | false => none
  | _ => none

def Env.tyOf (E : Env) (T : Nat) : Option Ty := look E.ty T
def Env.isArr (E : Env) (T : Nat) : Bool := E.arr.any fun t => Nat.beq t T
def Env.mutOf (E : Env) (f : Nat) : Option MutSpec := look E.muts f
def Env.specOf (E : Env) (f : Nat) : Option FnSpec := look E.spec f
def Env.curOf (E : Env) (f : Nat) : Option CurSpec := look E.curs f

def castK (t t' : Ty) (x : t.den) (K : t'.den → Option α) : Option α :=
  match t.eqP t' with
  | some ⟨h⟩ => K (h ▸ x)
  | none => none

/-- Lengths that every element type bears. -/
def room (n : Nat) (k : Option α) : Option α := match Nat.ble n 17179869184 with
  | true => k
  | false => none

/-- If a condition holds. -/
def ifT (b : Bool) (k : Option α) : Option α := match b with
  | true => k
  | false => none

theorem ifT_some {b : Bool} {k : Option α} {out : α} (h : ifT b k = some out) : b = true ∧ k = some out := by
  cases b
  · simp [ifT] at h
  · exact ⟨rfl, h⟩

def getI {β : Type} (xs : List β) (i : Int) : Option β := match decide (0 ≤ i) with
  | true => xs[i.toNat]?
  | false => none

/-- An operand's value, for reading. -/
def valK (f : Frame) (o : Operand) (K : (t : Ty) → t.den → Option α) : Option α :=
  match o with
  | .tmp i => match f[i]? with
    | some (.ro _ t x) => K t x
    | some (.own t x) => K t x
    | some (.ref _ _ _ t y _) => K t y
    | some (.ext _ _ _ t x _) => K (.slice t) x
    | _ => none
  | .const (.int k n) => K (.num k) n
  | .const (.bool b) => K .bool b
  | .func g => K (.fn g) ()
  | _ => none

def intK (f : Frame) (o : Operand) (K : IntKind → Int → Option α) : Option α :=
  valK f o fun t x => match t, x with
    | .num k, x => K k x
    | _, _ => none

def boolK (f : Frame) (o : Operand) (K : Bool → Option α) : Option α :=
  valK f o fun t x => match t, x with
    | .bool, x => K x
    | _, _ => none

def sliceK (f : Frame) (o : Operand) (K : (t : Ty) → List t.den → Option α) : Option α :=
  valK f o fun t x => match t, x with
    | .slice t, x => K t x
    | _, _ => none

/-- The length of what is never looked into. -/
def rawK (f : Frame) (o : Operand) (K : Value → Option α) : Option α :=
  valK f o fun t x => match t, x with
    | .raw, x => K x
    | _, _ => none

/-- The same, of what can be kept: nothing of a root's own memory in it. -/
def stayK (f : Frame) (o : Operand) (K : (t : Ty) → t.den → Option α) : Option α :=
  match o with
  | .tmp i => match f[i]? with
    | some (.ro none t x) => K t x
    | some (.ro (some _) t x) => match t.flat with | true => K t x | false => none
    | some (.own t x) => match t.flat with | true => K t x | false => none
    | _ => none
  | .const (.int k n) => K (.num k) n
  | .const (.bool b) => K .bool b
  | _ => none

/-- A copy of a temporary. -/
def copyS (f : Frame) (o : Operand) : Option Slot :=
  match o with
  | .tmp i => match f[i]? with
    | some (.ro r t x) => some (.ro r t x)
    | some (.own t x) => match t.flat with
      | true => some (.ro none t x)
      | false => match t.isCur with
        | true => some (.cref i)
        | false => some (.ref i [] t t x id)
    | some (.cref q) => some (.cref q)
    | some (.box o t x) => some (.adr o i [] t t x id)
    | some (.ref r p tr t y u) => some (.ref r p tr t y u)
    | some (.adr o r p tr t y u) => some (.adr o r p tr t y u)
    | some (.radr r t y) => some (.radr r t y)
    | _ => none
  | .const (.int k n) => some (.ro none (.num k) n)
  | .const (.bool b) => some (.ro none .bool b)
  | _ => none

/-- A field. -/
def fieldK : (t : Ty) → t.den → Nat → ((p : Path) → (t' : Ty) → t'.den → (t'.den → t.den) → Option α) → Option α
  | .pair a _, x, 0, K => K [.fst] a x.1 (fun v => (v, x.2))
  | .pair _ (.pair b c), x, k + 1, K => fieldK (.pair b c) x.2 k fun p t' y u => K (.snd :: p) t' y (fun v => (x.1, u v))
  | .pair _ (.num k'), x, 1, K => K [.snd] (.num k') x.2 (fun v => (x.1, v))
  | .pair _ .bool, x, 1, K => K [.snd] .bool x.2 (fun v => (x.1, v))
  | .pair _ (.slice b), x, 1, K => K [.snd] (.slice b) x.2 (fun v => (x.1, v))
  | _, _, _, _ => none

/-- A result of several. -/
def compK : (t : Ty) → t.den → Nat → ((p : Path) → (t' : Ty) → t'.den → (t'.den → t.den) → Option α) → Option α
  | .tup a _, x, 0, K => K [.fst] a x.1 (fun v => (v, x.2))
  | .tup _ (.tup b c), x, k + 1, K => compK (.tup b c) x.2 k fun p t' y u => K (.snd :: p) t' y (fun v => (x.1, u v))
  | .tup _ (.num k'), x, 1, K => K [.snd] (.num k') x.2 (fun v => (x.1, v))
  | .tup _ .bool, x, 1, K => K [.snd] .bool x.2 (fun v => (x.1, v))
  | .tup _ (.pair b c), x, 1, K => K [.snd] (.pair b c) x.2 (fun v => (x.1, v))
  | .tup _ (.slice b), x, 1, K => K [.snd] (.slice b) x.2 (fun v => (x.1, v))
  | _, _, _, _ => none

def beqB (a b : Bool) : Bool := match a with | true => b | false => !b

def intEq (x y : Int) : Bool := decide (x = y)

def eqb : (t : Ty) → t.den → t.den → Option Bool
  | .num _, x, y => some (intEq x y)
  | .bool, x, y => some (beqB x y)
  | .pair a b, x, y => match eqb a x.1 y.1, eqb b x.2 y.2 with
    | some p, some q => some (p && q)
    | _, _ => none
  | _, _, _ => none

def numBin (op : BinOp) (k : IntKind) (x y : Int) (K : (t : Ty) → t.den → Option α) : Option α :=
  match op with
  | .add => K (.num k) (k.wrap (x + y))
  | .sub => K (.num k) (k.wrap (x - y))
  | .mul => K (.num k) (k.wrap (x * y))
  | .quo => match decide (y = 0) with | true => none | false => K (.num k) (k.wrap (x.tdiv y))
  | .rem => match decide (y = 0) with | true => none | false => K (.num k) (x.tmod y)
  | .and => K (.num k) (k.wrap (BitVec.ofInt k.bits x &&& BitVec.ofInt k.bits y).toNat)
  | .xor => K (.num k) (k.wrap (BitVec.ofInt k.bits x ^^^ BitVec.ofInt k.bits y).toNat)
  | .eql => K .bool (decide (x = y))
  | .neq => K .bool (!decide (x = y))
  | .lss => K .bool (decide (x < y))
  | .leq => K .bool (decide (x ≤ y))
  | .gtr => K .bool (decide (x > y))
  | .geq => K .bool (decide (x ≥ y))
  | _ => none

def shiftBin (op : BinOp) (k : IntKind) (x y : Int) (K : (t : Ty) → t.den → Option α) : Option α :=
  match op with
  | .shr => match decide (y < 0) with | true => none | false => K (.num k) (x.fdiv (2 ^ (min y.toNat k.bits)))
  | .shl => match decide (y < 0) with | true => none | false => K (.num k) (k.wrap (x * 2 ^ (min y.toNat k.bits)))
  | _ => none

def isShift : BinOp → Bool
  | .shl | .shr => true
  | _ => false

def binK (f : Frame) (op : BinOp) (x y : Operand) (K : (t : Ty) → t.den → Option α) : Option α :=
  intK f x fun k a => intK f y fun k' b => match isShift op with
    | true => shiftBin op k a b K
    | false => match decide (k = k') with
      | true => numBin op k a b K
      | false => none

def binB (f : Frame) (op : BinOp) (x y : Operand) (K : Bool → Option α) : Option α :=
  boolK f x fun a => boolK f y fun b => match op with
    | .eql => K (beqB a b)
    | .neq => K (!beqB a b)
    | _ => none

/-- Structs of numbers, compared. -/
def eqK (f : Frame) (op : BinOp) (T : Ty) (x y : Operand) (K : Bool → Option α) : Option α :=
  valK f x fun t a => castK t T a fun a => valK f y fun t' b => castK t' T b fun b => match eqb T a b with
    | some r => match op with
      | .eql => K r
      | .neq => K (!r)
      | _ => none
    | none => none

/-- Whose memory an operand holds: none: it can be kept by whoever takes it. -/
inductive Kind where
  | flat
  | kept
  | owned (ls : List Nat)
  | bad

def kindOf (f : Frame) (o : Operand) : Kind :=
  match o with
  | .tmp i => match f[i]? with
    | some (.ro r t _) => match t.flat with
      | true => .flat
      | false => match r with
        | none => .kept
        | some _ => .bad
    | some (.own t _) => match t.flat with
      | true => .flat
      | false => .owned [i]
    | some (.ref r _ _ _ _ _) => .owned [r]
    | some (.ext r _ _ _ _ _) => .owned [r, i]
    | _ => .bad
  | .const (.int _ _) => .flat
  | .const (.bool _) => .flat
  | .func _ => .flat
  | _ => .bad

/-- The kind of a struct of such parts. -/
def Kind.join : Kind → Kind → Kind
  | .flat, k => k
  | k, .flat => k
  | .kept, .kept => .kept
  | _, _ => .bad

def kindAt (f : Frame) (parts : List (Nat × Operand)) (k : Nat) : Kind :=
  match look parts k with
  | some o => kindOf f o
  | none => .flat

def kindT (f : Frame) (parts : List (Nat × Operand)) : Ty → Nat → Kind
  | .pair _ (.pair b c), k => (kindAt f parts k).join (kindT f parts (.pair b c) (k + 1))
  | .pair _ _, k => (kindAt f parts k).join (kindAt f parts (k + 1))
  | _, _ => .bad

def numParts : Ty → Nat
  | .pair _ (.pair b c) => numParts (.pair b c) + 1
  | .pair _ _ => 2
  | _ => 0

/-- Each part named once, and each there. -/
def keysOk (n : Nat) : List (Nat × Operand) → Bool
  | [] => true
  | (k, _) :: r => Nat.blt k n && (match look r k with | some _ => false | none => true) && keysOk n r

/-- Not several results. -/
def Ty.plain : Ty → Bool
  | .tup _ _ => false
  | _ => true

def partK (f : Frame) (parts : List (Nat × Operand)) (t : Ty) (k : Nat) (K : t.den → Option α) : Option α :=
  match t.plain, look parts k with
  | true, some o => valK f o fun t' x => castK t' t x K
  | true, none => K t.zero
  | false, _ => none

/-- A struct out of its parts. -/
def buildK (f : Frame) (parts : List (Nat × Operand)) : (t : Ty) → Nat → (t.den → Option α) → Option α
  | .pair a (.pair b c), k, K => partK f parts a k fun x => buildK f parts (.pair b c) (k + 1) fun z => K (x, z)
  | .pair a (.num b), k, K => partK f parts a k fun x => partK f parts (.num b) (k + 1) fun z => K (x, z)
  | .pair a .bool, k, K => partK f parts a k fun x => partK f parts .bool (k + 1) fun z => K (x, z)
  | .pair a (.slice b), k, K => partK f parts a k fun x => partK f parts (.slice b) (k + 1) fun z => K (x, z)
  | _, _, _ => none

/-- Parts 0, 1, .. of a slice. -/
def listK (f : Frame) (t : Ty) : List (Nat × Operand) → Nat → (List t.den → Option α) → Option α
  | [], _, K => K []
  | (j, o) :: r, k, K => match Nat.beq j k with
    | true => valK f o fun t' x => castK t' t x fun x => listK f t r (k + 1) fun xs => K (x :: xs)
    | false => none

def ownersOf (f : Frame) : List (Nat × Operand) → Option (List Nat)
  | [] => some []
  | (_, o) :: r => match kindOf f o, ownersOf f r with
    | .owned ls, some ms => match ls.all fun l => !ms.contains l with
      | true => some (ls ++ ms)
      | false => none
    | _, _ => none

def argsK (f : Frame) : (ts : List Ty) → List Operand → (Args ts → Option α) → Option α
  | [], [], K => K ()
  | t :: ts, o :: os, K => valK f o fun t' x => castK t' t x fun x => argsK f ts os fun xs => K (x, xs)
  | _, _, _ => none

def sameOp : Operand → Operand → Bool
  | .tmp i, .tmp j => Nat.beq i j
  | _, _ => false

def boundK (f : Frame) (o : Option Operand) (z : Int) (K : Int → Option α) : Option α :=
  match o with
  | none => K z
  | some o => intK f o fun _ n => K n

def ptrS (f : Frame) (o : Operand) (T : Ty → Bool) (K : Slot → Option α) : Option α :=
  match copyS f o with
  | some (.adr b r p tr t y u) => match T t with | true => K (.adr b r p tr t y u) | false => none
  | some (.radr r t y) => match T t with | true => K (.radr r t y) | false => none
  | _ => none

def Ty.is (t t' : Ty) : Bool := match t.eqP t' with | some _ => true | none => false

def optIs (t : Option Ty) (t' : Ty) : Bool := match t with | some t => t.is t' | none => false

def isConstOp : Operand → Option Nat
  | .const (.int .i64 (.ofNat n)) => some n
  | _ => none

/-- The address of a field of what a pointer leads to. -/
def fieldS (s : Slot) (k : Nat) (K : Slot → Option α) : Option α :=
  match s with
  | .adr b r p tr t y u => fieldK t y k fun p' t' y' u' => K (.adr b r (p ++ p') tr t' y' (fun v => u (u' v)))
  | .radr r t y => fieldK t y k fun _ t' y' _ => K (.radr r t' y')
  | _ => none

/-- The address of an element. -/
def elemS (e : Ty) (s : Slot) (i : Int) (K : Slot → Option α) : Option α :=
  match s with
  | .ro r (.slice t) xs => match t.is e with
    | true => (getI (β := t.den) xs i).bind fun y => K (.radr r t y)
    | false => none
  | .ref r p tr (.slice t) xs u => match t.is e with
    | true => (getI (β := t.den) xs i).bind fun y => K (.adr true r (p ++ [.idx i.toNat]) tr t y (fun v => u (List.set (α := t.den) xs i.toNat v)))
    | false => none
  | _ => none

/-- A cut of a slice. -/
def cutS (e : Ty) (f : Frame) (s : Slot) (lo hi : Option Operand) (K : Slot → Option α) : Option α :=
  match s with
  | .ro r (.slice t) xs => match t.is e with
    | true => boundK f hi (List.length (α := t.den) xs : Int) fun h => boundK f lo 0 fun l =>
        ifT (decide (0 ≤ l)) (ifT (decide (l ≤ h)) (ifT (decide (h ≤ (List.length (α := t.den) xs : Int))) (K (.ro r (.slice t) (List.take (h.toNat - l.toNat) (List.drop (α := t.den) l.toNat xs))))))
    | false => none
  | .ref r _ _ (.slice t) xs _ => match t.is e with
    | true => boundK f hi (List.length (α := t.den) xs : Int) fun h => boundK f lo 0 fun l =>
        ifT (decide (0 ≤ l)) (ifT (decide (l ≤ h)) (ifT (decide (h ≤ (List.length (α := t.den) xs : Int))) (K (.ro (some r) (.slice t) (List.take (h.toNat - l.toNat) (List.drop (α := t.den) l.toNat xs))))))
    | false => none
  | _ => none

/-- What a load hands. -/
def loadS (s : Slot) (K : Slot → Option α) : Option α :=
  match s with
  | .adr b r p tr t y u => match t.flat with
    | true => K (.ro none t y)
    | false => match b with
      | true => K (.ref r p tr t y u)
      | false => K (.ro none t y)
  | .radr r t y => match t.flat with
    | true => K (.ro none t y)
    | false => K (.ro r t y)
  | _ => none

/-- A result: a root's own, or kept. -/
def resS (t : Ty) (x : t.den) : Slot := match t.flat with
  | true => .ro none t x
  | false => .own t x

/-- A call's result: one that nobody changes from then on, where the table says so. -/
def frzS (E : Env) (d : Option Nat) (t : Ty) (x : t.den) : Slot := match d with
  | some d => match E.frz.any (fun k => Nat.beq k d) with
    | true => .ro none t x
    | false => resS t x
  | none => resS t x

def keptAll (f : Frame) : List (Nat × Operand) → Bool
  | [] => true
  | (_, o) :: r => (match kindOf f o with
    | .flat => true
    | .kept => true
    | _ => false) && keptAll f r

def appendK (f : Frame) (base : Operand) (t : Ty) (ys : List t.den) (dy : List Nat) (K : Slot → List Nat → Option α) : Option α :=
  match base with
  | .tmp i => match f[i]? with
    | some (.own t' x) => castK t' (.slice t) x fun xs => room (List.length (α := t.den) xs + List.length ys) (match dy.contains i with
      | true => none
      | false => K (.own (.slice t) (List.append (α := t.den) xs ys)) (i :: dy))
    | some (.ref r p tr t' x u) => match t' with
      | .slice e => match e.eqP t with
        | some ⟨h⟩ => room (List.length (α := e.den) x + List.length ys) (match (e.flat || List.isEmpty p) && !dy.contains r with
          | true => K (.ext r p tr e (List.append (α := e.den) x (h ▸ ys)) u) dy
          | false => none)
        | none => none
      | _ => none
    | _ => none
  | _ => none

/-- An operand that has nothing to do with a root. -/
def clear (f : Frame) (r : Nat) (o : Operand) : Bool := match kindOf f o with
  | .flat => true
  | .kept => true
  | .owned ls => !ls.contains r
  | .bad => false

def flatRes : Option Ty → Bool
  | some t => t.flat
  | none => true

/-- An assignment takes over what the root holds: all of it, or the first of two results where the second is flat. -/
def ownAssign (p : Path) (s : Option Slot) : Bool := match s with
  | some (.own t _) => match p with
    | [] => true
    | [.fst] => match t with
      | .tup _ b => b.flat
      | _ => false
    | _ => false
  | _ => false

/-- A result that takes over what an argument held. -/
def takeR (i : Nat) : (r : Option Ty) → resDen r → (Slot → List Nat → Option α) → Option α
  | some t, v, K => K (.own t v) [i]
  | none, _, _ => none

/-- A call that takes an argument over. -/
def takeK (f : Frame) (ms : MutSpec) (os : List Operand) (K : Slot → List Nat → Option α) : Option α :=
  match os[ms.pos]? with
  | some (.tmp i) => match f[i]? with
    | some (.own t y) => match t.eqP ms.t with
      | some ⟨h⟩ => match !flatRes ms.res && (os.eraseIdx ms.pos).all (clear f i) with
        | true => argsK f ms.rest (os.eraseIdx ms.pos) fun xs => (ms.fn (h ▸ y) xs).bind fun zv => takeR i ms.res zv.2 K
        | false => none
      | none => none
    | _ => none
  | _ => none

/-- One operation that stores nothing into what was there: the slot for its place, and the roots that it uses up. -/
def opK (E : Env) (f : Frame) (o : Oper) (K : Slot → List Nat → Option α) : Option α :=
  match o.op with
  | .move x => match copyS f x with
    | some s => K s []
    | none => none
  | .assign x => match x with
    | .const (.slice none 0 0) => match E.tyOf o.type with
      | some (.slice t) => K (.own (.slice t) ([] : List t.den)) []
      | _ => none
    | .const (.pointer none) => K .dead []
    | .tmp i => match f[i]? with
      | some (.own t x) => match t.flat with
        | true => K (.ro none t x) []
        | false => K (.own t x) [i]
      | some (.box b t x) => K (.box b t x) [i]
      | some (.cref q) => match f[q]? with
        | some (.own t y) => match t.isCur with
          | true => match o.dst with
            | some d => match Nat.beq q d with
              | true => none
              | false => K (.own t y) [q]
            | none => none
          | false => none
        | _ => none
      | some (.ref r p tr t y u) => match ownAssign p f[r]? with
        | true => match o.dst with
          | some d => match Nat.beq r d with
            | true => none
            | false => K (.own t y) [r]
          | none => none
        | false => K (.ref r p tr t y u) []
      | some (.ext r p _ t x _) => match p with
        | [] => match f[r]? with
          | some (.own _ _) => match o.dst with
            | some d => match Nat.beq r d with
              | true => K (.own (.slice t) x) [i]
              | false => K (.own (.slice t) x) [r, i]
            | none => none
          | _ => none
        | _ => none
      | _ => match copyS f x with
        | some s => K s []
        | none => none
    | x => match copyS f x with
      | some s => K s []
      | none => none
  | .pick c a b => boolK f c fun
    | true => stayK f a fun t x => match t.flat with | true => K (.ro none t x) [] | false => none
    | false => stayK f b fun t x => match t.flat with | true => K (.ro none t x) [] | false => none
  | .alloc T => match E.tyOf T with
    | some t => K (.box true t t.zero) []
    | none => none
  | .box T x => match E.tyOf T with
    | some t => match kindOf f x with
      | .flat => valK f x fun t' x => castK t' t x fun x => K (.box true t x) []
      | .kept => valK f x fun t' x => castK t' t x fun x => K (.box false t x) []
      | .owned ls => valK f x fun t' x => castK t' t x fun x => K (.box true t x) ls
      | .bad => none
    | none => none
  | .build T parts => match E.tyOf T with
    | some t => match keysOk (numParts t) parts.toList with
      | true => match kindT f parts.toList t 0 with
        | .flat => buildK f parts.toList t 0 fun x => K (resS t x) []
        | .kept => buildK f parts.toList t 0 fun x => K (.ro none t x) []
        | .owned ls => buildK f parts.toList t 0 fun x => K (.own t x) ls
        | .bad => none
      | false => none
    | none => none
  | .buildSlice T len parts => match E.tyOf T with
    | some (.slice t) => match Nat.beq len parts.size && Nat.ble (len * t.size) 16777216 with
      | true => match t.flat with
        | true => listK f t parts.toList 0 fun xs => K (.own (.slice t) xs) []
        | false => match ownersOf f parts.toList with
          | some ls => listK f t parts.toList 0 fun xs => K (.own (.slice t) xs) ls
          | none => match keptAll f parts.toList with
            | true => listK f t parts.toList 0 fun xs => K (.ro none (.slice t) xs) []
            | false => none
      | false => none
    | _ => none
  | .load T a => ptrS f a (optIs (E.tyOf T)) fun s => loadS s fun s => K s []
  | .nilCheck x => ptrS f x (fun _ => true) fun s => K s []
  | .binOp op T x y _ => match E.tyOf T with
    | some (.pair a b) => match E.isArr T with
      | true => none
      | false => eqK f op (.pair a b) x y fun r => K (.ro none .bool r) []
    | some (.num _) => binK f op x y fun t r => K (.ro none t r) []
    | some .bool => binB f op x y fun r => K (.ro none .bool r) []
    | _ => none
  | .unOp op _ x => match op with
    | .not => boolK f x fun b => K (.ro none .bool (!b)) []
    | .neg => intK f x fun k n => K (.ro none (.num k) (k.wrap (0 - n))) []
    | _ => none
  | .convert S T x => match E.tyOf S, E.tyOf T with
    | some (.num _), some (.num k) => intK f x fun _ n => K (.ro none (.num k) (k.wrap n)) []
    | _, _ => none
  | .makeSlice T n c => match E.tyOf T, sameOp n c with
    | some (.slice t), true => intK f n fun k n => match k with
      | .i64 => ifT (decide (0 ≤ n)) (room n.toNat (K (.own (.slice t) (List.replicate n.toNat t.zero)) []))
      | _ => none
    | _, _ => none
  | .slice T x lo hi mx => match E.tyOf T, mx, copyS f x with
    | some (.slice e), none, some s => cutS e f s lo hi fun s => K s []
    | _, _, _ => none
  | .fieldAddr T x k => match E.isArr T with
    | true => none
    | false => ptrS f x (optIs (E.tyOf T)) fun s => fieldS s k fun s => K s []
  | .indexAddr T x i => match E.tyOf T with
    | some (.slice e) => intK f i fun _ n => match copyS f x with
      | some s => elemS e s n fun s => K s []
      | none => none
    | some .raw => intK f i fun _ n => rawK f x fun v => (readAt E.amb v n).bind fun y => K (.radr none (.num .u8) y) []
    | some (.pair _ _) => match isConstOp i, E.isArr T with
      | some n, true => ptrS f x (optIs (E.tyOf T)) fun s => fieldS s n fun s => K s []
      | _, _ => none
    | _ => none
  | .extract (.tmp i) n => match f[i]? with
    | some (.ro r t x) => compK t x n fun _ t' y _ => K (.ro (match t'.flat with | true => none | false => r) t' y) []
    | some (.own t x) => compK t x n fun p t' y u => match t'.flat with
      | true => K (.ro none t' y) []
      | false => K (.ref i p t t' y u) []
    | some (.ref r q tr t x v) => compK t x n fun p t' y u => match t'.flat with
      | true => K (.ro none t' y) []
      | false => K (.ref r (q ++ p) tr t' y (fun a => v (u a))) []
    | _ => none
  | .call c => match c.callee with
    | .value (.func g) => match E.specOf g with
      | some sp => argsK f sp.args c.args.toList fun xs => (sp.fn xs).bind fun r => K (frzS E o.dst sp.res r) []
      | none => match E.mutOf g with
        | some ms => takeK f ms c.args.toList K
        | none => none
    | .value (.tmp i) => match f[i]? with
      | some (.ro _ (.fn g) _) => match E.specOf g with
        | some sp => argsK f sp.args c.args.toList fun xs => (sp.fn xs).bind fun r => K (frzS E o.dst sp.res r) []
        | none => none
      | _ => none
    | .builtin .len => match c.args.toList, c.argTypes.toList with
      | [x], [D] => match E.tyOf D with
        | some (.slice _) => sliceK f x fun t xs => K (.ro none (.num .i64) (List.length (α := t.den) xs : Int)) []
        | some .raw => rawK f x fun v => (rawLen v).bind fun n => K (.ro none (.num .i64) n) []
        | _ => none
      | _, _ => none
    | .builtin .min => match c.args.toList with
      | [x, y] => intK f x fun k a => intK f y fun k' b => match decide (k = k') with
        | true => K (.ro none (.num k) (if b < a then b else a)) []
        | false => none
      | _ => none
    | .builtin .max => match c.args.toList with
      | [x, y] => intK f x fun k a => intK f y fun k' b => match decide (k = k') with
        | true => K (.ro none (.num k) (if b > a then b else a)) []
        | false => none
      | _ => none
    | .builtin .append => match c.args.toList, c.argTypes.toList with
      | [s, y], [T, T'] => match E.tyOf T, E.tyOf T' with
        | some (.slice t), some (.slice _) => sliceK f y fun t' ys => match t'.eqP t with
          | some ⟨h⟩ => match t.flat with
            | true => appendK f s t (h ▸ ys) [] K
            | false => match kindOf f y with
              | .owned ls => appendK f s t (h ▸ ys) ls K
              | _ => none
          | none => none
        | _, _ => none
      | _, _ => none
    | _ => none
  | _ => none

end Go.Sx

/- The interpreter's code: regions, branches, loops with their shapes, returns. Conditions: none (definitions). -/
namespace Go.Sx

variable {α : Type}

def useUp (f : Frame) : List Nat → Frame
  | [] => f
  | c :: r => useUp ((kill c f).set c .dead) r

/-- The frame behind an operation. -/
def applyS (f : Frame) (d : Option Nat) (s : Slot) (ls : List Nat) : Frame :=
  match d with
  | some d => putS (useUp f ls) d s
  | none => useUp f ls

/-- An append kills what hangs on its root, but for near references. -/
def Slot.frail (r : Nat) : Slot → Bool
  | .ro (some r') _ _ | .radr (some r') _ _ => Nat.beq r' r
  | .ref r' p _ _ _ _ => Nat.beq r' r && !p.near
  | .adr _ r' p _ _ _ _ => Nat.beq r' r && !p.near
  | .ext r' _ _ _ _ _ => Nat.beq r' r
  | .cref r' => Nat.beq r' r
  | _ => false

def killFrail (f : Frame) (s : Slot) : Frame :=
  match s with
  | .ext r _ _ _ _ _ => f.map fun s => match s.frail r with | true => .dead | false => s
  | _ => f

/-- A store: the frame behind it. -/
def samePath : Path → Path → Bool
  | [], [] => true
  | .fst :: p, .fst :: q => samePath p q
  | .snd :: p, .snd :: q => samePath p q
  | .idx i :: p, .idx j :: q => Nat.beq i j && samePath p q
  | _, _ => false

/-- All that is not flat in t lies at the path. -/
def covers : Ty → Path → Bool
  | _, [] => true
  | .pair a b, .fst :: p => b.flat && covers a p
  | .pair a b, .snd :: p => a.flat && covers b p
  | _, _ => false

/-- What an operation does to a frame. -/
inductive Rec where
  | put (d : Nat) (s : Slot) (ls : List Nat)
  | store (r : Nat) (s : Slot) (ls : List Nat)
  | cur (q : Nat) (t : Ty) (y : t.den) (d : Nat) (s : Slot)
  | nop

/-- Hanging on a root, other than as a copy of a cursor's pointer. -/
def Slot.onC (r : Nat) : Slot → Bool
  | .cref _ => false
  | s => s.on r

def killC (r : Nat) (f : Frame) : Frame := f.map fun s => match s.onC r with | true => .dead | false => s

def Rec.act : Rec → Frame → Frame
  | .cur q t y d s, f => applyS ((killC q f).set q (.own t y)) (some d) s []
  | .put d s ls, f => applyS (killFrail f s) (some d) s ls
  | .store r s ls, f => (kill r (useUp f ls)).set r s
  | .nop, f => f

/-- The root behind a store. -/
def rootS (s : Option Slot) (tr : Ty) (x : tr.den) (b : Bool) : Option Slot :=
  match s with
  | some (.own _ _) => match b with
    | true => some (.own tr x)
    | false => none
  | some (.box _ _ _) => some (.box b tr x)
  | _ => none

def storeR (E : Env) (f : Frame) (T : Nat) (a v : Operand) (K : Rec → Option α) : Option α :=
  match copyS f a with
  | some (.adr o r p tr t _y u) => match optIs (E.tyOf T) t with
    | true => valK f v fun t' x => castK t' t x fun x => match kindOf f v with
      | .flat => match rootS f[r]? tr (u x) o with
        | some s => K (.store r s [])
        | none => none
      | .kept => match covers tr p with
        | true => match rootS f[r]? tr (u x) false with
          | some s => K (.store r s [])
          | none => none
        | false => none
      | .owned ls => match (o || covers tr p) with
        | true => match v with
          | .tmp j => match f[j]? with
            | some (.ext r' p' _ _ _ _) => match Nat.beq r' r with
              | true => match samePath p' p with
                | true => match rootS f[r]? tr (u x) true with
                  | some s => K (.store r s [j])
                  | none => none
                | false => none
              | false => match rootS f[r]? tr (u x) true with
                | some s => K (.store r s ls)
                | none => none
            | _ => match ls.contains r with
              | true => none
              | false => match rootS f[r]? tr (u x) true with
                | some s => K (.store r s ls)
                | none => none
          | _ => none
        | false => none
      | .bad => none
    | false => none
  | _ => none

def opR0 (E : Env) (f : Frame) (o : Oper) (K : Rec → Option α) : Option α :=
  match o.op with
  | .store T a v => match o.dst with
    | none => storeR E f T a v K
    | some _ => none
  | _ => match o.dst with
    | some d => match f[d]? with
      | some _ => opK E f o fun s ls => match s.on d || ls.any fun c => s.on c with
        | true => none
        | false => K (.put d s ls)
      | none => none
    | none => none

/-- A call that moves a cursor on. -/
def curAt (E : Env) (o : Oper) : Option (Nat × CurSpec × List Operand) :=
  match o.dst, o.op with
  | some d, .call c => match c.callee with
    | .value (.func g) => match E.curOf g with
      | some cs => some (d, cs, c.args.toList)
      | none => none
    | _ => none
  | _, _ => none

/-- The cursor behind a temporary. -/
def curRoot (f : Frame) (i : Nat) : Option (Nat × Option (Value × Int × Int)) :=
  match f[i]? with
  | some (.cref q) => match f[q]? with
    | some (.own .cur y) => some (q, y)
    | _ => none
  | some (.own .cur y) => some (i, y)
  | _ => none

def curR (f : Frame) (d : Nat) (cs : CurSpec) (os : List Operand) (K : Rec → Option α) : Option α :=
  match os with
  | .tmp i :: os => match f[d]? with
    | some _ => match curRoot f i with
      | some (q, y) => match !Nat.beq d q && os.all (clear f q) with
        | true => argsK f cs.rest os fun xs => (cs.fn y xs).bind fun zv => K (.cur q .cur zv.1 d (resS cs.res zv.2))
        | false => none
      | none => none
    | none => none
  | _ => none

/-- A call that changes an argument in place, whose result is flat. -/
def bmutAt (E : Env) (o : Oper) : Option (Nat × MutSpec × List Operand) :=
  match o.dst, o.op with
  | some d, .call c => match c.callee with
    | .value (.func g) => match E.mutOf g with
      | some ms => match flatRes ms.res with
        | true => some (d, ms, c.args.toList)
        | false => none
      | none => none
    | _ => none
  | _, _ => none

/-- The root behind a temporary. -/
def rootK (f : Frame) (i : Nat) (K : Nat → (t : Ty) → t.den → Option α) : Option α :=
  match f[i]? with
  | some (.ref q p _ _ _ _) => match p with
    | [] => match f[q]? with
      | some (.own t y) => K q t y
      | _ => none
    | _ => none
  | some (.own t y) => K i t y
  | _ => none

def flatS : (r : Option Ty) → resDen r → Option Slot
  | some t, v => some (.ro none t v)
  | none, _ => none

def bmutR (f : Frame) (d : Nat) (ms : MutSpec) (os : List Operand) (K : Rec → Option α) : Option α :=
  match os[ms.pos]? with
  | some (.tmp i) => match f[d]? with
    | some _ => rootK f i fun q t y => match t.eqP ms.t with
      | some ⟨h⟩ => match !Nat.beq d q && (os.eraseIdx ms.pos).all (clear f q) with
        | true => argsK f ms.rest (os.eraseIdx ms.pos) fun xs => (ms.fn (h ▸ y) xs).bind fun zv => (flatS ms.res zv.2).bind fun s => K (.cur q ms.t zv.1 d s)
        | false => none
      | none => none
    | none => none
  | _ => none

def opR (E : Env) (f : Frame) (o : Oper) (K : Rec → Option α) : Option α :=
  match curAt E o with
  | some (d, cs, os) => curR f d cs os K
  | none => match bmutAt E o with
    | some (d, ms, os) => bmutR f d ms os K
    | none => opR0 E f o K

/-- An operation that is not wanted. -/
def skipR (f : Frame) (o : Oper) (K : Rec → Option α) : Option α :=
  match o.dst with
  | some d => match f[d]? with
    | some _ => K (.put d .undef [])
    | none => none
  | none => K .nop

/-- An operation, its guard looked at; and the frame in which the guard is known. -/
def stepK (E : Env) (all : List Oper) (f : Frame) (o : Oper) (K : Frame → Rec → Option α) : Option α :=
  match o.guard with
  | none => opR E f o (K f)
  | some (j, want) => match all[j]? with
    | some oj => match oj.dst with
      | some d => match f[d]? with
        | some (.ro none .bool b) => match b with
          | true => match want with
            | true => opR E (f.set d (.ro none .bool true)) o (K (f.set d (.ro none .bool true)))
            | false => skipR (f.set d (.ro none .bool true)) o (K (f.set d (.ro none .bool true)))
          | false => match want with
            | true => skipR (f.set d (.ro none .bool false)) o (K (f.set d (.ro none .bool false)))
            | false => opR E (f.set d (.ro none .bool false)) o (K (f.set d (.ro none .bool false)))
        | some .undef => skipR f o (K f)
        | _ => none
      | none => none
    | none => none

/-- Where it does not matter which. -/
noncomputable def agree (a b : Option α) : Option α := @ite _ (a = b) (Classical.propDecidable _) a none

theorem agree_some {a b : Option α} {out : α} (h : agree a b = some out) : a = some out ∧ b = some out := by
  unfold agree at h
  split at h
  · rename_i e; exact ⟨h, e ▸ h⟩
  · simp at h

theorem agree_same {a : Option α} : agree a a = a := by simp [agree]

/-- A slice compared with nil: the result's place, and whether it is empty. -/
def nilAt (E : Env) (f : Frame) (o : Oper) : Option (Nat × Bool) :=
  match o.guard, o.dst, o.op with
  | none, some d, .binOp .eql T x (.const (.slice none 0 0)) _ => match E.tyOf T, f[d]? with
    | some (.slice _), some _ => sliceK f x fun _ xs => some (d, List.isEmpty xs)
    | _, _ => none
  | _, _, _ => none

/-- Where a value may be changed in place. -/
def mutOk (s : Option Slot) (p : Path) : Bool := match s with
  | some (.own _ _) => match p with
    | [] => true
    | [.idx _] => true
    | [.fst] => true
    | _ => false
  | some (.box true _ _) => true
  | _ => false

def resPut (f : Frame) (d : Nat) : (r : Option Ty) → resDen r → Frame
  | some t, v => applyS f (some d) (.ro none t v) []
  | none, _ => applyS f (some d) .dead []

def mutAt (E : Env) (f : Frame) (o : Oper) : Option (Nat × MutSpec × List Operand) :=
  match o.guard, o.dst, o.op with
  | none, some d, .call c => match c.callee with
    | .value (.func g) => match E.mutOf g, f[d]? with
      | some ms, some _ => match flatRes ms.res with
        | true => some (d, ms, c.args.toList)
        | false => none
      | _, _ => none
    | _ => none
  | _, _, _ => none

/-- A call that changes an argument in place. -/
def mutK (f : Frame) (d : Nat) (ms : MutSpec) (os : List Operand) (K : Frame → Option α) : Option α :=
  match os[ms.pos]? with
  | some (.tmp i) => match f[i]? with
    | some (.ref q p tr t y u) => match t.eqP ms.t with
      | some ⟨h⟩ => match mutOk f[q]? p && flatRes ms.res && !Nat.beq d q && (os.eraseIdx ms.pos).all (clear f q) with
        | true => argsK f ms.rest (os.eraseIdx ms.pos) fun xs => (ms.fn (h ▸ y) xs).bind fun zv => match rootS f[q]? tr (u (h ▸ zv.1)) true with
          | some s => K (resPut ((kill q f).set q s) d ms.res zv.2)
          | none => none
        | false => none
      | none => none
    | _ => none
  | _ => none

noncomputable def opsK (E : Env) (all : List Oper) : List Oper → Frame → (Frame → Option α) → Option α
  | [], f, K => K f
  | o :: r, f, K => match nilAt E f o with
    | some (d, e) => match e with
      | true => agree (opsK E all r ((Rec.put d (.ro none .bool true) []).act f) K) (opsK E all r ((Rec.put d (.ro none .bool false) []).act f) K)
      | false => opsK E all r ((Rec.put d (.ro none .bool false) []).act f) K
    | none => match mutAt E f o with
      | some (d, ms, os) => mutK f d ms os fun f => opsK E all r f K
      | none => stepK E all f o fun f rec => opsK E all r (rec.act f) K

-- regions that draw their order

/-- What was seen of an operation of a region that draws its order. -/
structure St where
  o : Oper
  did : Rec
  root : Bool
  reads : List (Nat × Slot)
  weak : List Nat

def Rec.sets : Rec → List (Nat × Slot)
  | .put d s _ => [(d, s)]
  | .store r s _ => [(r, s)]
  | .cur q t y d s => [(d, s), (q, .own t y)]
  | .nop => []

def Rec.curOf : Rec → Option Nat
  | .cur q t _ _ _ => match t.isCur with
    | true => some q
    | false => none
  | _ => none

def Rec.qOf : Rec → Option Nat
  | .cur q _ _ _ _ => some q
  | _ => none

def Rec.dst : Rec → Option Nat
  | .put d _ _ => some d
  | .cur _ _ _ d _ => some d
  | .store r _ _ => some r
  | .nop => none

def Rec.dies : Rec → List Nat
  | .put _ _ ls => ls
  | .store _ _ ls => ls
  | .cur _ _ _ _ _ => []
  | .nop => []

/-- The step makes slot s, at place t, dead. -/
def St.hit (st : St) (t : Nat) (s : Slot) : Bool :=
  match st.did with
  | .put d n ls => ls.contains t || ls.any (fun c => s.on c) || (st.root && s.on d) || (match n with | .ext r _ _ _ _ _ => s.frail r | _ => false)
  | .store r _ ls => ls.contains t || ls.any (fun c => s.on c) || s.on r
  | .cur q _ _ d _ => s.onC q || (st.root && s.on d)
  | .nop => false

def tmpsOf (o : Oper) : List Nat := o.op.operands.toList.filterMap fun | .tmp t => some t | _ => none

/-- The root that a call's argument leads to. -/
def refRoot (f : Frame) (i : Nat) : Option Nat := match f[i]? with
  | some (.ref r p _ _ _ _) => match p with
    | [] => some r
    | _ => none
  | _ => none

/-- What else an operation looks at. -/
def alsoOf (all : List Oper) (f : Frame) (o : Oper) : List Nat :=
  (match o.guard with
    | some (j, _) => match all[j]? with
      | some oj => oj.dst.toList
      | none => []
    | none => []) ++
  match o.op with
  | .assign (.tmp i) => match f[i]? with
    | some (.ref r _ _ _ _ _) => [r]
    | some (.ext r _ _ _ _ _) => [r]
    | some (.cref r) => [r]
    | _ => []
  | .call _ => (match tmpsOf o with
    | i :: _ => match f[i]? with
      | some (.cref r) => [r]
      | _ => []
    | [] => []) ++ (tmpsOf o).filterMap (refRoot f)
  | .store _ a _ => match copyS f a with
    | some (.adr _ r _ _ _ _ _) => [r]
    | _ => []
  | _ => []

/-- The copy of a cursor's pointer looks at no state. -/
def weakOf (f : Frame) (o : Oper) : List Nat := match o.op with
  | .move (.tmp i) => match f[i]? with
    | some (.own t _) => match t.isCur with
      | true => [i]
      | false => []
    | _ => []
  | _ => []

def seesOf (f : Frame) (o : Oper) : List Nat := match weakOf f o with
  | [] => tmpsOf o
  | _ => []

def readsOf (f : Frame) : List Nat → Option (List (Nat × Slot))
  | [] => some []
  | t :: r => match f[t]?, readsOf f r with
    | some .dead, _ => none
    | some s, some l => some ((t, s) :: l)
    | _, _ => none

/-- What stood where a step sets something. -/
def rootOf (f : Frame) (rec : Rec) : Bool := match rec.dst with
  | some d => isRootAt f d
  | none => false

def recK (E : Env) (all : List Oper) : List Oper → Frame → List St → (Frame → List St → Option α) → Option α
  | [], f, acc, K => K f acc.reverse
  | o :: r, f, acc, K => stepK E all f o fun f rec => match readsOf f (seesOf f o ++ alsoOf all f o) with
    | some reads => recK E all r (rec.act f) (⟨o, rec, rootOf f rec, reads, weakOf f o⟩ :: acc) K
    | none => none

/-- The operations before each, as bits. -/
def maskOf (acc : List Nat) : List Edge → Nat
  | [] => 0
  | e :: r => match Region.binds .any e with
    | true => Nat.lor (Nat.lor (2 ^ e.on) (acc.getD e.on 0)) (maskOf acc r)
    | false => maskOf acc r

def masks : List Oper → List Nat → List Nat
  | [], acc => acc
  | o :: r, acc => masks r (acc ++ [maskOf acc o.after.toList])

/-- A weak look at a place bears what a step sets there: nothing, or a cursor where one was. -/
def weakOk (ws : List Nat) (rec : Rec) (d : Nat) : Bool :=
  ws.all fun i => !Nat.beq i d || (match rec.curOf with | some q => Nat.beq q i | none => false)

def swapOk (x y : St) : Bool :=
  x.did.sets.all (fun p => y.did.sets.all (fun e => !Nat.beq p.1 e.1) && y.reads.all (fun r => !Nat.beq r.1 p.1) && !y.did.dies.contains p.1 && !y.hit p.1 p.2 && weakOk y.weak x.did p.1) &&
  y.did.sets.all (fun p => x.reads.all (fun r => !Nat.beq r.1 p.1) && !x.did.dies.contains p.1 && !x.hit p.1 p.2 && weakOk x.weak y.did p.1) &&
  x.reads.all (fun p => !y.hit p.1 p.2) && x.weak.all (fun i => !y.did.dies.contains i)

def quietB (o : Oper) : Bool :=
  match o.guard, o.op with
  | none, .extract _ _ => true
  | _, _ => false

/-- Operation j, met before i, may come behind it, or never does. -/
def pairOk (ms : List Nat) (sts : List St) (j i : Nat) (x y : St) : Bool :=
  Nat.testBit (ms.getD i 0) j || swapOk x y || (quietB x.o && (List.range j).all fun k => Nat.testBit (ms.getD i 0) k || (match sts[k]? with | some z => quietB z.o | none => false))

def waits (o : Oper) (i : Nat) : Bool := o.after.toList.any fun e => Region.binds .any e && Nat.beq e.on i

def rowOk (all : Array Oper) (ms : List Nat) (sts : List St) (i : Nat) (y : St) : List St → Nat → Bool
  | [], _ => true
  | x :: r, j => match Nat.blt j i with
    | true => pairOk ms sts j i x y && (!quietB x.o || waits y.o j || x.o.apart all y.o) && rowOk all ms sts i y r (j + 1)
    | false => true

def rowsOk (all : Array Oper) (ms : List Nat) (sts : List St) : List St → Nat → Bool
  | [], _ => true
  | y :: r, i => rowOk all ms sts i y sts 0 && rowsOk all ms sts r (i + 1)

def edgesOk : List Oper → Nat → Bool
  | [], _ => true
  | o :: r, i => o.after.toList.all (fun e => !Region.binds .any e || Nat.blt e.on i) && (match o.op with | .select .. => false | _ => true) && edgesOk r (i + 1)

def drawOk (all : Array Oper) (sts : List St) : Bool :=
  edgesOk all.toList 0 && rowsOk all (masks all.toList []) sts sts 0

/-- The temporaries that a region's local operations set: what they held is of no use any more. -/
def localDst (o : Oper) : Option Nat := match o.op with
  | .assign _ => none
  | _ => o.dst

def drawK (E : Env) (all : Array Oper) (f : Frame) (K : Frame → Option α) : Option α :=
  recK E all.toList all.toList (useUp f (all.toList.filterMap localDst)) [] fun f sts => match drawOk all sts with
    | true => K f
    | false => none

/-- What is alive at a loop's head. -/
inductive Sh where
  | ro (r : Option Nat) (t : Ty)
  | own (t : Ty)
  | box (b : Bool) (t : Ty)

def Sh.ty : Sh → Ty
  | .ro _ t | .own t | .box _ t => t

def ShDen : List (Nat × Sh) → Type
  | [] => Unit
  | (_, h) :: r => h.ty.den × ShDen r

def Sh.slot : (h : Sh) → h.ty.den → Slot
  | .ro r t, x => .ro r t x
  | .own t, x => .own t x
  | .box b t, x => .box b t x

def encS (n : Nat) : (l : List (Nat × Sh)) → ShDen l → Frame
  | [], _ => List.replicate n .dead
  | (i, h) :: r, s => (encS n r s.2).set i (h.slot s.1)

/-- What of a slot is handed to a loop. -/
def shK (s : Slot) (h : Sh) (K : h.ty.den → Option α) : Option α :=
  match h, s with
  | .ro none t, .ro none t' x => castK t' t x K
  | .ro none t, .own t' x => match t.flat with
    | true => castK t' t x K
    | false => none
  | .ro (some r) t, .ro (some r') t' x => match Nat.beq r r' with
    | true => castK t' t x K
    | false => none
  | .ro (some r) t, .ref r' _ _ t' x _ => match Nat.beq r r' with
    | true => castK t' t x K
    | false => none
  | .own t, .own t' x => castK t' t x K
  | .box b t, .box b' t' x => match decide (b = b') with
    | true => castK t' t x K
    | false => none
  | _, _ => none

def decK (f : Frame) : (l : List (Nat × Sh)) → (ShDen l → Option α) → Option α
  | [], K => K ()
  | (i, h) :: r, K => match f[i]? with
    | some s => shK s h fun x => decK f r fun s => K (x, s)
    | none => none

structure Loop (α : Type) where
  live : List (Nat × Sh)
  body : ShDen live → (ShDen live → Option α) → (ShDen live → Option α) → Option α

/-- Rounds of a loop, as many as there is fuel for. -/
def iterK {S : Type} (body : S → (S → Option α) → (S → Option α) → Option α) : Nat → S → (S → Option α) → Option α
  | 0, _, _ => none
  | n + 1, s, ke => body s (fun s' => iterK body n s' ke) ke

def exitK (id : Nat) (k : Frame → Option α) (env : Nat → Frame → Option α) (id' : Nat) (f : Frame) : Option α :=
  match Nat.beq id' id with
  | true => k f
  | false => env id' f

noncomputable def runK (N : Nat) (E : Env) (ann : List (Nat × Loop α)) (n : Nat) (ret : Frame → Option α) : Code → Frame → (Nat → Frame → Option α) → (Frame → Option α) → Option α
  | .skip, f, _, k => k f
  | .region _ ops d, f, _, k => match d with
    | false => opsK E ops.toList ops.toList f k
    | true => drawK E ops f k
  | .seq a b, f, env, k => runK N E ann n ret a f env fun f => runK N E ann n ret b f env k
  | .cond c a b, f, env, k => boolK f c fun
    | true => runK N E ann n ret a f env k
    | false => runK N E ann n ret b f env k
  | .block id c, f, env, k => match c with
    | .loop _ => match look ann id with
      | some L => decK f L.live fun s => iterK L.body N s fun s' => k (encS n L.live s')
      | none => none
    | _ => runK N E ann n ret c f (exitK id k env) k
  | .exit id, f, env, _ => env id f
  | .ret, f, _, _ => ret f
  | _, _, _, _ => none

/-- One result variable. -/
def resVarK (E : Env) (f : Frame) (v : ResultVar) (t : Ty) (K : t.den → List Nat → Option α) : Option α :=
  match v with
  | .tmp i => match kindOf f (.tmp i) with
    | .flat => valK f (.tmp i) fun t' x => castK t' t x fun x => K x []
    | .owned ls => valK f (.tmp i) fun t' x => castK t' t x fun x => K x ls
    | _ => none
  | .cell i T => match f[i]? with
    | some (.box b t' x) => match optIs (E.tyOf T) t' with
      | true => match t'.flat with
        | true => castK t' t x fun x => K x []
        | false => match b with
          | true => castK t' t x fun x => K x [i]
          | false => none
      | false => none
    | _ => none

def retsT (E : Env) (f : Frame) : List ResultVar → (t : Ty) → (t.den → List Nat → Option α) → Option α
  | [v], t, K => match t.plain with
    | true => resVarK E f v t K
    | false => none
  | v :: w :: r, .tup a b, K => match a.plain with
    | true => resVarK E f v a fun x ls => retsT E f (w :: r) b fun y ms => match ls.all fun l => !ms.contains l with
      | true => K (x, y) (ls ++ ms)
      | false => none
    | false => none
  | _, _, _ => none

def retsK (E : Env) (f : Frame) (vs : List ResultVar) (t : Ty) (K : t.den → List Nat → Option α) : Option α :=
  match vs with
  | [v] => resVarK E f v t K
  | v :: w :: r => retsT E f (v :: w :: r) t K
  | [] => none

def initS (n : Nat) : (ts : List Ty) → Args ts → List Slot
  | [], _ => List.replicate n .dead
  | t :: ts, a => .ro none t a.1 :: initS (n - 1) ts a.2

/-- What a return hands. -/
def retOf (E : Env) (fn : Func) (res : Ty) (f : Frame) : Option res.den := retsK E f fn.results.toList res fun x _ => some x

/-- A function's run. -/
noncomputable def fnK (N : Nat) (E : Env) (fn : Func) (ts : List Ty) (res : Ty) (ann : List (Nat × Loop res.den)) (a : Args ts) : Option res.den :=
  match fn.body with
  | some c => runK N E ann fn.ntmps (retOf E fn res) c (initS fn.ntmps ts a) (fun _ _ => none) (retOf E fn res)
  | none => none

-- functions that change an argument in place

def initM : Nat → (t : Ty) → t.den → Nat → (ts : List Ty) → Args ts → List Slot
  | n, t, y, 0, ts, xs => .own t y :: initS (n - 1) ts xs
  | n, t, y, k + 1, t0 :: ts, xs => .ro none t0 xs.1 :: initM (n - 1) t y k ts xs.2
  | n, _, _, _ + 1, [], _ => List.replicate n .dead

def resM (E : Env) (fn : Func) (f : Frame) : (r : Option Ty) → (resDen r → Option α) → Option α
  | some t, K => match t.flat with
    | true => retsK E f fn.results.toList t fun x _ => K x
    | false => none
  | none, K => match fn.results.toList with
    | [] => K ()
    | _ => none

def retM (E : Env) (fn : Func) (ms : MutSpec) (f : Frame) : Option (ms.t.den × resDen ms.res) := match f[ms.pos]? with
  | some (.own t y) => castK t ms.t y fun y => resM E fn f ms.res fun v => some (y, v)
  | _ => none

noncomputable def fnMut (N : Nat) (E : Env) (fn : Func) (ms : MutSpec) (ann : List (Nat × Loop (ms.t.den × resDen ms.res))) (y : ms.t.den) (xs : Args ms.rest) : Option (ms.t.den × resDen ms.res) :=
  match fn.body with
  | some c => runK N E ann fn.ntmps (retM E fn ms) c (initM fn.ntmps ms.t y ms.pos ms.rest xs) (fun _ _ => none) (retM E fn ms)
  | none => none

/-- The code sets no such temporary. -/
def noDst (k : Nat) : Code → Bool
  | .region _ ops _ => ops.toList.all fun o => match o.dst with | some d => !Nat.beq d k | none => true
  | .seq a b => noDst k a && noDst k b
  | .cond _ a b => noDst k a && noDst k b
  | .block _ c => noDst k c
  | .loop c => noDst k c
  | _ => true

end Go.Sx

/- The model's loads and stores of typed values. Conditions: none. -/
namespace Go.Sx

/-- What the table of types says of a type that the interpreter knows. -/
structure TyFact (P : Program) (E : Env) (T : Nat) (t : Ty) : Prop where
  info : ∃ i z, P.info? T = some i ∧ i.size = t.size ∧ i.bytes ≤ 256 ∧ i.zero = some z ∧ z.cells.toList = t.zeroCells
  num : ∀ k, t = .num k → P.underlying T = some (.int k)
  bool : t = .bool → P.underlying T = some .bool
  slice : ∀ e, t = .slice e → ∃ T', P.underlying T = some (.slice T') ∧ E.tyOf T' = some e
  agg : ∀ a b, t = .pair a b → (∃ fs, P.underlying T = some (.struct fs)) ∨ (∃ n e, P.underlying T = some (.array n e))
  tup : ∀ a b, t ≠ .tup a b
  nofn : ∀ g, t ≠ .fn g
  raw : t = .raw → ∃ T', P.underlying T = some (.slice T') ∧ E.tyOf T' = some (.num .u8)
  nocur : t ≠ .cur

theorem Rep.oneCell {tr : Bool} {w : World} : ∀ {t : Ty} {cs : List Value} {x : t.den} {S : Nat → Prop}, Rep tr w t cs x S → ∀ v ∈ cs, v.oneCell' = true
  | .num _, _, _, _, h => by simp only [Rep] at h; subst h; simp [Value.oneCell']
  | .bool, _, _, _, h => by simp only [Rep] at h; subst h; simp [Value.oneCell']
  | .fn _, _, _, _, h => by simp only [Rep] at h; subst h; simp [Value.oneCell']
  | .raw, _, x, _, h => by
    obtain ⟨h, hx⟩ := h; subst h
    intro v hv
    rw [List.mem_singleton.1 hv]
    have hx : (rawLen (x : Value)).isSome = true := hx
    revert hx
    show (rawLen (x : Value)).isSome = true → Value.oneCell' (x : Value) = true
    cases (x : Value) <;> simp [rawLen, Value.oneCell']
  | .cur, _, none, _, h => by simp only [Rep, CurOk] at h; subst h; simp [Value.oneCell']
  | .cur, _, some (v, i, k), _, h => by obtain ⟨b, E, h, _⟩ := h; subst h; simp [Value.oneCell']
  | .pair a b, _, _, _, ⟨c1, c2, _, _, e, h1, h2, _⟩ => by
    subst e; intro v hv; rcases List.mem_append.1 hv with hv | hv
    · exact h1.oneCell v hv
    · exact h2.oneCell v hv
  | .tup a b, _, _, _, ⟨c1, c2, _, _, e, h1, h2, _⟩ => by
    subst e; intro v hv; rcases List.mem_append.1 hv with hv | hv
    · exact h1.oneCell v hv
    · exact h2.oneCell v hv
  | .slice t, _, _, _, ⟨p, c, e, _⟩ => by subst e; simp [Value.oneCell']

theorem TyFact.plain {P : Program} {E : Env} {T : Nat} {t : Ty} (h : TyFact P E T t) : t.plain = true := by
  cases t <;> first | rfl | exact absurd rfl (h.tup _ _)

theorem Shape.cells {tr : Bool} {w : World} {t : Ty} {v : Value} {cs : List Value} {x : t.den} {S : Nat → Prop} (hp : t.plain = true) (h : Shape t v cs) (hr : Rep tr w t cs x S) : v.cells.toList = cs := by
  cases t with
  | tup => simp [Ty.plain] at hp
  | pair a b => simp only [Shape, Shape1] at h; subst h; rfl
  | num k => simp only [Rep] at hr; simp only [Shape, Shape1] at h; subst h; simp at hr; subst hr; rfl
  | bool => simp only [Rep] at hr; simp only [Shape, Shape1] at h; subst h; simp at hr; subst hr; rfl
  | fn _ => simp only [Rep] at hr; simp only [Shape, Shape1] at h; subst h; simp at hr; subst hr; rfl
  | raw =>
    obtain ⟨hr, hx⟩ := hr
    simp only [Shape, Shape1] at h; subst h
    have e : v = x := (List.cons.inj hr).1
    subst e
    have hx : (rawLen (v : Value)).isSome = true := hx
    revert hx
    cases v <;> simp [rawLen, Value.cells]
  | cur =>
    rcases x with _ | ⟨v', i, k⟩
    · simp only [Rep, CurOk] at hr; simp only [Shape, Shape1] at h; subst h; simp at hr; subst hr; rfl
    · obtain ⟨b, E, hr, _⟩ := hr; simp only [Shape, Shape1] at h; subst h; simp at hr; subst hr; rfl
  | slice e => obtain ⟨p, c, e', _⟩ := hr; simp only [Shape, Shape1] at h; subst h; simp at e'; subst e'; rfl

/-- The value of a type's cells. -/
def valOf (t : Ty) (cs : List Value) : Value := match t with
  | .pair _ _ => .agg cs.toArray
  | _ => cs.headD undef

theorem valOf_shape {t : Ty} {cs : List Value} (hp : t.plain = true) (hl : cs.length = t.size) : Shape t (valOf t cs) cs := by
  cases t with
  | tup => simp [Ty.plain] at hp
  | pair a b => rfl
  | num k => match cs, hl with | [v], _ => rfl
  | bool => match cs, hl with | [v], _ => rfl
  | fn _ => match cs, hl with | [v], _ => rfl
  | raw => match cs, hl with | [v], _ => rfl
  | cur => match cs, hl with | [v], _ => rfl
  | slice e => match cs, hl with | [v], _ => rfl

theorem add_block (b o n : Nat) : (⟨b, o, none⟩ : Addr).add n = ⟨b, o + n, none⟩ := by
  unfold Addr.add; split <;> simp_all

theorem cell_seg {w : World} {b o n : Nat} {L : Array Value} {E : TypeId} {fz : Nat × Nat} (h : w.heap[b]? = some (.cells L E fz)) :
    ∀ j v, (seg L o n)[j]? = some v → w.cell? ((⟨b, o, none⟩ : Addr).add j) = some v := by
  intro j v hj
  rw [add_block]
  rw [seg_get] at hj
  split at hj
  · simp [World.cell?, h]; simpa using hj
  · simp at hj

theorem run_sizeOf' {P : Program} {E : Env} {T : Nat} {t : Ty} (h : TyFact P E T t) (w : World) : (sizeOf T).run P w = .ok t.size w := by
  obtain ⟨i, z, hi, hs, _⟩ := h.info
  simp [sizeOf, typeInfo, hi, hs]

theorem run_typeInfo' {P : Program} {T : Nat} {i : TypeInfo} (h : P.info? T = some i) (w : World) : (typeInfo T).run P w = .ok i w := by
  simp [typeInfo, h]

theorem run_zeroValue' {P : Program} {E : Env} {T : Nat} {t : Ty} (h : TyFact P E T t) (w : World) : ∃ z, (zeroValue T).run P w = .ok z w ∧ z.cells.toList = t.zeroCells := by
  obtain ⟨i, z, hi, hs, _, hz, hc⟩ := h.info
  exact ⟨z, by simp [zeroValue, typeInfo, hi, hz], hc⟩

theorem run_isAgg {P : Program} {E : Env} {T : Nat} {t : Ty} (h : TyFact P E T t) (w : World) : (isAgg T).run P w = .ok (match t with | .pair _ _ => true | _ => false) w := by
  cases t with
  | tup a b => exact absurd rfl (h.tup a b)
  | num k => simp [isAgg, run_underlying (h.num k rfl)]
  | bool => simp [isAgg, run_underlying (h.bool rfl)]
  | fn g => exact absurd rfl (h.nofn g)
  | raw => obtain ⟨T', hu, _⟩ := h.raw rfl; simp [isAgg, run_underlying hu]
  | cur => exact absurd rfl h.nocur
  | slice e => obtain ⟨T', hu, _⟩ := h.slice e rfl; simp [isAgg, run_underlying hu]
  | pair a b =>
    rcases h.agg a b rfl with ⟨fs, hu⟩ | ⟨n, e, hu⟩ <;> simp [isAgg, run_underlying hu]

theorem run_loadVar' {P : Program} {E : Env} {T : Nat} {t : Ty} (h : TyFact P E T t) {w : World} {b o : Nat} {L : Array Value} {El : TypeId} {fz : Nat × Nat}
    (hb : w.heap[b]? = some (.cells L El fz)) (ho : o + t.size ≤ L.size) : (loadVar T ⟨b, o, none⟩).run P w = .ok (valOf t (seg L o t.size)) w := by
  have hl := seg_length ho
  have hc := cell_seg (o := o) (n := t.size) hb
  have hagg := run_isAgg h w
  have hsz := run_sizeOf' h w
  have hone : t.size = 1 → ∃ v, seg L o t.size = [v] := by
    intro e
    rw [e] at hl ⊢
    match h' : seg L o 1, hl with
    | [v], _ => exact ⟨v, rfl⟩
  have hld : ∀ v, seg L o t.size = [v] → w.cell? ⟨b, o, none⟩ = some v := by
    intro v e
    have := hc 0 v (by rw [e]; rfl)
    simpa [add_block] using this
  cases t with
  | tup a b => exact absurd rfl (h.tup a b)
  | pair x y =>
    have := run_loadCells_list (P := P) w ⟨b, o, none⟩ (seg L o (Ty.pair x y).size) hc
    rw [hl] at this
    simp only [loadVar, Sem.run_bind, hagg, Result.andThen_ok, if_true, hsz, this]
    rfl
  | num k =>
    obtain ⟨v, e⟩ := hone rfl
    simp only [loadVar, Sem.run_bind, hagg, Result.andThen_ok, e, valOf]
    simp [hld v e]
  | fn g => exact absurd rfl (h.nofn g)
  | raw =>
    obtain ⟨v, e⟩ := hone rfl
    simp only [loadVar, Sem.run_bind, hagg, Result.andThen_ok, e, valOf]
    simp [hld v e]
  | cur => exact absurd rfl h.nocur
  | bool =>
    obtain ⟨v, e⟩ := hone rfl
    simp only [loadVar, Sem.run_bind, hagg, Result.andThen_ok, e, valOf]
    simp [hld v e]
  | slice k =>
    obtain ⟨v, e⟩ := hone rfl
    simp only [loadVar, Sem.run_bind, hagg, Result.andThen_ok, e, valOf]
    simp [hld v e]

theorem splice_eq (L : Array Value) (o : Nat) (cs : List Value) : (L.toList.take o ++ cs ++ L.toList.drop (o + cs.length)).toArray = splice L o cs := by
  simp [splice]

theorem run_storeVar' {P : Program} {E : Env} {T : Nat} {t : Ty} (h : TyFact P E T t) {w : World} {b o : Nat} {L : Array Value} {El : TypeId}
    (hb : w.heap[b]? = some (.cells L El (0, 0))) (ho : o + t.size ≤ L.size) {v : Value} {cs : List Value} (hc : v.cells.toList = cs) (hl : cs.length = t.size) (h1 : ∀ v ∈ cs, v.oneCell' = true) :
    (storeVar T ⟨b, o, none⟩ v).run P w = .ok () (w.setRow b (splice L o cs)) := by
  have hsz := run_sizeOf' h w
  have hvs : v.cells.size = t.size := by rw [← hl, ← hc]; simp
  have := run_storeCells_at P b o El cs 0 L w hb (by omega) h1
  simp only [Nat.add_zero, splice_eq] at this
  simp only [storeVar, Sem.run_bind, hsz, Result.andThen_ok, hvs, ne_eq, not_true_eq_false, if_false, hc, this]

end Go.Sx

/- Operands read, frames behind an operation. Conditions: none. -/
namespace Go.Sx

variable {α : Type} {w0 : World} {lent : Nat → Prop} {f : Frame} {a : Act} {w : World} {own : Own}

theorem heap_lt {w : World} {b : Nat} {o : Obj} (h : w.heap[b]? = some o) : b < w.heap.size := (Array.getElem?_eq_some_iff.1 h).1

theorem Of.lt {own : Own} {w : World} {r : Option Nat} {c : Nat} (h : Of own w r c) : c < w.heap.size := h.2

/-- What an operand is worth, by its kind. -/
def OVal (f : Frame) (a : Act) (w : World) (own : Own) (o : Operand) (t : Ty) (x : t.den) : Prop :=
  ∃ cs, Shape t (a.eval o) cs ∧ Rep false w t cs x (fun c => c < w.heap.size) ∧
    match kindOf f o with
    | .flat => t.flat = true
    | .kept => Rep false w t cs x (Of own w none)
    | .owned ls => Rep true w t cs x (fun c => ∃ l ∈ ls, Of own w (some l) c)
    | .bad => True

theorem Rep.all {tr : Bool} {w : World} {t : Ty} {cs : List Value} {x : t.den} {S : Nat → Prop} (h : Rep tr w t cs x S) (hs : ∀ c, S c → c < w.heap.size) : Rep false w t cs x (fun c => c < w.heap.size) :=
  h.weak.mono hs

theorem eval_tmp (a : Act) (i : Nat) : a.eval (.tmp i) = a.tmps.getD i undef := rfl

theorem Inv.root (h : Inv w0 lent f a w own) (r : Nat) : ∀ s, f[r]? = some s → SlotOk w own f a.tmps r s (a.tmps.getD r undef) := fun s hs => h.slots r s hs

/-- A reference's value is a tree of its root's blocks. -/
theorem Inv.refTree (h : Inv w0 lent f a w own) {i r : Nat} {p : Path} {tr t : Ty} {y : t.den} {u : t.den → tr.den} (hf : f[i]? = some (.ref r p tr t y u)) :
    ∃ cs, Shape t (a.tmps.getD i undef) cs ∧ Rep true w t cs y (Of own w (some r)) := by
  obtain ⟨x, rc, l0, l, cs, hb, hat, hl, hs, hcs⟩ := h.slots i _ hf
  obtain ⟨h1, h2, _⟩ := hb.rep (h.root r)
  obtain ⟨l', S', g1, g2, g3, g4, _⟩ := Rep.put hat l0 _ (h2 rfl) (fun b o e h => h.2 o e)
  rw [hl] at g1; simp at g1; subst g1
  exact ⟨cs, hs, by rw [hcs]; exact g2.mono fun c hc => (g4 c hc).1⟩

theorem Inv.extTree (h : Inv w0 lent f a w own) {i r : Nat} {p : Path} {tr t : Ty} {x : List t.den} {u : List t.den → tr.den} (hf : f[i]? = some (.ext r p tr t x u)) :
    ∃ cs, Shape (.slice t) (a.tmps.getD i undef) cs ∧ Rep true w (.slice t) cs x (fun c => ∃ l ∈ [r, i], Of own w (some l) c) := by
  obtain ⟨xr, rc, l0, l, ys, cs, hb, hat, hl, hs, hrep⟩ := h.slots i _ hf
  obtain ⟨h1, h2, _⟩ := hb.rep (h.root r)
  obtain ⟨l', S', g1, g2, g3, g4, _⟩ := Rep.put hat l0 _ (h2 rfl) (fun b o e h => h.2 o e)
  rw [hl] at g1; simp at g1; subst g1
  refine ⟨cs, hs, hrep.mono fun c hc => ?_⟩
  rcases hc with hc | hc
  · exact ⟨i, by simp, hc⟩
  · exact ⟨r, by simp, (g4 c (g3 ▸ hc)).1⟩

theorem valK_sound (h : Inv w0 lent f a w own) {o : Operand} {K : (t : Ty) → t.den → Option α} {out : α} (hk : valK f o K = some out) : ∃ t x, OVal f a w own o t x ∧ K t x = some out := by
  cases o with
  | tmp i =>
    simp only [valK] at hk
    cases hf : f[i]? with
    | none => rw [hf] at hk; simp at hk
    | some s =>
      rw [hf] at hk
      have hs := h.slots i s hf
      cases s <;> simp only [reduceCtorEq] at hk
      · rename_i r t x
        obtain ⟨cs, hsh, hrep⟩ := hs
        refine ⟨t, x, ⟨cs, hsh, hrep.all fun c hc => hc.2, ?_⟩, hk⟩
        simp only [kindOf, hf]
        cases ht : t.flat with
        | true => rfl
        | false =>
          cases r with
          | none => exact hrep
          | some r => trivial
      · rename_i t x
        obtain ⟨cs, hsh, hrep⟩ := hs
        refine ⟨t, x, ⟨cs, hsh, hrep.all fun c hc => hc.2, ?_⟩, hk⟩
        simp only [kindOf, hf]
        cases ht : t.flat with
        | true => rfl
        | false => exact hrep.mono fun c hc => ⟨i, by simp, hc⟩
      · rename_i r p tr t y u
        obtain ⟨cs, hsh, hrep⟩ := h.refTree hf
        refine ⟨t, y, ⟨cs, hsh, hrep.all fun c hc => hc.2, ?_⟩, hk⟩
        simp only [kindOf, hf]
        exact hrep.mono fun c hc => ⟨r, by simp, hc⟩
      · rename_i r p tr t x u
        obtain ⟨cs, hsh, hrep⟩ := h.extTree hf
        refine ⟨.slice t, x, ⟨cs, hsh, hrep.all fun c hc => ?_, ?_⟩, hk⟩
        · obtain ⟨l, _, hc⟩ := hc; exact hc.2
        simp only [kindOf, hf]
        exact hrep
  | const v =>
    cases v <;> simp only [valK, reduceCtorEq] at hk
    · rename_i b
      exact ⟨.bool, b, ⟨[.bool b], rfl, rfl, rfl⟩, hk⟩
    · rename_i k n
      exact ⟨.num k, n, ⟨[.int k n], rfl, rfl, rfl⟩, hk⟩
  | global g => simp [valK] at hk
  | func g =>
    simp only [valK] at hk
    exact ⟨.fn g, (), ⟨[.func (.func g) #[] #[]], rfl, rfl, rfl⟩, hk⟩

theorem castK_some {t t' : Ty} {x : t.den} {K : t'.den → Option α} {out : α} (h : castK t t' x K = some out) : ∃ e : t = t', K (e ▸ x) = some out := by
  unfold castK at h
  split at h
  · exact ⟨_, h⟩
  · simp at h

theorem intK_sound (h : Inv w0 lent f a w own) {o : Operand} {K : IntKind → Int → Option α} {out : α} (hk : intK f o K = some out) : ∃ k n, a.eval o = .int k n ∧ K k n = some out := by
  obtain ⟨t, x, ⟨cs, hs, hr, _⟩, hk⟩ := valK_sound h hk
  cases t with
  | num k =>
    simp only [Rep] at hr; subst hr
    simp only [Shape, Shape1] at hs
    exact ⟨k, x, by simpa using hs.symm, hk⟩
  | _ => simp at hk

theorem boolK_sound (h : Inv w0 lent f a w own) {o : Operand} {K : Bool → Option α} {out : α} (hk : boolK f o K = some out) : ∃ b, a.eval o = .bool b ∧ K b = some out := by
  obtain ⟨t, x, ⟨cs, hs, hr, _⟩, hk⟩ := valK_sound h hk
  cases t with
  | bool =>
    simp only [Rep] at hr; subst hr
    simp only [Shape, Shape1] at hs
    exact ⟨x, by simpa using hs.symm, hk⟩
  | _ => simp at hk

theorem sliceK_sound (h : Inv w0 lent f a w own) {o : Operand} {K : (t : Ty) → List t.den → Option α} {out : α} (hk : sliceK f o K = some out) : ∃ t xs, OVal f a w own o (.slice t) xs ∧ K t xs = some out := by
  obtain ⟨t, x, hv, hk⟩ := valK_sound h hk
  cases t with
  | slice t => exact ⟨t, x, hv, hk⟩
  | _ => simp at hk

theorem OVal.slice {o : Operand} {t : Ty} {xs : List t.den} (h : OVal f a w own o (.slice t) xs) : ∃ p c, a.eval o = .slice p (List.length xs) c ∧ List.length xs ≤ c := by
  obtain ⟨cs, hs, ⟨p, c, e, hl, _⟩, _⟩ := h
  subst e
  simp only [Shape, Shape1] at hs
  exact ⟨p, c, by simpa using hs.symm, hl⟩

-- the frame behind what is used up

theorem useUp_length : ∀ (ls : List Nat) (f : Frame), (useUp f ls).length = f.length
  | [], _ => rfl
  | c :: r, f => by simp [useUp, useUp_length r, kill_length]

theorem useUp_get : ∀ (ls : List Nat) {f : Frame} {i : Nat} {s : Slot}, (useUp f ls)[i]? = some s → s = .dead ∨ (f[i]? = some s ∧ i ∉ ls ∧ ∀ c ∈ ls, s.on c = false)
  | [], f, i, s, h => .inr ⟨h, by simp, by simp⟩
  | c :: r, f, i, s, h => by
    rcases useUp_get r h with h | ⟨h, h1, h2⟩
    · exact .inl h
    · by_cases e : c = i
      · subst e
        rw [List.getElem?_set] at h
        simp at h
        exact .inl h.2.symm
      · rw [List.getElem?_set_ne e] at h
        rcases kill_some h with h | ⟨h, h3⟩
        · exact .inl h
        · refine .inr ⟨h, by simp [Ne.symm e, h1], fun c' hc' => ?_⟩
          rcases List.mem_cons.1 hc' with rfl | hc'
          · exact h3
          · exact h2 c' hc'

theorem useUp_root : ∀ (ls : List Nat) {f : Frame} {i : Nat} {s : Slot}, f[i]? = some s → s.isRoot = true → i ∉ ls → (useUp f ls)[i]? = some s
  | [], _, _, _, h, _, _ => h
  | c :: r, f, i, s, h, hr, hn => by
    simp at hn
    refine useUp_root r ?_ hr hn.2
    rw [List.getElem?_set_ne (Ne.symm hn.1)]
    exact kill_root h hr

theorem isRootAt_of {f : Frame} {i : Nat} {s : Slot} (h : f[i]? = some s) : isRootAt f i = s.isRoot := by simp [isRootAt, h]

/-- The slots behind an operation: new at d, dead, or as they were and hanging on nothing that was used up. -/
theorem applyS_get {f : Frame} {d : Nat} {s : Slot} {ls : List Nat} {i : Nat} {sl : Slot} (h : (applyS f (some d) s ls)[i]? = some sl) :
    (i = d ∧ sl = s) ∨ (i ≠ d ∧ (sl = .dead ∨ (f[i]? = some sl ∧ i ∉ ls ∧ (∀ c ∈ ls, sl.on c = false) ∧ (sl.on d = false ∨ isRootAt f d = false ∨ d ∈ ls)))) := by
  simp only [applyS] at h
  rcases putS_get h with h | ⟨h1, h2⟩
  · exact .inl h
  · refine .inr ⟨h1, ?_⟩
    rcases h2 with h2 | ⟨h2, h3⟩
    · exact .inl h2
    · rcases useUp_get ls h2 with h4 | ⟨h4, h5, h6⟩
      · exact .inl h4
      · refine .inr ⟨h4, h5, h6, ?_⟩
        rcases h3 with h3 | h3
        · exact .inl h3
        · by_cases hd : d ∈ ls
          · exact .inr (.inr hd)
          · right; left
            cases hf : f[d]? with
            | none => simp [isRootAt, hf]
            | some sd =>
              rw [isRootAt_of hf]
              cases hr : sd.isRoot with
              | false => rfl
              | true =>
                have := useUp_root ls hf hr hd
                rw [isRootAt_of this, hr] at h3; simp at h3

theorem applyS_root {f : Frame} {d : Nat} {s : Slot} {ls : List Nat} {i : Nat} {sl : Slot} (hd : i ≠ d) (hl : i ∉ ls) (h : f[i]? = some sl) (hr : sl.isRoot = true) : (applyS f (some d) s ls)[i]? = some sl :=
  putS_root hd (useUp_root ls h hr hl) hr

theorem applyS_length (f : Frame) (d : Nat) (s : Slot) (ls : List Nat) : (applyS f (some d) s ls).length = f.length := by simp [applyS, putS_length, useUp_length]

/-- The frame behind an operation that touches no label but those that it uses up. -/
theorem Inv.apply (h : Inv w0 lent f a w own) {w' : World} {own' : Own} {d : Nat} {ls : List Nat} {s : Slot} {v : Value} (hd : d < f.length)
    (hgrow : w.heap.size ≤ w'.heap.size) (hcalm : Calm w w') (hfresh : ∀ b, w'.heap.size ≤ b → own' b = none)
    (hk : ∀ r : Option Nat, (∀ c ∈ ls, r ≠ some c) → Keeps own w own' w' r)
    (hs : SlotOk w' own' (applyS f (some d) s ls) (a.put (some d) v).tmps d s v) : Inv w0 lent (applyS f (some d) s ls) (a.put (some d) v) w' own' := by
  have hda : d < a.tmps.size := h.size ▸ hd
  refine ⟨h.defers, by rw [applyS_length, act_put_size, h.size], hfresh, fun i sl hi => ?_, Nat.le_trans h.grow hgrow, fun b hb hl => ?_, h.calm.trans hcalm⟩
  · rw [act_put_get _ _ _ hda]
    rcases applyS_get hi with ⟨e, e'⟩ | ⟨e, hsl⟩
    · rw [if_pos e, e', e]; exact hs
    · rw [if_neg e]
      rcases hsl with rfl | ⟨hf, hnl, hon, hond⟩
      · trivial
      · refine (h.slots i sl hf).keep (fun r s hs => h.slots r s hs) (hk none (by simp)) (hk (some i) (fun c hc e => by simp at e; exact hnl (e ▸ hc))) fun r hr => ?_
        have hrl : r ∉ ls := fun hc => by have := hon r hc; rw [this] at hr; simp at hr
        refine ⟨fun sl' hsl' hroot => ?_, hk (some r) (fun c hc e => by simp at e; exact hrl (e ▸ hc))⟩
        have hne : r ≠ d := by
          rintro rfl
          rcases hond with h | h | h
          · rw [h] at hr; simp at hr
          · rw [isRootAt_of hsl', hroot] at h; simp at h
          · exact hrl h
        exact ⟨applyS_root hne hrl hsl' hroot, by rw [act_put_get _ _ _ hda, if_neg hne]⟩
  · obtain ⟨h1, h2⟩ := h.old b hb hl
    obtain ⟨k1, k2⟩ := hk none (by simp) b ⟨h1, Nat.lt_of_lt_of_le hb h.grow⟩
    exact ⟨k1.1, k2.trans h2⟩

/-- Labels behind an operation: the new blocks and what was used up are d's. -/
def Own.move (own : Own) (w w' : World) (ls : List Nat) (d : Nat) : Own := fun b =>
  if w.heap.size ≤ b ∧ b < w'.heap.size then some d else match own b with
    | some l => if l ∈ ls then some d else some l
    | none => none

theorem Own.move_keeps {own : Own} {w w' : World} (hg : Grow w w') (ls : List Nat) (d : Nat) (r : Option Nat) (hr : ∀ c ∈ ls, r ≠ some c) : Keeps own w (own.move w w' ls d) w' r := by
  intro c ⟨hc, hlt⟩
  refine ⟨⟨?_, Nat.lt_of_lt_of_le hlt hg.1⟩, hg.2 c hlt⟩
  simp only [Own.move]
  rw [if_neg (by omega), hc]
  cases r with
  | none => rfl
  | some l =>
    simp only
    rw [if_neg fun h => hr l h rfl]

theorem Own.move_fresh {own : Own} {w w' : World} (hg : Grow w w') (h : ∀ b, w.heap.size ≤ b → own b = none) (ls : List Nat) (d : Nat) : ∀ b, w'.heap.size ≤ b → own.move w w' ls d b = none := by
  intro b hb
  simp only [Own.move]
  rw [if_neg (by omega), h b (Nat.le_trans hg.1 hb)]

theorem Own.move_used {own : Own} {w w' : World} (hg : Grow w w') {ls : List Nat} {d : Nat} {c : Nat} (h : ∃ l ∈ ls, Of own w (some l) c) : Of (own.move w w' ls d) w' (some d) c := by
  obtain ⟨l, hl, hc, hlt⟩ := h
  refine ⟨?_, Nat.lt_of_lt_of_le hlt hg.1⟩
  simp only [Own.move]
  rw [if_neg (by omega), hc]
  simp [hl]

theorem Own.move_new {own : Own} {w w' : World} {ls : List Nat} {d c : Nat} (h1 : w.heap.size ≤ c) (h2 : c < w'.heap.size) : Of (own.move w w' ls d) w' (some d) c :=
  ⟨by simp [Own.move, h1, h2], h2⟩

/-- The frame behind an operation that grows the world alone. -/
theorem Inv.applyGrow (h : Inv w0 lent f a w own) {w' : World} (hg : Grow w w') {d : Nat} {ls : List Nat} {s : Slot} {v : Value} (hd : d < f.length)
    (hs : SlotOk w' (own.move w w' ls d) (applyS f (some d) s ls) (a.put (some d) v).tmps d s v) : Inv w0 lent (applyS f (some d) s ls) (a.put (some d) v) w' (own.move w w' ls d) :=
  h.apply hd hg.1 hg.calm (Own.move_fresh hg h.fresh ls d) (fun r hr => Own.move_keeps hg ls d r hr) hs

end Go.Sx

/- The interpreter's local operations are the model's. Conditions: the tables of types and contracts fit. -/
namespace Go.Sx

variable {α : Type} {w0 : World} {lent : Nat → Prop} {f : Frame} {a : Act} {w : World} {own : Own}

def ArgsOk (w : World) : (ts : List Ty) → List Value → Args ts → Prop
  | [], vs, _ => vs = []
  | t :: ts, vs, xs => ∃ v vr, vs = v :: vr ∧ (∃ cs, Shape t v cs ∧ Rep false w t cs xs.1 (fun c => c < w.heap.size)) ∧ ArgsOk w ts vr xs.2

/-- What lies around, untouched: a block and its cells, outside some memory. -/
def AmbOk (A : Option (Nat × Obj)) (w : World) (S : Nat → Prop) : Prop := ∀ b r, A = some (b, r) → w.heap[b]? = some r ∧ ¬ S b

/-- WHAT A FUNCTION DOES: it hands back what its specification computes, in new memory, and leaves all that was there. -/
def ContractA (P : Program) (A : Option (Nat × Obj)) (g : Nat) (sp : FnSpec) : Prop :=
  ∀ (xs : Args sp.args) (r : sp.res.den) (vs : List Value) (w : World), sp.fn xs = some r → ArgsOk w sp.args vs xs → AmbOk A w (fun _ => False) →
    Calls P g vs.toArray w fun e w' => ∃ v cs, e = .returned v ∧ Grow w w' ∧ Shape sp.res v cs ∧ Rep true w' sp.res cs r (fun c => w.heap.size ≤ c ∧ c < w'.heap.size)

def Contract (P : Program) (g : Nat) (sp : FnSpec) : Prop := ContractA P none g sp

theorem Contract.amb {P : Program} {A : Option (Nat × Obj)} {g : Nat} {sp : FnSpec} (h : Contract P g sp) : ContractA P A g sp :=
  fun xs r vs w hr ha _ => h xs r vs w hr ha fun _ _ e => by simp at e

def There (P : Program) (g : Nat) : Prop := ∃ fn, P.funcs[g]? = some fn ∧ (fn.name == "runtime.NumGoroutine") = false ∧ fn.body.isNone = false

/-- Arguments outside some memory. -/
def ArgsOff (w : World) (S : Nat → Prop) : (ts : List Ty) → List Value → Args ts → Prop
  | [], vs, _ => vs = []
  | t :: ts, vs, xs => ∃ v vr, vs = v :: vr ∧ (∃ cs, Shape t v cs ∧ Rep false w t cs xs.1 (fun c => c < w.heap.size ∧ ¬ S c)) ∧ ArgsOff w S ts vr xs.2

def ResOk (w : World) : (r : Option Ty) → Value → resDen r → Prop
  | some t, v, x => ∃ cs, Shape t v cs ∧ Rep false w t cs x (fun _ => True)
  | none, _, _ => True

/-- WHAT A FUNCTION DOES THAT CHANGES AN ARGUMENT IN PLACE: the argument's own tree, whose cells stay as they are. -/
def MutC (P : Program) (g : Nat) (ms : MutSpec) : Prop :=
  ∀ (y : ms.t.den) (xs : Args ms.rest) (z : ms.t.den) (r : resDen ms.res) (vs : List Value) (vt : Value) (cs : List Value) (S : Nat → Prop) (w : World), ms.fn y xs = some (z, r) → vs[ms.pos]? = some vt → ArgsOff w S ms.rest (vs.eraseIdx ms.pos) xs →
    Shape ms.t vt cs → Rep true w ms.t cs y S → (∀ c, S c → c < w.heap.size) →
    Calls P g vs.toArray w fun e w' => ∃ v S', e = .returned v ∧ w.heap.size ≤ w'.heap.size ∧ Calm w w' ∧ (∀ b, b < w.heap.size → ¬ S b → w'.heap[b]? = w.heap[b]?) ∧ Rep true w' ms.t cs z S' ∧
      (∀ c, S' c → S c ∨ (w.heap.size ≤ c ∧ c < w'.heap.size)) ∧ ResOk w' ms.res v r

def TakeOk (w : World) : (r : Option Ty) → Value → resDen r → (Nat → Prop) → Prop
  | some t, v, x, S => ∃ cs, Shape t v cs ∧ Rep true w t cs x S
  | none, _, _, _ => False

/-- WHAT A FUNCTION DOES THAT TAKES AN ARGUMENT'S OWN TREE: its result lies there, and in new memory. -/
def TakeC (P : Program) (g : Nat) (ms : MutSpec) : Prop :=
  ∀ (y : ms.t.den) (xs : Args ms.rest) (z : ms.t.den) (r : resDen ms.res) (vs : List Value) (vt : Value) (cs : List Value) (S : Nat → Prop) (w : World), ms.fn y xs = some (z, r) → vs[ms.pos]? = some vt → ArgsOff w S ms.rest (vs.eraseIdx ms.pos) xs →
    Shape ms.t vt cs → Rep true w ms.t cs y S → (∀ c, S c → c < w.heap.size) →
    Calls P g vs.toArray w fun e w' => ∃ v S', e = .returned v ∧ w.heap.size ≤ w'.heap.size ∧ Calm w w' ∧ (∀ b, b < w.heap.size → ¬ S b → w'.heap[b]? = w.heap[b]?) ∧
      (∀ c, S' c → S c ∨ (w.heap.size ≤ c ∧ c < w'.heap.size)) ∧ TakeOk w' ms.res v r S'

def MutG (P : Program) (g : Nat) (ms : MutSpec) : Prop := match flatRes ms.res with
  | true => MutC P g ms
  | false => TakeC P g ms

/-- WHAT A FUNCTION DOES THAT MOVES A CURSOR ON: its block stays, with other numbers; the result is new. -/
def CurC (P : Program) (A : Option (Nat × Obj)) (g : Nat) (cs : CurSpec) : Prop :=
  ∀ (y : Option (Value × Int × Int)) (xs : Args cs.rest) (z : Option (Value × Int × Int)) (r : cs.res.den) (vt : Value) (vs : List Value) (S : Nat → Prop) (w : World), cs.fn y xs = some (z, r) →
    ArgsOff w S cs.rest vs xs → CurOk w [vt] y S → (∀ c, S c → c < w.heap.size) → AmbOk A w S →
    Calls P g (vt :: vs).toArray w fun e w' => ∃ v c, e = .returned v ∧ w.heap.size ≤ w'.heap.size ∧ Calm w w' ∧ (∀ b, b < w.heap.size → ¬ S b → w'.heap[b]? = w.heap[b]?) ∧ CurOk w' [vt] z S ∧
      Shape cs.res v c ∧ Rep true w' cs.res c r (fun c => w.heap.size ≤ c ∧ c < w'.heap.size)

/-- The fields of a struct lie as the parts of a pair do. -/
def FieldsOk (P : Program) (E : Env) (fs : Array Field) : Ty → Nat → Nat → Prop
  | .pair a (.pair b c), k, off => (∃ fd, fs[k]? = some fd ∧ fd.offset = off ∧ E.tyOf fd.type = some a) ∧ FieldsOk P E fs (.pair b c) (k + 1) (off + a.size)
  | .pair a b, k, off => (∃ fd, fs[k]? = some fd ∧ fd.offset = off ∧ E.tyOf fd.type = some a) ∧ (∃ fd, fs[k + 1]? = some fd ∧ fd.offset = off + a.size ∧ E.tyOf fd.type = some b) ∧ fs.size = k + 2
  | _, _, _ => False

def ElemsOk (e : Ty) : Ty → Nat → Prop
  | .pair a (.pair b c), n + 1 => a = e ∧ ElemsOk e (.pair b c) n
  | .pair a b, 2 => a = e ∧ b = e
  | _, _ => False

structure EnvOk (P : Program) (E : Env) : Prop where
  ty : ∀ T t, E.tyOf T = some t → TyFact P E T t
  str : ∀ T a b, E.tyOf T = some (.pair a b) → E.isArr T = false → ∃ fs, P.underlying T = some (.struct fs) ∧ FieldsOk P E fs (.pair a b) 0 0
  arr : ∀ T a b, E.tyOf T = some (.pair a b) → E.isArr T = true → ∃ n T' e, P.underlying T = some (.array n T') ∧ E.tyOf T' = some e ∧ ElemsOk e (.pair a b) n
  spec : ∀ g sp, E.specOf g = some sp → ContractA P E.amb g sp ∧ There P g
  curs : ∀ g cs, E.curOf g = some cs → CurC P E.amb g cs ∧ There P g
  muts : ∀ g ms, E.mutOf g = some ms → MutG P g ms ∧ There P g
  eqs : ∀ T a b, E.tyOf T = some (.pair a b) → E.isArr T = false → ∀ (x y : (Ty.pair a b).den) (r : Bool) (c1 c2 : List Value) (w : World), eqb (.pair a b) x y = some r →
    Rep false w (.pair a b) c1 x (fun _ => True) → Rep false w (.pair a b) c2 y (fun _ => True) → ∀ op v, (op = .eql ∧ v = r ∨ op = .neq ∧ v = !r) → ∀ X Y,
    (do eqGuard op T X Y (.agg c1.toArray) (.agg c2.toArray); binOp op T (.agg c1.toArray) (.agg c2.toArray) : Sem Value).run P w = .ok (.bool v) w

/-- .. and what lies around lies there at a frame's beginning. -/
structure EnvAt (P : Program) (E : Env) (w0 : World) (lent : Nat → Prop) : Prop extends EnvOk P E where
  amb : AmbOk E.amb w0 lent

theorem EnvAt.now {P : Program} {E : Env} (hE : EnvAt P E w0 lent) (h : Inv w0 lent f a w own) : AmbOk E.amb w (fun b => own b ≠ none) := by
  intro b r e
  obtain ⟨h1, h2⟩ := hE.amb b r e
  have hlt : b < w0.heap.size := by
    rcases Nat.lt_or_ge b w0.heap.size with h | h
    · exact h
    · simp [Array.getElem?_eq_none h] at h1
  have := h.old b hlt h2
  exact ⟨this.2.trans h1, fun hne => hne this.1⟩

theorem does_value {P : Program} {o : Oper} {next : Act → World → Prop} {Q : Exit → Act → World → Prop} {v : Value} {w' : World}
    (hrun : (execOp a.eval o).run P w = .ok (.value v) w') (h : next (a.put o.dst v) w') : o.wp P a w next Q := by
  simp only [Oper.wp, hrun, Oper.upon]; exact h

/-- What is to be shown of one operation. -/
def OpOk (P : Program) (w0 : World) (lent : Nat → Prop) (f : Frame) (a : Act) (w : World) (o : Oper) (d : Nat) (K : Slot → List Nat → Option α) (out : α) : Prop :=
  ∀ (next : Act → World → Prop) (Q : Exit → Act → World → Prop),
    (∀ a' w' own' s ls, K s ls = some out → Inv w0 lent (applyS (killFrail f s) (some d) s ls) a' w' own' → next a' w') → o.wp P a w next Q

def Slot.loose : Slot → Bool
  | .own .. | .box .. | .ext .. => false
  | _ => true

theorem killFrail_loose {s : Slot} (h : ∀ r p tr t x u, s ≠ .ext r p tr t x u) : killFrail f s = f := by
  cases s <;> first | rfl | exact absurd rfl (h _ _ _ _ _ _)

theorem SlotOk.idx {s : Slot} {T : Array Value} {i j : Nat} {v : Value} (h : SlotOk w own f T i s v) (hl : s.loose = true) : SlotOk w own f T j s v := by
  cases s <;> simp [Slot.loose] at hl <;> exact h

theorem Grow.keeps {w' : World} (hg : Grow w w') (ls : List Nat) (d : Nat) (r : Option Nat) (hr : ∀ c ∈ ls, r ≠ some c) : Keeps own w (own.move w w' ls d) w' r := Own.move_keeps hg ls d r hr

/-- A slot that is no root and hangs on nothing that goes is carried over the operation. -/
theorem Inv.carry (h : Inv w0 lent f a w own) {w' : World} (hg : Grow w w') {d : Nat} (hd : d < f.length) {s : Slot} {v : Value} {i : Nat} (hs : SlotOk w own f a.tmps i s v) (hl : s.loose = true)
    (hon : s.on d = false) {s' : Slot} {v' : Value} : SlotOk w' (own.move w w' [] d) (applyS f (some d) s' []) (a.put (some d) v').tmps d s v := by
  have hda : d < a.tmps.size := h.size ▸ hd
  refine (hs.idx hl (j := d)).keep (fun r s hs => h.slots r s hs) (hg.keeps [] d _ (by simp)) (hg.keeps [] d _ (by simp)) fun r hr => ⟨fun sl hsl hroot => ?_, hg.keeps [] d _ (by simp)⟩
  have hne : r ≠ d := by rintro rfl; rw [hon] at hr; simp at hr
  exact ⟨applyS_root hne (by simp) hsl hroot, by rw [act_put_get _ _ _ hda, if_neg hne]⟩

/-- An operation whose value is a slot that is no root. -/
theorem OpOk.loose {P : Program} {o : Oper} {d : Nat} {K : Slot → List Nat → Option α} {out : α} (h : Inv w0 lent f a w own) (hdst : o.dst = some d) (hd : d < f.length) {v : Value} {s : Slot} {w' : World}
    (hrun : (execOp a.eval o).run P w = .ok (.value v) w') (hg : Grow w w') {i : Nat} (hs : SlotOk w own f a.tmps i s v) (hl : s.loose = true) (hK : K s [] = some out) (hon : s.on d = false) :
    OpOk P w0 lent f a w o d K out := by
  intro next Q hn
  refine does_value hrun ?_
  rw [hdst]
  refine hn _ _ (own.move w w' [] d) s [] hK ?_
  rw [killFrail_loose (by rintro r p tr t x u rfl; simp [Slot.loose] at hl)]
  exact h.applyGrow hg hd (h.carry hg hd hs hl hon)

/-- .. whose value is a root, or flat: it hangs on no frame. -/
theorem OpOk.fresh {P : Program} {o : Oper} {d : Nat} {K : Slot → List Nat → Option α} {out : α} (h : Inv w0 lent f a w own) (hdst : o.dst = some d) (hd : d < f.length) {v : Value} {s : Slot} {w' : World} {ls : List Nat}
    (hrun : (execOp a.eval o).run P w = .ok (.value v) w') (hg : Grow w w') (hs : ∀ f' T', SlotOk w' (own.move w w' ls d) f' T' d s v) (hl : ∀ r p tr t x u, s ≠ .ext r p tr t x u) (hK : K s ls = some out) :
    OpOk P w0 lent f a w o d K out := by
  intro next Q hn
  refine does_value hrun ?_
  rw [hdst]
  refine hn _ _ (own.move w w' ls d) s ls hK ?_
  rw [killFrail_loose hl]
  exact h.applyGrow hg hd (hs _ _)

theorem flat_ok {t : Ty} {x : t.den} {tr : Bool} {w1 : World} {cs : List Value} {S : Nat → Prop} {v : Value} (hf : t.flat = true) (hs : Shape t v cs) (hr : Rep tr w1 t cs x S) {w' : World} {own' : Own} (r : Option Nat) (d : Nat) (f' : Frame) (T' : Array Value) :
    SlotOk w' own' f' T' d (.ro r t x) v := ⟨cs, hs, hr.flatAny hf⟩

theorem num_ok (k : IntKind) (n : Int) {w' : World} {own' : Own} (d : Nat) (f' : Frame) (T' : Array Value) : SlotOk w' own' f' T' d (.ro none (.num k) n) (.int k n) := ⟨[.int k n], rfl, rfl⟩
theorem bool_ok (b : Bool) {w' : World} {own' : Own} (d : Nat) (f' : Frame) (T' : Array Value) : SlotOk w' own' f' T' d (.ro none .bool b) (.bool b) := ⟨[.bool b], rfl, rfl⟩

theorem copyS_sound (h : Inv w0 lent f a w own) {o : Operand} {s : Slot} (hc : copyS f o = some s) : (∃ i, SlotOk w own f a.tmps i s (a.eval o)) ∧ s.loose = true := by
  cases o with
  | tmp i =>
    simp only [copyS] at hc
    cases hf : f[i]? with
    | none => rw [hf] at hc; simp at hc
    | some s0 =>
      rw [hf] at hc
      have hs := h.slots i s0 hf
      cases s0 with
      | dead => simp at hc
      | undef => simp at hc
      | ro r t x => simp at hc; subst hc; exact ⟨⟨i, hs⟩, rfl⟩
      | own t x =>
        simp only at hc
        obtain ⟨cs, hsh, hrep⟩ := hs
        cases ht : t.flat with
        | true => rw [ht] at hc; simp at hc; subst hc; exact ⟨⟨i, cs, hsh, hrep.flatAny ht⟩, rfl⟩
        | false =>
          rw [ht] at hc; simp only at hc
          cases hcu : t.isCur with
          | true =>
            rw [hcu] at hc; simp at hc; subst hc
            have e := Ty.isCur_eq hcu
            subst e
            exact ⟨⟨i, rfl, x, hf⟩, rfl⟩
          | false =>
          rw [hcu] at hc; simp at hc; subst hc
          refine ⟨⟨i, x, cs, .reg 0, .reg 0, cs, .inl ⟨rfl, hf, hsh, rfl⟩, .here, rfl, hsh, ?_⟩, rfl⟩
          simp only [conts, List.drop_zero]
          exact (List.take_of_length_le (by rw [hrep.len]; exact Nat.le_refl _)).symm
      | box b t x =>
        simp at hc; subst hc
        obtain ⟨bl, L, E, hv, _⟩ := hs
        exact ⟨⟨i, x, [], .mem bl 0, bl, 0, .inr ⟨hf, rfl, bl, hv, rfl⟩, .here, rfl, hv, fun _ => rfl⟩, rfl⟩
      | ref r p tr t y u => simp at hc; subst hc; exact ⟨⟨i, hs⟩, rfl⟩
      | adr b r p tr t y u => simp at hc; subst hc; exact ⟨⟨i, hs⟩, rfl⟩
      | radr r t y => simp at hc; subst hc; exact ⟨⟨i, hs⟩, rfl⟩
      | ext r p tr t x u => simp at hc
      | cref q => simp at hc; subst hc; exact ⟨⟨i, hs⟩, rfl⟩
  | const v =>
    cases v <;> simp only [copyS, reduceCtorEq, Option.some.injEq] at hc
    · subst hc; exact ⟨⟨0, bool_ok _ _ _ _⟩, rfl⟩
    · subst hc; exact ⟨⟨0, num_ok _ _ _ _ _⟩, rfl⟩
  | global g => simp [copyS] at hc
  | func g => simp [copyS] at hc

section ops
variable {P : Program} {E : Env} {K : Slot → List Nat → Option α} {out : α} {d : Nat} {T : TypeId} {pos : String} {aft : Array Edge} {g : Option (Nat × Bool)}

theorem move_sound (h : Inv w0 lent f a w own) (hd : d < f.length) (hok : ∀ s ls, K s ls = some out → s.on d = false ∧ ∀ c ∈ ls, s.on c = false) {x : Operand}
    (hk : opK E f ⟨some d, .move x, T, pos, aft, g⟩ K = some out) : OpOk P w0 lent f a w ⟨some d, .move x, T, pos, aft, g⟩ d K out := by
  simp only [opK] at hk
  cases hc : copyS f x with
  | none => rw [hc] at hk; simp at hk
  | some s =>
    rw [hc] at hk; simp only at hk
    obtain ⟨⟨i, hs⟩, hl⟩ := copyS_sound h hc
    exact OpOk.loose h rfl hd (v := a.eval x) (w' := w) rfl (Grow.refl w) hs hl hk (hok _ _ hk).1

theorem nilCheck_sound (h : Inv w0 lent f a w own) (hd : d < f.length) (hok : ∀ s ls, K s ls = some out → s.on d = false ∧ ∀ c ∈ ls, s.on c = false) {x : Operand}
    (hk : opK E f ⟨some d, .nilCheck x, T, pos, aft, g⟩ K = some out) : OpOk P w0 lent f a w ⟨some d, .nilCheck x, T, pos, aft, g⟩ d K out := by
  simp only [opK, ptrS] at hk
  cases hc : copyS f x with
  | none => rw [hc] at hk; simp at hk
  | some s =>
    rw [hc] at hk
    obtain ⟨⟨i, hs⟩, hl⟩ := copyS_sound h hc
    cases s <;> simp only [reduceCtorEq] at hk
    · obtain ⟨x1, rc, l0, b, off, hb, hat, hloc, hv, hn⟩ := id hs
      exact OpOk.loose h rfl hd (v := a.eval x) (w' := w) (by simp [execOp, hv]) (Grow.refl w) hs hl hk (hok _ _ hk).1
    · obtain ⟨b, o, L, E', fz, hv, _⟩ := id hs
      exact OpOk.loose h rfl hd (v := a.eval x) (w' := w) (by simp [execOp, hv]) (Grow.refl w) hs hl hk (hok _ _ hk).1

theorem stayK_sound (h : Inv w0 lent f a w own) {o : Operand} {K : (t : Ty) → t.den → Option α} {out : α} (hk : stayK f o K = some out) : ∃ t x, OVal f a w own o t x ∧ K t x = some out := by
  have key : ∃ K' : (t : Ty) → t.den → Option α, valK f o K' = some out ∧ ∀ t x, K' t x = some out → K t x = some out := by
    cases o with
    | tmp i =>
      simp only [stayK] at hk
      refine ⟨fun t x => K t x, ?_, fun t x h => h⟩
      simp only [valK]
      cases hf : f[i]? with
      | none => rw [hf] at hk; simp at hk
      | some s =>
        rw [hf] at hk
        cases s with
        | ro r t x =>
          cases r with
          | none => exact hk
          | some r =>
            simp only at hk ⊢
            cases ht : t.flat with
            | true => rw [ht] at hk; exact hk
            | false => rw [ht] at hk; simp at hk
        | own t x =>
          simp only at hk ⊢
          cases ht : t.flat with
          | true => rw [ht] at hk; exact hk
          | false => rw [ht] at hk; simp at hk
        | _ => simp at hk
    | const v => exact ⟨K, by cases v <;> first | exact hk | (simp [stayK] at hk), fun t x h => h⟩
    | global g => simp [stayK] at hk
    | func g => simp [stayK] at hk
  obtain ⟨K', h1, h2⟩ := key
  obtain ⟨t, x, hv, hk⟩ := valK_sound h h1
  exact ⟨t, x, hv, h2 t x hk⟩

theorem pick_sound (h : Inv w0 lent f a w own) (hd : d < f.length) {c x y : Operand}
    (hk : opK E f ⟨some d, .pick c x y, T, pos, aft, g⟩ K = some out) : OpOk P w0 lent f a w ⟨some d, .pick c x y, T, pos, aft, g⟩ d K out := by
  simp only [opK] at hk
  obtain ⟨b, hb, hk⟩ := boolK_sound h hk
  cases b with
  | true =>
    obtain ⟨t, z, ⟨cs, hs, hr, _⟩, hk⟩ := stayK_sound h hk
    cases ht : t.flat with
    | false => rw [ht] at hk; simp at hk
    | true =>
      rw [ht] at hk
      exact OpOk.fresh h rfl hd (v := a.eval x) (w' := w) (ls := []) (by simp [execOp, hb, asBool]) (Grow.refl w) (fun f' T' => flat_ok ht hs hr none d f' T') (by simp) hk
  | false =>
    obtain ⟨t, z, ⟨cs, hs, hr, _⟩, hk⟩ := stayK_sound h hk
    cases ht : t.flat with
    | false => rw [ht] at hk; simp at hk
    | true =>
      rw [ht] at hk
      exact OpOk.fresh h rfl hd (v := a.eval y) (w' := w) (ls := []) (by simp [execOp, hb, asBool]) (Grow.refl w) (fun f' T' => flat_ok ht hs hr none d f' T') (by simp) hk

theorem unOp_sound (h : Inv w0 lent f a w own) (hd : d < f.length) {op : UnOp} {xT : TypeId} {x : Operand}
    (hk : opK E f ⟨some d, .unOp op xT x, T, pos, aft, g⟩ K = some out) : OpOk P w0 lent f a w ⟨some d, .unOp op xT x, T, pos, aft, g⟩ d K out := by
  simp only [opK] at hk
  cases op <;> simp only [reduceCtorEq] at hk
  · obtain ⟨k, n, hx, hk⟩ := intK_sound h hk
    exact OpOk.fresh h rfl hd (v := .int k (k.wrap (0 - n))) (w' := w) (ls := []) (by simp [execOp, hx, Op.unary, Op.intArith]) (Grow.refl w) (fun f' T' => num_ok _ _ d f' T') (by simp) hk
  · obtain ⟨b, hx, hk⟩ := boolK_sound h hk
    exact OpOk.fresh h rfl hd (v := .bool (!b)) (w' := w) (ls := []) (by simp [execOp, hx, Op.unary]) (Grow.refl w) (fun f' T' => bool_ok _ d f' T') (by simp) hk

end ops
end Go.Sx

/- The interpreter's local operations are the model's: arithmetic, comparisons, lengths. Conditions: the tables of types and contracts fit. -/
namespace Go.Sx

variable {α : Type} {w0 : World} {lent : Nat → Prop} {f : Frame} {a : Act} {w : World} {own : Own}
variable {P : Program} {E : Env} {K : Slot → List Nat → Option α} {out : α} {d : Nat} {T : TypeId} {pos : String} {aft : Array Edge} {g : Option (Nat × Bool)}

theorem eqGuard_int {op : BinOp} {k j : IntKind} {m n : Int} {X Y : Operand} : (eqGuard op T X Y (.int k m) (.int j n)).run P w = .ok () w := by
  simp only [eqGuard]; cases op <;> simp

theorem eqGuard_bool {op : BinOp} {m n : Bool} {X Y : Operand} : (eqGuard op T X Y (.bool m) (.bool n)).run P w = .ok () w := by
  simp only [eqGuard]; cases op <;> simp

theorem int_bne (x y : Int) : (x != y) = !decide (x = y) := by
  by_cases h : x = y <;> simp [h, bne]

theorem int_beq (x y : Int) : (x == y) = decide (x = y) := by
  by_cases h : x = y <;> simp [h]

theorem numBin_sound {op : BinOp} {k : IntKind} {x y : Int} {K' : (t : Ty) → t.den → Option α} (hsh : isShift op = false) (hk : numBin op k x y K' = some out) :
    ∃ t z v cs, (binOp op T (.int k x) (.int k y)).run P w = .ok v w ∧ t.flat = true ∧ Shape t v cs ∧ Rep false w t cs z (fun _ => True) ∧ K' t z = some out := by
  cases op with
  | add => exact ⟨.num k, k.wrap (x + y), .int k (k.wrap (x + y)), [_], by simp [binOp, Op.intArith], rfl, rfl, rfl, hk⟩
  | sub => exact ⟨.num k, k.wrap (x - y), .int k (k.wrap (x - y)), [_], by simp [binOp, Op.intArith], rfl, rfl, rfl, hk⟩
  | mul => exact ⟨.num k, k.wrap (x * y), .int k (k.wrap (x * y)), [_], by simp [binOp, Op.intArith], rfl, rfl, rfl, hk⟩
  | quo =>
    simp only [numBin] at hk
    by_cases hy : y = 0
    · simp [hy] at hk
    · simp only [hy, decide_false] at hk
      exact ⟨.num k, k.wrap (x.tdiv y), .int k (k.wrap (x.tdiv y)), [_], by simp [binOp, Op.intDiv, hy], rfl, rfl, rfl, hk⟩
  | rem =>
    simp only [numBin] at hk
    by_cases hy : y = 0
    · simp [hy] at hk
    · simp only [hy, decide_false] at hk
      exact ⟨.num k, x.tmod y, .int k (x.tmod y), [_], by simp [binOp, Op.intDiv, hy], rfl, rfl, rfl, hk⟩
  | and => exact ⟨.num k, _, .int k _, [_], by simp [binOp, Op.intBits], rfl, rfl, rfl, hk⟩
  | xor => exact ⟨.num k, _, .int k _, [_], by simp [binOp, Op.intBits], rfl, rfl, rfl, hk⟩
  | eql => exact ⟨.bool, _, .bool (decide (x = y)), [_], by simp [binOp, Op.intCmp, int_beq], rfl, rfl, rfl, hk⟩
  | neq => exact ⟨.bool, _, .bool (!decide (x = y)), [_], by simp [binOp, Op.intCmp, int_bne], rfl, rfl, rfl, hk⟩
  | lss => exact ⟨.bool, _, .bool (decide (x < y)), [_], by simp [binOp, Op.intCmp], rfl, rfl, rfl, hk⟩
  | leq => exact ⟨.bool, _, .bool (decide (x ≤ y)), [_], by simp [binOp, Op.intCmp], rfl, rfl, rfl, hk⟩
  | gtr => exact ⟨.bool, _, .bool (decide (x > y)), [_], by simp [binOp, Op.intCmp], rfl, rfl, rfl, hk⟩
  | geq => exact ⟨.bool, _, .bool (decide (x ≥ y)), [_], by simp [binOp, Op.intCmp], rfl, rfl, rfl, hk⟩
  | or => simp [numBin] at hk
  | andNot => simp [numBin] at hk
  | shl => simp [isShift] at hsh
  | shr => simp [isShift] at hsh

theorem shiftBin_sound {op : BinOp} {k j : IntKind} {x y : Int} {K' : (t : Ty) → t.den → Option α} (hk : shiftBin op k x y K' = some out) :
    ∃ t z v cs, (binOp op T (.int k x) (.int j y)).run P w = .ok v w ∧ t.flat = true ∧ Shape t v cs ∧ Rep false w t cs z (fun _ => True) ∧ K' t z = some out := by
  cases op <;> simp only [shiftBin, reduceCtorEq] at hk
  · by_cases hy : y < 0
    · simp [hy] at hk
    · simp only [hy, decide_false] at hk
      exact ⟨.num k, _, .int k (k.wrap (x * 2 ^ min y.toNat k.bits)), [_], by simp [binOp, Op.shift, hy], rfl, rfl, rfl, hk⟩
  · by_cases hy : y < 0
    · simp [hy] at hk
    · simp only [hy, decide_false] at hk
      exact ⟨.num k, _, .int k (x.fdiv (2 ^ min y.toNat k.bits)), [_], by simp [binOp, Op.shift, hy], rfl, rfl, rfl, hk⟩

theorem beqB_eq (x y : Bool) : beqB x y = (x == y) := by cases x <;> cases y <;> rfl

theorem equal_bool (hu : P.underlying T = some .bool) (m n : Bool) : (Op.equal T (.bool m) (.bool n)).run P w = .ok (m == n) w := by
  unfold Op.equal Op.maxDepth
  rw [show (10000 : Nat) = 9999 + 1 from rfl, Op.equalIn]
  simp only [Sem.run_bind, run_underlying hu, Result.andThen_ok, Sem.run_pure]

theorem binOp_sound (hE : EnvOk P E) (h : Inv w0 lent f a w own) (hd : d < f.length) {op : BinOp} {xT yT : TypeId} {x y : Operand}
    (hk : opK E f ⟨some d, .binOp op xT x y yT, T, pos, aft, g⟩ K = some out) : OpOk P w0 lent f a w ⟨some d, .binOp op xT x y yT, T, pos, aft, g⟩ d K out := by
  simp only [opK] at hk
  split at hk
  · -- structs
    rename_i p q ht
    split at hk
    · simp at hk
    rename_i harr
    simp only [eqK] at hk
    obtain ⟨t, m, ⟨c1, s1, r1, _⟩, hk⟩ := valK_sound h hk
    obtain ⟨e1, hk⟩ := castK_some hk
    subst e1
    obtain ⟨t', n, ⟨c2, s2, r2, _⟩, hk⟩ := valK_sound h hk
    obtain ⟨e2, hk⟩ := castK_some hk
    subst e2
    simp only at hk
    split at hk
    · rename_i r hr
      simp only [Shape, Shape1] at s1 s2
      have key := hE.eqs xT p q ht harr m n r c1 c2 w hr (r1.mono fun _ _ => trivial) (r2.mono fun _ _ => trivial)
      cases op <;> simp only [reduceCtorEq] at hk
      · exact OpOk.fresh h rfl hd (v := .bool r) (w' := w) (ls := []) (by
          have := key .eql r (.inl ⟨rfl, rfl⟩) x y
          simp only [execOp, s1, s2]
          simp only [Sem.run_bind] at this ⊢
          rw [this]; rfl) (Grow.refl w) (fun f' T' => bool_ok _ d f' T') (by simp) hk
      · exact OpOk.fresh h rfl hd (v := .bool (!r)) (w' := w) (ls := []) (by
          have := key .neq (!r) (.inr ⟨rfl, rfl⟩) x y
          simp only [execOp, s1, s2]
          simp only [Sem.run_bind] at this ⊢
          rw [this]; rfl) (Grow.refl w) (fun f' T' => bool_ok _ d f' T') (by simp) hk
    · simp at hk
  · -- numbers
    simp only [binK] at hk
    obtain ⟨k, m, hx, hk⟩ := intK_sound h hk
    obtain ⟨j, n, hy, hk⟩ := intK_sound h hk
    have he := eqGuard_int (P := P) (w := w) (T := xT) (op := op) (k := k) (j := j) (m := m) (n := n) (X := x) (Y := y)
    have key : ∃ t z v cs, (binOp op xT (.int k m) (.int j n)).run P w = .ok v w ∧ t.flat = true ∧ Shape t v cs ∧ Rep false w t cs z (fun _ => True) ∧ K (.ro none t z) [] = some out := by
      cases hsh : isShift op with
      | true =>
        rw [hsh] at hk
        exact shiftBin_sound (j := j) (y := n) (x := m) hk
      | false =>
        rw [hsh] at hk
        by_cases e : k = j
        · subst e
          simp only [decide_true] at hk
          exact numBin_sound (x := m) (y := n) hsh hk
        · simp [e] at hk
    obtain ⟨t, z, v, cs, hr, hf, hs, hrep, hk⟩ := key
    exact OpOk.fresh h rfl hd (v := v) (w' := w) (ls := []) (by simp only [execOp, hx, hy, Sem.run_bind, he, Result.andThen_ok, hr, Sem.run_pure]) (Grow.refl w)
      (fun f' T' => flat_ok hf hs hrep none d f' T') (by simp) hk
  · -- booleans
    rename_i ht
    have hu := (hE.ty _ _ ht).bool rfl
    simp only [binB] at hk
    obtain ⟨m, hx, hk⟩ := boolK_sound h hk
    obtain ⟨n, hy, hk⟩ := boolK_sound h hk
    have he := fun op => eqGuard_bool (P := P) (w := w) (T := xT) (op := op) (m := m) (n := n) (X := x) (Y := y)
    have heq := equal_bool (w := w) hu m n
    cases op <;> simp only [reduceCtorEq] at hk
    · exact OpOk.fresh h rfl hd (v := .bool (beqB m n)) (w' := w) (ls := []) (by simp only [execOp, hx, hy, Sem.run_bind, he, Result.andThen_ok, binOp, heq, beqB_eq m n, Sem.run_pure]) (Grow.refl w) (fun f' T' => bool_ok _ d f' T') (by simp) hk
    · exact OpOk.fresh h rfl hd (v := .bool (!beqB m n)) (w' := w) (ls := []) (by simp only [execOp, hx, hy, Sem.run_bind, he, Result.andThen_ok, binOp, heq, beqB_eq m n, Sem.run_pure]) (Grow.refl w) (fun f' T' => bool_ok _ d f' T') (by simp) hk
  · simp at hk

theorem convert_sound (hE : EnvOk P E) (h : Inv w0 lent f a w own) (hd : d < f.length) {S D : TypeId} {x : Operand}
    (hk : opK E f ⟨some d, .convert S D x, T, pos, aft, g⟩ K = some out) : OpOk P w0 lent f a w ⟨some d, .convert S D x, T, pos, aft, g⟩ d K out := by
  simp only [opK] at hk
  split at hk
  · rename_i k0 k h1 h2
    obtain ⟨j, n, hx, hk⟩ := intK_sound h hk
    have u1 := (hE.ty _ _ h1).num _ rfl
    have u2 := (hE.ty _ _ h2).num _ rfl
    exact OpOk.fresh h rfl hd (v := .int k (k.wrap n)) (w' := w) (ls := []) (by
      simp [execOp, hx, convert, run_underlying u1, run_underlying u2, Conv.intToInt]) (Grow.refl w) (fun f' T' => num_ok _ _ d f' T') (by simp) hk
  · simp at hk

theorem load_sound (hE : EnvOk P E) (h : Inv w0 lent f a w own) (hd : d < f.length) (hok : ∀ s ls, K s ls = some out → s.on d = false ∧ ∀ c ∈ ls, s.on c = false) {D : TypeId} {x : Operand}
    (hk : opK E f ⟨some d, .load D x, T, pos, aft, g⟩ K = some out) : OpOk P w0 lent f a w ⟨some d, .load D x, T, pos, aft, g⟩ d K out := by
  simp only [opK, ptrS] at hk
  cases hc : copyS f x with
  | none => rw [hc] at hk; simp at hk
  | some s =>
    rw [hc] at hk
    obtain ⟨⟨i, hs⟩, hl⟩ := copyS_sound h hc
    have hopt : ∀ t : Ty, optIs (E.tyOf D) t = true → TyFact P E D t := by
      intro t ho
      simp only [optIs] at ho
      split at ho
      · rename_i t0 h0
        simp only [Ty.is] at ho
        split at ho
        · rename_i hh _
          obtain ⟨e⟩ := hh
          subst e
          exact hE.ty _ _ h0
        · simp at ho
      · simp at ho
    cases s <;> simp only [reduceCtorEq] at hk
    · rename_i b r p tr t y u
      split at hk
      · rename_i ho
        have hty := hopt t ho
        obtain ⟨x1, rc, l0, bl, off, hb, hat, hloc, hv, hn⟩ := id hs
        obtain ⟨g1, g2, g3⟩ := hb.rep (h.root r)
        -- the cells that the pointer leads to
        have key : ∃ L El fz S, w.heap[bl]? = some (.cells L El fz) ∧ off + t.size ≤ L.size ∧ Rep false w t (seg L off t.size) y S ∧ (b = false → S = Of own w none) ∧
            (t.flat = false → b = true → ∃ rr, Shape t (valOf t (seg L off t.size)) rr ∧ rr = (conts w rc (.mem bl off)).take t.size) := by
          cases b with
          | true =>
            obtain ⟨l', S', k1, k2, k3, k4, k5, k6⟩ := Rep.put hat l0 _ (g2 rfl) (fun b o e h => h.2 o e)
            rw [hloc] at k1; simp at k1; subst k1
            have hblk : ∃ L El fz, w.heap[bl]? = some (.cells L El fz) := by
              rcases k5.mem bl off rfl with ⟨o, e, _⟩ | hS
              · obtain ⟨_, L, E', hh⟩ := g1 bl o e; exact ⟨L, E', _, hh⟩
              · obtain ⟨_, k, _⟩ := k6 bl off rfl
                obtain ⟨L, E', hh⟩ := k hS; exact ⟨L, E', _, hh⟩
            obtain ⟨L, El, fz, hh⟩ := hblk
            have hlen := k2.len
            rw [take_conts_mem hh] at k2 hlen
            have hroom := seg_le hlen t.size_pos
            exact ⟨L, El, fz, S', hh, hroom, k2.weak, by simp, fun _ _ => ⟨_, valOf_shape hty.plain hlen, (take_conts_mem hh).symm⟩⟩
          | false =>
            obtain ⟨hrep, b0, hb0⟩ := g3 rfl
            obtain ⟨l', S', k1, k2, k3, k4⟩ := Rep.focus hat l0 _ hrep
            rw [hloc] at k1; simp at k1; subst k1
            obtain ⟨n, hn'⟩ := near_inside w rc p tr l0 _ (hn rfl) hloc
            rw [hb0] at hn'
            simp [Loc.add] at hn'
            obtain ⟨rfl, rfl⟩ := hn'
            obtain ⟨_, L, El, hh⟩ := g1 bl 0 hb0
            have hlen := k2.len
            rw [take_conts_mem hh] at k2 hlen
            have hroom := seg_le hlen t.size_pos
            exact ⟨L, El, _, _, hh, hroom, k2.mono k3, fun _ => rfl, by simp⟩
        obtain ⟨L, El, fz, S, hh, hroom, hrep, hSn, hshp⟩ := key
        have hrun : (execOp a.eval ⟨some d, .load D x, T, pos, aft, g⟩).run P w = .ok (.value (valOf t (seg L off t.size))) w := by
          simp only [execOp, Instr.loadAt, hv, Instr.sureAddr, Sem.run_bind, Sem.run_pure, Result.andThen_ok, run_loadVar' hty hh hroom]
        have hshape := valOf_shape hty.plain hrep.len
        simp only [loadS] at hk
        cases hfl : t.flat with
        | true =>
          rw [hfl] at hk
          exact OpOk.fresh h rfl hd hrun (Grow.refl w) (ls := []) (fun f' T' => flat_ok hfl hshape hrep none d f' T') (by simp) hk
        | false =>
          rw [hfl] at hk
          cases b with
          | true =>
            obtain ⟨rr, hrr, err⟩ := hshp hfl rfl
            exact OpOk.loose h rfl hd hrun (Grow.refl w) (i := i) (s := .ref r p tr t y u) ⟨x1, rc, l0, _, rr, hb, hat, hloc, hrr, err⟩ rfl hk (hok _ _ hk).1
          | false =>
            exact OpOk.loose h rfl hd hrun (Grow.refl w) (i := i) (s := .ro none t y) ⟨_, hshape, hSn rfl ▸ hrep⟩ rfl hk (hok _ _ hk).1
      · simp at hk
    · rename_i r t y
      split at hk
      · rename_i ho
        have hty := hopt t ho
        obtain ⟨b, o, L, E', fz, hv, hh, hb, hroom, hrep⟩ := id hs
        have hrun : (execOp a.eval ⟨some d, .load D x, T, pos, aft, g⟩).run P w = .ok (.value (valOf t (seg L o t.size))) w := by
          simp only [execOp, Instr.loadAt, hv, Instr.sureAddr, Sem.run_bind, Sem.run_pure, Result.andThen_ok, run_loadVar' hty hh hroom]
        have hshape := valOf_shape hty.plain hrep.len
        simp only [loadS] at hk
        cases hfl : t.flat with
        | true =>
          rw [hfl] at hk
          exact OpOk.fresh h rfl hd hrun (Grow.refl w) (ls := []) (fun f' T' => flat_ok hfl hshape hrep none d f' T') (by simp) hk
        | false =>
          rw [hfl] at hk
          exact OpOk.loose h rfl hd hrun (Grow.refl w) (i := i) (s := .ro r t y) ⟨_, hshape, hrep⟩ rfl hk (hok _ _ hk).1
      · simp at hk

end Go.Sx
