/-
  The engine, part A: abstract values and how they stand to the model's values in a world; how a world may evolve. Plain definitions and laws; no conditions.
-/
import Derived.Test.YtenpbiineblcjaaProg
import Derived.WalkKit
import Derived.Orders
namespace Go.Proofs.Ytenpbiineblcjaa
open Go.RowKit

/-- An abstract value. any: whatever; lit: just this; dat: a slice that nobody writes, its elements as lists of cells; dptr: a pointer into such an element; ref, own: a pointer, a slice into the block with a name; acc: a slice that is only appended to. -/
inductive AV where
  | any
  | lit (v : Value)
  | agg (l : List AV)
  | tup (l : List AV)
  | fn (f : Fn) (first cap : List AV)
  | dat (m : Nat) (xs : List (List AV))
  | dptr (cs : List AV) (i : Nat)
  | ref (n m j i : Nat)
  | own (n m j len : Nat)
  | acc (n : Nat) (ty : TypeId) (m : Nat) (xs : List (List AV))

/-- What a name stands for in a world. -/
inductive FSlot where
  | unused
  | dead
  | own (b : Nat)
  | tok (t : Option (Nat × Nat))

def FSlot.lies (s : FSlot) (b : Nat) : Prop := s = .own b ∨ ∃ L, s = .tok (some (b, L))
def Holds (φ : Nat → FSlot) (b : Nat) : Prop := ∃ n, (φ n).lies b

/-- A cell that nobody writes. -/
structure DataAt (X : Nat → Nat → Prop) (φ : Nat → FSlot) (w : World) (b off : Nat) : Prop where
  lt : b < w.heap.size
  hid : ¬ X b off
  own : ∀ n, φ n ≠ .own b
  tok : ∀ n L, φ n = .tok (some (b, L)) → off < L

/-- A slice that may be appended to: its tip is the token's. -/
def Tip (w : World) (t : Option (Nat × Nat)) (ty : TypeId) (m : Nat) (A : Option Addr) (len cap : Nat) : Prop :=
  match t with
  | none => A = none ∧ len = 0 ∧ cap = 0
  | some (b, L) => A = some ⟨b, 0, none⟩ ∧ L = len * m ∧ ∃ cur, w.heap[b]? = some (.cells cur ty (0, 0)) ∧ cur.size = cap * m ∧ cap ≤ maxLen

section
variable (X : Nat → Nat → Prop) (φ : Nat → FSlot) (w : World)

/-- A slice of cells that nobody writes. -/
structure DatOK (m : Nat) (xs : List (List AV)) (A : Option Addr) (len cap : Nat) (g : Nat → Nat → Value) : Prop where
  hlen : len = xs.length
  hcap : len ≤ cap
  hmost : cap ≤ maxLen
  hsize : ∀ x ∈ xs, x.length = m
  hcells : xs ≠ [] → ∃ b o, A = some ⟨b, o, none⟩ ∧ ∀ j x, xs[j]? = some x → ∀ i, i < m → DataAt X φ w b (o + j * m + i) ∧ w.cell? ⟨b, o + j * m + i, none⟩ = some (g j i)

inductive RelV : AV → Value → Prop where
  | any (v : Value) : RelV .any v
  | lit (v : Value) : RelV (.lit v) v
  | agg (l : List AV) (vs : Array Value) (hs : vs.size = l.length) (h : ∀ i a, l[i]? = some a → RelV a (vs.getD i undef)) : RelV (.agg l) (.agg vs)
  | tup (l : List AV) (vs : Array Value) (hs : vs.size = l.length) (h : ∀ i a, l[i]? = some a → RelV a (vs.getD i undef)) : RelV (.tup l) (.tuple vs)
  | fn (f : Fn) (first cap : List AV) (us vs : Array Value) (hu : us.size = first.length) (hv : vs.size = cap.length)
      (h1 : ∀ i a, first[i]? = some a → RelV a (us.getD i undef)) (h2 : ∀ i a, cap[i]? = some a → RelV a (vs.getD i undef)) : RelV (.fn f first cap) (.func f us vs)
  | dat (m : Nat) (xs : List (List AV)) (A : Option Addr) (len cap : Nat) (g : Nat → Nat → Value) (ok : DatOK X φ w m xs A len cap g)
      (h : ∀ j x, xs[j]? = some x → ∀ i a, x[i]? = some a → RelV a (g j i)) : RelV (.dat m xs) (.slice A len cap)
  | dptr (cs : List AV) (i b o : Nat) (g : Nat → Value) (hc : ∀ k, k < cs.length → DataAt X φ w b (o + k) ∧ w.cell? ⟨b, o + k, none⟩ = some (g k))
      (h : ∀ k a, cs[k]? = some a → RelV a (g k)) : RelV (.dptr cs i) (.pointer (some ⟨b, o + i, none⟩))
  | ref (n m j i : Nat) (A : Option Addr) (hn : φ n ≠ .unused) (h : ∀ b, φ n = .own b → A = some ⟨b, j * m + i, none⟩) : RelV (.ref n m j i) (.pointer A)
  | own (n m j len : Nat) (A : Option Addr) (cap : Nat) (hc : len ≤ cap) (hm : cap ≤ maxLen) (hn : φ n ≠ .unused) (h : ∀ b, φ n = .own b → A = some ⟨b, j * m, none⟩) : RelV (.own n m j len) (.slice A len cap)
  | acc (n : Nat) (ty : TypeId) (m : Nat) (xs : List (List AV)) (A : Option Addr) (len cap : Nat) (g : Nat → Nat → Value) (ok : DatOK X φ w m xs A len cap g)
      (h : ∀ j x, xs[j]? = some x → ∀ i a, x[i]? = some a → RelV a (g j i)) (hn : φ n ≠ .unused) (ht : ∀ t, φ n = .tok t → Tip w t ty m A len cap) : RelV (.acc n ty m xs) (.slice A len cap)
end

/-- How a world may evolve under a function's eyes. -/
structure Evo (X : Nat → Nat → Prop) (φ : Nat → FSlot) (w : World) (φ' : Nat → FSlot) (w' : World) : Prop where
  os : w'.os = w.os
  tape : w'.tape = w.tape
  output : w'.output = w.output
  size : w.heap.size ≤ w'.heap.size
  blk : ∀ b, b < w.heap.size → ¬ Holds φ b → w'.heap[b]? = w.heap[b]?
  new : ∀ b, Holds φ' b → Holds φ b ∨ w.heap.size ≤ b
  dat : ∀ b off, DataAt X φ w b off → DataAt X φ' w' b off ∧ w'.cell? ⟨b, off, none⟩ = w.cell? ⟨b, off, none⟩
  dead : ∀ n, φ n = .dead → φ' n = .dead
  own : ∀ n b, φ n = .own b → φ' n = .own b ∨ φ' n = .dead
  tok : ∀ n t, φ n = .tok t → φ' n = .dead ∨ (φ' n = .tok t ∧ ∀ b L, t = some (b, L) → w'.heap[b]? = w.heap[b]?)

section
variable {X : Nat → Nat → Prop} {φ φ' φ'' : Nat → FSlot} {w w' w'' : World}

theorem Evo.refl : Evo X φ w φ w := ⟨rfl, rfl, rfl, Nat.le_refl _, fun _ _ _ => rfl, fun _ h => .inl h, fun _ _ h => ⟨h, rfl⟩, fun _ h => h, fun _ _ h => .inl h, fun _ _ h => .inr ⟨h, fun _ _ _ => rfl⟩⟩

theorem Evo.trans (h : Evo X φ w φ' w') (k : Evo X φ' w' φ'' w'') : Evo X φ w φ'' w'' where
  os := k.os.trans h.os
  tape := k.tape.trans h.tape
  output := k.output.trans h.output
  size := Nat.le_trans h.size k.size
  blk := fun b hb hn => by
    have hn' : ¬ Holds φ' b := fun hh => by
      rcases h.new b hh with h1 | h1
      · exact hn h1
      · omega
    rw [k.blk b (Nat.lt_of_lt_of_le hb h.size) hn', h.blk b hb hn]
  new := fun b hb => by
    rcases k.new b hb with h1 | h1
    · exact h.new b h1
    · exact .inr (Nat.le_trans h.size h1)
  dat := fun b off hd => by
    obtain ⟨h1, h2⟩ := h.dat b off hd
    obtain ⟨k1, k2⟩ := k.dat b off h1
    exact ⟨k1, k2.trans h2⟩
  dead := fun n hn => k.dead n (h.dead n hn)
  own := fun n b hn => by
    rcases h.own n b hn with h1 | h1
    · exact k.own n b h1
    · exact .inr (k.dead n h1)
  tok := fun n t hn => by
    rcases h.tok n t hn with h1 | ⟨h1, h2⟩
    · exact .inl (k.dead n h1)
    · rcases k.tok n t h1 with k1 | ⟨k1, k2⟩
      · exact .inl k1
      · exact .inr ⟨k1, fun b L hbl => (k2 b L hbl).trans (h2 b L hbl)⟩

theorem Evo.unused (h : Evo X φ w φ' w') {n : Nat} (hn : φ n ≠ .unused) : φ' n ≠ .unused := by
  cases hf : φ n with
  | unused => exact absurd hf hn
  | dead => rw [h.dead n hf]; simp
  | own b => rcases h.own n b hf with e | e <;> rw [e] <;> simp
  | tok t => rcases h.tok n t hf with e | ⟨e, _⟩ <;> rw [e] <;> simp
theorem Evo.own' (h : Evo X φ w φ' w') {n b : Nat} (hn : φ n ≠ .unused) (hb : φ' n = .own b) : φ n = .own b := by
  cases hf : φ n with
  | unused => exact absurd hf hn
  | dead => have := h.dead n hf; rw [this] at hb; cases hb
  | own b' => rcases h.own n b' hf with e | e <;> rw [e] at hb <;> cases hb; rfl
  | tok t => rcases h.tok n t hf with e | ⟨e, _⟩ <;> rw [e] at hb <;> cases hb

theorem DatOK.evo {m : Nat} {xs : List (List AV)} {A : Option Addr} {len cap : Nat} {g : Nat → Nat → Value} (h : DatOK X φ w m xs A len cap g) (e : Evo X φ w φ' w') : DatOK X φ' w' m xs A len cap g :=
  ⟨h.hlen, h.hcap, h.hmost, h.hsize, fun hx => by
    obtain ⟨b, o, hA, hc⟩ := h.hcells hx
    exact ⟨b, o, hA, fun j x hj i hi => by
      obtain ⟨h1, h2⟩ := hc j x hj i hi
      obtain ⟨e1, e2⟩ := e.dat _ _ h1
      exact ⟨e1, e2.trans h2⟩⟩⟩

theorem RelV.evo {a : AV} {v : Value} (h : RelV X φ w a v) (e : Evo X φ w φ' w') : RelV X φ' w' a v := by
  induction h with
  | any v => exact .any v
  | lit v => exact .lit v
  | agg l vs hs _ ih => exact .agg l vs hs ih
  | tup l vs hs _ ih => exact .tup l vs hs ih
  | fn f first cap us vs hu hv _ _ ih1 ih2 => exact .fn f first cap us vs hu hv ih1 ih2
  | dat m xs A len cap g ok _ ih => exact .dat m xs A len cap g (ok.evo e) ih
  | dptr cs i b o g hc _ ih =>
    refine .dptr cs i b o g (fun k hk => ?_) ih
    obtain ⟨h1, h2⟩ := hc k hk
    obtain ⟨e1, e2⟩ := e.dat _ _ h1
    exact ⟨e1, e2.trans h2⟩
  | ref n m j i A hn h => exact .ref n m j i A (e.unused hn) (fun b hb => h b (e.own' hn hb))
  | own n m j len A cap hc hm hn h => exact .own n m j len A cap hc hm (e.unused hn) (fun b hb => h b (e.own' hn hb))
  | acc n ty m xs A len cap g ok _ hn ht ih =>
    refine .acc n ty m xs A len cap g (ok.evo e) ih (e.unused hn) (fun t hb => ?_)
    cases hf : φ n with
    | unused => exact absurd hf hn
    | dead => have := e.dead n hf; rw [this] at hb; cases hb
    | own b' => rcases e.own n b' hf with e' | e' <;> rw [e'] at hb <;> cases hb
    | tok t' =>
      rcases e.tok n t' hf with e' | ⟨e', hu⟩ <;> rw [e'] at hb <;> cases hb
      have := ht t hf
      unfold Tip at this ⊢
      cases t with
      | none => exact this
      | some p =>
        obtain ⟨b, L⟩ := p
        obtain ⟨h1, h2, cur, h3, h4⟩ := this
        exact ⟨h1, h2, cur, (hu b L rfl).trans h3, h4⟩
end

/-- What a name holds. -/
inductive Slot where
  | unused
  | dead
  | own (m : Nat) (xs : List (List AV))
  | tok

section
variable (X : Nat → Nat → Prop) (φ : Nat → FSlot) (w : World)
structure OwnOK (b m : Nat) (xs : List (List AV)) : Prop where
  blk : ∃ cur ty, w.heap[b]? = some (.cells cur ty (0, 0)) ∧ xs.length * m ≤ cur.size ∧ (∀ x ∈ xs, x.length = m) ∧ (∀ j x, xs[j]? = some x → ∀ i a, x[i]? = some a → RelV X φ w a (cur.getD (j * m + i) undef))
  hid : ∀ off, ¬ X b off

def SlotOK (n : Nat) : Slot → Prop
  | .unused => φ n = .unused
  | .dead => φ n = .dead
  | .own m xs => ∃ b, φ n = .own b ∧ OwnOK X φ w b m xs
  | .tok => ∃ t, φ n = .tok t ∧ ∀ b L, t = some (b, L) → b < w.heap.size ∧ ∀ off, ¬ X b off

def Distinct : Prop := ∀ n n' b, (φ n).lies b → (φ n').lies b → n = n'

structure EnvOK (σ : Nat → Slot) : Prop where
  slot : ∀ n, SlotOK X φ w n (σ n)
  distinct : Distinct φ
  hid : ∀ b off, X b off → b < w.heap.size
end

section
variable {X : Nat → Nat → Prop} {φ φ' : Nat → FSlot} {w w' : World}
theorem OwnOK.lt {b m : Nat} {xs : List (List AV)} (h : OwnOK X φ w b m xs) : b < w.heap.size := by
  obtain ⟨cur, ty, h, _⟩ := h.blk
  exact (Array.getElem?_eq_some_iff.1 h).1

theorem SlotOK.evo {n : Nat} {s : Slot} (h : SlotOK X φ w n s) (e : Evo X φ w φ' w') (hn : φ' n = φ n) (hb : ∀ b, (φ n).lies b → w'.heap[b]? = w.heap[b]?) : SlotOK X φ' w' n s := by
  cases s with
  | unused => exact hn.trans h
  | dead => exact hn.trans h
  | own m xs =>
    obtain ⟨b, h1, ⟨cur, ty, h2, h3, h4, h5⟩, h6⟩ := h
    exact ⟨b, hn.trans h1, ⟨cur, ty, (hb b (.inl h1)).trans h2, h3, h4, fun j x hj i a hi => (h5 j x hj i a hi).evo e⟩, h6⟩
  | tok =>
    obtain ⟨t, h1, h2⟩ := h
    exact ⟨t, hn.trans h1, fun b L hbl => ⟨Nat.lt_of_lt_of_le (h2 b L hbl).1 e.size, (h2 b L hbl).2⟩⟩

theorem SlotOK.lt {n : Nat} {s : Slot} (h : SlotOK X φ w n s) {b : Nat} (hb : (φ n).lies b) : b < w.heap.size := by
  cases s with
  | unused =>
    have h' : φ n = .unused := h
    rw [h'] at hb
    rcases hb with e | ⟨L, e⟩ <;> cases e
  | dead =>
    have h' : φ n = .dead := h
    rw [h'] at hb
    rcases hb with e | ⟨L, e⟩ <;> cases e
  | own m xs =>
    obtain ⟨b', h1, h2⟩ := h
    rw [h1] at hb
    rcases hb with e | ⟨L, e⟩ <;> cases e
    exact h2.lt
  | tok =>
    obtain ⟨t, h1, h2⟩ := h
    rw [h1] at hb
    rcases hb with e | ⟨L, e⟩ <;> cases e
    exact (h2 b L rfl).1
end

/-- The state of a frame. -/
structure AS where
  regs : List AV
  own : List Slot

def AS.slot (s : AS) (n : Nat) : Slot := s.own.getD n .unused

structure Sim (X : Nat → Nat → Prop) (φ0 : Nat → FSlot) (w0 : World) (φ : Nat → FSlot) (s : AS) (a : Act) (w : World) : Prop where
  defers : a.defers = []
  size : a.tmps.size = s.regs.length
  regs : ∀ t v, s.regs[t]? = some v → RelV X φ w v (a.tmps.getD t undef)
  env : EnvOK X φ w s.slot
  evo : Evo X φ0 w0 φ w

/-- An operand's abstract value. -/
def opd (regs : List AV) : Operand → AV
  | .tmp t => regs.getD t .any
  | .const v => .lit v
  | .global g => .lit (.pointer (some ⟨g, 0, none⟩))
  | .func f => .fn (.func f) [] []

theorem Sim.opd {X : Nat → Nat → Prop} {φ0 φ : Nat → FSlot} {w0 w : World} {s : AS} {a : Act} (h : Sim X φ0 w0 φ s a w) (x : Operand) : RelV X φ w (opd s.regs x) (a.eval x) := by
  cases x with
  | tmp t =>
    simp only [Go.Proofs.Ytenpbiineblcjaa.opd, Act.eval, List.getD_eq_getElem?_getD]
    cases ht : s.regs[t]? with
    | none => exact .any _
    | some v => exact h.regs t v ht
  | const v => exact .lit v
  | global g => exact .lit _
  | func f => exact .fn _ _ _ _ _ rfl rfl (by simp) (by simp)

end Go.Proofs.Ytenpbiineblcjaa
