/-
  The engine, part B: one operation (AStep), and a region in whatever order it is drawn. Plain definitions and laws; no conditions.
-/
import Derived.Test.YtenpbiineblcjaaEngA
namespace Go.Proofs.Ytenpbiineblcjaa
open Go.RowKit

/-- An operation: if its operands and the named blocks are as said, it yields r and leaves the named blocks as said; nothing else is turned. -/
def AStep (P : Program) (o : Oper) (rd : List (Operand × AV)) (bl : List (Nat × Slot)) (r : AV) (eff : List (Nat × Slot)) : Prop :=
  ∀ (X : Nat → Nat → Prop) (φ : Nat → FSlot) (a : Act) (w : World), (∀ p ∈ rd, RelV X φ w p.2 (a.eval p.1)) → (∀ p ∈ bl, SlotOK X φ w p.1 p.2) → Distinct φ → (∀ b off, X b off → b < w.heap.size) →
    (∀ n b, (φ n).lies b → b < w.heap.size) →
    ∀ (next : Act → World → Prop) (Q : Exit → Act → World → Prop),
      (∀ v φ' w', RelV X φ' w' r v → (∀ p ∈ eff, SlotOK X φ' w' p.1 p.2) → Distinct φ' → (∀ n, n ∉ eff.map (·.1) → φ' n = φ n) →
        (∀ b, b < w.heap.size → (∀ p ∈ eff, ¬ (φ p.1).lies b) → w'.heap[b]? = w.heap[b]?) → Evo X φ w φ' w' → next (a.put o.dst v) w') → o.wp P a w next Q

/-- What is known of an operation of a region. -/
structure Rec where
  rd : List (Operand × AV)
  bl : List (Nat × Slot)
  r : AV
  eff : List (Nat × Slot)
  skip : Bool

def putA (regs : List AV) (dst : Option Tmp) (r : AV) : List AV := match dst with | some d => regs.set d r | none => regs
def setL : List Slot → Nat → Slot → List Slot
  | [], 0, s => [s]
  | [], n + 1, s => .unused :: setL [] n s
  | _ :: l, 0, s => s :: l
  | x :: l, n + 1, s => x :: setL l n s
def setE (own : List Slot) : List (Nat × Slot) → List Slot
  | [] => own
  | p :: l => setE (setL own p.1 p.2) l

/-- In the text's order: what each operation meets, and what is there in the end. -/
def runL : List (Oper × Rec) → List AV → List Slot → List (List AV × List Slot) × List AV × List Slot
  | [], regs, own => ([], regs, own)
  | (o, c) :: l, regs, own =>
    ((c.rd.map (fun p => opd regs p.1), c.bl.map (fun p => own.getD p.1 .unused)) :: (runL l (putA regs o.dst c.r) (setE own c.eff)).1, (runL l (putA regs o.dst c.r) (setE own c.eff)).2)

def AV.isAny : AV → Bool
  | .any => true
  | _ => false

def AV.isUndef : AV → Bool
  | .lit (.tuple vs) => vs.isEmpty
  | _ => false
def boolOf : Value → Option Bool
  | .bool b => some b
  | _ => none

def guardOK (ops : Array Oper) (o : Oper) (c : Rec) : Bool :=
  match o.guard with
  | none => !c.skip
  | some (j, want) => match c.rd with
    | (.tmp d, .lit v) :: _ => ((ops[j]?).bind (·.dst)) == some d && c.skip == (boolOf v != some want) && (!c.skip || (c.r.isUndef && c.eff.isEmpty))
    | _ => false

def Rec.slots (c : Rec) : List Tmp := c.rd.filterMap fun p => match p.1 with | .tmp t => some t | _ => none

/-- May two operations not change places? -/
def clash (o : Oper) (c : Rec) (o' : Oper) (c' : Rec) : Bool :=
  (match o.dst with | some d => c'.slots.contains d || o'.dst == some d | none => false) ||
  (match o'.dst with | some d => c.slots.contains d | none => false) ||
  (c.eff.any fun p => c'.bl.any fun q => p.1 == q.1) || (c'.eff.any fun p => c.bl.any fun q => p.1 == q.1)

def ancOf (acc : List Nat) (o : Oper) : Nat := o.after.toList.foldl (fun s e => if Region.binds .any e then s ||| (2 ^ e.on ||| acc.getD e.on 0) else s) 0

/-- The look over a region whose order is drawn: what clashes is ordered. acc: the ancestors of those ahead, pre: those ahead. -/
def orderOK : List (Oper × Rec) → List (Oper × Rec) → List Nat → Bool
  | [], _, _ => true
  | (o, c) :: l, pre, acc =>
    (o.after.all fun e => !Region.binds .any e || e.on < pre.length) &&
    ((List.range pre.length).all fun j => (ancOf acc o).testBit j || (match pre[j]? with | some (o', c') => !clash o' c' o c | none => true)) &&
    orderOK l (pre ++ [(o, c)]) (acc ++ [ancOf acc o])

def lookOK (ops : Array Oper) (l : List (Oper × Rec)) (n : Nat) : Bool :=
  l.all fun p => guardOK ops p.1 p.2 && (match p.1.dst with | some d => d < n | none => true) && (p.2.eff.all fun q => p.2.bl.any fun r => q.1 == r.1)

/-- The value of a slot, of a name, when just S has been carried out. -/
def valS : List (Oper × Rec) → Nat → (Nat → Bool) → AV → Tmp → AV
  | [], _, _, v, _ => v
  | (o, c) :: l, i, S, v, t => valS l (i + 1) S (if S i && o.dst == some t then c.r else v) t
def effOf (n : Nat) : List (Nat × Slot) → Slot → Slot
  | [], s => s
  | p :: l, s => effOf n l (if p.1 = n then p.2 else s)
def slotS : List (Oper × Rec) → Nat → (Nat → Bool) → Slot → Nat → Slot
  | [], _, _, s, _ => s
  | (_, c) :: l, i, S, s, n => slotS l (i + 1) S (if S i then effOf n c.eff s else s) n

theorem valS_congr {t : Tmp} {S S' : Nat → Bool} : ∀ (l : List (Oper × Rec)) (i : Nat) (v : AV), (∀ j p, l[j]? = some p → (S (i + j) && p.1.dst == some t) = (S' (i + j) && p.1.dst == some t)) → valS l i S v t = valS l i S' v t
  | [], _, _, _ => rfl
  | p :: l, i, v, h => by
    have h0 := h 0 p rfl
    simp only [Nat.add_zero] at h0
    simp only [valS, h0]
    exact valS_congr l (i + 1) _ fun j q hj => by
      have := h (j + 1) q (by simpa using hj)
      rwa [show i + (j + 1) = i + 1 + j from by omega] at this
theorem valS_none {t : Tmp} {S : Nat → Bool} : ∀ (l : List (Oper × Rec)) (i : Nat) (v : AV), (∀ j p, l[j]? = some p → (S (i + j) && p.1.dst == some t) = false) → valS l i S v t = v
  | [], _, _, _ => rfl
  | p :: l, i, v, h => by
    have h0 := h 0 p rfl
    simp only [Nat.add_zero] at h0
    simp only [valS, h0]
    exact valS_none l (i + 1) v fun j q hj => by
      have := h (j + 1) q (by simpa using hj)
      rwa [show i + (j + 1) = i + 1 + j from by omega] at this
theorem valS_last {t : Tmp} {S : Nat → Bool} : ∀ (l : List (Oper × Rec)) (i k : Nat) (v : AV) (o : Oper) (c : Rec), l[k]? = some (o, c) → S (i + k) = true → o.dst = some t → (∀ j p, k < j → l[j]? = some p → (S (i + j) && p.1.dst == some t) = false) → valS l i S v t = c.r
  | [], _, k, _, _, _, h, _, _, _ => by simp at h
  | p :: l, i, 0, v, o, c, h, hs, hd, hn => by
    simp at h
    subst h
    simp only [Nat.add_zero] at hs
    simp only [valS, hs, hd, Bool.true_and, beq_self_eq_true, if_true]
    exact valS_none l (i + 1) _ fun j q hj => by
      have := hn (j + 1) q (by omega) (by simpa using hj)
      rwa [show i + (j + 1) = i + 1 + j from by omega] at this
  | p :: l, i, k + 1, v, o, c, h, hs, hd, hn => by
    rw [valS]
    exact valS_last l (i + 1) k _ o c (by simpa using h) (by rw [show i + 1 + k = i + (k + 1) from by omega]; exact hs) hd fun j q hj hq => by
      have := hn (j + 1) q (by omega) (by simpa using hq)
      rwa [show i + (j + 1) = i + 1 + j from by omega] at this

theorem effOf_miss {n : Nat} : ∀ {l : List (Nat × Slot)} {s : Slot}, n ∉ l.map (·.1) → effOf n l s = s
  | [], _, _ => rfl
  | p :: l, s, h => by
    simp only [List.map_cons, List.mem_cons, not_or] at h
    rw [effOf, if_neg (fun e => h.1 e.symm)]
    exact effOf_miss h.2
theorem effOf_hit {n : Nat} : ∀ {l : List (Nat × Slot)} {s s' : Slot}, n ∈ l.map (·.1) → effOf n l s = effOf n l s'
  | [], _, _, h => by simp at h
  | p :: l, s, s', h => by
    rw [effOf, effOf]
    by_cases e : p.1 = n
    · rw [if_pos e, if_pos e]
    · rw [if_neg e, if_neg e]
      simp only [List.map_cons, List.mem_cons] at h
      exact effOf_hit (h.resolve_left (fun e' => e e'.symm))
theorem effOf_mem {n : Nat} : ∀ {l : List (Nat × Slot)} {s : Slot}, n ∈ l.map (·.1) → (n, effOf n l s) ∈ l
  | [], _, h => by simp at h
  | p :: l, s, h => by
    rw [effOf]
    by_cases hm : n ∈ l.map (·.1)
    · exact List.mem_cons_of_mem _ (effOf_mem hm)
    · rw [effOf_miss hm]
      simp only [List.map_cons, List.mem_cons] at h
      have e := h.resolve_right hm
      rw [if_pos e.symm, e]
      simp

theorem slotS_congr {n : Nat} {S S' : Nat → Bool} : ∀ (l : List (Oper × Rec)) (i : Nat) (s : Slot), (∀ j p, l[j]? = some p → n ∈ p.2.eff.map (·.1) → S (i + j) = S' (i + j)) → slotS l i S s n = slotS l i S' s n
  | [], _, _, _ => rfl
  | p :: l, i, s, h => by
    have h0 := h 0 p rfl
    simp only [Nat.add_zero] at h0
    have e : (if S i then effOf n p.2.eff s else s) = (if S' i then effOf n p.2.eff s else s) := by
      by_cases hm : n ∈ p.2.eff.map (·.1)
      · rw [h0 hm]
      · rw [effOf_miss hm]; simp
    simp only [slotS, e]
    exact slotS_congr l (i + 1) _ fun j q hj => by
      have := h (j + 1) q (by simpa using hj)
      rwa [show i + (j + 1) = i + 1 + j from by omega] at this
theorem slotS_none {n : Nat} {S : Nat → Bool} : ∀ (l : List (Oper × Rec)) (i : Nat) (s : Slot), (∀ j p, l[j]? = some p → n ∈ p.2.eff.map (·.1) → S (i + j) = false) → slotS l i S s n = s
  | [], _, _, _ => rfl
  | p :: l, i, s, h => by
    have h0 := h 0 p rfl
    simp only [Nat.add_zero] at h0
    have e : (if S i then effOf n p.2.eff s else s) = s := by
      by_cases hm : n ∈ p.2.eff.map (·.1)
      · rw [h0 hm]; simp
      · rw [effOf_miss hm]; simp
    simp only [slotS, e]
    exact slotS_none l (i + 1) _ fun j q hj => by
      have := h (j + 1) q (by simpa using hj)
      rwa [show i + (j + 1) = i + 1 + j from by omega] at this
theorem slotS_last {n : Nat} {S : Nat → Bool} : ∀ (l : List (Oper × Rec)) (i k : Nat) (s s' : Slot) (o : Oper) (c : Rec), l[k]? = some (o, c) → S (i + k) = true → n ∈ c.eff.map (·.1) → (∀ j p, k < j → l[j]? = some p → n ∈ p.2.eff.map (·.1) → S (i + j) = false) → slotS l i S s n = effOf n c.eff s'
  | [], _, k, _, _, _, _, h, _, _, _ => by simp at h
  | p :: l, i, 0, s, s', o, c, h, hs, hd, hn => by
    simp at h
    subst h
    simp only [Nat.add_zero] at hs
    simp only [slotS, hs, if_true]
    rw [effOf_hit hd (s' := s')]
    exact slotS_none l (i + 1) _ fun j q hj => by
      have := hn (j + 1) q (by omega) (by simpa using hj)
      rwa [show i + (j + 1) = i + 1 + j from by omega] at this
  | p :: l, i, k + 1, s, s', o, c, h, hs, hd, hn => by
    rw [slotS]
    exact slotS_last l (i + 1) k _ s' o c (by simpa using h) (by rw [show i + 1 + k = i + (k + 1) from by omega]; exact hs) hd fun j q hj hq => by
      have := hn (j + 1) q (by omega) (by simpa using hq)
      rwa [show i + (j + 1) = i + 1 + j from by omega] at this

theorem setL_getD : ∀ (l : List Slot) (n : Nat) (s : Slot) (k : Nat), (setL l n s).getD k .unused = if n = k then s else l.getD k .unused
  | [], 0, s, k => by cases k <;> simp [setL]
  | [], n + 1, s, 0 => by simp [setL]
  | [], n + 1, s, k + 1 => by
    have := setL_getD [] n s k
    simp only [setL, List.getD_cons_succ, this, Nat.add_right_cancel_iff]
    simp
  | x :: l, 0, s, k => by cases k <;> simp [setL]
  | x :: l, n + 1, s, 0 => by simp [setL]
  | x :: l, n + 1, s, k + 1 => by
    have := setL_getD l n s k
    simp only [setL, List.getD_cons_succ, this, Nat.add_right_cancel_iff]
theorem setE_getD : ∀ (l : List (Nat × Slot)) (own : List Slot) (k : Nat), (setE own l).getD k .unused = effOf k l (own.getD k .unused)
  | [], _, _ => rfl
  | p :: l, own, k => by rw [setE, setE_getD l, setL_getD, effOf]
theorem putA_length (regs : List AV) (d : Option Tmp) (r : AV) : (putA regs d r).length = regs.length := by
  cases d <;> simp [putA]
theorem putA_getD (regs : List AV) (d : Option Tmp) (r : AV) (t : Tmp) (ht : t < regs.length) : (putA regs d r).getD t .any = if d == some t then r else regs.getD t .any := by
  cases d with
  | none => simp [putA]
  | some e =>
    simp only [putA, List.getD_eq_getElem?_getD, List.getElem?_set]
    by_cases h : e = t
    · subst h; simp [ht]
    · simp [h]

/-- What operation k meets in the text's order. -/
theorem runL_met : ∀ (l : List (Oper × Rec)) (i : Nat) (regs : List AV) (own : List Slot) (k : Nat) (o : Oper) (c : Rec), l[k]? = some (o, c) →
    (runL l regs own).1[k]? = some (c.rd.map (fun p => match p.1 with | .tmp t => (if t < regs.length then valS l i (fun j => decide (j < i + k)) (regs.getD t .any) t else .any) | x => opd regs x), c.bl.map (fun p => slotS l i (fun j => decide (j < i + k)) (own.getD p.1 .unused) p.1))
  | [], _, _, _, k, _, _, h => by simp at h
  | q :: l, i, regs, own, 0, o, c, h => by
    simp at h
    subst h
    simp only [runL, List.getElem?_cons_zero, Option.some.injEq, Prod.mk.injEq]
    refine ⟨List.map_congr_left fun p _ => ?_, List.map_congr_left fun p _ => ?_⟩
    · cases hp : p.1 with
      | tmp t =>
        dsimp only [opd]
        by_cases ht : t < regs.length
        · rw [if_pos ht]
          exact (valS_none _ _ _ fun j q _ => by rw [show decide (i + j < i + 0) = false from decide_eq_false (by omega)]; rfl).symm
        · rw [if_neg ht]
          simp [List.getElem?_eq_none (Nat.le_of_not_lt ht)]
      | _ => rfl
    · exact (slotS_none _ _ _ fun j q _ _ => decide_eq_false (by omega)).symm
  | (o', c') :: l, i, regs, own, k + 1, o, c, h => by
    have ih := runL_met l (i + 1) (putA regs o'.dst c'.r) (setE own c'.eff) k o c (by simpa using h)
    simp only [runL, List.getElem?_cons_succ]
    rw [ih]
    have hk : (fun j => decide (j < i + (k + 1))) = (fun j => decide (j < i + 1 + k)) := by
      funext j
      rw [show i + (k + 1) = i + 1 + k from by omega]
    rw [hk]
    have hi : decide (i < i + 1 + k) = true := by simp; omega
    refine congrArg some (Prod.ext (List.map_congr_left fun p _ => ?_) (List.map_congr_left fun p _ => ?_))
    · cases hp : p.1 with
      | tmp t =>
        dsimp only
        rw [putA_length]
        by_cases ht : t < regs.length
        · rw [if_pos ht, if_pos ht, putA_getD _ _ _ _ ht, valS]
          simp [hi]
        · rw [if_neg ht, if_neg ht]
      | _ => rfl
    · rw [setE_getD, slotS]
      simp [hi]
theorem runL_end : ∀ (l : List (Oper × Rec)) (i : Nat) (regs : List AV) (own : List Slot), (runL l regs own).2.1.length = regs.length ∧ (∀ t, t < regs.length → (runL l regs own).2.1.getD t .any = valS l i (fun _ => true) (regs.getD t .any) t) ∧
    (∀ n, (runL l regs own).2.2.getD n .unused = slotS l i (fun _ => true) (own.getD n .unused) n)
  | [], _, _, _ => ⟨rfl, fun _ _ => rfl, fun _ => rfl⟩
  | (o, c) :: l, i, regs, own => by
    obtain ⟨h1, h2, h3⟩ := runL_end l (i + 1) (putA regs o.dst c.r) (setE own c.eff)
    rw [putA_length] at h1 h2
    refine ⟨h1, fun t ht => ?_, fun n => ?_⟩
    · show (runL l _ _).2.1.getD t .any = _
      rw [h2 t ht, putA_getD _ _ _ _ ht, valS]
      simp
    · show (runL l _ _).2.2.getD n .unused = _
      rw [h3 n, setE_getD, slotS]
      simp
end Go.Proofs.Ytenpbiineblcjaa
