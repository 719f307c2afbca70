/-
  The engine, part C: the law of a region, whatever order is drawn. Plain laws; no conditions.
-/
import Derived.Test.YtenpbiineblcjaaEngB
namespace Go.Proofs.Ytenpbiineblcjaa
open Go.RowKit

section
variable {X : Nat → Nat → Prop} {φ0 : Nat → FSlot} {w0 : World}

/-- In the middle of a region: just S has been carried out. -/
structure RInv (X : Nat → Nat → Prop) (φ0 : Nat → FSlot) (w0 : World) (l : List (Oper × Rec)) (regs : List AV) (own : List Slot) (S : Nat → Bool) (φ : Nat → FSlot) (a : Act) (w : World) : Prop where
  defers : a.defers = []
  size : a.tmps.size = regs.length
  regs : ∀ t, t < regs.length → RelV X φ w (valS l 0 S (regs.getD t .any) t) (a.tmps.getD t undef)
  slot : ∀ n, SlotOK X φ w n (slotS l 0 S (own.getD n .unused) n)
  distinct : Distinct φ
  hid : ∀ b off, X b off → b < w.heap.size
  evo : Evo X φ0 w0 φ w

theorem clash_read1 {o o' : Oper} {c c' : Rec} {t : Tmp} (h : o'.dst = some t) (ht : t ∈ c.slots) : clash o' c' o c = true := by
  simp [clash, h, ht]
theorem clash_read2 {o o' : Oper} {c c' : Rec} {t : Tmp} (h : o'.dst = some t) (ht : t ∈ c.slots) : clash o c o' c' = true := by
  simp [clash, h, ht]
theorem clash_dst {o o' : Oper} {c c' : Rec} {t : Tmp} (h : o.dst = some t) (h' : o'.dst = some t) : clash o c o' c' = true := by
  simp [clash, h, h']
theorem any_eff {l : List (Nat × Slot)} {k : List (Nat × Slot)} {n : Nat} (h : n ∈ l.map (·.1)) (h' : n ∈ k.map (·.1)) : (l.any fun p => k.any fun q => p.1 == q.1) = true := by
  obtain ⟨p, hp, e⟩ := List.mem_map.1 h
  obtain ⟨q, hq, e'⟩ := List.mem_map.1 h'
  exact List.any_eq_true.2 ⟨p, hp, List.any_eq_true.2 ⟨q, hq, by simp [e, e']⟩⟩
theorem clash_eff1 {o o' : Oper} {c c' : Rec} {n : Nat} (h : n ∈ c'.eff.map (·.1)) (h' : n ∈ c.bl.map (·.1)) : clash o' c' o c = true := by
  simp only [clash, any_eff h h', Bool.or_true, Bool.true_or]
theorem clash_eff2 {o o' : Oper} {c c' : Rec} {n : Nat} (h : n ∈ c'.eff.map (·.1)) (h' : n ∈ c.bl.map (·.1)) : clash o c o' c' = true := by
  simp only [clash, any_eff h h', Bool.or_true]

/-- What clashes with operation i has been carried out just if it stands ahead of it. -/
def Fit (l : List (Oper × Rec)) (S : Nat → Bool) (i : Nat) (o : Oper) (c : Rec) : Prop :=
  S i = false ∧ ∀ (j : Nat) (o' : Oper) (c' : Rec), l[j]? = some (o', c') → (j < i → clash o' c' o c = true → S j = true) ∧ (i < j → clash o c o' c' = true → S j = false)

theorem Fit.read {l : List (Oper × Rec)} {S : Nat → Bool} {i : Nat} {o : Oper} {c : Rec} (h : Fit l S i o c) {t : Tmp} (ht : t ∈ c.slots) (v : AV) : valS l 0 S v t = valS l 0 (fun j => decide (j < i)) v t := by
  refine valS_congr l 0 v fun j p hj => ?_
  obtain ⟨o', c'⟩ := p
  (try simp only [Nat.zero_add])
  by_cases hd : o'.dst = some t
  · simp only [hd, beq_self_eq_true, Bool.and_true]
    rcases Nat.lt_trichotomy j i with hlt | rfl | hgt
    · rw [(h.2 j o' c' hj).1 hlt (clash_read1 hd ht)]; simp [hlt]
    · rw [h.1]; simp
    · rw [(h.2 j o' c' hj).2 hgt (clash_read2 hd ht)]; exact (decide_eq_false (by omega)).symm
  · have e : (o'.dst == some t) = false := by simpa using hd
    simp only [e, Bool.and_false]
theorem Fit.meet {l : List (Oper × Rec)} {S : Nat → Bool} {i : Nat} {o : Oper} {c : Rec} (h : Fit l S i o c) {n : Nat} (hn : n ∈ c.bl.map (·.1)) (s : Slot) : slotS l 0 S s n = slotS l 0 (fun j => decide (j < i)) s n := by
  refine slotS_congr l 0 s fun j p hj he => ?_
  obtain ⟨o', c'⟩ := p
  (try simp only [Nat.zero_add])
  rcases Nat.lt_trichotomy j i with hlt | rfl | hgt
  · rw [(h.2 j o' c' hj).1 hlt (clash_eff1 he hn)]; simp [hlt]
  · rw [h.1]; simp
  · rw [(h.2 j o' c' hj).2 hgt (clash_eff2 he hn)]; exact (decide_eq_false (by omega)).symm

def withS (S : Nat → Bool) (i : Nat) : Nat → Bool := fun j => S j || j == i

variable {P : Program} {ops : Array Oper} {l : List (Oper × Rec)} {regs regs' : List AV} {own own' : List Slot}

/-- What the region's facts are. -/
structure Facts (P : Program) (ops : Array Oper) (l : List (Oper × Rec)) (regs : List AV) (own : List Slot) (regs' : List AV) (own' : List Slot) : Prop where
  hops : ops.toList = l.map (·.1)
  steps : ∀ (i : Nat) (o : Oper) (c : Rec), l[i]? = some (o, c) → c.skip = false → AStep P o c.rd c.bl c.r c.eff
  met : runL l regs own = (l.map (fun p => (p.2.rd.map (·.2), p.2.bl.map (·.2))), regs', own')
  look : lookOK ops l regs.length = true

theorem Facts.get (f : Facts P ops l regs own regs' own') {i : Nat} {o : Oper} (h : ops[i]? = some o) : ∃ c, l[i]? = some (o, c) := by
  have h1 : ops.toList[i]? = some o := by simpa using h
  rw [f.hops, List.getElem?_map] at h1
  cases hl : l[i]? with
  | none => rw [hl] at h1; cases h1
  | some p => rw [hl] at h1; obtain ⟨o', c⟩ := p; simp at h1; subst h1; exact ⟨c, rfl⟩
theorem Facts.at (f : Facts P ops l regs own regs' own') {i : Nat} {o : Oper} {c : Rec} (h : l[i]? = some (o, c)) : ops[i]? = some o := by
  have h1 : ops.toList[i]? = some o := by rw [f.hops, List.getElem?_map, h]; rfl
  simpa using h1

theorem map_eq_mem {α β : Type} {f g : α → β} : ∀ {l : List α}, l.map f = l.map g → ∀ x ∈ l, f x = g x
  | [], _, _, hx => by cases hx
  | y :: l, h, x, hx => by
    simp only [List.map_cons, List.cons.injEq] at h
    rcases List.mem_cons.1 hx with rfl | hx
    · exact h.1
    · exact map_eq_mem h.2 x hx

theorem Facts.rd (f : Facts P ops l regs own regs' own') {i : Nat} {o : Oper} {c : Rec} (h : l[i]? = some (o, c)) : ∀ p ∈ c.rd, p.2 = match p.1 with | .tmp t => (if t < regs.length then valS l 0 (fun j => decide (j < i)) (regs.getD t .any) t else .any) | x => opd regs x := by
  have h1 := runL_met l 0 regs own i o c h
  rw [f.met] at h1
  simp only [List.getElem?_map, h, Option.map_some, Option.some.injEq, Prod.mk.injEq, Nat.zero_add] at h1
  exact map_eq_mem h1.1
theorem Facts.bl (f : Facts P ops l regs own regs' own') {i : Nat} {o : Oper} {c : Rec} (h : l[i]? = some (o, c)) : ∀ p ∈ c.bl, p.2 = slotS l 0 (fun j => decide (j < i)) (own.getD p.1 .unused) p.1 := by
  have h1 := runL_met l 0 regs own i o c h
  rw [f.met] at h1
  simp only [List.getElem?_map, h, Option.map_some, Option.some.injEq, Prod.mk.injEq, Nat.zero_add] at h1
  exact map_eq_mem h1.2

theorem mem_slots {c : Rec} {t : Tmp} {v : AV} (h : (.tmp t, v) ∈ c.rd) : t ∈ c.slots := List.mem_filterMap.2 ⟨_, h, rfl⟩

theorem RInv.val {S : Nat → Bool} {φ : Nat → FSlot} {a : Act} {w : World} (h : RInv X φ0 w0 l regs own S φ a w) (f : Facts P ops l regs own regs' own') {i : Nat} {o : Oper} {c : Rec} (hi : l[i]? = some (o, c)) (fit : Fit l S i o c) : ∀ p ∈ c.rd, RelV X φ w p.2 (a.eval p.1) := by
  intro p hp
  rw [f.rd hi p hp]
  obtain ⟨x, v⟩ := p
  cases x with
  | tmp t =>
    dsimp only [Act.eval]
    by_cases ht : t < regs.length
    · rw [if_pos ht, ← fit.read (mem_slots hp)]
      exact h.regs t ht
    · rw [if_neg ht]; exact .any _
  | const v => exact .lit v
  | global g => exact .lit _
  | func f => exact .fn _ _ _ _ _ rfl rfl (by simp) (by simp)
theorem RInv.blocks {S : Nat → Bool} {φ : Nat → FSlot} {a : Act} {w : World} (h : RInv X φ0 w0 l regs own S φ a w) (f : Facts P ops l regs own regs' own') {i : Nat} {o : Oper} {c : Rec} (hi : l[i]? = some (o, c)) (fit : Fit l S i o c) : ∀ p ∈ c.bl, SlotOK X φ w p.1 p.2 := by
  intro p hp
  rw [f.bl hi p hp, ← fit.meet (List.mem_map.2 ⟨p, hp, rfl⟩)]
  exact h.slot p.1
theorem RInv.lt {S : Nat → Bool} {φ : Nat → FSlot} {a : Act} {w : World} (h : RInv X φ0 w0 l regs own S φ a w) : ∀ n b, (φ n).lies b → b < w.heap.size := fun n _ hb => (h.slot n).lt hb

theorem tmps_put (a : Act) (d : Option Tmp) (v : Value) (t : Tmp) (ht : t < a.tmps.size) : (a.put d v).tmps.getD t undef = if d == some t then v else a.tmps.getD t undef := by
  cases d with
  | none => rfl
  | some e =>
    simp only [Act.put, Array.getD_eq_getD_getElem?, Array.getElem?_setIfInBounds]
    by_cases h : e = t
    · subst h; simp [ht]
    · simp [h]
theorem put_size (a : Act) (d : Option Tmp) (v : Value) : (a.put d v).tmps.size = a.tmps.size := by cases d <;> simp [Act.put]
theorem put_defers (a : Act) (d : Option Tmp) (v : Value) : (a.put d v).defers = a.defers := by cases d <;> rfl

theorem withS_vals {S : Nat → Bool} {i : Nat} {o : Oper} {c : Rec} (hi : l[i]? = some (o, c)) (fit : Fit l S i o c) (v : AV) (t : Tmp) : valS l 0 (withS S i) v t = if o.dst == some t then c.r else valS l 0 S v t := by
  by_cases hd : o.dst = some t
  · simp only [hd, beq_self_eq_true, if_true]
    refine valS_last l 0 i v o c hi (by simp [withS]) hd fun j p hj hp => ?_
    obtain ⟨o', c'⟩ := p
    simp only [Nat.zero_add, withS]
    by_cases hd' : o'.dst = some t
    · rw [(fit.2 j o' c' hp).2 hj (clash_dst hd hd')]
      have e : (j == i) = false := by simp; omega
      simp [e]
    · simp [hd']
  · have e : (o.dst == some t) = false := by simpa using hd
    rw [e]
    simp only [Bool.false_eq_true, if_false]
    refine valS_congr l 0 v fun j p hj => ?_
    simp only [Nat.zero_add, withS]
    by_cases hji : j = i
    · subst hji
      rw [hi] at hj
      cases hj
      simp [e]
    · have e' : (j == i) = false := by simpa using hji
      simp [e']
theorem withS_slots {S : Nat → Bool} {i : Nat} {o : Oper} {c : Rec} (hi : l[i]? = some (o, c)) (fit : Fit l S i o c) (heff : ∀ n, n ∈ c.eff.map (·.1) → n ∈ c.bl.map (·.1)) (s : Slot) (n : Nat) :
    slotS l 0 (withS S i) s n = effOf n c.eff (slotS l 0 S s n) := by
  by_cases hm : n ∈ c.eff.map (·.1)
  · refine slotS_last l 0 i s _ o c hi (by simp [withS]) hm fun j p hj hp he => ?_
    obtain ⟨o', c'⟩ := p
    simp only [Nat.zero_add, withS]
    rw [(fit.2 j o' c' hp).2 hj (clash_eff2 he (heff n hm))]
    have e : (j == i) = false := by simp; omega
    simp [e]
  · rw [effOf_miss hm]
    refine slotS_congr l 0 s fun j p hj he => ?_
    simp only [Nat.zero_add, withS]
    by_cases hji : j = i
    · subst hji
      rw [hi] at hj
      cases hj
      exact absurd he hm
    · have e' : (j == i) = false := by simpa using hji
      simp [e']

theorem yielded_lit {φ : Nat → FSlot} {w : World} {a : Act} {j : Nat} {d : Tmp} {v : Value} (g1 : (ops[j]?).bind (·.dst) = some d) (h : RelV X φ w (.lit v) (a.eval (.tmp d))) : yielded ops a.tmps j = boolOf v := by
  have hv : a.eval (.tmp d) = v := by cases h; rfl
  simp only [yielded, g1, Option.bind_some]
  simp only [Act.eval, Array.getD_eq_getD_getElem?] at hv
  cases ht : a.tmps[d]? with
  | none => rw [ht] at hv; subst hv; rfl
  | some u => rw [ht] at hv; simp at hv; subst hv; cases u <;> rfl

/-- One operation of a region. -/
theorem RInv.step {S : Nat → Bool} {φ : Nat → FSlot} {a : Act} {w : World} (h : RInv X φ0 w0 l regs own S φ a w) (f : Facts P ops l regs own regs' own') {i : Nat} {o : Oper} {c : Rec} (hi : l[i]? = some (o, c)) (fit : Fit l S i o c)
    {K : Act → World → Prop} {Q : Exit → Act → World → Prop} (k : ∀ φ' a' w', RInv X φ0 w0 l regs own (withS S i) φ' a' w' → K a' w') : wpOp P ops Q i K a w := by
  have hlook := List.all_eq_true.1 f.look (o, c) (List.mem_of_getElem? hi)
  simp only [Bool.and_eq_true] at hlook
  obtain ⟨⟨hg, hdst⟩, heff0⟩ := hlook
  have heff : ∀ n, n ∈ c.eff.map (·.1) → n ∈ c.bl.map (·.1) := fun n hn => by
    obtain ⟨p, hp, rfl⟩ := List.mem_map.1 hn
    have := List.all_eq_true.1 heff0 p hp
    obtain ⟨q, hq, e⟩ := List.any_eq_true.1 this
    exact List.mem_map.2 ⟨q, hq, by simpa using (beq_iff_eq.1 e).symm⟩
  have hval := h.val f hi fit
  unfold wpOp
  rw [f.at hi]
  dsimp only
  by_cases hs : c.skip = true
  · -- left out
    have hw : Region.wanted o (yielded ops a.tmps) = false ∧ c.r.isUndef = true ∧ c.eff = [] := by
      unfold guardOK at hg
      unfold Region.wanted
      cases hgu : o.guard with
      | none => rw [hgu] at hg; simp [hs] at hg
      | some g =>
        obtain ⟨j, want⟩ := g
        rw [hgu] at hg
        dsimp only at hg ⊢
        split at hg
        case h_2 => cases hg
        case h_1 d v rest hrd =>
          simp only [hs, Bool.and_eq_true, Bool.not_true, Bool.false_or, List.isEmpty_iff, beq_iff_eq] at hg
          obtain ⟨⟨g1, g2⟩, g3, g4⟩ := hg
          refine ⟨?_, g3, g4⟩
          rw [yielded_lit g1 (hval (.tmp d, .lit v) (by rw [hrd]; simp))]
          cases hb : boolOf v with
          | none => simp
          | some b => rw [hb] at g2; cases b <;> cases want <;> first | rfl | (simp at g2)
    rw [if_neg (by simp [hw.1])]
    refine k φ _ w ⟨(put_defers _ _ _).trans h.defers, (put_size _ _ _).trans h.size, fun t ht => ?_, fun n => ?_, h.distinct, h.hid, h.evo⟩
    · rw [withS_vals hi fit, tmps_put _ _ _ _ (by rw [h.size]; exact ht)]
      split
      · have : c.r = .lit undef := by
          have h1 := hw.2.1
          unfold AV.isUndef at h1
          split at h1
          · rename_i vs hr
            rw [hr]
            have : vs = #[] := by simpa using h1
            rw [this]; rfl
          · cases h1
        rw [this]; exact .lit _
      · exact h.regs t ht
    · rw [withS_slots hi fit heff, hw.2.2]
      exact h.slot n
  · have hs' : c.skip = false := by simpa using hs
    have hw : Region.wanted o (yielded ops a.tmps) = true := by
      unfold guardOK at hg
      unfold Region.wanted
      cases hgu : o.guard with
      | none => rfl
      | some g =>
        obtain ⟨j, want⟩ := g
        rw [hgu] at hg
        dsimp only at hg ⊢
        split at hg
        case h_2 => cases hg
        case h_1 d v rest hrd =>
          simp only [hs', Bool.and_eq_true, Bool.not_false, Bool.true_or, and_true, beq_iff_eq] at hg
          obtain ⟨g1, g2⟩ := hg
          rw [yielded_lit g1 (hval (.tmp d, .lit v) (by rw [hrd]; simp))]
          cases hb : boolOf v with
          | none => rw [hb] at g2; simp at g2
          | some b => rw [hb] at g2; cases b <;> cases want <;> first | rfl | (simp at g2)
    rw [if_pos hw]
    refine .inl (f.steps i o c hi hs' X φ a w hval (h.blocks f hi fit) h.distinct h.hid h.lt K Q fun v φ' w' hr he hd hn hb hev => k φ' _ w' ⟨(put_defers _ _ _).trans h.defers, (put_size _ _ _).trans h.size, fun t ht => ?_, fun n => ?_, hd, fun b off hx => Nat.lt_of_lt_of_le (h.hid b off hx) hev.size, h.evo.trans hev⟩)
    · rw [withS_vals hi fit, tmps_put _ _ _ _ (by rw [h.size]; exact ht)]
      split
      · exact hr
      · exact (h.regs t ht).evo hev
    · rw [withS_slots hi fit heff]
      by_cases hm : n ∈ c.eff.map (·.1)
      · exact he _ (effOf_mem hm)
      · rw [effOf_miss hm]
        refine (h.slot n).evo hev (hn n hm) fun b hb' => hb b (h.lt n b hb') fun p hp hp' => ?_
        have e := h.distinct n p.1 b hb' hp'
        exact hm (e ▸ List.mem_map.2 ⟨p, hp, rfl⟩)

/-- Ancestors. -/
theorem ancOf_spec {acc : List Nat} {k : Nat} : ∀ (es : List Edge) (s : Nat), (es.foldl (fun s e => if Region.binds .any e then s ||| (2 ^ e.on ||| acc.getD e.on 0) else s) s).testBit k = true → s.testBit k = true ∨ ∃ e ∈ es, Region.binds .any e = true ∧ (k = e.on ∨ (acc.getD e.on 0).testBit k = true)
  | [], s, h => .inl h
  | e :: es, s, h => by
    rw [List.foldl_cons] at h
    rcases ancOf_spec es _ h with h1 | ⟨e', he', hb, hk⟩
    · by_cases hb : Region.binds .any e = true
      · rw [if_pos hb, Nat.testBit_or, Nat.testBit_or, Nat.testBit_two_pow] at h1
        simp only [Bool.or_eq_true, decide_eq_true_eq] at h1
        rcases h1 with h1 | h1 | h1
        · exact .inl h1
        · exact .inr ⟨e, by simp, hb, .inl h1.symm⟩
        · exact .inr ⟨e, by simp, hb, .inr h1⟩
      · rw [if_neg hb] at h1
        exact .inl h1
    · exact .inr ⟨e', List.mem_cons_of_mem _ he', hb, hk⟩

def Preds (S : Nat → Bool) (o : Oper) : Prop := ∀ e ∈ o.after.toList, Region.binds .any e = true → S e.on = true

theorem orderOK_spec {L : List (Oper × Rec)} {S : Nat → Bool} (closed : ∀ (i : Nat) (o : Oper) (c : Rec), L[i]? = some (o, c) → S i = true → Preds S o) : ∀ (l pre : List (Oper × Rec)) (acc : List Nat), L = pre ++ l → acc.length = pre.length →
    (∀ (i : Nat) (o : Oper) (c : Rec), i < pre.length → L[i]? = some (o, c) → Preds S o → ∀ k, (acc.getD i 0).testBit k = true → S k = true) → orderOK l pre acc = true →
    ∀ (i : Nat) (o : Oper) (c : Rec), pre.length ≤ i → L[i]? = some (o, c) → (∀ e ∈ o.after.toList, Region.binds .any e = true → e.on < i) ∧ (Preds S o → ∀ (j : Nat) (o' : Oper) (c' : Rec), j < i → L[j]? = some (o', c') → clash o' c' o c = true → S j = true)
  | [], pre, acc, hL, _, _, _, i, o, c, hi, hget => by
    subst hL
    rw [List.append_nil, List.getElem?_eq_none hi] at hget
    cases hget
  | (o1, c1) :: l, pre, acc, hL, hlen, good, hok, i, o, c, hi, hget => by
    simp only [orderOK, Bool.and_eq_true] at hok
    obtain ⟨⟨h1, h2⟩, h3⟩ := hok
    have hpre : L[pre.length]? = some (o1, c1) := by rw [hL]; simp
    have anc : Preds S o1 → ∀ k, (ancOf acc o1).testBit k = true → S k = true := fun hp k hk => by
      rcases ancOf_spec o1.after.toList 0 hk with h0 | ⟨e, he, hb, hke⟩
      · simp at h0
      · have hse := hp e he hb
        rcases hke with rfl | hke
        · exact hse
        · have hlt : e.on < pre.length := by
            have := Array.all_eq_true'.1 h1 e (by simpa using he)
            simpa [hb] using this
          obtain ⟨p, hp'⟩ : ∃ p, L[e.on]? = some p := ⟨_, List.getElem?_eq_getElem (by rw [hL]; simp; omega)⟩
          obtain ⟨o2, c2⟩ := p
          exact good e.on o2 c2 hlt hp' (closed _ _ _ hp' hse) k hke
    by_cases hieq : i = pre.length
    · subst hieq
      rw [hpre] at hget
      cases hget
      refine ⟨fun e he hb => ?_, fun hp j o' c' hj hj' hcl => ?_⟩
      · have := Array.all_eq_true'.1 h1 e (by simpa using he)
        simpa [hb] using this
      · have hpj : pre[j]? = some (o', c') := by
          rw [hL, List.getElem?_append_left hj] at hj'
          exact hj'
        have := List.all_eq_true.1 h2 j (by simpa using hj)
        rw [hpj] at this
        simp only [hcl, Bool.not_true, Bool.or_false] at this
        exact anc hp j this
    · refine orderOK_spec closed l (pre ++ [(o1, c1)]) (acc ++ [ancOf acc o1]) (by rw [hL]; simp) (by simp [hlen]) (fun i' o' c' hi' hget' hp k hk => ?_) h3 i o c (by simp; omega) hget
      by_cases hlt : i' < pre.length
      · refine good i' o' c' hlt hget' hp k ?_
        rwa [List.getD_eq_getElem?_getD, List.getElem?_append_left (by omega), ← List.getD_eq_getElem?_getD] at hk
      · have e : i' = pre.length := by simp at hi'; omega
        subst e
        rw [hpre] at hget'
        cases hget'
        refine anc hp k ?_
        rwa [List.getD_eq_getElem?_getD, ← hlen, List.getElem?_concat_length] at hk

theorem countP_lt {p p' : Nat → Bool} : ∀ (l : List Nat), (∀ x ∈ l, p' x = true → p x = true) → ∀ i ∈ l, p i = true → p' i = false → l.countP p' < l.countP p
  | [], _, _, hi, _, _ => by cases hi
  | y :: l, h, i, hi, h1, h2 => by
    have hle : l.countP p' ≤ l.countP p := List.countP_mono_left fun x hx hpx => h x (List.mem_cons_of_mem _ hx) hpx
    rw [List.countP_cons, List.countP_cons]
    rcases List.mem_cons.1 hi with rfl | hi
    · simp [h1, h2]; omega
    · have := countP_lt l (fun x hx => h x (List.mem_cons_of_mem _ hx)) i hi h1 h2
      have h0 := h y (by simp)
      cases hy : p' y
      · simp; omega
      · simp [h0 hy]; omega

/-- All has been carried out. -/
theorem RInv.done {S : Nat → Bool} {φ : Nat → FSlot} {a : Act} {w : World} (h : RInv X φ0 w0 l regs own S φ a w) (f : Facts P ops l regs own regs' own') (hS : ∀ i, i < l.length → S i = true) : Sim X φ0 w0 φ ⟨regs', own'⟩ a w := by
  obtain ⟨h1, h2, h3⟩ := runL_end l 0 regs own
  rw [f.met] at h1 h2 h3
  dsimp only at h1 h2 h3
  refine ⟨h.defers, h.size.trans h1.symm, fun t v hv => ?_, ⟨fun n => ?_, h.distinct, h.hid⟩, h.evo⟩
  · dsimp only at hv
    have ht : t < regs.length := by
      have := (List.getElem?_eq_some_iff.1 hv).1
      omega
    have h4 := h2 t ht
    rw [List.getD_eq_getElem?_getD, hv, Option.getD_some] at h4
    rw [h4, valS_congr l 0 _ (S' := S) fun j p hj => by
      have : j < l.length := (List.getElem?_eq_some_iff.1 hj).1
      simp [hS j this]]
    exact h.regs t ht
  · have h4 := h3 n
    show SlotOK X φ w n (own'.getD n .unused)
    rw [h4, slotS_congr l 0 _ (S' := S) fun j p hj _ => by
      have : j < l.length := (List.getElem?_eq_some_iff.1 hj).1
      simp [hS j this]]
    exact h.slot n

theorem RInv.start {φ : Nat → FSlot} {a : Act} {w : World} (h : Sim X φ0 w0 φ ⟨regs, own⟩ a w) : RInv X φ0 w0 l regs own (fun _ => false) φ a w :=
  ⟨h.defers, h.size, fun t ht => by
    rw [valS_none l 0 _ fun j p _ => by simp]
    exact h.regs t _ (by simp [ht]), fun n => by
    rw [slotS_none l 0 _ fun j p _ _ => rfl]
    exact h.env.slot n, h.env.distinct, h.env.hid, h.evo⟩

/-- A region in the text's order. -/
theorem region_text (f : Facts P ops l regs own regs' own') {Q : Exit → Act → World → Prop} : ∀ (m i : Nat), i + m = l.length → ∀ (φ : Nat → FSlot) (a : Act) (w : World), RInv X φ0 w0 l regs own (fun j => decide (j < i)) φ a w →
    (∀ φ' a' w', Sim X φ0 w0 φ' ⟨regs', own'⟩ a' w' → Q .normal a' w') → wpOps P ops Q (List.range' i m) a w
  | 0, i, him, φ, a, w, h, k => k φ a w (h.done f fun j hj => by simp; omega)
  | m + 1, i, him, φ, a, w, h, k => by
    rw [List.range'_succ, wpOps_cons]
    obtain ⟨p, hp⟩ : ∃ p, l[i]? = some p := ⟨_, List.getElem?_eq_getElem (by omega)⟩
    obtain ⟨o, c⟩ := p
    refine h.step f hp ⟨by simp, fun j o' c' hj => ⟨fun hlt _ => by simpa using hlt, fun hgt _ => by simp; omega⟩⟩ fun φ' a' w' h' => region_text f m (i + 1) (by omega) φ' a' w' ?_ k
    have e : withS (fun j => decide (j < i)) i = fun j => decide (j < i + 1) := by
      funext j
      simp only [withS]
      by_cases h1 : j < i
      · simp [h1]; omega
      · by_cases h2 : j = i
        · subst h2; simp
        · have : ¬ j < i + 1 := by omega
          simp [h1, h2, this]
    rwa [e] at h'

/-- A region whose order is drawn. -/
theorem region_drawn (f : Facts P ops l regs own regs' own') (hord : orderOK l [] [] = true) {Q : Exit → Act → World → Prop} (k : ∀ φ' a' w', Sim X φ0 w0 φ' ⟨regs', own'⟩ a' w' → Q .normal a' w') : ∀ (fuel : Nat) (listed : Array Bool), listed.size = ops.size → (List.range ops.size).countP (fun j => !listed.getD j false) ≤ fuel →
    (∀ (i : Nat) (o : Oper) (c : Rec), l[i]? = some (o, c) → listed.getD i false = true → Preds (fun j => listed.getD j false) o) → ∀ (φ : Nat → FSlot) (a : Act) (w : World), RInv X φ0 w0 l regs own (fun j => listed.getD j false) φ a w → wpAny P .any ops Q fuel listed a w := by
  have hlen : l.length = ops.size := by
    have := congrArg List.length f.hops
    simpa using this.symm
  have fin : ∀ (listed : Array Bool), listed.size = ops.size → (∀ (i : Nat) (o : Oper) (c : Rec), l[i]? = some (o, c) → listed.getD i false = true → Preds (fun j => listed.getD j false) o) → Region.ready .any ops listed = [] → ∀ i, i < l.length → listed.getD i false = true := by
    intro listed hsz closed hr i
    induction i using Nat.strongRecOn with
    | _ i ih =>
      intro hi
      cases hli : listed.getD i false with
      | true => rfl
      | false =>
        exfalso
        obtain ⟨p, hp⟩ : ∃ p, l[i]? = some p := ⟨_, List.getElem?_eq_getElem hi⟩
        obtain ⟨o, c⟩ := p
        have h1 := (orderOK_spec closed l [] [] rfl rfl (fun _ _ _ h => by simp at h) hord i o c (by simp) hp).1
        have hmem : i ∈ Region.ready .any ops listed := by
          unfold Region.ready
          rw [List.mem_filter]
          refine ⟨by simp; omega, ?_⟩
          rw [f.at hp]
          have hl' : listed.getD i true = false := by
            simp only [Array.getD_eq_getD_getElem?] at hli ⊢
            rw [Array.getElem?_eq_getElem (by omega)] at hli ⊢
            simpa using hli
          simp only [hl', Bool.not_false, Bool.true_and, Option.map_some, Option.getD_some]
          refine Array.all_eq_true'.2 fun e he => ?_
          cases hb : Region.binds .any e with
          | false => simp
          | true =>
            have hlt := h1 e (by simpa using he) hb
            simpa using ih e.on hlt (by omega)
        rw [hr] at hmem
        cases hmem
  intro fuel
  induction fuel with
  | zero =>
    intro listed hsz hc closed φ a w h
    have hall : ∀ i, i < l.length → listed.getD i false = true := fun i hi => by
      have := List.countP_eq_zero.1 (Nat.le_zero.1 hc) i (by simp; omega)
      simpa using this
    refine ⟨?_, k φ a w (h.done f hall)⟩
    unfold Region.ready
    rw [List.filter_eq_nil_iff]
    intro i hi
    have h1 := hall i (by simp at hi; omega)
    have hl' : listed.getD i true = true := by
      simp only [List.mem_range] at hi
      simp only [Array.getD_eq_getD_getElem?] at h1 ⊢
      rw [Array.getElem?_eq_getElem (by omega)] at h1 ⊢
      simpa using h1
    rw [hl']; simp
  | succ fuel ih =>
    intro listed hsz hc closed φ a w h
    refine ⟨fun hr => k φ a w (h.done f (fin listed hsz closed hr)), fun i hi => ?_⟩
    unfold Region.ready at hi
    rw [List.mem_filter] at hi
    obtain ⟨hir, hi2⟩ := hi
    rw [List.mem_range] at hir
    simp only [Bool.and_eq_true, Bool.not_eq_true'] at hi2
    obtain ⟨hi2, hi3⟩ := hi2
    have hli : listed.getD i false = false := by
      simp only [Array.getD_eq_getD_getElem?] at hi2 ⊢
      rw [Array.getElem?_eq_getElem (by omega)] at hi2 ⊢
      simpa using hi2
    obtain ⟨c, hp⟩ := f.get (Array.getElem?_eq_getElem hir)
    rw [Array.getElem?_eq_getElem hir] at hi3
    simp only [Option.map_some, Option.getD_some] at hi3
    generalize ops[i] = o at hp hi3
    have hpreds : Preds (fun j => listed.getD j false) o := fun e he hb => by
      have := Array.all_eq_true'.1 hi3 e (by simpa using he)
      simpa [hb] using this
    have fit : Fit l (fun j => listed.getD j false) i o c := ⟨hli, fun j o' c' hj => ⟨fun hlt hcl => (orderOK_spec closed l [] [] rfl rfl (fun _ _ _ h => by simp at h) hord i o c (by simp) hp).2 hpreds j o' c' hlt hj hcl, fun hgt hcl => by
      cases hS : listed.getD j false with
      | false => exact hS
      | true =>
        have := (orderOK_spec closed l [] [] rfl rfl (fun _ _ _ h => by simp at h) hord j o' c' (by simp) hj).2 (closed j o' c' hj hS) i o c hgt hp hcl
        rw [hli] at this
        cases this⟩⟩
    have eS : (fun j => (listed.setIfInBounds i true).getD j false) = withS (fun j => listed.getD j false) i := by
      funext j
      simp only [withS, Array.getD_eq_getD_getElem?, Array.getElem?_setIfInBounds]
      by_cases e : i = j
      · subst e; simp [hsz, hir]
      · have : (j == i) = false := by simp; omega
        simp [e, this]
    refine h.step f hp fit fun φ' a' w' h' => ih _ (by simpa using hsz) ?_ ?_ φ' a' w' (by rw [eS]; exact h')
    · have hlt := countP_lt (p := fun j => !listed.getD j false) (p' := fun j => !(listed.setIfInBounds i true).getD j false) (List.range ops.size) (fun x _ hx => by
        rw [show (listed.setIfInBounds i true).getD x false = withS (fun j => listed.getD j false) i x from congrFun eS x] at hx
        simp only [withS, Bool.not_or, Bool.and_eq_true] at hx
        exact hx.1) i (by simpa using hir) (by simpa using hli) (by
        rw [show (listed.setIfInBounds i true).getD i false = withS (fun j => listed.getD j false) i i from congrFun eS i]
        simp [withS])
      omega
    · intro j o' c' hj hS e he hb
      have e1 : (listed.setIfInBounds i true).getD j false = withS (fun j => listed.getD j false) i j := congrFun eS j
      have e2 : (listed.setIfInBounds i true).getD e.on false = withS (fun j => listed.getD j false) i e.on := congrFun eS e.on
      show (listed.setIfInBounds i true).getD e.on false = true
      rw [e1] at hS
      rw [e2]
      simp only [withS, Bool.or_eq_true, beq_iff_eq] at hS ⊢
      rcases hS with hS | rfl
      · exact .inl (closed j o' c' hj hS e he hb)
      · rw [hp] at hj
        cases hj
        exact .inl (hpreds e he hb)
end
end Go.Proofs.Ytenpbiineblcjaa
