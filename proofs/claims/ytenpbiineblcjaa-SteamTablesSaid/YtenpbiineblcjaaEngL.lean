/-
  The engine, part L: the forms that the printed proofs use. Plain definitions and laws; no conditions.
-/
import Derived.Test.YtenpbiineblcjaaEngK
namespace Go.Proofs.Ytenpbiineblcjaa
open Go.RowKit

/-- Words of the extracted functions. -/
def w64 (x : Int) : Int := IntKind.i64.wrap x
abbrev I (x : Int) : AV := .lit (.int .i64 x)
abbrev K (k : IntKind) (x : Int) : AV := .lit (.int k x)
abbrev B (b : Bool) : AV := .lit (.bool b)
abbrev nilS : AV := .lit (.slice none 0 0)
/-- l[i], if it is there. -/
def getI {α : Type} (l : List α) (i : Int) : Option α := if 0 ≤ i then l[i.toNat]? else none
def chk {β : Type} (b : Bool) (k : Option β) : Option β := bif b then k else none

theorem getI_some {α : Type} {l : List α} {i : Int} {x : α} (h : getI l i = some x) : 0 ≤ i ∧ l[i.toNat]? = some x := by
  unfold getI at h
  split at h
  · exact ⟨by assumption, h⟩
  · cases h
theorem bind_out {α β : Type} {o : Option α} {f : α → Option β} {r : β} (h : o.bind f = some r) : ∃ x, o = some x ∧ f x = some r := Option.bind_eq_some_iff.1 h
theorem bif_t {β : Type} {c : Bool} {a b r : β} (hc : c = true) (h : (bif c then a else b) = r) : a = r := by subst hc; exact h
theorem bif_f {β : Type} {c : Bool} {a b r : β} (hc : c = false) (h : (bif c then a else b) = r) : b = r := by subst hc; exact h
theorem chk_out {β : Type} {c : Bool} {o : Option β} {r : β} (h : chk c o = some r) : c = true ∧ o = some r := by
  cases c
  · cases h
  · exact ⟨rfl, h⟩
theorem map_get {α : Type} {l : List α} {i : Nat} {x : α} (c : α → List AV) (h : l[i]? = some x) : (l.map c)[i]? = some (c x) := by simp [h]

/-- Registers: any but those that are named. -/
def mk (n : Nat) (l : List (Nat × AV)) : List AV := l.foldl (fun r p => r.set p.1 p.2) (List.replicate n .any)
theorem mk_length (n : Nat) (l : List (Nat × AV)) : (mk n l).length = n := by
  unfold mk
  have : ∀ (l : List (Nat × AV)) (r : List AV), (l.foldl (fun r p => r.set p.1 p.2) r).length = r.length := by
    intro l
    induction l with
    | nil => intro r; rfl
    | cons p l ih => intro r; rw [List.foldl_cons, ih]; simp
  rw [this]; simp
def maskL : List AV → List AV → List AV
  | a :: l, b :: k => (bif b.isAny then .any else a) :: maskL l k
  | _, _ => []
theorem maskL_less : ∀ {l k : List AV}, maskL l k = k → l.length = k.length → LessL l k
  | [], [], _, _ => trivial
  | a :: l, b :: k, h, hl => by
    simp only [maskL, List.cons.injEq] at h
    refine ⟨?_, maskL_less h.2 (by simpa using hl)⟩
    cases b with
    | any => exact Less.any
    | _ => simp only [AV.isAny, cond_false] at h; rw [h.1]; exact Less.rfl
  | [], _ :: _, _, hl => by simp at hl
  | _ :: _, [], _, hl => by simp at hl

/-- Pairs, point by point. -/
def PPw (R : AV → AV → Prop) : List (Nat × AV) → List (Nat × AV) → Prop
  | [], [] => True
  | p :: l, q :: k => p.1 = q.1 ∧ R p.2 q.2 ∧ PPw R l k
  | _, _ => False
theorem lpw_set {R : AV → AV → Prop} : ∀ {l k : List AV} (t : Nat) {a b : AV}, LPw R l k → R a b → LPw R (l.set t a) (k.set t b)
  | [], [], _, _, _, _, _ => trivial
  | _ :: _, _ :: _, 0, _, _, h, hr => ⟨hr, h.2⟩
  | _ :: _, _ :: _, t + 1, _, _, h, hr => ⟨h.1, lpw_set t h.2 hr⟩
theorem lpw_mk {R : AV → AV → Prop} (h0 : R .any .any) (n : Nat) {l k : List (Nat × AV)} (h : PPw R l k) : LPw R (mk n l) (mk n k) := by
  have key : ∀ (l k : List (Nat × AV)) (r q : List AV), PPw R l k → LPw R r q → LPw R (l.foldl (fun r p => r.set p.1 p.2) r) (k.foldl (fun r p => r.set p.1 p.2) q) := by
    intro l
    induction l with
    | nil => intro k r q hp hr; cases k with | nil => exact hr | cons => exact hp.elim
    | cons p l ih =>
      intro k r q hp hr
      cases k with
      | nil => exact hp.elim
      | cons p' k =>
        obtain ⟨h1, h2, h3⟩ := hp
        rw [List.foldl_cons, List.foldl_cons]
        exact ih k _ _ h3 (by rw [h1]; exact lpw_set _ hr h2)
  refine key l k _ _ h ?_
  induction n with
  | zero => exact trivial
  | succ n ih => rw [List.replicate_succ]; exact ⟨h0, ih⟩
/-- Slots, list by list. -/
def QPw (R : AV → AV → Prop) : List Slot → List Slot → Prop
  | [], [] => True
  | s :: l, t :: k => SPw R s t ∧ QPw R l k
  | _, _ => False
theorem QPw.spec {R : AV → AV → Prop} : ∀ {l k : List Slot}, QPw R l k → l.length = k.length ∧ ∀ (i : Nat) s t, l[i]? = some s → k[i]? = some t → SPw R s t
  | [], [], _ => ⟨rfl, by simp⟩
  | _ :: _, _ :: _, h => by
    obtain ⟨h1, h2⟩ := QPw.spec h.2
    refine ⟨by simp [h1], fun i s t hs ht => ?_⟩
    cases i with
    | zero => simp at hs ht; subst hs ht; exact h.1
    | succ i => exact h2 i s t (by simpa using hs) (by simpa using ht)

def AllOk (P : Program) : List (Oper × Rec) → Prop
  | [] => True
  | p :: l => (p.2.skip = false → AStep P p.1 p.2.rd p.2.bl p.2.r p.2.eff) ∧ AllOk P l
theorem AllOk.get {P : Program} : ∀ {l : List (Oper × Rec)}, AllOk P l → ∀ (i : Nat) (o : Oper) (c : Rec), l[i]? = some (o, c) → c.skip = false → AStep P o c.rd c.bl c.r c.eff
  | _ :: _, h, 0, o, c, hi => by simp at hi; subst hi; exact h.1
  | _ :: _, h, i + 1, o, c, hi => AllOk.get h.2 i o c (by simpa using hi)
  | [], _, _, _, _, hi => by simp at hi

section
variable {P : Program} {X : Nat → Nat → Prop} {φ0 : Nat → FSlot} {w0 : World} {Q : Exit → AS → Prop} {s : AS} {c : Code}

/-- What a region's facts come to. -/
def Met (ops : Array Oper) (recs : List Rec) (s : AS) : Prop :=
  (runL (ops.toList.zip recs) s.regs s.own).1 = recs.map (fun c => (c.rd.map (·.2), c.bl.map (·.2))) ∧ (ops.toList.length == recs.length && lookOK ops (ops.toList.zip recs) s.regs.length) = true
def after (ops : Array Oper) (recs : List Rec) (s : AS) : AS := ⟨(runL (ops.toList.zip recs) s.regs s.own).2.1, (runL (ops.toList.zip recs) s.regs s.own).2.2⟩

theorem facts_of {ops : Array Oper} {recs : List Rec} (hall : AllOk P (ops.toList.zip recs)) (hm : Met ops recs s) : Facts P ops (ops.toList.zip recs) s.regs s.own (after ops recs s).regs (after ops recs s).own := by
  obtain ⟨h1, h2⟩ := hm
  rw [Bool.and_eq_true] at h2
  obtain ⟨h2, h3⟩ := h2
  have hl : ops.toList.length = recs.length := by simpa using h2
  refine ⟨by rw [List.map_fst_zip (by omega)], hall.get, ?_, h3⟩
  have e : (ops.toList.zip recs).map (fun p => (p.2.rd.map (·.2), p.2.bl.map (·.2))) = recs.map (fun c => (c.rd.map (·.2), c.bl.map (·.2))) := by
    have : (fun p : Oper × Rec => (p.2.rd.map (·.2), p.2.bl.map (·.2))) = (fun c : Rec => (c.rd.map (·.2), c.bl.map (·.2))) ∘ Prod.snd := rfl
    rw [this, ← List.map_map, List.map_snd_zip (by omega)]
  rw [e, ← h1]
  rfl
theorem awp_reg {id : Nat} {ops : Array Oper} {y : Code} (recs : List Rec) (hm : Met ops recs s) (hall : AllOk P (ops.toList.zip recs)) (h : AWp P X φ0 w0 y Q (after ops recs s)) : AWp P X φ0 w0 (.seq (.region id ops false) y) Q s := awp_seq (awp_region _ (facts_of hall hm) h)
theorem awp_regd {id : Nat} {ops : Array Oper} {y : Code} (recs : List Rec) (hf : P.follows .mixedOrders = true) (hm : Met ops recs s) (ho : orderOK (ops.toList.zip recs) [] [] = true) (hall : AllOk P (ops.toList.zip recs)) (h : AWp P X φ0 w0 y Q (after ops recs s)) : AWp P X φ0 w0 (.seq (.region id ops true) y) Q s := awp_seq (awp_drawn hf _ (facts_of hall hm) ho h)
theorem awp_reg1 {id : Nat} {ops : Array Oper} (recs : List Rec) (hm : Met ops recs s) (hall : AllOk P (ops.toList.zip recs)) (h : Q .normal (after ops recs s)) : AWp P X φ0 w0 (.region id ops false) Q s := awp_region _ (facts_of hall hm) h
theorem awp_regd1 {id : Nat} {ops : Array Oper} (recs : List Rec) (hf : P.follows .mixedOrders = true) (hm : Met ops recs s) (ho : orderOK (ops.toList.zip recs) [] [] = true) (hall : AllOk P (ops.toList.zip recs)) (h : Q .normal (after ops recs s)) : AWp P X φ0 w0 (.region id ops true) Q s := awp_drawn hf _ (facts_of hall hm) ho h

theorem awp_if {x y : Code} {o : Operand} (b : Bool) {t : Bool} (hb : b = t) (hc : opd s.regs o = .lit (.bool b)) (h : AWp P X φ0 w0 (bif t then x else y) Q s) : AWp P X φ0 w0 (.cond o x y) Q s := by
  subst hb
  refine awp_cond hc ?_
  cases b <;> exact h

/-- Where ways meet: whatever G holds of, in the state st. -/
theorem awp_join {τ : Type} {x y : Code} (G : τ → Prop) (st : τ → AS) (hrest : ∀ t, G t → AWp P X φ0 w0 y Q (st t)) (hx : AWp P X φ0 w0 x (thenA (fun s' => ∃ t, G t ∧ Mor X φ0 w0 s' (st t)) Q) s) : AWp P X φ0 w0 (.seq x y) Q s := fun φ a w hs =>
  wp_seq (wp_mono (hx φ a w hs) fun e a w ⟨φ', s', hs', hq⟩ => by
    cases e with
    | normal =>
      obtain ⟨t, hg, hm⟩ := hq
      obtain ⟨φ'', h1⟩ := hm φ' a w hs'
      exact hrest t hg φ'' a w h1
    | _ => exact ⟨φ', s', hs', hq⟩)

theorem mor_mask {n : Nat} (l : List (Nat × AV)) (hn : s.regs.length = n) (h : maskL s.regs (mk n l) = mk n l) : Mor X φ0 w0 s ⟨mk n l, s.own⟩ := fun φ _ _ hs =>
  ⟨φ, hs.less (maskL_less h (by rw [hn, mk_length]))⟩
/-- Registers and names told anew: rho names the old ones that stay; sel: what they hold. -/
theorem mor_to {n : Nat} (l : List (Nat × AV)) (ρ : List Nat) (sel : List Slot) {l' : List (Nat × AV)} {own' : List Slot} {k0 : Nat} (h0 : ∀ n, k0 ≤ n → φ0 n = .unused) (hmask : maskL s.regs (mk n l) = mk n l) (hsel : (s.regs.length == n && decide ρ.Nodup && ((List.range k0).all fun i => ρ[i]? == some i)) = true) (hs : ρ.map s.slot = sel)
    (hr : PPw (RW fun n n' => ρ[n']? = some n) l l') (ho : QPw (RW fun n n' => ρ[n']? = some n) sel own') : Mor X φ0 w0 s ⟨mk n l', own'⟩ := by
  simp only [Bool.and_eq_true, beq_iff_eq, decide_eq_true_eq] at hsel
  obtain ⟨⟨hn, hnd⟩, hid⟩ := hsel
  obtain ⟨q1, q2⟩ := ho.spec
  refine Mor.trans (mor_mask l hn hmask) (mor_ren ρ hnd h0 (fun i hi => ?_) (lpw_mk (.any _) n hr) ?_ fun n n' s2 e1 e2 => ?_)
  · have := List.all_eq_true.1 hid i (by simpa using hi)
    simpa using this
  · rw [← q1, ← hs]; simp
  · refine q2 n' _ s2 ?_ e2
    rw [← hs, List.getElem?_map, e1]
    rfl
end
end Go.Proofs.Ytenpbiineblcjaa
