/-
  The engine, part D: code, loops, functions and their contracts. Plain definitions and laws; no conditions.
-/
import Derived.Test.YtenpbiineblcjaaEngC
import Derived.Scope
import Derived.LoopN
namespace Go.Proofs.Ytenpbiineblcjaa
open Go.RowKit

section
variable (P : Program) (X : Nat → Nat → Prop) (φ0 : Nat → FSlot) (w0 : World)

/-- A code over abstract states. -/
def conc (Q : Exit → AS → Prop) : Exit → Act → World → Prop := fun e a w => ∃ φ s, Sim X φ0 w0 φ s a w ∧ Q e s
def AWp (c : Code) (Q : Exit → AS → Prop) (s : AS) : Prop := ∀ φ a w, Sim X φ0 w0 φ s a w → c.wp P (conc X φ0 w0 Q) a w
def thenA (next : AS → Prop) (Q : Exit → AS → Prop) : Exit → AS → Prop
  | .normal, s => next s
  | e, s => Q e s
def blockA (id : Nat) (Q : Exit → AS → Prop) : Exit → AS → Prop
  | .exit id', s => if id' = id then Q .normal s else Q (.exit id') s
  | e, s => Q e s
def ARounds (c : Code) (Q : Exit → AS → Prop) (n : Nat) (s : AS) : Prop := ∀ φ a w, Sim X φ0 w0 φ s a w → Code.rounds P c (conc X φ0 w0 Q) n a w
end

section
variable {P : Program} {X : Nat → Nat → Prop} {φ0 : Nat → FSlot} {w0 : World} {Q : Exit → AS → Prop} {s : AS}

theorem awp_skip (h : Q .normal s) : AWp P X φ0 w0 .skip Q s := fun φ _ _ hs => wp_skip ⟨φ, s, hs, h⟩
theorem awp_exit {id : Nat} (h : Q (.exit id) s) : AWp P X φ0 w0 (.exit id) Q s := fun φ _ _ hs => wp_exit ⟨φ, s, hs, h⟩
theorem awp_ret (h : Q .ret s) : AWp P X φ0 w0 .ret Q s := fun φ _ _ hs => wp_ret ⟨φ, s, hs, h⟩
theorem awp_label {l : Nat} (h : Q .normal s) : AWp P X φ0 w0 (.label l) Q s := fun φ _ _ hs => wp_label ⟨φ, s, hs, h⟩
theorem awp_seq {x y : Code} (h : AWp P X φ0 w0 x (thenA (AWp P X φ0 w0 y Q) Q) s) : AWp P X φ0 w0 (.seq x y) Q s := fun φ a w hs =>
  wp_seq (wp_mono (h φ a w hs) fun e a w ⟨φ', s', hs', hq⟩ => by
    cases e with
    | normal => exact hq φ' a w hs'
    | _ => exact ⟨φ', s', hs', hq⟩)
theorem awp_cond {c : Operand} {x y : Code} {t : Bool} (hc : opd s.regs c = .lit (.bool t)) (h : AWp P X φ0 w0 (if t then x else y) Q s) : AWp P X φ0 w0 (.cond c x y) Q s := fun φ a w hs => by
  have hv := hs.opd c
  rw [hc] at hv
  cases hv' : a.eval c with
  | bool b => rw [hv'] at hv; cases hv; exact wp_cond hv' (h φ a w hs)
  | _ => rw [hv'] at hv; cases hv
theorem awp_true {c : Operand} {x y : Code} (hc : opd s.regs c = .lit (.bool true)) (h : AWp P X φ0 w0 x Q s) : AWp P X φ0 w0 (.cond c x y) Q s := awp_cond hc h
theorem awp_false {c : Operand} {x y : Code} (hc : opd s.regs c = .lit (.bool false)) (h : AWp P X φ0 w0 y Q s) : AWp P X φ0 w0 (.cond c x y) Q s := awp_cond hc h
theorem awp_block {id : Nat} {c : Code} (h : AWp P X φ0 w0 c (blockA id Q) s) : AWp P X φ0 w0 (.block id c) Q s := fun φ a w hs =>
  wp_block (wp_mono (h φ a w hs) fun e a w ⟨φ', s', hs', hq⟩ => by
    cases e with
    | exit id' =>
      simp only [Exit.inBlock, blockA] at hq ⊢
      split
      · rw [if_pos (by assumption)] at hq; exact ⟨φ', s', hs', hq⟩
      · rw [if_neg (by assumption)] at hq; exact ⟨φ', s', hs', hq⟩
    | _ => exact ⟨φ', s', hs', hq⟩)
theorem awp_loop {c : Code} (n : Nat) (h : ARounds P X φ0 w0 c Q n s) : AWp P X φ0 w0 (.loop c) Q s := fun φ a w hs => wp_loop_rounds n (h φ a w hs)
theorem around {c : Code} {n : Nat} (h : AWp P X φ0 w0 c (thenA (ARounds P X φ0 w0 c Q n) Q) s) : ARounds P X φ0 w0 c Q (n + 1) s := fun φ a w hs =>
  wp_mono (h φ a w hs) fun e a w ⟨φ', s', hs', hq⟩ => by
    cases e with
    | normal => exact hq φ' a w hs'
    | _ => exact ⟨φ', s', hs', hq⟩
/-- A loop by induction: F n x says that what the extracted function makes of x in n rounds is the result. -/
theorem awp_ind {τ : Type} {c : Code} (F : Nat → τ → Prop) (st : τ → AS) (base : ∀ x, ¬ F 0 x) (step : ∀ n, (∀ x, F n x → ARounds P X φ0 w0 c Q n (st x)) → ∀ x, F (n + 1) x → AWp P X φ0 w0 c (thenA (ARounds P X φ0 w0 c Q n) Q) (st x)) (n : Nat) (x : τ) (h : F n x) : AWp P X φ0 w0 (.loop c) Q (st x) := by
  refine awp_loop n ?_
  induction n generalizing x with
  | zero => exact absurd h (base x)
  | succ n ih => exact around (step n ih x h)
theorem awp_region {id : Nat} {ops : Array Oper} (l : List (Oper × Rec)) {regs' : List AV} {own' : List Slot} (f : Facts P ops l s.regs s.own regs' own') (h : Q .normal ⟨regs', own'⟩) : AWp P X φ0 w0 (.region id ops false) Q s := fun φ a w hs => by
  have hlen : l.length = ops.size := by
    have := congrArg List.length f.hops
    simpa using this.symm
  refine wp_region ?_
  have := region_text f ops.size 0 (by omega) φ a w (by
    have := RInv.start (l := l) (regs := s.regs) (own := s.own) hs
    simpa using this) (Q := conc X φ0 w0 Q) fun φ' a' w' hs' => ⟨φ', _, hs', h⟩
  rwa [← List.range_eq_range'] at this
theorem Sim.drawn {φ : Nat → FSlot} {a : Act} {w : World} (h : Sim X φ0 w0 φ s a w) : Sim X φ0 w0 φ s a { w with drawn := w.drawn + 1 } := by
  have e : Evo X φ w φ { w with drawn := w.drawn + 1 } := ⟨rfl, rfl, rfl, Nat.le_refl _, fun _ _ _ => rfl, fun _ h => .inl h, fun b off hd => ⟨⟨hd.lt, hd.hid, hd.own, hd.tok⟩, rfl⟩, fun _ h => h, fun _ _ h => .inl h, fun _ _ h => .inr ⟨h, fun _ _ _ => rfl⟩⟩
  exact ⟨h.defers, h.size, fun t v hv => (h.regs t v hv).evo e, ⟨fun n => (h.env.slot n).evo e rfl (fun _ _ => rfl), h.env.distinct, h.env.hid⟩, h.evo.trans e⟩
theorem awp_drawn {id : Nat} {ops : Array Oper} (hm : P.follows .mixedOrders = true) (l : List (Oper × Rec)) {regs' : List AV} {own' : List Slot} (f : Facts P ops l s.regs s.own regs' own') (hord : orderOK l [] [] = true) (h : Q .normal ⟨regs', own'⟩) : AWp P X φ0 w0 (.region id ops true) Q s := fun φ a w hs => by
  refine wp_region_any hm (region_drawn f hord (Q := conc X φ0 w0 Q) (fun φ' a' w' hs' => ⟨φ', _, hs', h⟩) ops.size _ (by simp) ?_ ?_ φ a _ ?_)
  · exact Nat.le_trans List.countP_le_length (by simp)
  · intro i o c hi hl
    simp only [Array.getD_eq_getD_getElem?, Array.getElem?_replicate] at hl
    split at hl <;> simp at hl
  · have := RInv.start (l := l) (regs := s.regs) (own := s.own) hs.drawn
    have e : (fun j => (Array.replicate ops.size false).getD j false) = fun _ => false := by
      funext j
      simp only [Array.getD_eq_getD_getElem?, Array.getElem?_replicate]
      split <;> rfl
    rw [e]
    exact this

/-- A state that says less. -/
def Less (a b : AV) : Prop := ∀ (X : Nat → Nat → Prop) (φ : Nat → FSlot) (w : World) (v : Value), RelV X φ w a v → RelV X φ w b v
theorem Less.rfl {a : AV} : Less a a := fun _ _ _ _ h => h
theorem Less.any {a : AV} : Less a .any := fun _ _ _ v _ => .any v
def LessL : List AV → List AV → Prop
  | [], [] => True
  | a :: l, b :: k => Less a b ∧ LessL l k
  | _, _ => False
theorem LessL.length : ∀ {l k : List AV}, LessL l k → l.length = k.length
  | [], [], _ => _root_.rfl
  | _ :: _, _ :: _, h => by simp [LessL.length h.2]
theorem LessL.get : ∀ {l k : List AV}, LessL l k → ∀ (t : Nat) (b : AV), k[t]? = some b → ∃ a, l[t]? = some a ∧ Less a b
  | [], [], _, _, _, hb => by simp at hb
  | _ :: _, _ :: _, h, 0, b, hb => by simp at hb; subst hb; exact ⟨_, _root_.rfl, h.1⟩
  | _ :: _, _ :: _, h, t + 1, b, hb => by simpa using LessL.get h.2 t b (by simpa using hb)
theorem Sim.less {φ : Nat → FSlot} {a : Act} {w : World} (h : Sim X φ0 w0 φ s a w) {regs' : List AV} (hl : LessL s.regs regs') : Sim X φ0 w0 φ ⟨regs', s.own⟩ a w :=
  ⟨h.defers, h.size.trans hl.length, fun t v hv => by
    obtain ⟨u, hu, hlu⟩ := hl.get t v hv
    exact hlu _ _ _ _ (h.regs t u hu), h.env, h.evo⟩
theorem awp_less {c : Code} {regs' : List AV} (hl : LessL s.regs regs') (h : AWp P X φ0 w0 c Q ⟨regs', s.own⟩) : AWp P X φ0 w0 c Q s := fun φ a w hs => h φ a w (hs.less hl)
end

/-- Names below k alone. -/
inductive NLt (k : Nat) : AV → Prop where
  | any : NLt k .any
  | lit (v : Value) : NLt k (.lit v)
  | agg (l : List AV) (h : ∀ a ∈ l, NLt k a) : NLt k (.agg l)
  | tup (l : List AV) (h : ∀ a ∈ l, NLt k a) : NLt k (.tup l)
  | fn (f : Fn) (l c : List AV) (h : ∀ a ∈ l, NLt k a) (h' : ∀ a ∈ c, NLt k a) : NLt k (.fn f l c)
  | dat (m : Nat) (xs : List (List AV)) (h : ∀ x ∈ xs, ∀ a ∈ x, NLt k a) : NLt k (.dat m xs)
  | dptr (cs : List AV) (i : Nat) (h : ∀ a ∈ cs, NLt k a) : NLt k (.dptr cs i)
  | ref (n m j i : Nat) (h : n < k) : NLt k (.ref n m j i)
  | own (n m j len : Nat) (h : n < k) : NLt k (.own n m j len)
  | acc (n : Nat) (ty : TypeId) (m : Nat) (xs : List (List AV)) (h : n < k) (h' : ∀ x ∈ xs, ∀ a ∈ x, NLt k a) : NLt k (.acc n ty m xs)

section
variable {X X' : Nat → Nat → Prop} {φ φ' : Nat → FSlot} {w : World}
theorem DatOK.env {m : Nat} {xs : List (List AV)} {A : Option Addr} {len cap : Nat} {g : Nat → Nat → Value} (h : DatOK X φ w m xs A len cap g) (hd : ∀ b off, DataAt X φ w b off → DataAt X' φ' w b off) : DatOK X' φ' w m xs A len cap g :=
  ⟨h.hlen, h.hcap, h.hmost, h.hsize, fun hx => by
    obtain ⟨b, o, hA, hc⟩ := h.hcells hx
    exact ⟨b, o, hA, fun j x hj i hi => ⟨hd _ _ (hc j x hj i hi).1, (hc j x hj i hi).2⟩⟩⟩
theorem RelV.env {k : Nat} (hφ : ∀ n, n < k → φ' n = φ n) (hd : ∀ b off, DataAt X φ w b off → DataAt X' φ' w b off) {a : AV} {v : Value} (h : RelV X φ w a v) : NLt k a → RelV X' φ' w a v := by
  induction h with
  | any v => exact fun _ => .any v
  | lit v => exact fun _ => .lit v
  | agg l vs hs _ ih =>
    intro hn
    cases hn with
    | agg _ hn => exact .agg l vs hs fun i a hi => ih i a hi (hn a (List.mem_of_getElem? hi))
  | tup l vs hs _ ih =>
    intro hn
    cases hn with
    | tup _ hn => exact .tup l vs hs fun i a hi => ih i a hi (hn a (List.mem_of_getElem? hi))
  | fn f first cap us vs hu hv _ _ ih1 ih2 =>
    intro hn
    cases hn with
    | fn _ _ _ h1 h2 => exact .fn f first cap us vs hu hv (fun i a hi => ih1 i a hi (h1 a (List.mem_of_getElem? hi))) (fun i a hi => ih2 i a hi (h2 a (List.mem_of_getElem? hi)))
  | dat m xs A len cap g ok _ ih =>
    intro hn
    cases hn with
    | dat _ _ hn => exact .dat m xs A len cap g (ok.env hd) fun j x hj i a hi => ih j x hj i a hi (hn x (List.mem_of_getElem? hj) a (List.mem_of_getElem? hi))
  | dptr cs i b o g hc _ ih =>
    intro hn
    cases hn with
    | dptr _ _ hn => exact .dptr cs i b o g (fun k hk => ⟨hd _ _ (hc k hk).1, (hc k hk).2⟩) fun j a hj => ih j a hj (hn a (List.mem_of_getElem? hj))
  | ref n m j i A hn0 h =>
    intro hn
    cases hn with
    | ref _ _ _ _ hlt => exact .ref n m j i A (by rw [hφ n hlt]; exact hn0) (by rw [hφ n hlt]; exact h)
  | own n m j len A cap hc hm hn0 h =>
    intro hn
    cases hn with
    | own _ _ _ _ hlt => exact .own n m j len A cap hc hm (by rw [hφ n hlt]; exact hn0) (by rw [hφ n hlt]; exact h)
  | acc n ty m xs A len cap g ok _ hn0 ht ih =>
    intro hn
    cases hn with
    | acc _ _ _ _ hlt hn => exact .acc n ty m xs A len cap g (ok.env hd) (fun j x hj i a hi => ih j x hj i a hi (hn x (List.mem_of_getElem? hj) a (List.mem_of_getElem? hi))) (by rw [hφ n hlt]; exact hn0) (by rw [hφ n hlt]; exact ht)
end

/-- What slots must be of which only the names below k are kept. -/
inductive SNLt (k : Nat) : Slot → Prop where
  | unused : SNLt k .unused
  | dead : SNLt k .dead
  | tok : SNLt k .tok
  | own (m : Nat) (xs : List (List AV)) (h : ∀ x ∈ xs, ∀ a ∈ x, NLt k a) : SNLt k (.own m xs)

/-- The contract of a function: over abstract arguments and blocks. -/
def Spec (P : Program) (f : FuncId) (args : List AV) (σ : List Slot) (res : AV) (σ' : List Slot) : Prop :=
  ∀ (X : Nat → Nat → Prop) (φ : Nat → FSlot) (w : World) (vals : Array Value), vals.size = args.length → (∀ i v, args[i]? = some v → RelV X φ w v (vals.getD i undef)) → EnvOK X φ w (fun n => σ.getD n .unused) →
    Calls P f vals w fun e w' => ∃ v φ', e = .returned v ∧ RelV X φ' w' res v ∧ EnvOK X φ' w' (fun n => σ'.getD n .unused) ∧ Evo X φ w φ' w'

def resGet (a : Act) : ResultVar → Sem Value
  | .tmp t => pure (a.tmps.getD t undef)
  | .cell ad t => do loadVar t (← asAddr (a.tmps.getD ad undef))
theorem results_eq (fn : Func) (a : Act) : results fn a.tmps = (fn.results.mapM (resGet a)) >>= fun vs => pure (if h : vs.size = 1 then vs[0] else .tuple vs) := by
  unfold results
  congr 1

/-- The results of a function. -/
def ResOK (P : Program) (s : AS) (rv : ResultVar) (v : AV) : Prop :=
  ∀ (X : Nat → Nat → Prop) (φ0 : Nat → FSlot) (w0 : World) (φ : Nat → FSlot) (a : Act) (w : World), Sim X φ0 w0 φ s a w → ∃ u, (resGet a rv).run P w = .ok u w ∧ RelV X φ w v u
def ResL (P : Program) (s : AS) : List ResultVar → List AV → Prop
  | [], [] => True
  | r :: l, v :: k => ResOK P s r v ∧ ResL P s l k
  | _, _ => False

theorem resOK_tmp {P : Program} {s : AS} {t : Tmp} {v : AV} (h : s.regs.getD t .any = v) : ResOK P s (.tmp t) v := fun _ _ _ _ _ _ hs => ⟨_, rfl, h ▸ hs.opd (.tmp t)⟩

theorem mapM_run {P : Program} {α : Type} (f : α → Sem Value) (w : World) : ∀ (l : List α) (us : List Value), l.length = us.length → (∀ (i : Nat) x u, l[i]? = some x → us[i]? = some u → (f x).run P w = .ok u w) → (l.mapM f).run P w = .ok us w
  | [], [], _, _ => rfl
  | x :: l, u :: us, hl, h => by
    have h0 := h 0 x u rfl rfl
    have ih := mapM_run f w l us (by simpa using hl) fun i y v hy hv => h (i + 1) y v (by simpa using hy) (by simpa using hv)
    simp only [List.mapM_cons, Sem.run_bind, h0, Result.andThen_ok, ih]
    rfl
  | [], _ :: _, hl, _ => by simp at hl
  | _ :: _, [], hl, _ => by simp at hl

/-- One value, or a tuple. -/
def resOf : List AV → AV
  | [v] => v
  | l => .tup l

theorem results_run {P : Program} {X : Nat → Nat → Prop} {φ0 φ : Nat → FSlot} {w0 w : World} {s : AS} {a : Act} (hs : Sim X φ0 w0 φ s a w) (fn : Func) (vs : List AV) (h : ResL P s fn.results.toList vs) : ∃ v, (results fn a.tmps).run P w = .ok v w ∧ RelV X φ w (resOf vs) v := by
  have key : ∀ (l : List ResultVar) (vs : List AV), ResL P s l vs → ∃ us : List Value, us.length = vs.length ∧ l.length = us.length ∧ (∀ (i : Nat) r u, l[i]? = some r → us[i]? = some u → (resGet a r).run P w = .ok u w) ∧ (∀ (i : Nat) v u, vs[i]? = some v → us[i]? = some u → RelV X φ w v u) := by
    intro l
    induction l with
    | nil =>
      intro vs h
      cases vs with
      | nil => exact ⟨[], rfl, rfl, by simp, by simp⟩
      | cons => exact h.elim
    | cons r l ih =>
      intro vs h
      cases vs with
      | nil => exact h.elim
      | cons v k =>
        obtain ⟨u, hu, hr⟩ := h.1 X φ0 w0 φ a w hs
        obtain ⟨us, h1, h2, h3, h4⟩ := ih k h.2
        refine ⟨u :: us, by simp [h1], by simp [h2], fun i r' u' hr' hu' => ?_, fun i v' u' hv' hu' => ?_⟩
        · cases i with
          | zero => simp at hr' hu'; subst hr' hu'; exact hu
          | succ i => exact h3 i r' u' (by simpa using hr') (by simpa using hu')
        · cases i with
          | zero => simp at hv' hu'; subst hv' hu'; exact hr
          | succ i => exact h4 i v' u' (by simpa using hv') (by simpa using hu')
  obtain ⟨us, h1, h2, h3, h4⟩ := key _ vs h
  have hm := mapM_run (P := P) (resGet a) w fn.results.toList us h2 h3
  have hrun : (results fn a.tmps).run P w = .ok (if h : us.toArray.size = 1 then us.toArray[0] else .tuple us.toArray) w := by
    rw [results_eq, ← Array.toArray_toList (xs := fn.results), List.mapM_toArray]
    simp only [Sem.run_bind]
    have : (Functor.map List.toArray (fn.results.toList.mapM (resGet a))).run P w = .ok us.toArray w := by
      rw [map_eq_pure_bind]
      simp only [Sem.run_bind, hm, Result.andThen_ok]
      rfl
    rw [this]
    simp only [Result.andThen_ok]
    rfl
  refine ⟨_, hrun, ?_⟩
  have tup : RelV X φ w (.tup vs) (.tuple us.toArray) := .tup vs _ (by simp [h1]) fun i v hv => by
    have : i < us.length := by rw [h1]; exact (List.getElem?_eq_some_iff.1 hv).1
    have := h4 i v _ hv (List.getElem?_eq_getElem this)
    simpa [Array.getD_eq_getD_getElem?, List.getElem?_eq_getElem ‹i < us.length›] using this
  cases vs with
  | nil =>
    cases us with
    | nil => simpa [resOf] using tup
    | cons => simp at h1
  | cons v vs =>
    cases us with
    | nil => simp at h1
    | cons u us =>
      cases vs with
      | nil =>
        cases us with
        | nil => simpa [resOf] using h4 0 v u rfl rfl
        | cons => simp at h1
      | cons v' vs =>
        cases us with
        | nil => simp at h1
        | cons u' us => simpa [resOf] using tup

/-- The end of a function: its results, and the blocks that its caller gave it. -/
structure Fin (P : Program) (fn : Func) (k : Nat) (res : AV) (σ' : List Slot) (s : AS) : Prop where
  vals : ∃ vs, ResL P s fn.results.toList vs ∧ res = resOf vs
  names : NLt k res
  len : σ'.length ≤ k
  slots : ∀ n, n < k → σ'.getD n .unused = s.slot n ∧ SNLt k (s.slot n)

def finA (P : Program) (fn : Func) (k : Nat) (res : AV) (σ' : List Slot) : Exit → AS → Prop
  | .normal, s | .ret, s => Fin P fn k res σ' s
  | _, _ => False

theorem spec_of_awp {P : Program} {f : FuncId} {fn : Func} {c : Code} (hf : P.funcs[f]? = some fn) (hb : fn.body = some c) {args : List AV} {σ : List Slot} {res : AV} {σ' : List Slot} (k : Nat) (hσ : σ.length ≤ k)
    (h : ∀ X φ0 w0, (∀ n, σ.length ≤ n → φ0 n = .unused) → AWp P X φ0 w0 c (finA P fn k res σ') ⟨args ++ List.replicate (fn.ntmps - args.length) .any, σ⟩) : Spec P f args σ res σ' := by
  intro X φ w vals hsz hargs henv
  have hφ0 : ∀ n, σ.length ≤ n → φ n = .unused := fun n hn => by
    have := henv.slot n
    simp only [List.getD_eq_getElem?_getD, List.getElem?_eq_none hn, Option.getD_none] at this
    exact this
  refine calls_of_wp hf hb (wp_mono (h X φ w hφ0 φ { tmps := vals ++ Array.replicate (fn.ntmps - vals.size) undef, defers := [] } w ⟨rfl, by simp [hsz], fun t v hv => ?_, henv, Evo.refl⟩) fun e a w' ⟨φ', s, hs, hq⟩ => ?_)
  · by_cases ht : t < args.length
    · simp only [List.getElem?_append_left ht] at hv
      have := hargs t v hv
      simp only [Array.getD_eq_getD_getElem?] at this ⊢
      rwa [Array.getElem?_append_left (by omega)]
    · simp only [List.getElem?_append_right (Nat.le_of_not_lt ht), List.getElem?_replicate] at hv
      split at hv
      · cases hv; exact .any _
      · cases hv
  · have fin : ∀ (hq : Fin P fn k res σ' s), ∃ v, (results fn a.tmps).run P w' = .ok v w' ∧ ∃ v' φ'', Ending.returned v = .returned v' ∧ RelV X φ'' w' res v' ∧ EnvOK X φ'' w' (fun n => σ'.getD n .unused) ∧ Evo X φ w φ'' w' := by
      intro hq
      obtain ⟨vs, hvs, rfl⟩ := hq.vals
      obtain ⟨v, hv, hr⟩ := results_run hs fn vs hvs
      refine ⟨v, hv, v, fun n => if n < k then φ' n else .unused, rfl, ?_, ⟨fun n => ?_, fun n n' b h1 h2 => ?_, hs.env.hid⟩, ?_⟩
      · refine hr.env (k := k) (fun n hn => by simp [hn]) (fun b off hd => ⟨hd.lt, hd.hid, fun n hn => ?_, fun n L hn => ?_⟩) hq.names
        · split at hn
          · exact hd.own n hn
          · cases hn
        · split at hn
          · exact hd.tok n L hn
          · cases hn
      · by_cases hn : n < k
        · obtain ⟨h1, h2⟩ := hq.slots n hn
          (try dsimp only)
          rw [h1]
          have h3 := hs.env.slot n
          generalize s.slot n = sl at h2 h3
          cases h2 with
          | unused => show (if n < k then φ' n else _) = _; rw [if_pos hn]; exact h3
          | dead => show (if n < k then φ' n else _) = _; rw [if_pos hn]; exact h3
          | tok =>
            obtain ⟨t, ht, ht'⟩ := h3
            exact ⟨t, by simp only [hn, if_true]; exact ht, ht'⟩
          | own m xs hx =>
            obtain ⟨b, hb', ⟨cur, ty, c1, c2, c3, c4⟩, c5⟩ := h3
            refine ⟨b, by simp only [hn, if_true]; exact hb', ⟨cur, ty, c1, c2, c3, fun j x hj i a hi => ?_⟩, c5⟩
            refine (c4 j x hj i a hi).env (k := k) (fun n hn => by simp [hn]) (fun b off hd => ⟨hd.lt, hd.hid, fun n hn => ?_, fun n L hn => ?_⟩) (hx x (List.mem_of_getElem? hj) a (List.mem_of_getElem? hi))
            · split at hn
              · exact hd.own n hn
              · cases hn
            · split at hn
              · exact hd.tok n L hn
              · cases hn
        · have e : σ'.getD n .unused = .unused := by
            have := hq.len
            simp [List.getElem?_eq_none (show σ'.length ≤ n by omega)]
          (try dsimp only)
          rw [e]
          show (if n < k then φ' n else _) = _
          rw [if_neg hn]
      · (try dsimp only at h1 h2)
        split at h1
        · split at h2
          · exact hs.env.distinct n n' b h1 h2
          · rcases h2 with e | ⟨L, e⟩ <;> cases e
        · rcases h1 with e | ⟨L, e⟩ <;> cases e
      · have ev := hs.evo
        refine ⟨ev.os, ev.tape, ev.output, ev.size, ev.blk, fun b ⟨n, hb'⟩ => ?_, fun b off hd => ?_, fun n hn => ?_, fun n b hn => ?_, fun n t hn => ?_⟩
        · (try dsimp only at hb')
          split at hb'
          · exact ev.new b ⟨n, hb'⟩
          · rcases hb' with e | ⟨L, e⟩ <;> cases e
        · obtain ⟨h1, h2⟩ := ev.dat b off hd
          refine ⟨⟨h1.lt, h1.hid, fun n hn => ?_, fun n L hn => ?_⟩, h2⟩
          · split at hn
            · exact h1.own n hn
            · cases hn
          · split at hn
            · exact h1.tok n L hn
            · cases hn
        all_goals
          have hnk : n < k := by
            rcases Nat.lt_or_ge n k with h | h
            · exact h
            · exfalso
              have := henv.slot n
              simp only [List.getD_eq_getElem?_getD, List.getElem?_eq_none (show σ.length ≤ n by omega), Option.getD_none] at this
              have h' : φ n = .unused := this
              rw [h'] at hn
              cases hn
          simp only [hnk, if_true]
        · exact ev.dead n hn
        · exact ev.own n b hn
        · exact ev.tok n t hn
    cases e with
    | normal => exact ⟨hs.defers, fin hq⟩
    | ret => exact ⟨hs.defers, fin hq⟩
    | exit => exact hq.elim
    | goto => exact hq.elim
    | panic => exact hq.elim
    | outgrown => exact hq.elim
end Go.Proofs.Ytenpbiineblcjaa
