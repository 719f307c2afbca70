/-
  The engine, part E: the operations that only compute, and those that read memory. Plain laws; no conditions.
-/
import Derived.Test.YtenpbiineblcjaaEngD
import Derived.Laws.StructEq
namespace Go.Proofs.Ytenpbiineblcjaa
open Go.RowKit

section
variable {P : Program} {o : Oper} {rd : List (Operand × AV)} {bl : List (Nat × Slot)} {r : AV}

/-- An operation that yields a value and leaves the world alone. -/
theorem astep_val (h : ∀ (X : Nat → Nat → Prop) (φ : Nat → FSlot) (a : Act) (w : World), (∀ p ∈ rd, RelV X φ w p.2 (a.eval p.1)) → (∀ p ∈ bl, SlotOK X φ w p.1 p.2) → ∃ v, (execOp a.eval o).run P w = .ok (.value v) w ∧ RelV X φ w r v) : AStep P o rd bl r [] := by
  intro X φ a w hr hb hd _ _ next Q k
  obtain ⟨v, h1, h2⟩ := h X φ a w hr hb
  unfold Oper.wp
  rw [h1]
  exact k v φ w h2 (by simp) hd (fun _ _ => rfl) (fun _ _ _ => rfl) Evo.refl

theorem rel_lit {X : Nat → Nat → Prop} {φ : Nat → FSlot} {w : World} {u v : Value} (h : RelV X φ w (.lit u) v) : v = u := by cases h; rfl

theorem astep_move {x : Operand} {v : AV} (h : o.op = .move x) : AStep P o [(x, v)] [] v [] := astep_val fun X φ a w hr _ => ⟨a.eval x, by simp [execOp, h], hr (x, v) (by simp)⟩
theorem astep_assign {x : Operand} {v : AV} (h : o.op = .assign x) : AStep P o [(x, v)] [] v [] := astep_val fun X φ a w hr _ => ⟨a.eval x, by simp [execOp, h], hr (x, v) (by simp)⟩
theorem astep_pick {c x y : Operand} {b : Bool} {u v : AV} (h : o.op = .pick c x y) (hv : (bif b then u else v) = r) : AStep P o [(c, .lit (.bool b)), (x, u), (y, v)] [] r [] := astep_val fun X φ a w hr _ => by
  have h1 : a.eval c = .bool b := rel_lit (hr (c, .lit (.bool b)) (by simp))
  have h2 := hr (x, u) (by simp)
  have h3 := hr (y, v) (by simp)
  subst hv
  refine ⟨if b then a.eval x else a.eval y, ?_, ?_⟩
  · simp [execOp, h, h1, asBool]
  · cases b
    · exact h3
    · exact h2

/-- What the operators make of two integers. -/
def binI : BinOp → IntKind → Int → Int → Option Value
  | .add, k, a, b => some (.int k (k.wrap (a + b)))
  | .sub, k, a, b => some (.int k (k.wrap (a - b)))
  | .mul, k, a, b => some (.int k (k.wrap (a * b)))
  | .eql, _, a, b => some (.bool (a == b))
  | .neq, _, a, b => some (.bool (a != b))
  | .lss, _, a, b => some (.bool (a < b))
  | .leq, _, a, b => some (.bool (a ≤ b))
  | .gtr, _, a, b => some (.bool (a > b))
  | .geq, _, a, b => some (.bool (a ≥ b))
  | _, _, _, _ => none
theorem astep_bin {op : BinOp} {t t' : TypeId} {x y : Operand} {k : IntKind} {a b : Int} {v : Value} (h : o.op = .binOp op t x y t') (hv : binI op k a b = some v) : AStep P o [(x, .lit (.int k a)), (y, .lit (.int k b))] [] (.lit v) [] := astep_val fun X φ ac w hr _ => by
  have h1 : ac.eval x = .int k a := rel_lit (hr (x, .lit (.int k a)) (by simp))
  have h2 : ac.eval y = .int k b := rel_lit (hr (y, .lit (.int k b)) (by simp))
  refine ⟨v, ?_, .lit v⟩
  cases op <;> simp only [binI, Option.some.injEq] at hv <;> first | cases hv; done | (subst hv; simp [execOp, h, h1, h2, eqGuard, binOp, Op.intArith, Op.intCmp])
theorem astep_quo {t t' : TypeId} {x y : Operand} {k : IntKind} {a b : Int} (h : o.op = .binOp .quo t x y t') (hb : b ≠ 0) : AStep P o [(x, .lit (.int k a)), (y, .lit (.int k b))] [] (.lit (.int k (k.wrap (a.tdiv b)))) [] := astep_val fun X φ ac w hr _ => by
  have h1 : ac.eval x = .int k a := rel_lit (hr (x, .lit (.int k a)) (by simp))
  have h2 : ac.eval y = .int k b := rel_lit (hr (y, .lit (.int k b)) (by simp))
  exact ⟨_, by simp [execOp, h, h1, h2, eqGuard, binOp, Op.intDiv, hb], .lit _⟩
theorem astep_rem {t t' : TypeId} {x y : Operand} {k : IntKind} {a b : Int} (h : o.op = .binOp .rem t x y t') (hb : b ≠ 0) : AStep P o [(x, .lit (.int k a)), (y, .lit (.int k b))] [] (.lit (.int k (a.tmod b))) [] := astep_val fun X φ ac w hr _ => by
  have h1 : ac.eval x = .int k a := rel_lit (hr (x, .lit (.int k a)) (by simp))
  have h2 : ac.eval y = .int k b := rel_lit (hr (y, .lit (.int k b)) (by simp))
  exact ⟨_, by simp [execOp, h, h1, h2, eqGuard, binOp, Op.intDiv, hb], .lit _⟩
theorem astep_not {t : TypeId} {x : Operand} {b : Bool} (h : o.op = .unOp .not t x) : AStep P o [(x, .lit (.bool b))] [] (.lit (.bool !b)) [] := astep_val fun X φ ac w hr _ => by
  have h1 : ac.eval x = .bool b := rel_lit (hr (x, .lit (.bool b)) (by simp))
  exact ⟨_, by simp [execOp, h, h1, Op.unary], .lit _⟩
theorem astep_neg {t : TypeId} {x : Operand} {k : IntKind} {a : Int} (h : o.op = .unOp .neg t x) : AStep P o [(x, .lit (.int k a))] [] (.lit (.int k (k.wrap (0 - a)))) [] := astep_val fun X φ ac w hr _ => by
  have h1 : ac.eval x = .int k a := rel_lit (hr (x, .lit (.int k a)) (by simp))
  exact ⟨_, by simp [execOp, h, h1, Op.unary, Op.intArith], .lit _⟩
theorem astep_conv {t t' : TypeId} {x : Operand} {k k' : IntKind} {a : Int} (h : o.op = .convert t t' x) (ht : (P.underlying t).isSome = true) (ht' : P.underlying t' = some (.int k')) : AStep P o [(x, .lit (.int k a))] [] (.lit (.int k' (k'.wrap a))) [] := astep_val fun X φ ac w hr _ => by
  have h1 : ac.eval x = .int k a := rel_lit (hr (x, .lit (.int k a)) (by simp))
  obtain ⟨d, hd⟩ := Option.isSome_iff_exists.1 ht
  exact ⟨_, by simp [execOp, h, h1, convert, run_underlying hd, run_underlying ht', Conv.intToInt], .lit _⟩
theorem astep_eqb {t t' : TypeId} {x y : Operand} {a b : Bool} (h : o.op = .binOp .eql t x y t') (ht : P.underlying t = some .bool) : AStep P o [(x, .lit (.bool a)), (y, .lit (.bool b))] [] (.lit (.bool (a == b))) [] := astep_val fun X φ ac w hr _ => by
  have h1 : ac.eval x = .bool a := rel_lit (hr (x, .lit (.bool a)) (by simp))
  have h2 : ac.eval y = .bool b := rel_lit (hr (y, .lit (.bool b)) (by simp))
  have hg : (eqGuard .eql t x y (.bool a) (.bool b)).run P w = .ok () w := rfl
  exact ⟨_, by simp only [execOp, h, h1, h2, Sem.run_bind, hg, Result.andThen_ok, run_eql_bool w t a b ht]; rfl, .lit _⟩
theorem astep_neb {t t' : TypeId} {x y : Operand} {a b : Bool} (h : o.op = .binOp .neq t x y t') (ht : P.underlying t = some .bool) : AStep P o [(x, .lit (.bool a)), (y, .lit (.bool b))] [] (.lit (.bool !(a == b))) [] := astep_val fun X φ ac w hr _ => by
  have h1 : ac.eval x = .bool a := rel_lit (hr (x, .lit (.bool a)) (by simp))
  have h2 : ac.eval y = .bool b := rel_lit (hr (y, .lit (.bool b)) (by simp))
  have hg : (eqGuard .neq t x y (.bool a) (.bool b)).run P w = .ok () w := rfl
  exact ⟨_, by simp only [execOp, h, h1, h2, Sem.run_bind, hg, Result.andThen_ok, run_neq_bool w t a b ht]; rfl, .lit _⟩
theorem astep_max {x y : Operand} {ts : Array TypeId} {k : IntKind} {a b : Int} (h : o.op = .call { callee := .builtin .max, args := #[x, y], argTypes := ts }) : AStep P o [(x, .lit (.int k a)), (y, .lit (.int k b))] [] (.lit (.int k (if b > a then b else a))) [] := astep_val fun X φ ac w hr _ => by
  have h1 : ac.eval x = .int k a := rel_lit (hr (x, .lit (.int k a)) (by simp))
  have h2 : ac.eval y = .int k b := rel_lit (hr (y, .lit (.int k b)) (by simp))
  exact ⟨_, by simp [execOp, h, h1, h2, resolve, invoke, builtin, Builtin.max_, Builtin.max2], .lit _⟩
theorem astep_min {x y : Operand} {ts : Array TypeId} {k : IntKind} {a b : Int} (h : o.op = .call { callee := .builtin .min, args := #[x, y], argTypes := ts }) : AStep P o [(x, .lit (.int k a)), (y, .lit (.int k b))] [] (.lit (.int k (if b < a then b else a))) [] := astep_val fun X φ ac w hr _ => by
  have h1 : ac.eval x = .int k a := rel_lit (hr (x, .lit (.int k a)) (by simp))
  have h2 : ac.eval y = .int k b := rel_lit (hr (y, .lit (.int k b)) (by simp))
  exact ⟨_, by simp [execOp, h, h1, h2, resolve, invoke, builtin, Builtin.min_, Builtin.min2], .lit _⟩

theorem astep_extract {x : Operand} {i : Nat} {l : List AV} {v : AV} (h : o.op = .extract x i) (hv : l[i]? = some v) : AStep P o [(x, .tup l)] [] v [] := astep_val fun X φ ac w hr _ => by
  have h1 := hr (x, .tup l) (by simp)
  dsimp only at h1
  cases hx : ac.eval x with
  | tuple vs =>
    rw [hx] at h1
    cases h1 with
    | tup _ _ hs h2 =>
      have hi := (List.getElem?_eq_some_iff.1 hv).1
      have h3 := h2 i v hv
      refine ⟨vs.getD i undef, ?_, h3⟩
      have hg : vs[i]? = some (vs.getD i undef) := by
        rw [Array.getD_eq_getD_getElem?, Array.getElem?_eq_getElem (by omega)]; rfl
      have he : Instr.extract (.tuple vs) i = pure (vs.getD i undef) := by
        unfold Instr.extract
        dsimp only
        rw [hg]
      simp only [execOp, h, hx, he, Sem.run_bind, Sem.run_pure, Result.andThen_ok]
  | _ => rw [hx] at h1; cases h1

/-- A type: is it laid out in cells, and in how many. -/
structure TI (P : Program) (t : TypeId) (agg : Bool) (size : Nat) : Prop where
  und : ∃ d, P.underlying t = some d ∧ (match d with | .struct _ | .array _ _ => true | _ => false) = agg
  inf : ∃ i, P.info? t = some i ∧ i.size = size
theorem TI.isAgg {t : TypeId} {g : Bool} {n : Nat} (h : TI P t g n) (w : World) : (isAgg t).run P w = .ok g w := by
  obtain ⟨d, hd, hg⟩ := h.und
  unfold Go.isAgg
  simp only [Sem.run_bind, run_underlying hd, Result.andThen_ok]
  subst hg
  cases d <;> rfl
theorem TI.size {t : TypeId} {g : Bool} {n : Nat} (h : TI P t g n) (w : World) : (sizeOf t).run P w = .ok n w := by
  obtain ⟨i, hi, hn⟩ := h.inf
  simp [sizeOf, typeInfo, hi, hn]

theorem astep_field {x : Operand} {t ft : TypeId} {f : Nat} {fs : Array Field} {fl : Field} {g : Bool} {n : Nat} {l : List AV} (h : o.op = .field t x f) (ht : P.underlying t = some (.struct fs)) (hf : fs[f]? = some fl) (hft : fl.type = ft) (hi : TI P ft g n)
    (hl : fl.offset + n ≤ l.length) (hn : g = false → n = 1) (hv : (bif g then .agg ((l.drop fl.offset).take n) else l.getD fl.offset .any) = r) : AStep P o [(x, .agg l)] [] r [] := astep_val fun X φ ac w hr _ => by
  have h1 := hr (x, .agg l) (by simp)
  dsimp only at h1
  cases hx : ac.eval x with
  | agg vs =>
    rw [hx] at h1
    cases h1 with
    | agg _ _ hs h2 =>
      subst hft
      cases g with
      | false =>
        have hn1 := hn rfl
        have hlt : fl.offset < vs.size := by omega
        refine ⟨vs[fl.offset], ?_, ?_⟩
        · have hg : vs[fl.offset]? = some vs[fl.offset] := Array.getElem?_eq_getElem hlt
          simp [execOp, h, hx, Instr.field, run_underlying ht, hf, asAgg, part, hi.isAgg, hg]
        · subst hv
          have := h2 fl.offset (l.getD fl.offset .any) (by rw [List.getD_eq_getElem?_getD, List.getElem?_eq_getElem (by omega)]; rfl)
          simpa [Array.getD_eq_getD_getElem?, hlt] using this
      | true =>
        refine ⟨.agg (vs.extract fl.offset (fl.offset + n)), ?_, ?_⟩
        · simp [execOp, h, hx, Instr.field, run_underlying ht, hf, asAgg, part, hi.isAgg, hi.size]
        · subst hv
          refine .agg _ _ (by simp; omega) fun i a hia => ?_
          rw [List.getElem?_take] at hia
          split at hia
          · rw [List.getElem?_drop] at hia
            have := h2 _ a hia
            rw [Array.getD_eq_getD_getElem?] at this ⊢
            rwa [Array.getElem?_extract, if_pos (by omega)]
          · cases hia
  | _ => rw [hx] at h1; cases h1

/-- Two rows of integers of a type are compared part by part. -/
def EqT (P : Program) (d : Nat) (t : TypeId) (n : Nat) : Prop := ∀ (w : World) (ls ks : List Int), ls.length = n → ks.length = n → (Op.equalIn d t (.agg (ls.map (Value.int .i64)).toArray) (.agg (ks.map (Value.int .i64)).toArray)).run P w = .ok (ls == ks) w
inductive EqF (P : Program) (d : Nat) : Nat → List Field → Nat → Prop where
  | nil (n : Nat) : EqF P d n [] n
  | int {off n : Nat} {f : Field} {fs : List Field} (k : IntKind) (h1 : (f.name != "_") = true) (h2 : f.offset = off) (h3 : P.underlying f.type = some (.int k)) (h : EqF P d (off + 1) fs n) : EqF P d off (f :: fs) n
  | agg {off n : Nat} {f : Field} {fs : List Field} (k : Nat) (h1 : (f.name != "_") = true) (h2 : f.offset = off) (h3 : TI P f.type true k) (h4 : EqT P (d + 1) f.type k) (h : EqF P d (off + k) fs n) : EqF P d off (f :: fs) n
theorem EqF.le {d off n : Nat} {fs : List Field} (h : EqF P d off fs n) : off ≤ n := by
  induction h with
  | nil => exact Nat.le_refl _
  | int _ _ _ _ _ ih => omega
  | agg _ _ _ _ _ _ ih => omega
theorem EqF.run {d : Nat} (w : World) {n : Nat} (ls ks : List Int) (ha : ls.length = n) (hb : ks.length = n) {off : Nat} {fs : List Field} (h : EqF P d off fs n) : (Op.eqFields (d + 1) (ls.map (Value.int .i64)).toArray (ks.map (Value.int .i64)).toArray fs).run P w = .ok (ls.drop off == ks.drop off) w := by
  induction h with
  | nil n =>
    rw [List.drop_of_length_le (by omega), List.drop_of_length_le (by omega)]
    rfl
  | @int off n f fs k h1 h2 h3 h ih =>
    have hle := h.le
    have hn : (f.name ≠ "_") := by simpa using h1
    have hna : (isAgg f.type).run P w = .ok false w := by
      unfold Go.isAgg
      simp only [Sem.run_bind, run_underlying h3, Result.andThen_ok]
      rfl
    have hp : ∀ (l : List Int) (hl : l.length = n), (part f.type (l.map (Value.int .i64)).toArray f.offset).run P w = .ok (.int .i64 (l[off]'(by omega))) w := fun l hl => by
      subst h2
      have e : ((l.map (Value.int .i64)).toArray)[f.offset]? = some (.int .i64 (l[f.offset]'(by omega))) := by simp
      simp only [part, Sem.run_bind, hna, Result.andThen_ok, Bool.false_eq_true, if_false, e]
      rfl
    have ih' := ih ha hb
    simp only [Op.eqFields, if_pos hn, Sem.run_bind, hp ls ha, hp ks hb, Result.andThen_ok, run_equalIn_int w d f.type .i64 k _ _ h3]
    rw [List.drop_eq_getElem_cons (show off < ls.length by omega), List.drop_eq_getElem_cons (show off < ks.length by omega)]
    cases he : (ls[off]'(by omega) == ks[off]'(by omega)) with
    | false => simp only [Bool.not_false, if_true, List.cons_beq_cons, he, Bool.false_and]; rfl
    | true => simp only [Bool.not_true, Bool.false_eq_true, if_false, ih', List.cons_beq_cons, he, Bool.true_and]
  | @agg off n f fs k h1 h2 h3 h4 h ih =>
    have hle := h.le
    have hn : (f.name ≠ "_") := by simpa using h1
    have hp : ∀ (l : List Int) (hl : l.length = n), (part f.type (l.map (Value.int .i64)).toArray f.offset).run P w = .ok (.agg (((l.drop off).take k).map (Value.int .i64)).toArray) w := fun l hl => by
      subst h2
      have e : (l.map (Value.int .i64)).toArray.extract f.offset (f.offset + k) = (((l.drop f.offset).take k).map (Value.int .i64)).toArray := by
        simp [List.extract_eq_take_drop]
      simp only [part, Sem.run_bind, h3.isAgg, h3.size, Result.andThen_ok, if_true, e]
      rfl
    have ih' := ih ha hb
    simp only [Op.eqFields, if_pos hn, Sem.run_bind, hp ls ha, hp ks hb, Result.andThen_ok, h4 w _ _ (show ((ls.drop off).take k).length = k by simp; omega) (show ((ks.drop off).take k).length = k by simp; omega)]
    have sp : ∀ l : List Int, l.drop off = (l.drop off).take k ++ l.drop (off + k) := fun l => by
      rw [← List.drop_drop, List.take_append_drop]
    have e : (ls.drop off == ks.drop off) = (((ls.drop off).take k == (ks.drop off).take k) && (ls.drop (off + k) == ks.drop (off + k))) := by
      have hl : ((ls.drop off).take k).length = ((ks.drop off).take k).length := by simp; omega
      rw [Bool.eq_iff_iff, Bool.and_eq_true, beq_iff_eq, beq_iff_eq, beq_iff_eq]
      refine ⟨fun h => ⟨by rw [h], by rw [← List.drop_drop, ← List.drop_drop, h]⟩, fun h => ?_⟩
      rw [sp ls, sp ks, h.1, h.2]
    cases he : ((ls.drop off).take k == (ks.drop off).take k) with
    | false => rw [e, he]; simp
    | true => rw [e, he]; simp only [Bool.not_true, Bool.false_eq_true, if_false, ih', Bool.true_and]
theorem eqT_struct {d n : Nat} {t : TypeId} {fs : Array Field} (ht : P.underlying t = some (.struct fs)) (hp : P.stoodInHeld t = false) (h : EqF P d 0 fs.toList n) : EqT P (d + 2) t n := fun w ls ks ha hb => by
  have hf : P.fieldsOf t = fs := by simp [Program.fieldsOf, ht]
  rw [run_equalIn_struct w (d + 1) t _ _ (by rw [hf]; exact ht) hp, hf, h.run w ls ks ha hb]
  simp

def ints (l : List Int) : List AV := l.map fun x => .lit (.int .i64 x)
theorem rel_ints {X : Nat → Nat → Prop} {φ : Nat → FSlot} {w : World} {l : List Int} {v : Value} (h : RelV X φ w (.agg (ints l)) v) : v = .agg (l.map (Value.int .i64)).toArray := by
  cases h with
  | agg _ vs hs hr =>
    congr 1
    apply Array.ext
    · simpa [ints] using hs
    · intro i h1 h2
      have hil : i < l.length := by simpa using h2
      have := hr i (.lit (.int .i64 l[i])) (by simp only [ints, List.getElem?_map, List.getElem?_eq_getElem hil, Option.map_some])
      have := rel_lit this
      rw [Array.getD_eq_getD_getElem?, Array.getElem?_eq_getElem h1] at this
      simpa using this
theorem astep_eqs {t t' : TypeId} {x y : Operand} (ls ks : List Int) {n : Nat} {d : Nat} (h : o.op = .binOp .eql t x y t') (hd : d = 10000) (he : EqT P d t n) (hg : P.eqGuardType P.depth t = false) (ha : ls.length = n) (hb : ks.length = n) :
    AStep P o [(x, .agg (ints ls)), (y, .agg (ints ks))] [] (.lit (.bool (ls == ks))) [] := astep_val fun X φ ac w hr _ => by
  have h1 := rel_ints (hr (x, .agg (ints ls)) (by simp))
  have h2 := rel_ints (hr (y, .agg (ints ks)) (by simp))
  dsimp only at h1 h2
  subst hd
  exact ⟨_, by simp only [execOp, h, h1, h2, Sem.run_bind, run_eqGuard_agg w _ t _ _ _ _ hg, Result.andThen_ok, run_eql_struct, he w ls ks ha hb]; rfl, .lit _⟩
theorem astep_nes {t t' : TypeId} {x y : Operand} (ls ks : List Int) {n : Nat} {d : Nat} (h : o.op = .binOp .neq t x y t') (hd : d = 10000) (he : EqT P d t n) (hg : P.eqGuardType P.depth t = false) (ha : ls.length = n) (hb : ks.length = n) :
    AStep P o [(x, .agg (ints ls)), (y, .agg (ints ks))] [] (.lit (.bool !(ls == ks))) [] := astep_val fun X φ ac w hr _ => by
  have h1 := rel_ints (hr (x, .agg (ints ls)) (by simp))
  have h2 := rel_ints (hr (y, .agg (ints ks)) (by simp))
  dsimp only at h1 h2
  subst hd
  exact ⟨_, by simp only [execOp, h, h1, h2, Sem.run_bind, run_eqGuard_agg w _ t _ _ _ _ hg, Result.andThen_ok, run_neq_struct, he w ls ks ha hb]; rfl, .lit _⟩
end
end Go.Proofs.Ytenpbiineblcjaa
