/-
  The engine, part F: the operations on memory. Plain laws; no conditions.
-/
import Derived.Test.YtenpbiineblcjaaEngE
namespace Go.Proofs.Ytenpbiineblcjaa
open Go.RowKit

/-- Cells that can be read from an address on. -/
def CellsAt (X : Nat → Nat → Prop) (φ : Nat → FSlot) (w : World) (b o : Nat) (cs : List AV) : Prop :=
  ∃ g : Nat → Value, ∀ k a, cs[k]? = some a → w.cell? ⟨b, o + k, none⟩ = some (g k) ∧ RelV X φ w a (g k)

section
variable {P : Program} {o : Oper} {X : Nat → Nat → Prop} {φ : Nat → FSlot} {w : World} {r : AV}

theorem mul_lt_size {j m n i : Nat} (hj : j < n) (hi : i < m) : j * m + i < n * m := by
  have h1 : (j + 1) * m ≤ n * m := Nat.mul_le_mul_right m hj
  rw [Nat.add_mul] at h1
  omega
theorem OwnOK.cells {b m : Nat} {xs : List (List AV)} (h : OwnOK X φ w b m xs) {j : Nat} {c : List AV} (hj : xs[j]? = some c) : CellsAt X φ w b (j * m) c := by
  obtain ⟨cur, ty, h1, h2, h3, h4⟩ := h.blk
  refine ⟨fun k => cur.getD (j * m + k) undef, fun k a hk => ⟨?_, h4 j c hj k a hk⟩⟩
  have hjl := (List.getElem?_eq_some_iff.1 hj).1
  have hkl := (List.getElem?_eq_some_iff.1 hk).1
  rw [h3 c (List.mem_of_getElem? hj)] at hkl
  have := mul_lt_size hjl hkl
  have hlt : j * m + k < cur.size := by omega
  simp only [World.cell?, h1]
  simp [Array.getD_eq_getD_getElem?, hlt]
theorem CellsAt.drop {b o : Nat} {cs : List AV} (h : CellsAt X φ w b o cs) (i : Nat) : CellsAt X φ w b (o + i) (cs.drop i) := by
  obtain ⟨g, hg⟩ := h
  refine ⟨fun k => g (i + k), fun k a hk => ?_⟩
  rw [List.getElem?_drop] at hk
  have := hg _ a hk
  rwa [← Nat.add_assoc] at this

/-- What a load yields. -/
def ldA (g : Bool) (n i : Nat) (cs : List AV) : AV := bif g then .agg ((cs.drop i).take n) else cs.getD i .any
theorem CellsAt.load {b of i n : Nat} {cs : List AV} {t : TypeId} {g : Bool} (h : CellsAt X φ w b of cs) (ht : TI P t g n) (hn : i + n ≤ cs.length) (hg : g = false → n = 1) : ∃ v, (loadVar t ⟨b, of + i, none⟩).run P w = .ok v w ∧ RelV X φ w (ldA g n i cs) v := by
  obtain ⟨f, hf⟩ := h
  cases g with
  | false =>
    have h1 := hg rfl
    have hget : cs[i]? = some (cs.getD i .any) := by rw [List.getD_eq_getElem?_getD, List.getElem?_eq_getElem (by omega)]; rfl
    obtain ⟨h2, h3⟩ := hf i _ hget
    refine ⟨f i, ?_, h3⟩
    have hl : (Go.load (⟨b, of + i, none⟩ : Addr)).run P w = .ok (f i) w := by simp [Go.load, Sem.run, h2]
    simp only [loadVar, Sem.run_bind, ht.isAgg, Result.andThen_ok, Bool.false_eq_true, if_false, hl]
  | true =>
    have hc := run_loadCells (P := P) w ⟨b, of + i, none⟩ n (fun k => f (i + k)) (fun k hk => by
      rw [Addr.add_lit]
      have := (hf (i + k) (cs.getD (i + k) .any) (by rw [List.getD_eq_getElem?_getD, List.getElem?_eq_getElem (by omega)]; rfl)).1
      rwa [← Nat.add_assoc] at this)
    refine ⟨.agg ((List.range n).map fun k => f (i + k)).toArray, ?_, ?_⟩
    · simp only [loadVar, Sem.run_bind, ht.isAgg, ht.size, Result.andThen_ok, if_true, hc]
      rfl
    · refine .agg _ _ (by simp; omega) fun k a hk => ?_
      rw [List.getElem?_take] at hk
      split at hk
      · rename_i hkn
        rw [List.getElem?_drop] at hk
        have := (hf _ a hk).2
        simpa [Array.getD_eq_getD_getElem?, hkn] using this
      · cases hk

theorem rel_ref {n m j i : Nat} {v : Value} (h : RelV X φ w (.ref n m j i) v) {b : Nat} (hb : φ n = .own b) : v = .pointer (some ⟨b, j * m + i, none⟩) := by
  cases h with
  | ref _ _ _ _ A hn h => rw [h b hb]
theorem rel_own {n m j len : Nat} {v : Value} (h : RelV X φ w (.own n m j len) v) {b : Nat} (hb : φ n = .own b) : ∃ cap, len ≤ cap ∧ cap ≤ maxLen ∧ v = .slice (some ⟨b, j * m, none⟩) len cap := by
  cases h with
  | own _ _ _ _ A cap hc hm hn h => exact ⟨cap, hc, hm, by rw [h b hb]⟩

theorem astep_load {x : Operand} {t : TypeId} {g : Bool} {sz n m j i : Nat} {xs : List (List AV)} {c : List AV} (h : o.op = .load t x) (ht : TI P t g sz) (hg : g = false → sz = 1) (hj : xs[j]? = some c) (hi : i + sz ≤ c.length) (hr : ldA g sz i c = r) :
    AStep P o [(x, .ref n m j i)] [(n, .own m xs)] r [] := astep_val fun X φ a w hrd hbl => by
  obtain ⟨b, hb, hown⟩ := hbl (n, .own m xs) (by simp)
  have hx : a.eval x = _ := rel_ref (hrd (x, .ref n m j i) (by simp)) hb
  obtain ⟨v, hv, hrel⟩ := (hown.cells hj).load ht hi hg
  refine ⟨v, ?_, hr ▸ hrel⟩
  simp only [execOp, h, hx, Instr.loadAt, Instr.sureAddr, Sem.run_bind, Sem.run_pure, Result.andThen_ok, hv]
theorem astep_loadd {x : Operand} {t : TypeId} {g : Bool} {sz i : Nat} {c : List AV} (h : o.op = .load t x) (ht : TI P t g sz) (hg : g = false → sz = 1) (hi : i + sz ≤ c.length) (hr : ldA g sz i c = r) :
    AStep P o [(x, .dptr c i)] [] r [] := astep_val fun X φ a w hrd _ => by
  have hx := hrd (x, .dptr c i) (by simp)
  dsimp only at hx
  cases hv : a.eval x with
  | pointer A =>
    rw [hv] at hx
    cases hx with
    | dptr _ _ b of g' hc hrel =>
      have hcs : CellsAt X φ w b of c := ⟨g', fun k u hk => ⟨(hc k (List.getElem?_eq_some_iff.1 hk).1).2, hrel k u hk⟩⟩
      obtain ⟨v, hv', hrel'⟩ := hcs.load ht hi hg
      refine ⟨v, ?_, hr ▸ hrel'⟩
      simp only [execOp, h, hv, Instr.loadAt, Instr.sureAddr, Sem.run_bind, Sem.run_pure, Result.andThen_ok, hv']
  | _ => rw [hv] at hx; cases hx

/-- A value of one cell. -/
def AV.one : AV → Bool
  | .lit v => v.oneCell'
  | .dat .. | .own .. | .ref .. | .dptr .. | .acc .. | .fn .. => true
  | _ => false
theorem AV.one_spec {a : AV} {v : Value} (h : RelV X φ w a v) (h1 : a.one = true) : v.oneCell' = true := by
  cases h with
  | lit => exact h1
  | any => cases h1
  | agg => cases h1
  | tup => cases h1
  | _ => rfl
/-- The cells of a value. -/
def stA : AV → List AV
  | .agg l => l
  | a => [a]
theorem stA_spec {a : AV} {v : Value} (h : RelV X φ w a v) (h1 : (stA a).all AV.one = true) : v.cells.size = (stA a).length ∧ (∀ u ∈ v.cells.toList, u.oneCell' = true) ∧ ∀ k c, (stA a)[k]? = some c → RelV X φ w c (v.cells.toList.getD k undef) := by
  have single : ∀ {a : AV} {v : Value}, RelV X φ w a v → a.one = true → v.cells = #[v] ∧ stA a = [a] := fun {a v} h ho => by
    have h2 := AV.one_spec h ho
    refine ⟨?_, ?_⟩
    · cases v with
      | agg => simp [Value.oneCell'] at h2
      | tuple => simp [Value.oneCell'] at h2
      | _ => rfl
    · cases a with
      | agg => simp [AV.one] at ho
      | _ => rfl
  have fin : ∀ {a : AV} {v : Value}, RelV X φ w a v → a.one = true → v.cells.size = (stA a).length ∧ (∀ u ∈ v.cells.toList, u.oneCell' = true) ∧ ∀ k c, (stA a)[k]? = some c → RelV X φ w c (v.cells.toList.getD k undef) := fun {a v} h ho => by
    obtain ⟨e1, e2⟩ := single h ho
    rw [e1, e2]
    refine ⟨rfl, fun u hu => ?_, fun k c hk => ?_⟩
    · simp at hu; subst hu; exact AV.one_spec h ho
    · cases k with
      | zero => simp at hk; subst hk; exact h
      | succ k => simp at hk
  cases a with
  | agg l =>
    cases h with
    | agg _ vs hs hr =>
      refine ⟨hs, fun u hu => ?_, fun k c hk => ?_⟩
      · obtain ⟨k, hk, rfl⟩ := List.getElem_of_mem hu
        have hk' : k < vs.size := by simpa [Value.cells] using hk
        have h3 := hr k l[k] (List.getElem?_eq_getElem (by omega))
        have h4 := List.all_eq_true.1 h1 l[k] (List.getElem_mem (show k < l.length by omega))
        have := AV.one_spec h3 h4
        rw [Array.getD_eq_getD_getElem?, Array.getElem?_eq_getElem hk'] at this
        simpa [Value.cells] using this
      · have := hr k c hk
        rw [Array.getD_eq_getD_getElem?] at this
        rw [List.getD_eq_getElem?_getD]
        simpa [Value.cells] using this
  | any => simp [stA, AV.one] at h1
  | tup => simp [stA, AV.one] at h1
  | lit v => exact fin h (by simpa [stA] using h1)
  | fn => exact fin h rfl
  | dat => exact fin h rfl
  | dptr => exact fin h rfl
  | ref => exact fin h rfl
  | own => exact fin h rfl
  | acc => exact fin h rfl

/-- Cells with others in their midst. -/
def splice (c : List AV) (i : Nat) (ys : List AV) : List AV := c.take i ++ ys ++ c.drop (i + ys.length)

theorem Evo.row {b : Nat} (hn : ∃ n, φ n = .own b) (hd : Distinct φ) (cs : Array Value) : Evo X φ w φ (w.setRow b cs) := by
  obtain ⟨n, hn⟩ := hn
  refine ⟨rfl, rfl, rfl, by simp, fun b' _ hb' => setRow_other w b b' cs fun e => hb' ⟨n, e ▸ .inl hn⟩, fun _ h => .inl h, fun b' off hdat => ?_, fun _ h => h, fun _ _ h => .inl h, fun n' t ht => .inr ⟨ht, fun b' L e => setRow_other w b b' cs fun eb => ?_⟩⟩
  · have hne : b' ≠ b := fun e => hdat.own n (e ▸ hn)
    refine ⟨⟨by simpa using hdat.lt, hdat.hid, hdat.own, hdat.tok⟩, ?_⟩
    exact World.cell?_of_block (setRow_other w b b' cs hne)
  · subst e
    subst eb
    have := hd n n' b' (.inl hn) (.inr ⟨L, ht⟩)
    subst this
    rw [hn] at ht
    cases ht

theorem astep_store {x y : Operand} {t : TypeId} {g : Bool} {n m j i : Nat} {xs : List (List AV)} {c : List AV} {v : AV} (h : o.op = .store t x y) (ht : TI P t g (stA v).length) (h1 : (stA v).all AV.one = true) (hj : xs[j]? = some c) (hi : i + (stA v).length ≤ c.length) {xs' : List (List AV)} (hx' : xs.set j (splice c i (stA v)) = xs') :
    AStep P o [(x, .ref n m j i), (y, v)] [(n, .own m xs)] .any [(n, .own m xs')] := by
  intro X φ a w hrd hbl hd hX hlt next Q k
  obtain ⟨b, hb, hown⟩ := hbl (n, .own m xs) (by simp)
  have hx : a.eval x = _ := rel_ref (hrd (x, .ref n m j i) (by simp)) hb
  have hv := hrd (y, v) (by simp)
  dsimp only at hv
  obtain ⟨hs, ho, hr⟩ := stA_spec hv h1
  obtain ⟨cur, ty, h2, h3, h4, h5⟩ := hown.blk
  have hjl := (List.getElem?_eq_some_iff.1 hj).1
  have hcl := h4 c (List.mem_of_getElem? hj)
  have hsz : j * m + i + (stA v).length ≤ cur.size := by
    have h6 : (j + 1) * m ≤ xs.length * m := Nat.mul_le_mul_right m hjl
    rw [Nat.add_mul] at h6
    omega
  generalize hvs : (a.eval y).cells = vs at hs ho hr
  have hst := run_storeCells_at P b (j * m + i) ty vs.toList 0 cur w h2 (by simp; omega) ho
  simp only [Nat.add_zero] at hst
  have hrun : (execOp a.eval o).run P w = .ok .skip (w.setRow b (cur.toList.take (j * m + i) ++ vs.toList ++ cur.toList.drop (j * m + i + vs.toList.length)).toArray) := by
    simp only [execOp, h, hx, Instr.storeAt, Instr.sureAddr, Sem.run_bind, Sem.run_pure, Result.andThen_ok, storeVar, hvs, ht.size, hs, ne_eq, not_true_eq_false, if_false, hst]
  unfold Oper.wp
  rw [hrun]
  refine k undef φ _ (.any _) ?_ hd (fun _ _ => rfl) (fun b' _ hb' => setRow_other w b b' _ fun e => hb' (n, .own m xs') (by simp) (e ▸ .inl hb)) (Evo.row ⟨n, hb⟩ hd _)
  intro p hp
  simp at hp
  subst hp
  have hlv : vs.toList.length = (stA v).length := by simpa using hs
  have evo := Evo.row (X := X) (w := w) ⟨n, hb⟩ hd (cur.toList.take (j * m + i) ++ vs.toList ++ cur.toList.drop (j * m + i + vs.toList.length)).toArray
  have hspl : (splice c i (stA v)).length = c.length := by simp [splice]; omega
  refine ⟨b, hb, ⟨_, ty, setRow_heap w b cur _ ty _ h2, ?_, ?_, ?_⟩, hown.hid⟩
  · rw [← hx', List.length_set]
    simp
    omega
  · intro z hz
    rw [← hx'] at hz
    rcases List.mem_or_eq_of_mem_set hz with hz | rfl
    · exact h4 z hz
    · rw [hspl, hcl]
  · intro j' z hz i' u hu
    refine RelV.evo ?_ evo
    rw [← hx'] at hz
    have hi'm : i' < m := by
      have hlz : z.length = m := by
        rcases List.mem_or_eq_of_mem_set (List.mem_of_getElem? hz) with hz | rfl
        · exact h4 z hz
        · rw [hspl, hcl]
      have := (List.getElem?_eq_some_iff.1 hu).1
      omega
    by_cases hjj : j' = j
    · subst hjj
      rw [List.getElem?_set_self hjl] at hz
      cases hz
      by_cases h6 : i' < i
      · have hget : (splice c i (stA v))[i']? = c[i']? := by
          simp only [splice, List.append_assoc]
          rw [List.getElem?_append_left (by simp; omega), List.getElem?_take, if_pos h6]
        rw [hget] at hu
        have := h5 j' c hj i' u hu
        rw [Array.getD_eq_getD_getElem?] at this ⊢
        rw [List.append_assoc, List.getElem?_toArray, List.getElem?_append_left (by simp; omega), List.getElem?_take, if_pos (by omega)]
        simpa using this
      · by_cases h7 : i' < i + (stA v).length
        · have hget : (splice c i (stA v))[i']? = (stA v)[i' - i]? := by
            simp only [splice, List.append_assoc]
            rw [List.getElem?_append_right (by simp; omega), List.getElem?_append_left (by simp; omega)]
            congr 1
            simp; omega
          rw [hget] at hu
          have := hr (i' - i) u hu
          rw [List.getD_eq_getElem?_getD] at this
          rw [Array.getD_eq_getD_getElem?, List.append_assoc, List.getElem?_toArray, List.getElem?_append_right (by simp; omega), List.getElem?_append_left (by simp; omega)]
          have e : j' * m + i' - (List.take (j' * m + i) cur.toList).length = i' - i := by simp; omega
          rw [e]
          exact this
        · have hget : (splice c i (stA v))[i']? = c[i']? := by
            simp only [splice, List.append_assoc]
            rw [List.getElem?_append_right (by simp; omega), List.getElem?_append_right (by simp; omega), List.getElem?_drop]
            congr 1
            simp; omega
          rw [hget] at hu
          have := h5 j' c hj i' u hu
          rw [Array.getD_eq_getD_getElem?] at this ⊢
          rw [List.append_assoc, List.getElem?_toArray, List.getElem?_append_right (by simp; omega), List.getElem?_append_right (by simp; omega), List.getElem?_drop]
          have e : j' * m + i + vs.toList.length + (j' * m + i' - (List.take (j' * m + i) cur.toList).length - vs.toList.length) = j' * m + i' := by simp; omega
          rw [e]
          simpa using this
    · rw [List.getElem?_set_ne (Ne.symm hjj)] at hz
      have := h5 j' z hz i' u hu
      rw [Array.getD_eq_getD_getElem?] at this ⊢
      by_cases h8 : j' < j
      · have h9 : (j' + 1) * m ≤ j * m := Nat.mul_le_mul_right m h8
        rw [Nat.add_mul] at h9
        rw [List.append_assoc, List.getElem?_toArray, List.getElem?_append_left (by simp; omega), List.getElem?_take, if_pos (by omega)]
        simpa using this
      · have h9 : (j + 1) * m ≤ j' * m := Nat.mul_le_mul_right m (by omega)
        rw [Nat.add_mul] at h9
        rw [List.append_assoc, List.getElem?_toArray, List.getElem?_append_right (by simp; omega), List.getElem?_append_right (by simp; omega), List.getElem?_drop]
        have e : j * m + i + vs.toList.length + (j' * m + i' - (List.take (j * m + i) cur.toList).length - vs.toList.length) = j' * m + i' := by simp; omega
        rw [e]
        simpa using this

theorem fieldAt_run {t ft : TypeId} {f : Nat} {fs : Array Field} {fl : Field} {g : Bool} {n : Nat} (ht : P.underlying t = some (.struct fs)) (hf : fs[f]? = some fl) (hft : fl.type = ft) (hi : TI P ft g n) (hn : n ≠ 0) (b of : Nat) (w : World) :
    (Instr.fieldAt t (.pointer (some ⟨b, of, none⟩)) f).run P w = .ok (.pointer (some ⟨b, of + fl.offset, none⟩)) w := by
  subst hft
  simp [Instr.fieldAt, run_underlying ht, hf, Instr.sureAddr, fieldPlace, hi.size, hn, Addr.add_lit]
theorem astep_faddr {x : Operand} {t ft : TypeId} {f : Nat} {fs : Array Field} {fl : Field} {g : Bool} {sz n m j i i' : Nat} {xs : List (List AV)} (h : o.op = .fieldAddr t x f) (ht : P.underlying t = some (.struct fs)) (hf : fs[f]? = some fl) (hft : fl.type = ft) (hi : TI P ft g sz) (hn : sz ≠ 0) (hi' : i + fl.offset = i') :
    AStep P o [(x, .ref n m j i)] [(n, .own m xs)] (.ref n m j i') [] := astep_val fun X φ a w hrd hbl => by
  obtain ⟨b, hb, hown⟩ := hbl (n, .own m xs) (by simp)
  have hx : a.eval x = _ := rel_ref (hrd (x, .ref n m j i) (by simp)) hb
  refine ⟨.pointer (some ⟨b, j * m + i + fl.offset, none⟩), ?_, ?_⟩
  · simp only [execOp, h, hx, Sem.run_bind, fieldAt_run ht hf hft hi hn, Result.andThen_ok]
    rfl
  · refine .ref _ _ _ _ _ (by rw [hb]; simp) fun b' hb' => ?_
    rw [hb] at hb'
    cases hb'
    rw [← hi', Nat.add_assoc]
theorem astep_faddrd {x : Operand} {t ft : TypeId} {f : Nat} {fs : Array Field} {fl : Field} {g : Bool} {sz i i' : Nat} {c : List AV} (h : o.op = .fieldAddr t x f) (ht : P.underlying t = some (.struct fs)) (hf : fs[f]? = some fl) (hft : fl.type = ft) (hi : TI P ft g sz) (hn : sz ≠ 0) (hi' : i + fl.offset = i') :
    AStep P o [(x, .dptr c i)] [] (.dptr c i') [] := astep_val fun X φ a w hrd _ => by
  have hx := hrd (x, .dptr c i) (by simp)
  dsimp only at hx
  cases hv : a.eval x with
  | pointer A =>
    rw [hv] at hx
    cases hx with
    | dptr _ _ b of g' hc hrel =>
      refine ⟨.pointer (some ⟨b, of + i + fl.offset, none⟩), ?_, ?_⟩
      · simp only [execOp, h, hv, Sem.run_bind, fieldAt_run ht hf hft hi hn, Result.andThen_ok]
        rfl
      · subst hi'
        rw [Nat.add_assoc]
        exact .dptr c _ b of g' hc hrel
  | _ => rw [hv] at hx; cases hx
end
end Go.Proofs.Ytenpbiineblcjaa
