/-
  The engine, part J: composite values, make, results in memory; names anew, slices frozen. Plain laws; no conditions.
-/
import Derived.Test.YtenpbiineblcjaaEngI
namespace Go.Proofs.Ytenpbiineblcjaa
open Go.RowKit

section
variable {P : Program} {o : Oper} {X : Nat → Nat → Prop} {φ : Nat → FSlot} {w : World} {r : AV}

/-- The cells of a composite value. -/
def fillA (place : Nat → Option (Nat × Nat)) (cells : List AV) : List (Nat × AV) → Option (List AV)
  | [] => some cells
  | (i, v) :: rest => match place i with
    | none => none
    | some (off, size) => if (stA v).length = size ∧ off + size ≤ cells.length ∧ (stA v).all AV.one = true then fillA place (splice cells off (stA v)) rest else none

theorem foldset (off : Nat) : ∀ (l : List Value) (i : Nat) (cs : Array Value), ((l.zipIdx i).foldl (fun cs (p : Value × Nat) => cs.setIfInBounds (off + p.2) p.1) cs).size = cs.size ∧
    ∀ k, ((l.zipIdx i).foldl (fun cs (p : Value × Nat) => cs.setIfInBounds (off + p.2) p.1) cs)[k]? = if off + i ≤ k ∧ k < off + i + l.length ∧ k < cs.size then l[k - (off + i)]? else cs[k]?
  | [], i, cs => ⟨rfl, fun k => by simp; intro h1 h2; omega⟩
  | v :: l, i, cs => by
    obtain ⟨h1, h2⟩ := foldset off l (i + 1) (cs.setIfInBounds (off + i) v)
    simp only [List.zipIdx_cons, List.foldl_cons]
    refine ⟨by rw [h1]; simp, fun k => ?_⟩
    rw [h2 k]
    simp only [Array.size_setIfInBounds, List.length_cons]
    by_cases h3 : off + (i + 1) ≤ k ∧ k < off + (i + 1) + l.length ∧ k < cs.size
    · rw [if_pos h3, if_pos (by omega)]
      have : k - (off + i) = (k - (off + (i + 1))) + 1 := by omega
      rw [this, List.getElem?_cons_succ]
    · rw [if_neg h3]
      by_cases h4 : k = off + i
      · subst h4
        by_cases h5 : off + i < cs.size
        · rw [if_pos (by omega)]
          simp [h5]
        · rw [if_neg (by omega)]
          simp [h5]
      · rw [if_neg (by omega), Array.getElem?_setIfInBounds_ne (by omega)]

theorem fill_rel {place : Nat → Option (Nat × Nat)} : ∀ (ps : List (Nat × AV)) (us : List (Nat × Value)) (cells : List AV) (cs : Array Value) (out : List AV), ps.length = us.length → (∀ (i : Nat) p u, ps[i]? = some p → us[i]? = some u → p.1 = u.1 ∧ RelV X φ w p.2 u.2) → cs.size = cells.length → (∀ (k : Nat) c, cells[k]? = some c → RelV X φ w c (cs.getD k undef)) → fillA place cells ps = some out →
    ∃ cs', Instr.fill place cs us = some cs' ∧ cs'.size = out.length ∧ ∀ (k : Nat) c, out[k]? = some c → RelV X φ w c (cs'.getD k undef)
  | [], [], cells, cs, out, _, _, hs, hr, h => by
    cases h
    exact ⟨cs, rfl, hs, hr⟩
  | (i, v) :: ps, (i', u) :: us, cells, cs, out, hl, hp, hs, hr, h => by
    obtain ⟨e, hv⟩ := hp 0 _ _ rfl rfl
    dsimp only at e hv
    subst e
    simp only [fillA] at h
    cases hpl : place i with
    | none => rw [hpl] at h; cases h
    | some q =>
      obtain ⟨off, size⟩ := q
      rw [hpl] at h
      dsimp only at h
      split at h
      case isFalse => cases h
      case isTrue hc =>
        obtain ⟨c1, c2, c3⟩ := hc
        obtain ⟨s1, s2, s3⟩ := stA_spec hv c3
        have hfs := foldset off u.cells.toList 0 cs
        have hz : u.cells.zipIdx.foldl (fun cs (c, j) => cs.setIfInBounds (off + j) c) cs = (u.cells.toList.zipIdx 0).foldl (fun cs (p : Value × Nat) => cs.setIfInBounds (off + p.2) p.1) cs := by
          rw [← Array.foldl_toList, Array.toList_zipIdx]
        obtain ⟨f1, f2⟩ := hfs
        simp only [Instr.fill, hpl]
        rw [if_neg (by simp; omega), hz]
        generalize (u.cells.toList.zipIdx 0).foldl (fun cs (p : Value × Nat) => cs.setIfInBounds (off + p.2) p.1) cs = cs2 at f1 f2
        have hspl : (splice cells off (stA v)).length = cells.length := by simp [splice]; omega
        refine fill_rel ps us _ cs2 out (by simpa using hl) (fun j p q h1 h2 => hp (j + 1) p q (by simpa using h1) (by simpa using h2)) (by rw [f1, hspl, hs]) (fun k c hk => ?_) h
        rw [Array.getD_eq_getD_getElem?, f2 k]
        have hkl := (List.getElem?_eq_some_iff.1 hk).1
        simp only [Nat.add_zero, Array.length_toList]
        by_cases h3 : off ≤ k ∧ k < off + u.cells.size ∧ k < cs.size
        · rw [if_pos h3]
          have hget : (splice cells off (stA v))[k]? = (stA v)[k - off]? := by
            simp only [splice, List.append_assoc]
            rw [List.getElem?_append_right (by simp; omega), List.getElem?_append_left (by simp; omega)]
            congr 1
            simp; omega
          rw [hget] at hk
          have := s3 (k - off) c hk
          rwa [List.getD_eq_getElem?_getD] at this
        · rw [if_neg h3]
          have hget : (splice cells off (stA v))[k]? = cells[k]? := by
            simp only [splice, List.append_assoc]
            by_cases h6 : k < off
            · rw [List.getElem?_append_left (by simp; omega), List.getElem?_take, if_pos h6]
            · rw [List.getElem?_append_right (by simp; omega), List.getElem?_append_right (by simp; omega), List.getElem?_drop]
              congr 1
              simp; omega
          rw [hget] at hk
          have := hr k c hk
          rwa [Array.getD_eq_getD_getElem?] at this
  | [], _ :: _, _, _, _, hl, _, _, _, _ => by simp at hl
  | _ :: _, [], _, _, _, hl, _, _, _, _ => by simp at hl

/-- The places of a struct's fields. -/
def PL (P : Program) : List Field → List (Nat × Nat) → Prop
  | [], [] => True
  | f :: fs, p :: ps => f.offset = p.1 ∧ (∃ g, TI P f.type g p.2) ∧ PL P fs ps
  | _, _ => False
structure TS0 (P : Program) (t : TypeId) (fs : Array Field) (pl : List (Nat × Nat)) : Prop where
  und : P.underlying t = some (.struct fs)
  pl : PL P fs.toList pl
def TS (P : Program) (t : TypeId) (pl : List (Nat × Nat)) : Prop := ∃ fs, TS0 P t fs pl
theorem mapM_runG {β α : Type} (f : α → Sem β) (w : World) : ∀ (l : List α) (us : List β), l.length = us.length → (∀ (i : Nat) x u, l[i]? = some x → us[i]? = some u → (f x).run P w = .ok u w) → (l.mapM f).run P w = .ok us w
  | [], [], _, _ => rfl
  | x :: l, u :: us, hl, h => by
    have h0 := h 0 x u rfl rfl
    have ih := mapM_runG f w l us (by simpa using hl) fun i y v hy hv => h (i + 1) y v (by simpa using hy) (by simpa using hv)
    simp only [List.mapM_cons, Sem.run_bind, h0, Result.andThen_ok, ih]
    rfl
  | [], _ :: _, hl, _ => by simp at hl
  | _ :: _, [], hl, _ => by simp at hl
theorem PL.spec : ∀ {fs : List Field} {pl : List (Nat × Nat)}, PL P fs pl → fs.length = pl.length ∧ ∀ (i : Nat) (f : Field) (p : Nat × Nat), fs[i]? = some f → pl[i]? = some p → f.offset = p.1 ∧ ∃ g, TI P f.type g p.2
  | [], [], _ => ⟨rfl, by simp⟩
  | _ :: _, _ :: _, h => by
    obtain ⟨h1, h2⟩ := PL.spec h.2.2
    refine ⟨by simp [h1], fun i f p hf hp => ?_⟩
    cases i with
    | zero => simp at hf hp; subst hf hp; exact ⟨h.1, h.2.1⟩
    | succ i => exact h2 i f p (by simpa using hf) (by simpa using hp)
  | [], _ :: _, h => h.elim
  | _ :: _, [], h => h.elim
theorem TS0.places {t : TypeId} {fs : Array Field} {pl : List (Nat × Nat)} (h : TS0 P t fs pl) (w : World) : (fs.mapM fun f => do pure (f.offset, ← sizeOf f.type) : Sem (Array (Nat × Nat))).run P w = .ok pl.toArray w := by
  obtain ⟨h1, h2⟩ := PL.spec h.pl
  have := mapM_runG (P := P) (fun f : Field => (do pure (f.offset, ← sizeOf f.type) : Sem (Nat × Nat))) w fs.toList pl h1 fun i f p hf hp => by
    obtain ⟨e, g, ti⟩ := h2 i f p hf hp
    simp only [Sem.run_bind, ti.size, Result.andThen_ok]
    rw [e]
    rfl
  rw [← Array.toArray_toList (xs := fs), List.mapM_toArray, map_eq_pure_bind]
  simp only [Sem.run_bind] at this ⊢
  rw [this]
  rfl

theorem parts_rel {a : Act} {parts : Array (Nat × Operand)} {vs : List AV} (hrd : ∀ p ∈ (parts.toList.map (·.2)).zip vs, RelV X φ w p.2 (a.eval p.1)) : ∀ (i : Nat) p u, ((parts.toList.map (·.1)).zip vs)[i]? = some p → (parts.map fun (i, x) => (i, a.eval x)).toList[i]? = some u → p.1 = u.1 ∧ RelV X φ w p.2 u.2 := fun i p u hp hu => by
  obtain ⟨k, v⟩ := p
  rw [List.getElem?_zip_eq_some] at hp
  obtain ⟨hp1, hp2⟩ := hp
  simp only [List.getElem?_map] at hp1
  simp only [Array.toList_map, List.getElem?_map] at hu
  cases hq : parts.toList[i]? with
  | none => rw [hq] at hp1; cases hp1
  | some q =>
    rw [hq] at hp1 hu
    cases hp1
    cases hu
    exact ⟨rfl, hrd (q.2, v) (List.mem_of_getElem? (i := i) (by rw [List.getElem?_zip_eq_some]; exact ⟨by simp [hq], hp2⟩))⟩

theorem astep_build {t : TypeId} {parts : Array (Nat × Operand)} {vs cs : List AV} {pl : List (Nat × Nat)} {zs : List Value} (h : o.op = .build t parts) (ht0 : TS P t pl) (hz : TZ P t zs) (hl : vs.length = parts.size) (hf : fillA (fun i : Nat => pl[i]?) (zs.map AV.lit) ((parts.toList.map (·.1)).zip vs) = some cs) {rd : List (Operand × AV)} (hrd : (parts.toList.map (·.2)).zip vs = rd) : AStep P o rd [] (.agg cs) [] := astep_val fun X φ a w hr _ => by
  subst hrd
  obtain ⟨fs, ht⟩ := ht0
  obtain ⟨z, hz1, hz2⟩ := hz.run w
  have hzs : z.cells.size = zs.length := by rw [← hz2]; simp
  obtain ⟨cs', h1, h2, h3⟩ := fill_rel (X := X) (φ := φ) (w := w) _ (parts.map fun (i, x) => (i, a.eval x)).toList (zs.map AV.lit) z.cells cs (by simp [hl]) (parts_rel hr) (by simp [hzs]) (fun k c hk => by
    rw [List.getElem?_map] at hk
    cases hzk : zs[k]? with
    | none => rw [hzk] at hk; cases hk
    | some c' =>
      rw [hzk] at hk
      cases hk
      have : z.cells.getD k undef = c' := by
        have h5 : z.cells.toList[k]? = some c' := by rw [hz2]; exact hzk
        rw [Array.getD_eq_getD_getElem?, ← Array.getElem?_toList, h5]; rfl
      rw [this]
      exact .lit c') hf
  refine ⟨.agg cs', ?_, .agg _ _ h2 h3⟩
  have hpl := ht.places w
  have hfun : (fun i : Nat => (pl.toArray)[i]?) = fun i : Nat => pl[i]? := by funext i; simp
  simp only [execOp, h, Instr.build, Sem.run_bind, hz1, Result.andThen_ok, run_underlying ht.und]
  (try simp only [Sem.run_bind] at hpl)
  rw [hpl]
  simp only [Result.andThen_ok, hfun, h1]
  rfl

theorem astep_builda {t e : TypeId} {n m : Nat} {gg : Bool} {parts : Array (Nat × Operand)} {vs cs : List AV} {zs : List Value} (h : o.op = .build t parts) (ht : P.underlying t = some (.array n e)) (he : TI P e gg m) (hz : TZ P t zs) (hl : vs.length = parts.size) (hf : fillA (fun i => some (i * m, m)) (zs.map AV.lit) ((parts.toList.map (·.1)).zip vs) = some cs) {rd : List (Operand × AV)} (hrd : (parts.toList.map (·.2)).zip vs = rd) : AStep P o rd [] (.agg cs) [] := astep_val fun X φ a w hr _ => by
  subst hrd
  obtain ⟨z, hz1, hz2⟩ := hz.run w
  have hzs : z.cells.size = zs.length := by rw [← hz2]; simp
  obtain ⟨cs', h1, h2, h3⟩ := fill_rel (X := X) (φ := φ) (w := w) _ (parts.map fun (i, x) => (i, a.eval x)).toList (zs.map AV.lit) z.cells cs (by simp [hl]) (parts_rel hr) (by simp [hzs]) (fun k c hk => by
    rw [List.getElem?_map] at hk
    cases hzk : zs[k]? with
    | none => rw [hzk] at hk; cases hk
    | some c' =>
      rw [hzk] at hk
      cases hk
      have : z.cells.getD k undef = c' := by
        have h5 : z.cells.toList[k]? = some c' := by rw [hz2]; exact hzk
        rw [Array.getD_eq_getD_getElem?, ← Array.getElem?_toList, h5]; rfl
      rw [this]
      exact .lit c') hf
  refine ⟨.agg cs', ?_, .agg _ _ h2 h3⟩
  simp only [execOp, h, Instr.build, Sem.run_bind, hz1, Result.andThen_ok, run_underlying ht, he.size, h1]
  rfl

/-- Elements out of a flat row. -/
theorem flatten_get {m : Nat} : ∀ {xs : List (List AV)}, (∀ x ∈ xs, x.length = m) → ∀ (j : Nat) x, xs[j]? = some x → ∀ i, i < m → xs.flatten[j * m + i]? = x[i]?
  | [], _, j, x, h, _, _ => by simp at h
  | y :: xs, hs, 0, x, h, i, hi => by
    simp at h
    subst h
    have := hs y (by simp)
    rw [List.flatten_cons, List.getElem?_append_left (by omega)]
    simp
  | y :: xs, hs, j + 1, x, h, i, hi => by
    have h0 := hs y (by simp)
    have ih := flatten_get (fun z hz => hs z (List.mem_cons_of_mem _ hz)) j x (by simpa using h) i hi
    have e : (j + 1) * m + i - y.length = j * m + i := by rw [Nat.add_mul]; omega
    have hle : y.length ≤ (j + 1) * m + i := by rw [Nat.add_mul]; omega
    rw [List.flatten_cons, List.getElem?_append_right hle, e]
    exact ih
theorem flatten_len {m : Nat} : ∀ {xs : List (List AV)}, (∀ x ∈ xs, x.length = m) → xs.flatten.length = xs.length * m
  | [], _ => by simp
  | x :: xs, h => by
    have h1 := h x (by simp)
    have ih := flatten_len fun y hy => h y (List.mem_cons_of_mem _ hy)
    rw [List.flatten_cons, List.length_append, ih, h1, List.length_cons, Nat.add_mul]
    omega
theorem astep_bslice {t e : TypeId} {n m : Nat} {gg : Bool} {parts : Array (Nat × Operand)} {vs : List AV} {xs : List (List AV)} {zs : List Value} (h : o.op = .buildSlice t n parts) (ht : P.underlying t = some (.slice e)) (he : TI P e gg m) (hz : TZ P e zs) (hzm : zs.length = m) (hm : 0 < m) (hl : vs.length = parts.size) (hbig : n * m ≤ 16777216)
    (hf : fillA (fun i => some (i * m, m)) ((List.range (n * m)).map fun k => AV.lit (zs.getD (k % m) undef)) ((parts.toList.map (·.1)).zip vs) = some xs.flatten) (hx : (xs.all fun x => x.length == m) = true) (hxl : xs.length = n) {rd : List (Operand × AV)} (hrd : (parts.toList.map (·.2)).zip vs = rd) : AStep P o rd [] (.dat m xs) [] := by
  subst hrd
  intro X φ a w hr hb hd hX hlt next Q k
  obtain ⟨z, hz1, hz2⟩ := hz.run w
  have hzs : z.cells.size = m := by rw [← hzm, ← hz2]; simp
  have hxs : ∀ x ∈ xs, x.length = m := fun x hxm => by simpa using List.all_eq_true.1 hx x hxm
  obtain ⟨cs', h1, h2, h3⟩ := fill_rel (X := X) (φ := φ) (w := w) _ (parts.map fun (i, x) => (i, a.eval x)).toList _ ((Array.range (n * m)).map (z.cells[· % z.cells.size]!)) _ (by simp [hl]) (parts_rel hr) (by simp) (fun k c hk => by
    rw [List.getElem?_map] at hk
    cases hkr : (List.range (n * m))[k]? with
    | none => rw [hkr] at hk; cases hk
    | some q =>
      rw [hkr] at hk
      cases hk
      have hlt := (List.getElem?_eq_some_iff.1 hkr).1
      simp only [List.length_range] at hlt
      have hq : q = k := by rw [List.getElem?_range hlt] at hkr; cases hkr; rfl
      subst hq
      have hmod : q % m < m := Nat.mod_lt _ hm
      have : ((Array.range (n * m)).map (z.cells[· % z.cells.size]!)).getD q undef = zs.getD (q % m) undef := by
        rw [Array.getD_eq_getD_getElem?]
        have e1 : z.cells[q % m]? = zs[q % m]? := by rw [← hz2, Array.getElem?_toList]
        have e2 : q % m < z.cells.size := by omega
        simp only [Array.getElem?_map, Array.getElem?_range, hlt, if_true, Option.map_some, Option.getD_some, hzs]
        rw [List.getD_eq_getElem?_getD, ← e1, Array.getElem?_eq_getElem e2]
        simp [e2]
      rw [this]
      exact .lit _) hf
  have hflat : xs.flatten.length = n * m := by
    rw [flatten_len hxs, hxl]
  have hexec : (execOp a.eval o).run P w = .ok (.value (.slice (some ⟨w.heap.size, 0, none⟩) n n)) (w.alloc (.cells cs' e)) := by
    have hn : ¬ (n * m > 2 ^ 24) := by simpa using hbig
    simp only [execOp, h, Instr.buildSlice, Sem.run_bind, run_underlying ht, Result.andThen_ok, he.size, if_neg hn]
    by_cases h0 : n * m = 0
    · have e : ((Array.range (n * m)).map (z.cells[· % z.cells.size]!)) = (Array.range (n * m)).map ((#[] : Array Value)[· % (#[] : Array Value).size]!) := by
        apply Array.ext
        · simp
        · intro i hi _; simp [h0] at hi
      have h1' := h1
      rw [e] at h1'
      simp only [if_pos h0, Sem.run_bind, Sem.run_pure, Result.andThen_ok, h1', newRow, newObj]
      rfl
    · simp only [if_neg h0, Sem.run_bind, hz1, Sem.run_pure, Result.andThen_ok, h1, newRow, newObj]
      rfl
  have evo := Evo.alloc0 (X := X) hlt (.cells cs' e)
  unfold Oper.wp
  rw [hexec]
  have hn1 : n ≤ maxLen := by
    have := Nat.le_mul_of_pos_right n hm
    simp only [maxLen]
    omega
  refine k _ φ _ (RelV.dat m xs _ _ _ (fun j i => cs'.getD (j * m + i) undef) ⟨hxl.symm, Nat.le_refl _, hn1, hxs, fun _ => ⟨w.heap.size, 0, rfl, fun j x hj i hi => ⟨⟨by simp, fun hx => Nat.lt_irrefl _ (hX _ _ hx), fun q hq => ?_, fun q L hq => ?_⟩, ?_⟩⟩⟩ (fun j x hj i u hu => RelV.evo ?_ evo)) (by simp) hd (fun _ _ => rfl) (fun b hb _ => heap_alloc_old w _ hb) evo
  · exact absurd (hlt q _ (.inl hq)) (Nat.lt_irrefl _)
  · exact absurd (hlt q _ (.inr ⟨L, hq⟩)) (Nat.lt_irrefl _)
  · have hjl := (List.getElem?_eq_some_iff.1 hj).1
    have := mul_lt_size hjl hi
    have hlt' : j * m + i < cs'.size := by rw [h2, hflat, ← hxl]; exact this
    rw [Nat.zero_add, cell_of_row _ _ _ _ _ _ (heap_alloc_new w _)]
    simp [Array.getD_eq_getD_getElem?, hlt']
  · have him : i < m := by
      have := hxs x (List.mem_of_getElem? hj)
      have := (List.getElem?_eq_some_iff.1 hu).1
      omega
    exact h3 (j * m + i) u (by rw [flatten_get hxs j x hj i him]; exact hu)

theorem astep_make {t e : TypeId} {m bytes n : Nat} {x y : Operand} {k k' : IntKind} {c : Int} {zs : List Value} {nm : Nat} {xs : List (List AV)} (h : o.op = .makeSlice t x y) (ht : P.underlying t = some (.slice e)) (he : TE P e m bytes) (hz : TZ P e zs) (hzm : zs.length = m) (h0 : 0 ≤ c) (hn : c.toNat = n) (hb : (bytes : Int) * c ≤ 281474976710656) (h63 : c ≤ 9223372036854775807) (hxs : List.replicate n (zs.map AV.lit) = xs) :
    AStep P o [(x, .lit (.int k c)), (y, .lit (.int k' c))] [(nm, .unused)] (.own nm m 0 n) [(nm, .own m xs)] := astep_new fun X φ a w hrd => by
  have hx : a.eval x = .int k c := rel_lit (hrd (x, .lit (.int k c)) (by simp))
  have hy : a.eval y = .int k' c := rel_lit (hrd (y, .lit (.int k' c)) (by simp))
  obtain ⟨i, z, hi, hz', his, hib, hzs'⟩ := he.inf
  have hm := he.pos
  subst his hib
  have hzl : z.cells.toList = zs := by
    obtain ⟨i2, z2, e1, e2, e3⟩ := hz
    rw [hi] at e1
    cases e1
    rw [hz'] at e2
    cases e2
    exact e3
  have hr := run_make (P := P) w t e i z ht hi hz' k k' c c h0 (Int.le_refl _) hb h63
  subst hn
  refine ⟨_, _, e, by simp only [execOp, h, hx, hy, Sem.run_bind, hr, Result.andThen_ok]; rfl, ?_, fun z' hz2 => ?_, fun j z' hj q u hu => ?_, fun φ' w' hf => .own _ _ _ _ _ _ (Nat.le_refl _) (by simp only [maxLen]; omega) (by rw [hf]; simp) fun b hb' => ?_⟩
  · rw [← hxs]; simp [size_madeCells]
  · rw [← hxs] at hz2
    rw [List.eq_of_mem_replicate hz2]
    simp [hzm]
  · rw [← hxs] at hj
    have hjl := (List.getElem?_eq_some_iff.1 hj).1
    simp only [List.length_replicate] at hjl
    rw [List.getElem?_replicate, if_pos hjl] at hj
    cases hj
    rw [List.getElem?_map] at hu
    cases hzq : zs[q]? with
    | none => rw [hzq] at hu; cases hu
    | some v =>
      rw [hzq] at hu
      cases hu
      have hq := (List.getElem?_eq_some_iff.1 hzq).1
      rw [hzm] at hq
      have hlt := mul_lt_size hjl hq
      have e1 : (j * i.size + q) % i.size = q := by rw [Nat.mul_comm, Nat.mul_add_mod]; exact Nat.mod_eq_of_lt hq
      have e2 : z.cells[q]? = some v := by rw [← Array.getElem?_toList, hzl]; exact hzq
      have e3 : q < z.cells.size := (Array.getElem?_eq_some_iff.1 e2).1
      have : (madeCells z.cells (c.toNat * i.size)).getD (j * i.size + q) undef = v := by
        rw [Array.getD_eq_getD_getElem?]
        unfold madeCells
        simp only [Array.getElem?_map, Array.getElem?_range, hlt, if_true, Option.map_some, Option.getD_some, hzs', e1]
        have := (Array.getElem?_eq_some_iff.1 e2).2
        simp [e3, this]
      rw [this]
      exact .lit v
  · rw [hf] at hb'
    cases hb'
    simp

theorem resOK_cell {s : AS} {ad : Tmp} {t : TypeId} {g : Bool} {sz n m j i : Nat} {xs : List (List AV)} {c : List AV} {v : AV} (hr : s.regs.getD ad .any = .ref n m j i) (hs : s.slot n = .own m xs) (ht : TI P t g sz) (hg : g = false → sz = 1) (hj : xs[j]? = some c) (hi : i + sz ≤ c.length) (hv : ldA g sz i c = v) : ResOK P s (.cell ad t) v := by
  intro X φ0 w0 φ a w hsim
  have h1 := hsim.opd (.tmp ad)
  simp only [opd, Act.eval] at h1
  rw [hr] at h1
  have h2 := hsim.env.slot n
  rw [hs] at h2
  obtain ⟨b, hb, hown⟩ := h2
  have hx : a.tmps.getD ad undef = _ := rel_ref h1 hb
  obtain ⟨u, hu, hrel⟩ := (hown.cells hj).load ht hi hg
  refine ⟨u, ?_, hv ▸ hrel⟩
  simp only [resGet, hx, asAddr, Sem.run_bind, Sem.run_pure, Result.andThen_ok, hu]
end
end Go.Proofs.Ytenpbiineblcjaa
