/-
  The engine, part G: slices, new blocks, functions as values. Plain laws; no conditions.
-/
import Derived.Test.YtenpbiineblcjaaEngF
namespace Go.Proofs.Ytenpbiineblcjaa
open Go.RowKit

section
variable {P : Program} {o : Oper} {X : Nat → Nat → Prop} {φ : Nat → FSlot} {w : World} {r : AV}

/-- A slice that is read. -/
def asDat : AV → Option (Nat × List (List AV))
  | .dat m xs => some (m, xs)
  | .acc _ _ m xs => some (m, xs)
  | _ => none
theorem rel_dat {v : AV} {u : Value} {m : Nat} {xs : List (List AV)} (h : RelV X φ w v u) (hv : asDat v = some (m, xs)) : ∃ A len cap g, u = .slice A len cap ∧ DatOK X φ w m xs A len cap g ∧ ∀ j x, xs[j]? = some x → ∀ i a, x[i]? = some a → RelV X φ w a (g j i) := by
  cases h with
  | dat _ _ A len cap g ok hr => cases hv; exact ⟨A, len, cap, g, rfl, ok, hr⟩
  | acc _ _ _ _ A len cap g ok hr _ _ => cases hv; exact ⟨A, len, cap, g, rfl, ok, hr⟩
  | _ => cases hv
theorem DatOK.elem {m : Nat} {xs : List (List AV)} {A : Option Addr} {len cap : Nat} {g : Nat → Nat → Value} (ok : DatOK X φ w m xs A len cap g) (hr : ∀ j x, xs[j]? = some x → ∀ i a, x[i]? = some a → RelV X φ w a (g j i)) {j : Nat} {c : List AV} (hj : xs[j]? = some c) :
    ∃ b of, A = some ⟨b, of, none⟩ ∧ RelV X φ w (.dptr c 0) (.pointer (some ⟨b, of + j * m, none⟩)) := by
  have hne : xs ≠ [] := fun e => by rw [e] at hj; cases hj
  obtain ⟨b, of, hA, hc⟩ := ok.hcells hne
  have hm := ok.hsize c (List.mem_of_getElem? hj)
  refine ⟨b, of, hA, ?_⟩
  have := RelV.dptr (X := X) (φ := φ) (w := w) c 0 b (of + j * m) (g j) (fun k hk => hc j c hj k (by omega)) (hr j c hj)
  simpa using this

theorem indexAt_slice {t e : TypeId} {gg : Bool} {m : Nat} (ht : P.underlying t = some (.slice e)) (he : TI P e gg m) (b of len cap : Nat) (k : IntKind) (i : Int) (h0 : 0 ≤ i) (h1 : i < len) (w : World) :
    (Instr.indexAt t (.slice (some ⟨b, of, none⟩) len cap) (.int k i)).run P w = .ok (.pointer (some ⟨b, of + i.toNat * m, none⟩)) w := by
  simp [Instr.indexAt, run_underlying ht, asIntOf, h0, h1, he.size, Addr.add_lit]
theorem astep_idxd {x y : Operand} {t t' e : TypeId} {gg : Bool} {m m' : Nat} {v : AV} {xs : List (List AV)} {k : IntKind} {i : Int} {c : List AV} (h : o.op = .indexAddr t x y) (ht : P.underlying t = some (.slice e)) (he : TI P e gg m) (hv : asDat v = some (m', xs)) (hm : m' = m) (h0 : 0 ≤ i) (hi : xs[i.toNat]? = some c) (ht' : t' = t) :
    AStep P o [(x, v), (y, .lit (.int k i))] [] (.dptr c 0) [] := astep_val fun X φ a w hrd _ => by
  subst hm ht'
  obtain ⟨A, len, cap, g, hx, ok, hr⟩ := rel_dat (hrd (x, v) (by simp)) hv
  dsimp only at hx
  have hy : a.eval y = .int k i := rel_lit (hrd (y, .lit (.int k i)) (by simp))
  obtain ⟨b, of, rfl, hp⟩ := ok.elem hr hi
  have hlt := (List.getElem?_eq_some_iff.1 hi).1
  refine ⟨_, ?_, hp⟩
  simp only [execOp, h, hx, hy, Sem.run_bind, indexAt_slice ht he b of len cap k i h0 (by have := ok.hlen; omega), Result.andThen_ok]
  rfl
theorem astep_idxo {x y : Operand} {t e : TypeId} {gg : Bool} {m n j j' len : Nat} {xs : List (List AV)} {k : IntKind} {i : Int} (h : o.op = .indexAddr t x y) (ht : P.underlying t = some (.slice e)) (he : TI P e gg m) (h0 : 0 ≤ i) (hi : i.toNat < len) (hj : j + i.toNat = j') :
    AStep P o [(x, .own n m j len), (y, .lit (.int k i))] [(n, .own m xs)] (.ref n m j' 0) [] := astep_val fun X φ a w hrd hbl => by
  obtain ⟨b, hb, hown⟩ := hbl (n, .own m xs) (by simp)
  obtain ⟨cap, hc, hcm, hx⟩ := rel_own (hrd (x, .own n m j len) (by simp)) hb
  dsimp only at hx
  have hy : a.eval y = .int k i := rel_lit (hrd (y, .lit (.int k i)) (by simp))
  refine ⟨_, ?_, .ref _ _ _ _ (some ⟨b, j * m + i.toNat * m, none⟩) (by rw [hb]; simp) fun b' hb' => ?_⟩
  · simp only [execOp, h, hx, hy, Sem.run_bind, indexAt_slice ht he b (j * m) len cap k i h0 (by omega), Result.andThen_ok]
    rfl
  · rw [hb] at hb'
    cases hb'
    rw [← hj, Nat.add_mul, Nat.add_zero]
theorem astep_idxa {x y : Operand} {t e : TypeId} {gg : Bool} {sz len n m j i i' : Nat} {xs : List (List AV)} {k : IntKind} {q : Int} (h : o.op = .indexAddr t x y) (ht : P.underlying t = some (.array len e)) (he : TI P e gg sz) (h0 : 0 ≤ q) (hq : q.toNat < len) (hi : i + q.toNat * sz = i') :
    AStep P o [(x, .ref n m j i), (y, .lit (.int k q))] [(n, .own m xs)] (.ref n m j i') [] := astep_val fun X φ a w hrd hbl => by
  obtain ⟨b, hb, hown⟩ := hbl (n, .own m xs) (by simp)
  have hx : a.eval x = _ := rel_ref (hrd (x, .ref n m j i) (by simp)) hb
  have hy : a.eval y = .int k q := rel_lit (hrd (y, .lit (.int k q)) (by simp))
  refine ⟨_, ?_, .ref _ _ _ _ (some ⟨b, j * m + i + q.toNat * sz, none⟩) (by rw [hb]; simp) fun b' hb' => ?_⟩
  · have h1 : q < (len : Int) := by omega
    simp [execOp, h, hx, hy, Instr.indexAt, run_underlying ht, asIntOf, Instr.sureAddr, h0, h1, he.size, Addr.add_lit]
  · rw [hb] at hb'
    cases hb'
    rw [← hi, Nat.add_assoc]

/-- The length of a slice. -/
def lenA : AV → Option Nat
  | .dat _ xs => some xs.length
  | .acc _ _ _ xs => some xs.length
  | .own _ _ _ len => some len
  | .lit (.slice _ len _) => some len
  | _ => none
theorem rel_len {v : AV} {u : Value} {n : Nat} (h : RelV X φ w v u) (hv : lenA v = some n) : ∃ A cap, u = .slice A n cap := by
  cases h with
  | dat _ _ A len cap g ok hr => cases hv; exact ⟨A, cap, by rw [ok.hlen]⟩
  | acc _ _ _ _ A len cap g ok hr _ _ => cases hv; exact ⟨A, cap, by rw [ok.hlen]⟩
  | own _ _ _ _ A cap => cases hv; exact ⟨A, cap, rfl⟩
  | lit => cases u with
    | slice A l c => cases hv; exact ⟨A, c, rfl⟩
    | _ => cases hv
  | _ => cases hv
theorem astep_len {x : Operand} {t e : TypeId} {v : AV} {n : Nat} (h : o.op = .call { callee := .builtin .len, args := #[x], argTypes := #[t] }) (ht : P.underlying t = some (.slice e)) (hv : lenA v = some n) : AStep P o [(x, v)] [] (.lit (.int .i64 (n : Int))) [] := astep_val fun X φ a w hrd _ => by
  obtain ⟨A, cap, hx⟩ := rel_len (hrd (x, v) (by simp)) hv
  dsimp only at hx
  exact ⟨_, by simp [execOp, h, hx, resolve, invoke, builtin, Builtin.len_, run_underlying ht, goInt], .lit _⟩

/-- s[lo:hi]. -/
def loA : Option Operand → Option AV → Option Int
  | none, none => some 0
  | some _, some (.lit (.int _ i)) => some i
  | _, _ => none
theorem sliceBounds_run (len cap : Nat) (lo hi : Option Value) (l h : Int) (hl : match lo with | none => l = 0 | some v => ∃ k, v = .int k l) (hh : match hi with | none => h = len | some v => ∃ k, v = .int k h) (h0 : 0 ≤ l) (h1 : l ≤ h) (h2 : h ≤ cap) (w : World) :
    (Instr.sliceBounds true len cap lo hi none).run P w = .ok (l.toNat, h.toNat, cap) w := by
  have h4 : 0 ≤ h := by omega
  have h5 : l ≤ ((h.toNat : Nat) : Int) := by omega
  have h6 : l ≤ max h 0 := by omega
  cases lo with
  | none =>
    subst hl
    cases hi with
    | none => subst hh; simp [Instr.sliceBounds]
    | some v => obtain ⟨k, rfl⟩ := hh; simp [Instr.sliceBounds, Instr.sliceBound, asIntOf, h4, h2]
  | some u =>
    obtain ⟨k', rfl⟩ := hl
    cases hi with
    | none => subst hh; simp [Instr.sliceBounds, Instr.sliceBound, asIntOf, h0, h1]
    | some v => obtain ⟨k, rfl⟩ := hh; simp [Instr.sliceBounds, Instr.sliceBound, asIntOf, h4, h2, h0, h6]
theorem slice_run {t e : TypeId} {gg : Bool} {m : Nat} (ht : P.underlying t = some (.slice e)) (he : TI P e gg m) (A : Option Addr) (len cap : Nat) (lo hi : Option Value) (l h : Int) (hl : match lo with | none => l = 0 | some v => ∃ k, v = .int k l) (hh : match hi with | none => h = len | some v => ∃ k, v = .int k h) (h0 : 0 ≤ l) (h1 : l ≤ h) (h2 : h ≤ cap) (w : World) :
    (Instr.sliceAt t (.slice A len cap) lo hi none).run P w = .ok (.slice (if cap = l.toNat then A else A.map (·.add (l.toNat * m))) (h.toNat - l.toNat) (cap - l.toNat)) w := by
  simp [Instr.sliceAt, Instr.slice, run_underlying ht, sliceBounds_run len cap lo hi l h hl hh h0 h1 h2, he.size]

theorem opt_eval {a : Act} {lo : Option Operand} {l : Int} {k : IntKind} {d : Int} (h : ∀ y, lo = some y → a.eval y = .int k l) (hn : lo = none → l = d) : match lo.map a.eval with | none => l = d | some v => ∃ k, v = .int k l := by
  cases lo with
  | none => exact hn rfl
  | some y => exact ⟨k, h y rfl⟩

/-- The operands of a slice expression. -/
def boundRd : Option Operand → IntKind → Int → List (Operand × AV)
  | none, _, _ => []
  | some y, k, i => [(y, .lit (.int k i))]
theorem astep_sliced {x : Operand} {lo hi : Option Operand} {t e : TypeId} {gg : Bool} {m : Nat} {v : AV} {xs ys : List (List AV)} {k k' : IntKind} {l hh : Int} (h : o.op = .slice t x lo hi none) (ht : P.underlying t = some (.slice e)) (he : TI P e gg m) (hv : asDat v = some (m, xs))
    (hl : lo = none → l = 0) (hhi : hi = none → hh = xs.length) (h0 : 0 ≤ l) (h1 : l ≤ hh) (h2 : hh ≤ xs.length) (hys : (xs.drop l.toNat).take (hh.toNat - l.toNat) = ys) :
    AStep P o ((x, v) :: (boundRd lo k l ++ boundRd hi k' hh)) [] (.dat m ys) [] := astep_val fun X φ a w hrd _ => by
  obtain ⟨A, len, cap, g, hx, ok, hr⟩ := rel_dat (hrd (x, v) (by simp)) hv
  dsimp only at hx
  have e1 := ok.hlen
  have e2 := ok.hcap
  have hlo : match lo.map a.eval with | none => l = 0 | some v => ∃ k, v = .int k l := opt_eval (k := k) (fun y hy => by subst hy; exact rel_lit (hrd (y, .lit (.int k l)) (by simp [boundRd]))) hl
  have hhi' : match hi.map a.eval with | none => hh = (len : Int) | some v => ∃ k, v = .int k hh := opt_eval (k := k') (fun y hy => by subst hy; exact rel_lit (hrd (y, .lit (.int k' hh)) (by simp [boundRd]))) (fun e => by rw [hhi e, e1])
  have hlen : ys.length = hh.toNat - l.toNat := by subst hys; simp; omega
  have hget : ∀ j y, ys[j]? = some y → xs[l.toNat + j]? = some y := fun j y hj => by
    subst hys
    rw [List.getElem?_take] at hj
    split at hj
    · rwa [List.getElem?_drop] at hj
    · cases hj
  refine ⟨_, ?_, RelV.dat m ys (if cap = l.toNat then A else A.map (·.add (l.toNat * m))) (hh.toNat - l.toNat) (cap - l.toNat) (fun j i => g (l.toNat + j) i) ⟨hlen.symm, by omega, by have := ok.hmost; omega, fun y hy => ?_, fun hne => ?_⟩ (fun j y hj i u hu => hr _ y (hget j y hj) i u hu)⟩
  · simp only [execOp, h, hx, Sem.run_bind, Option.map_none, slice_run ht he A len cap _ _ l hh hlo hhi' h0 h1 (by omega), Result.andThen_ok]
    rfl
  · obtain ⟨j, hj, rfl⟩ := List.getElem_of_mem hy
    exact ok.hsize _ (List.mem_of_getElem? (hget j _ (List.getElem?_eq_getElem hj)))
  · have hpos : 0 < ys.length := List.length_pos_iff.2 hne
    have hxne : xs ≠ [] := fun e => by
      rw [e] at h2
      simp at h2
      omega
    obtain ⟨b, of, hA, hc⟩ := ok.hcells hxne
    refine ⟨b, of + l.toNat * m, ?_, fun j y hj i hi => ?_⟩
    · rw [if_neg (by omega), hA]
      simp [Addr.add_lit]
    · have := hc _ y (hget j y hj) i hi
      rw [Nat.add_mul, ← Nat.add_assoc] at this
      exact this
theorem astep_sliceo {x : Operand} {lo hi : Option Operand} {t e : TypeId} {gg : Bool} {n m j len j' len' : Nat} {xs : List (List AV)} {k k' : IntKind} {l hh : Int} (h : o.op = .slice t x lo hi none) (ht : P.underlying t = some (.slice e)) (he : TI P e gg m)
    (hl : lo = none → l = 0) (hhi : hi = none → hh = len) (h0 : 0 ≤ l) (h1 : l ≤ hh) (h2 : hh ≤ len) (hlt : l < len) (hj : j + l.toNat = j') (hlen : hh.toNat - l.toNat = len') :
    AStep P o ((x, .own n m j len) :: (boundRd lo k l ++ boundRd hi k' hh)) [(n, .own m xs)] (.own n m j' len') [] := astep_val fun X φ a w hrd hbl => by
  obtain ⟨b, hb, hown⟩ := hbl (n, .own m xs) (by simp)
  obtain ⟨cap, hc, hcm, hx⟩ := rel_own (hrd (x, .own n m j len) (by simp)) hb
  dsimp only at hx
  have hlo : match lo.map a.eval with | none => l = 0 | some v => ∃ k, v = .int k l := opt_eval (k := k) (fun y hy => by subst hy; exact rel_lit (hrd (y, .lit (.int k l)) (by simp [boundRd]))) hl
  have hhi' : match hi.map a.eval with | none => hh = (len : Int) | some v => ∃ k, v = .int k hh := opt_eval (k := k') (fun y hy => by subst hy; exact rel_lit (hrd (y, .lit (.int k' hh)) (by simp [boundRd]))) hhi
  refine ⟨_, ?_, .own _ _ _ _ (some ⟨b, j * m + l.toNat * m, none⟩) (cap - l.toNat) (by omega) (by omega) (by rw [hb]; simp) fun b' hb' => ?_⟩
  · simp only [execOp, h, hx, Sem.run_bind, Option.map_none, slice_run ht he _ len cap _ _ l hh hlo hhi' h0 h1 (by omega), Result.andThen_ok, hlen]
    rw [if_neg (by omega)]
    simp [Addr.add_lit]
  · rw [hb] at hb'
    cases hb'
    rw [← hj, Nat.add_mul]

/-- A new block under a new name. -/
def upd (φ : Nat → FSlot) (n : Nat) (s : FSlot) : Nat → FSlot := fun k => if k = n then s else φ k
theorem Evo.alloc {n : Nat} (hn : φ n = .unused) (hlt : ∀ n b, (φ n).lies b → b < w.heap.size) (ob : Obj) : Evo X φ w (upd φ n (.own w.heap.size)) (w.alloc ob) := by
  have ne : ∀ k, φ k ≠ .unused → k ≠ n := fun k hk e => hk (e ▸ hn)
  refine ⟨rfl, rfl, rfl, by simp, fun b hb _ => heap_alloc_old w ob hb, fun b ⟨k, hk⟩ => ?_, fun b off hd => ⟨⟨by simp; have := hd.lt; omega, hd.hid, fun k hk => ?_, fun k L hk => ?_⟩, World.cell?_of_block (heap_alloc_old w ob hd.lt)⟩, fun k hk => ?_, fun k b hk => ?_, fun k t hk => ?_⟩
  · unfold upd at hk
    split at hk
    · rcases hk with e | ⟨L, e⟩ <;> cases e
      exact .inr (Nat.le_refl _)
    · exact .inl ⟨k, hk⟩
  · unfold upd at hk
    split at hk
    · cases hk
      exact absurd hd.lt (Nat.lt_irrefl _)
    · exact hd.own k hk
  · unfold upd at hk
    split at hk
    · cases hk
    · exact hd.tok k L hk
  · rw [upd, if_neg (ne k (by rw [hk]; simp))]; exact hk
  · rw [upd, if_neg (ne k (by rw [hk]; simp))]; exact .inl hk
  · rw [upd, if_neg (ne k (by rw [hk]; simp))]
    exact .inr ⟨hk, fun b L e => heap_alloc_old w ob (hlt k b (by rw [hk, e]; exact .inr ⟨L, rfl⟩))⟩
theorem Evo.alloc0 (hlt : ∀ n b, (φ n).lies b → b < w.heap.size) (ob : Obj) : Evo X φ w φ (w.alloc ob) :=
  ⟨rfl, rfl, rfl, by simp, fun b hb _ => heap_alloc_old w ob hb, fun _ h => .inl h, fun b _ hd => ⟨⟨by simp; have := hd.lt; omega, hd.hid, hd.own, hd.tok⟩, World.cell?_of_block (heap_alloc_old w ob hd.lt)⟩, fun _ h => h, fun _ _ h => .inl h,
    fun k _ hk => .inr ⟨hk, fun b L e => heap_alloc_old w ob (hlt k b (by rw [hk, e]; exact .inr ⟨L, rfl⟩))⟩⟩
theorem upd_distinct {n : Nat} (hd : Distinct φ) (hlt : ∀ n b, (φ n).lies b → b < w.heap.size) : Distinct (upd φ n (.own w.heap.size)) := by
  intro k k' b hk hk'
  unfold upd at hk hk'
  split at hk <;> split at hk'
  · simp_all
  · rcases hk with e | ⟨L, e⟩ <;> cases e
    have := hlt _ _ hk'
    omega
  · rcases hk' with e | ⟨L, e⟩ <;> cases e
    have := hlt _ _ hk
    omega
  · exact hd k k' b hk hk'

theorem astep_new {rd : List (Operand × AV)} {n m : Nat} {xs : List (List AV)} {r : AV}
    (h : ∀ (X : Nat → Nat → Prop) (φ : Nat → FSlot) (a : Act) (w : World), (∀ p ∈ rd, RelV X φ w p.2 (a.eval p.1)) → ∃ v cs ty, (execOp a.eval o).run P w = .ok (.value v) (w.alloc (.cells cs ty)) ∧ xs.length * m ≤ cs.size ∧ (∀ x ∈ xs, x.length = m) ∧
      (∀ j x, xs[j]? = some x → ∀ i u, x[i]? = some u → RelV X φ w u (cs.getD (j * m + i) undef)) ∧ (∀ φ' w', φ' n = .own w.heap.size → RelV X φ' w' r v)) : AStep P o rd [(n, .unused)] r [(n, .own m xs)] := by
  intro X φ a w hrd hbl hd hX hlt next Q k
  obtain ⟨v, cs, ty, hrun, h1, h2, h3, h4⟩ := h X φ a w hrd
  have hn : φ n = .unused := hbl (n, .unused) (by simp)
  have evo := Evo.alloc (X := X) hn hlt (.cells cs ty)
  unfold Oper.wp
  rw [hrun]
  refine k v (upd φ n (.own w.heap.size)) _ (h4 _ _ (by simp [upd])) (fun p hp => ?_) (upd_distinct hd hlt) (fun k hk => ?_) (fun b hb _ => heap_alloc_old w _ hb) evo
  · simp at hp
    subst hp
    refine ⟨w.heap.size, by simp [upd], ⟨cs, ty, heap_alloc_new w _, h1, h2, fun j x hj i u hu => (h3 j x hj i u hu).evo evo⟩, fun off hx => ?_⟩
    exact absurd (hX _ _ hx) (Nat.lt_irrefl _)
  · simp at hk
    simp [upd, hk]

/-- A type's zero value, as cells. -/
def TZ (P : Program) (t : TypeId) (zs : List Value) : Prop := ∃ i z, P.info? t = some i ∧ i.zero = some z ∧ z.cells.toList = zs
theorem TZ.run {t : TypeId} {zs : List Value} (h : TZ P t zs) (w : World) : ∃ z, (zeroValue t).run P w = .ok z w ∧ z.cells.toList = zs := by
  obtain ⟨i, z, h1, h2, h3⟩ := h
  exact ⟨z, by simp [zeroValue, typeInfo, h1, h2], h3⟩
theorem astep_alloc {t : TypeId} {zs : List Value} {n m : Nat} (h : o.op = .alloc t) (hz : TZ P t zs) (hm : zs.length = m) : AStep P o [] [(n, .unused)] (.ref n m 0 0) [(n, .own m [zs.map AV.lit])] := astep_new fun X φ a w _ => by
  obtain ⟨z, hz1, hz2⟩ := hz.run w
  have hsz : z.cells.size = m := by rw [← hm, ← hz2]; simp
  refine ⟨.pointer (some ⟨w.heap.size, 0, none⟩), z.cells, t, ?_, by simp [hsz], by simp [hm], fun j x hj i u hu => ?_, fun φ' w' hf => .ref _ _ _ _ _ (by rw [hf]; simp) fun b hb => ?_⟩
  · simp only [execOp, h, Instr.alloc, Sem.run_bind, hz1, Result.andThen_ok, newVar, newRow, newObj]
    rfl
  · cases j with
    | zero =>
      simp at hj
      subst hj
      rw [List.getElem?_map] at hu
      cases hzi : zs[i]? with
      | none => rw [hzi] at hu; cases hu
      | some c =>
        rw [hzi] at hu
        cases hu
        have : z.cells.getD (0 * m + i) undef = c := by
          have h5 : z.cells.toList[i]? = some c := by rw [hz2]; exact hzi
          rw [Array.getD_eq_getD_getElem?]
          simp only [Nat.zero_mul, Nat.zero_add]
          rw [← Array.getElem?_toList, h5]; rfl
        rw [this]
        exact .lit c
    | succ j => simp at hj
  · rw [hf] at hb
    cases hb
    simp

theorem astep_box {t : TypeId} {x : Operand} {v : AV} {n m : Nat} {c : List AV} (h : o.op = .box t x) (h1 : (stA v).all AV.one = true) (hc : stA v = c) (hm : c.length = m) : AStep P o [(x, v)] [(n, .unused)] (.ref n m 0 0) [(n, .own m [c])] := astep_new fun X φ a w hrd => by
  obtain ⟨h2, _, h3⟩ := stA_spec (hrd (x, v) (by simp)) h1
  dsimp only at h2 h3
  rw [hc] at h2 h3
  refine ⟨.pointer (some ⟨w.heap.size, 0, none⟩), (a.eval x).cells, t, ?_, by simp [h2, hm], by simp [hm], fun j z hj i u hu => ?_, fun φ' w' hf => .ref _ _ _ _ _ (by rw [hf]; simp) fun b hb => ?_⟩
  · simp only [execOp, h, Instr.box, Sem.run_bind, newVar, newRow, newObj]
    rfl
  · cases j with
    | zero =>
      simp at hj
      subst hj
      have := h3 i u hu
      rw [List.getD_eq_getElem?_getD, Array.getElem?_toList] at this
      rw [Array.getD_eq_getD_getElem?]
      simpa using this
    | succ j => simp at hj
  · rw [hf] at hb
    cases hb
    simp
end
end Go.Proofs.Ytenpbiineblcjaa
