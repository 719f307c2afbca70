/-
  A region that draws its order, with new variables that may be made at any time (ops X) beside calls that only make memory: the walk goes on in ONE order, over whatever world the facts hold in. Plain laws on the model's regions; no conditions.
-/
import Derived.Test.YtenpbiineblcjaaKnow
import Derived.Deep.RegionHeld3
namespace Go.Proofs.Ytenpbiineblcjaa
open Go.RowKit

/-- A variable made behind the start (b0: the heap's size there). -/
def kNew (b0 B : Nat) (cs : Array Value) : World → Prop := fun W => RowIs W B cs ∧ b0 ≤ B
instance {b0 B : Nat} {cs : Array Value} : Keeps (kNew b0 B cs) := ⟨fun hb h => ⟨RowIs.below h.1 hb (RowIs.lt h.1), h.2⟩⟩
instance {b0 B : Nat} {cs : Array Value} : Tells (kNew b0 B cs) (fun W => ((∀ j, W.cell? ⟨B, j, none⟩ = cs[j]?) ∧ B < W.heap.size) ∧ b0 ≤ B) := ⟨fun h => ⟨⟨RowIs.cells h.1, RowIs.lt h.1⟩, h.2⟩⟩

section
variable {P : Program} {ops : Array Oper} {Q : Exit → Act → World → Prop} {md : Region.Mode} {S : World → Prop} {b0 : Nat}

/-- A new variable: the operation's number, its slot, its cells and their type. -/
structure NewVar where
  num : Nat
  slot : Tmp
  cells : Array Value
  type : TypeId

/-- What the operation does, wherever it stands. -/
structure NewVar.Fits (P : Program) (ops : Array Oper) (x : NewVar) (o : Oper) : Prop where
  here : ops[x.num]? = some o
  dst : o.dst = some x.slot
  free : o.guard = none
  run : ∀ (r : Operand → Value) (w : World), (execOp r o).run P w = .ok (.value (.pointer (some ⟨w.heap.size, 0, none⟩))) (w.alloc (.cells x.cells x.type))

def NewVar.put (x : NewVar) (a : Act) (B : Nat) : Act := a.put (some x.slot) (.pointer (some ⟨B, 0, none⟩))

/-- The walk from here on in every world in which K holds, whichever of X have been made before, wherever they lie (not in 'used'). -/
def Gen (P : Program) (md : Region.Mode) (ops : Array Oper) (Q : Exit → Act → World → Prop) (S : World → Prop) (b0 : Nat) : List Nat → List NewVar → Nat → Array Bool → Act → (World → Prop) → Prop
  | _, [], n, listed, a, K => ∀ w, K w → S w → wpAnyH P md ops Q S n listed a w
  | used, x :: X, n, listed, a, K => Gen P md ops Q S b0 used X (n + 1) listed a K ∧ ∀ B, B ∉ used → Gen P md ops Q S b0 (B :: used) X n (listed.setIfInBounds x.num true) (x.put a B) (kAnd (kNew b0 B x.cells) K)

theorem Gen.start : ∀ {X : List NewVar} {used : List Nat} {n : Nat} {listed : Array Bool} {a : Act} {K : World → Prop} {w : World}, Gen P md ops Q S b0 used X n listed a K → K w → S w → wpAnyH P md ops Q S (n + X.length) listed a w
  | [], _, _, _, _, _, w, g, hk, hs => g w hk hs
  | x :: X, _, n, _, _, _, _, g, hk, hs => by
    have := g.1.start hk hs
    rwa [List.length_cons, show n + (X.length + 1) = n + 1 + X.length from by omega]

theorem Gen.same : ∀ {X : List NewVar} {used used' : List Nat} {n : Nat} {listed : Array Bool} {a : Act} {K : World → Prop}, (∀ q, q ∈ used' → q ∈ used) → (∀ q, q ∈ used → q ∈ used') → Gen P md ops Q S b0 used X n listed a K → Gen P md ops Q S b0 used' X n listed a K
  | [], _, _, _, _, _, _, _, _, g => g
  | _ :: _, _, _, _, _, _, _, h, h', g => ⟨g.1.same h h', fun B hB => (g.2 B (fun hm => hB (h' B hm))).same (fun q hq => by
      rcases List.mem_cons.1 hq with e | e
      · exact List.mem_cons.2 (.inl e)
      · exact List.mem_cons.2 (.inr (h q e))) (fun q hq => by
      rcases List.mem_cons.1 hq with e | e
      · exact List.mem_cons.2 (.inl e)
      · exact List.mem_cons.2 (.inr (h' q e)))⟩

/-- What waits for one of X waits for something else too, which is not yet done. -/
def Gen.chk (md : Region.Mode) (ops : Array Oper) : List NewVar → Array Bool → Bool
  | [], _ => true
  | x :: X, listed => Gen.chk md ops X listed && Gen.chk md ops X (listed.setIfInBounds x.num true) && (Region.ready md ops (listed.setIfInBounds x.num true)).all (fun i => (Region.ready md ops listed).contains i) && !(listed.getD x.num true)

/-- All operations but X are apart from X's. -/
def Gen.aparts (ops : Array Oper) (xs : List Nat) : Bool :=
  xs.all fun i => match ops[i]? with
    | none => false
    | some oi => (List.range ops.size).all fun j => xs.contains j || match ops[j]? with | some oj => oi.apart ops oj || oj.after.any (fun e => e.on == i) | none => true

theorem kvar {K : World → Prop} {W : World} (hb : b0 ≤ W.heap.size) (h : K W) [Keeps K] (cs : Array Value) (t : TypeId) : kAnd (kNew b0 W.heap.size cs) K (W.alloc (.cells cs t)) :=
  ⟨⟨RowIs.new W cs t, hb⟩, Keeps.keep (Below.allocs (Below.refl _ _) _) h⟩
theorem wpOp_alloc {x : NewVar} {o : Oper} (hx : x.Fits P ops o) {K : Act → World → Prop} {a : Act} {w : World} (h : K (x.put a w.heap.size) (w.alloc (.cells x.cells x.type))) : wpOp P ops Q x.num K a w := by
  unfold wpOp
  rw [hx.here]
  dsimp only
  rw [if_pos (by simp [Region.wanted, hx.free])]
  refine .inl ?_
  unfold Oper.wp
  rw [hx.run]
  simp only [Oper.upon, hx.dst]
  exact h

/-- An operation apart from a slot's writer runs as it did, whatever the slot holds. -/
theorem wpOp_slot {j : Nat} {oi oj : Oper} {d : Tmp} {v : Value} (hd : oi.dst = some d) (hj : ops[j]? = some oj) (hap : oi.apart ops oj = true)
    (hsj : ∀ cs b, oj.op ≠ .select cs b) (hQ : ∀ c a w, Q (.panic c) a w → Q (.panic c) (a.put (some d) v) w) {K : Act → World → Prop} {a : Act} {w : World}
    (h : wpOp P ops Q j (fun a' w' => K (a'.put (some d) v) w') a w) : wpOp P ops Q j K (a.put (some d) v) w := by
  obtain ⟨h1, h2, h3⟩ := Oper.apart_spec hap
  rw [hd] at h1 h2
  have h2' : ∀ e, oj.dst = some e → some d ≠ some e := fun e he hde => h2 d rfl (by rw [he, hde])
  unfold wpOp at *
  simp only [hj] at *
  rw [wanted_put oj a (some d) v h1]
  split
  · rename_i hw
    simp only [hw, if_true] at h
    rcases h with h | ⟨hasks, hlets⟩
    case inr => exact .inr ⟨by unfold Oper.asks at *; rw [execOp_put oj hsj a (some d) v h1]; exact hasks, hlets⟩
    refine .inl ?_
    unfold Oper.wp at *
    rw [execOp_put oj hsj a (some d) v h1]
    generalize (execOp a.eval oj).run P w = r at *
    cases r with
    | ok n w' =>
      cases n <;> simp only [Oper.upon] at h ⊢
      case value u => rw [← Act.put_comm a u v h2']; exact h
      case skip => rw [← Act.put_comm a undef v h2']; exact h
      case defer e =>
        rw [Act.put_defers, ← Act.put_comm _ undef v h2']
        exact h
      case enter f args =>
        refine Calls.mono h fun e w'' he => ?_
        cases e with
        | returned u => dsimp only at he ⊢; rw [← Act.put_comm a u v h2']; exact he
        | panicked c => exact hQ _ _ _ he
        | outgrown => exact he
      case row row args => exact Rows.mono h fun u w'' he => by rw [← Act.put_comm a u v h2']; exact he
    | halt x w' =>
      cases x <;> simp only [Oper.upon] at h ⊢
      case panic u => exact hQ _ _ _ h
      all_goals exact h
  · rename_i hw
    simp only [hw] at h
    rw [← Act.put_comm a undef v h2']
    exact h

theorem marked_not_ready {listed : Array Bool} {i : Nat} (h : listed.getD i true = false) : i ∉ Region.ready md ops (listed.setIfInBounds i true) := fun hr => by
  have h1 := (mem_ready.1 hr).1
  rcases Nat.lt_or_ge i listed.size with h' | h'
  · simp [h'] at h1
  · simp [Array.getElem?_eq_none h'] at h

/-- All of X do what they say, and are apart from what else may come up. -/
structure Gen.Ok (P : Program) (ops : Array Oper) (Q : Exit → Act → World → Prop) (X : List NewVar) : Prop where
  fits : ∀ x ∈ X, ∃ o, x.Fits P ops o
  sel : Region.noSelect ops = true
  calm : ∀ (c : List PanicEntry) (a : Act) (w : World) (d : Tmp) (v : Value), Q (.panic c) a w ↔ Q (.panic c) (a.put (some d) v) w

theorem Gen.Ok.tail {x : NewVar} {X : List NewVar} (h : Gen.Ok P ops Q (x :: X)) : Gen.Ok P ops Q X := ⟨fun y hy => h.fits y (List.mem_cons_of_mem _ hy), h.sel, h.calm⟩

/-- What may come up is apart from X. -/
def Gen.far (md : Region.Mode) (ops : Array Oper) (X : List NewVar) (listed : Array Bool) : Bool :=
  (Region.ready md ops listed).all fun i => X.all fun x => i == x.num || (match ops[x.num]?, ops[i]? with | some ox, some oi => ox.apart ops oi | _, _ => false)

theorem Gen.far_spec {x : NewVar} {X : List NewVar} {listed : Array Bool} (h : Gen.far md ops X listed = true) (hx : x ∈ X) {i : Nat} {ox oi : Oper} (hi : i ∈ Region.ready md ops listed) (hne : i ≠ x.num) (h1 : ops[x.num]? = some ox) (h2 : ops[i]? = some oi) : ox.apart ops oi = true := by
  have := List.all_eq_true.1 (List.all_eq_true.1 h i hi) x hx
  simpa [hne, h1, h2] using this

theorem Gen.far_tail {x : NewVar} {X : List NewVar} {listed : Array Bool} (h : Gen.far md ops (x :: X) listed = true) : Gen.far md ops X listed = true := by
  refine List.all_eq_true.2 fun i hi => ?_
  have := List.all_eq_true.1 h i hi
  rw [List.all_cons, Bool.and_eq_true] at this
  exact this.2

theorem Gen.far_of {X : List NewVar} {listed listed' : Array Bool} (h : Gen.far md ops X listed = true) (hs : ∀ i ∈ Region.ready md ops listed', i ∈ Region.ready md ops listed) : Gen.far md ops X listed' = true :=
  List.all_eq_true.2 fun i hi => List.all_eq_true.1 h i (hs i hi)

/-- What a step leaves. -/
def Gen.Left (P : Program) (md : Region.Mode) (ops : Array Oper) (Q : Exit → Act → World → Prop) (S : World → Prop) (b0 : Nat) (used : List Nat) (X : List NewVar) (n : Nat) (listed : Array Bool) (w : World) (b : Act) (w' : World) : Prop :=
  Below w.heap.size w w' ∧ ∃ (K' : World → Prop) (more : List Nat), Keeps K' ∧ K' w' ∧ (∀ q ∈ more, w.heap.size ≤ q) ∧ (∀ W, K' W → ∀ q ∈ more ++ used, q < W.heap.size) ∧ Gen P md ops Q S b0 (more ++ used) X n listed b K'

/-- The next operation (or whichever of several comes up), in every world in which K holds. -/
theorem Gen.steps (hS : Keeps S) (hb0 : ∀ w, S w → b0 ≤ w.heap.size) : ∀ {X : List NewVar} {used : List Nat} {n : Nat} {listed : Array Bool} {a : Act} {K : World → Prop}, Gen.Ok P ops Q X → Gen.chk md ops X listed = true → Gen.far md ops X listed = true → (∃ i ∈ Region.ready md ops listed, i ∉ X.map (·.num)) → Keeps K → (∀ W, K W → ∀ q ∈ used, q < W.heap.size) →
    (∀ i ∈ Region.ready md ops listed, i ∉ X.map (·.num) → ∀ w, K w → S w → wpOp P ops Q i (Gen.Left P md ops Q S b0 used X n (listed.setIfInBounds i true) w) a w) →
    Gen P md ops Q S b0 used X (n + 1) listed a K
  | [], used, n, listed, a, K, _, _, _, hne, _, _, h => fun w hk hs =>
    ⟨fun h0 => by (obtain ⟨i, hi, _⟩ := hne; rw [h0] at hi; cases hi), fun i hi => wpOp_mono (fun b w' ⟨hb, K', _, _, hk', _, _, g⟩ => ⟨hS.keep hb hs, g w' hk' (hS.keep hb hs)⟩) (h i hi (by simp) w hk hs)⟩
  | x :: X, used, n, listed, a, K, ok, hc, hf, hne, hK, hu, h => by
    simp only [Gen.chk, Bool.and_eq_true, Bool.not_eq_true'] at hc
    obtain ⟨⟨⟨c1, c2⟩, c3⟩, c4⟩ := hc
    have hsub : ∀ i ∈ Region.ready md ops (listed.setIfInBounds x.num true), i ∈ Region.ready md ops listed := fun i hi => by
      simpa using List.all_eq_true.1 c3 i hi
    obtain ⟨ox, hx⟩ := ok.fits x (by simp)
    obtain ⟨q0, hq, hqn⟩ := hne
    simp only [List.map_cons, List.mem_cons, not_or] at hqn
    have part2 : ∀ B, B ∉ used → Gen P md ops Q S b0 (B :: used) X (n + 1) (listed.setIfInBounds x.num true) (x.put a B) (kAnd (kNew b0 B x.cells) K) := fun B hBu => by
      refine Gen.steps hS hb0 ok.tail c2 (Gen.far_of (Gen.far_tail hf) hsub) ⟨q0, ready_mono hq hqn.1, hqn.2⟩ inferInstance (fun W hW q hq' => ?_) fun i hi hni w hk hsw => ?_
      · rcases List.mem_cons.1 hq' with rfl | e
        · exact RowIs.lt hW.1.1
        · exact hu W hW.2 q e
      have hxi : i ≠ x.num := fun e => marked_not_ready c4 (e ▸ hi)
      have hil := hsub i hi
      obtain ⟨_, oi, hoi, _⟩ := mem_ready.1 hil
      refine wpOp_slot hx.dst hoi (Gen.far_spec hf (by simp) hil hxi hx.here hoi) (fun cs b => Region.noSelect_spec ok.sel i oi cs b hoi) (fun c a w => (ok.calm c a w _ _).1) ?_
      refine wpOp_mono (fun b w' hh => ?_) (h i hil (by simp only [List.map_cons, List.mem_cons, not_or]; exact ⟨hxi, hni⟩) w hk.2 hsw)
      obtain ⟨hb, K', more, hK', hk', hm1, hm2, g⟩ := hh
      have hBm : B ∉ more ++ used := fun hm => by
        rcases List.mem_append.1 hm with e | e
        · have h1 := hm1 B e
          have h2 := RowIs.lt hk.1.1
          omega
        · exact hBu e
      refine ⟨hb, kAnd (kNew b0 B x.cells) K', more, inferInstance, ⟨Keeps.keep (K := kNew b0 B x.cells) hb hk.1, hk'⟩, hm1, fun W hW q hq' => ?_, ?_⟩
      · rcases List.mem_append.1 hq' with e | e
        · exact hm2 W hW.2 q (List.mem_append_left _ e)
        · rcases List.mem_cons.1 e with rfl | e
          · exact RowIs.lt hW.1.1
          · exact hm2 W hW.2 q (List.mem_append_right _ e)
      rw [Array.setIfInBounds_comm _ _ (Ne.symm hxi)]
      refine (g.2 B hBm).same (fun q hq' => ?_) (fun q hq' => ?_)
      · simp only [List.mem_append, List.mem_cons] at hq' ⊢
        rcases hq' with e | e | e
        · exact .inr (.inl e)
        · exact .inl e
        · exact .inr (.inr e)
      · simp only [List.mem_append, List.mem_cons] at hq' ⊢
        rcases hq' with e | e | e
        · exact .inr (.inl e)
        · exact .inl e
        · exact .inr (.inr e)
    refine ⟨Gen.steps hS hb0 ok.tail c1 (Gen.far_tail hf) ⟨q0, hq, hqn.2⟩ hK hu fun i hi hni w hk hsw => ?_, part2⟩
    by_cases e : i = x.num
    · subst e
      have hBu : w.heap.size ∉ used := fun hm => Nat.lt_irrefl _ (hu w hk _ hm)
      refine wpOp_alloc hx ⟨Below.allocs (Below.refl _ _) _, _, [w.heap.size], inferInstance, kvar (hb0 w hsw) hk _ _, by simp, fun W hW q hq' => ?_, part2 _ hBu⟩
      rcases List.mem_cons.1 hq' with rfl | e
      · exact RowIs.lt hW.1.1
      · exact hu W hW.2 q e
    · refine wpOp_mono (fun b w' hh => ?_) (h i hi (by simp only [List.map_cons, List.mem_cons, not_or]; exact ⟨e, hni⟩) w hk hsw)
      obtain ⟨hb, K', more, hK', hk', hm1, hm2, g⟩ := hh
      exact ⟨hb, K', more, hK', hk', hm1, hm2, g.1⟩

/-- The same with one operation that may come up (beside X). -/
theorem Gen.step (hS : Keeps S) (hb0 : ∀ w, S w → b0 ≤ w.heap.size) {X : List NewVar} {used : List Nat} {n : Nat} {listed : Array Bool} {a : Act} {K : World → Prop} (j : Nat) (ok : Gen.Ok P ops Q X) (hc : (Gen.chk md ops X listed && (Gen.far md ops X listed && (((Region.ready md ops listed).filter (fun i => !(X.map (·.num)).contains i)) == [j]))) = true) (hK : Keeps K)
    (hu : ∀ W, K W → ∀ q ∈ used, q < W.heap.size) (h : ∀ w, K w → S w → wpOp P ops Q j (Gen.Left P md ops Q S b0 used X n (listed.setIfInBounds j true) w) a w) : Gen P md ops Q S b0 used X (n + 1) listed a K := by
  simp only [Bool.and_eq_true, beq_iff_eq] at hc
  obtain ⟨c1, c2, c3⟩ := hc
  have hj : j ∈ (Region.ready md ops listed).filter (fun i => !(X.map (·.num)).contains i) := by rw [c3]; simp
  rw [List.mem_filter] at hj
  refine Gen.steps hS hb0 ok c1 c2 ⟨j, hj.1, by simpa using hj.2⟩ hK hu fun i hi hni w hk hsw => ?_
  have : i ∈ (Region.ready md ops listed).filter (fun i => !(X.map (·.num)).contains i) := List.mem_filter.2 ⟨hi, by simpa using hni⟩
  rw [c3] at this
  simp only [List.mem_singleton] at this
  subst this
  exact h w hk hsw

/-- What yields its value wherever S holds is taken first. -/
theorem Gen.take : ∀ {X : List NewVar} {used : List Nat} {n : Nat} {listed : Array Bool} {a : Act} {K : World → Prop} (i : Nat) {oi : Oper} {v : Value}, Gen.Ok P ops Q X → ops[i]? = some oi → Region.free md ops listed i = true → (Region.ready md ops listed).contains i = true →
    (X.all fun x => !(i == x.num) && (match ops[x.num]? with | some ox => ox.apart ops oi | none => false)) = true → YieldsIf P ops S oi v a → Gen P md ops Q S b0 used X n (listed.setIfInBounds i true) (a.put oi.dst v) K → Gen P md ops Q S b0 used X (n + 1) listed a K
  | [], _, n, listed, a, K, i, oi, v, ok, hi, hf, hr, _, hy, g => fun w hk hs =>
    wpAnyH_take hi ok.sel hf hr (fun c a' w' hq => by
      cases hd : oi.dst with
      | none => rw [hd] at hq; exact hq
      | some d => rw [hd] at hq; exact (ok.calm c a' w' d v).2 hq) hy hs (g w hk hs)
  | x :: X, _, n, listed, a, K, i, oi, v, ok, hi, hf, hr, ha, hy, g => by
    rw [List.all_cons, Bool.and_eq_true, Bool.and_eq_true] at ha
    obtain ⟨⟨hxi, hap⟩, ha'⟩ := ha
    obtain ⟨ox, hx⟩ := ok.fits x (by simp)
    rw [hx.here] at hap
    dsimp only at hap
    have hne : i ≠ x.num := by simpa using hxi
    obtain ⟨h1, h2, h3⟩ := Oper.apart_spec hap
    refine ⟨Gen.take i ok.tail hi hf hr ha' hy g.1, fun B hB => ?_⟩
    refine Gen.take i (v := v) ok.tail hi ?_ ?_ ha' ?_ ?_
    · unfold Region.free at hf ⊢
      rw [hi] at hf ⊢
      dsimp only at hf ⊢
      refine List.all_eq_true.2 fun j hj => ?_
      have := List.all_eq_true.1 hf j hj
      simp only [Bool.or_eq_true] at this ⊢
      rcases this with (h | h) | h
      · exact .inl (.inl h)
      · refine .inl (.inr ?_)
        by_cases e : x.num = j
        · subst e
          rcases Nat.lt_or_ge x.num listed.size with h' | h'
          · simp [h']
          · simp
        · rw [getD_set_ne true e]; exact h
      · exact .inr h
    · simpa using ready_mono (by simpa using hr) hne
    · refine hy.of_same ?_ ?_
      · exact execOp_put oi (fun cs b => Region.noSelect_spec ok.sel i oi cs b hi) a (some x.slot) _ (fun d hd => h1 d (by rw [hx.dst]; exact hd))
      · exact wanted_put oi a (some x.slot) _ (fun d hd => h1 d (by rw [hx.dst]; exact hd))
    · rw [Array.setIfInBounds_comm _ _ (Ne.symm hne)]
      have hcomm : (x.put a B).put oi.dst v = x.put (a.put oi.dst v) B := Act.put_comm a _ v (fun d hd => h2 d (by rw [hx.dst]; exact hd))
      rw [hcomm]
      exact g.2 B hB

/-- Now only X is left: they are all made, wherever they lie. -/
def Gen.Fin (P : Program) (md : Region.Mode) (ops : Array Oper) (Q : Exit → Act → World → Prop) (S : World → Prop) (b0 : Nat) : List Nat → List NewVar → Nat → Array Bool → Act → (World → Prop) → Prop
  | _, [], n, listed, a, K => ∀ w, K w → S w → wpAnyH P md ops Q S n listed a w
  | used, x :: X, n, listed, a, K => ∀ B, B ∉ used → Gen.Fin P md ops Q S b0 (B :: used) X n (listed.setIfInBounds x.num true) (x.put a B) (kAnd (kNew b0 B x.cells) K)
def Gen.chkE (md : Region.Mode) (ops : Array Oper) : List NewVar → Array Bool → Bool
  | [], _ => true
  | x :: X, listed => Gen.chkE md ops X (listed.setIfInBounds x.num true) && (Gen.chk md ops X listed && (Gen.far md ops X listed && ((Region.ready md ops listed).filter (fun i => !(X.map (·.num)).contains i) == [x.num])))

theorem Gen.finish (hS : Keeps S) (hb0 : ∀ w, S w → b0 ≤ w.heap.size) : ∀ {X : List NewVar} {used : List Nat} {n : Nat} {listed : Array Bool} {a : Act} {K : World → Prop}, Gen.Ok P ops Q X → Gen.chkE md ops X listed = true → Keeps K → (∀ W, K W → ∀ q ∈ used, q < W.heap.size) → Gen.Fin P md ops Q S b0 used X n listed a K → Gen P md ops Q S b0 used X n listed a K
  | [], _, _, _, _, _, _, _, _, _, g => g
  | x :: X, used, n, listed, a, K, ok, hc, hK, hu, g => by
    simp only [Gen.chkE] at hc
    rw [Bool.and_eq_true] at hc
    obtain ⟨c1, c2⟩ := hc
    obtain ⟨ox, hx⟩ := ok.fits x (by simp)
    have hu' : ∀ B W, (kAnd (kNew b0 B x.cells) K) W → ∀ q ∈ B :: used, q < W.heap.size := fun B W hW q hq' => by
      rcases List.mem_cons.1 hq' with rfl | e
      · exact RowIs.lt hW.1.1
      · exact hu W hW.2 q e
    have part2 : ∀ B, B ∉ used → Gen P md ops Q S b0 (B :: used) X n (listed.setIfInBounds x.num true) (x.put a B) (kAnd (kNew b0 B x.cells) K) := fun B hB => Gen.finish hS hb0 ok.tail c1 inferInstance (hu' B) (g B hB)
    exact ⟨Gen.step hS hb0 x.num ok.tail c2 hK hu fun w hk hsw => wpOp_alloc hx ⟨Below.allocs (Below.refl _ _) _, _, [w.heap.size], inferInstance, kvar (hb0 w hsw) hk _ _, by simp, hu' _, part2 _ (fun hm => Nat.lt_irrefl _ (hu w hk _ hm))⟩, part2⟩

/-- The beginning. -/
theorem Gen.region {id : Nat} {a : Act} {w : World} {X : List NewVar} {n : Nat} (K : World → Prop) [Keeps K] (hm : P.follows .mixedOrders = true) (hk : K w) (hn : n + X.length = ops.size)
    (g : Gen P .any ops Q K b0 [] X n (Array.replicate ops.size false) a K) : (Code.region id ops true).wp P Q a w := by
  refine wp_region_held (S := K) hm ?_
  have := g.start (w := { w with drawn := w.drawn + 1 }) (kdrew hk) (kdrew hk)
  rw [hn] at this
  exact this

/-- Behind X: one operation after the other. -/
theorem Gen.one {n : Nat} {listed : Array Bool} {a : Act} {w : World} (j : Nat) (hr : Region.ready md ops listed = [j]) (h : wpOp P ops Q j (fun b w' => S w' ∧ wpAnyH P md ops Q S n (listed.setIfInBounds j true) b w') a w) : wpAnyH P md ops Q S (n + 1) listed a w :=
  wpAnyH_all hr (by simp) fun i hi => by
    simp only [List.mem_singleton] at hi
    subst hi
    exact h

/-- A step that only makes memory: K stays; with a word more. -/
theorem Gen.stay {used : List Nat} {X : List NewVar} {n : Nat} {listed : Array Bool} {b : Act} {K : World → Prop} {w w' : World} [Keeps K] (hu : used = []) (hk : K w) (hb : Below w.heap.size w w') (g : Gen P md ops Q S b0 used X n listed b K) : Gen.Left P md ops Q S b0 used X n listed w b w' :=
  ⟨hb, K, [], inferInstance, Keeps.keep hb hk, by simp, by simp [hu], g⟩
theorem Gen.more {used : List Nat} {X : List NewVar} {n : Nat} {listed : Array Bool} {b : Act} {K F : World → Prop} {w w' : World} [Keeps K] [Keeps F] (hu : used = []) (hk : K w) (hb : Below w.heap.size w w') (hf : F w') (g : Gen P md ops Q S b0 used X n listed b (kAnd F K)) : Gen.Left P md ops Q S b0 used X n listed w b w' :=
  ⟨hb, kAnd F K, [], inferInstance, ⟨hf, Keeps.keep hb hk⟩, by simp, by simp [hu], g⟩

/-- An operation that is carried out. -/
theorem wpOp_of {i : Nat} {o : Oper} {K : Act → World → Prop} {a : Act} {w : World} (hi : ops[i]? = some o) (hw : Region.wanted o (yielded ops a.tmps) = true) (h : o.wp P a w K Q) : wpOp P ops Q i K a w := by
  unfold wpOp
  rw [hi]
  dsimp only
  rw [if_pos hw]
  exact .inl h

/-- The beginning, over the world at hand; a panic is shut out. -/
theorem Gen.begin_ {id : Nat} {a : Act} {w : World} {K : World → Prop} [Keeps K] (X : List NewVar) (n : Nat) (hm : P.follows .mixedOrders = true) (hk : K w) (hn : n + X.length = ops.size) (ok : Gen.Ok P ops (NoPanic Q) X)
    (g : Gen.Ok P ops (NoPanic Q) X → Gen P .any ops (NoPanic Q) (kAnd (kUp w) K) w.heap.size [] X n (Array.replicate ops.size false) a (kAnd (kUp w) K)) : (Code.region id ops true).wp P Q a w :=
  wp_region_noPanic (Gen.region (kAnd (kUp w) K) hm ⟨Below.refl _ _, hk⟩ hn (g ok))

theorem Gen.size {w0 : World} {K : World → Prop} (w : World) (h : kAnd (kUp w0) K w) : w0.heap.size ≤ w.heap.size := Below.size h.1

/-- The end. -/
theorem Gen.done {listed : Array Bool} {a : Act} {w : World} {K : World → Prop} (hr : Region.ready md ops listed = []) (hk : K w) (h : ∀ W, K W → Q .normal a W) (n : Nat) : wpAnyH P md ops (NoPanic Q) S n listed a w :=
  wpAnyH_done hr (NoPanic.normal (h w hk)) n
end
end Go.Proofs.Ytenpbiineblcjaa
