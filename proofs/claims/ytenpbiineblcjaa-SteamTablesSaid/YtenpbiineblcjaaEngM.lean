/-
  The engine, part M: small forms that the printed proofs use. Plain laws; no conditions.
-/
import Derived.Test.YtenpbiineblcjaaEngL
namespace Go.Proofs.Ytenpbiineblcjaa
open Go.RowKit

/-- A continuation under a name. -/
def joinK {κ β : Type} (k : κ) (f : κ → Option β) : Option β := f k
theorem joinK_out {κ β : Type} {k : κ} {f : κ → Option β} {r : β} (h : joinK k f = some r) : ∃ k', k' = k ∧ f k' = some r := ⟨k, rfl, h⟩

section
variable {P : Program} {X : Nat → Nat → Prop} {φ0 : Nat → FSlot} {w0 : World} {Q : Exit → AS → Prop} {A : AS → Prop} {s : AS} {i i' : Nat}
theorem thenA_n (h : A s) : thenA A Q .normal s := h
theorem thenA_x (h : Q (.exit i) s) : thenA A Q (.exit i) s := h
theorem thenA_r (h : Q .ret s) : thenA A Q .ret s := h
theorem blockA_n (h : Q .normal s) : blockA i Q .normal s := h
theorem blockA_e (e : i' = i) (h : Q .normal s) : blockA i Q (.exit i') s := by simp only [blockA, e, if_true]; exact h
theorem blockA_o (e : i' ≠ i) (h : Q (.exit i') s) : blockA i Q (.exit i') s := by simp only [blockA, e, if_false]; exact h
theorem blockA_r (h : Q .ret s) : blockA i Q .ret s := h
theorem awp_ift {x y : Code} {o : Operand} {b : Bool} (hb : b = true) (hc : opd s.regs o = .lit (.bool b)) (h : AWp P X φ0 w0 x Q s) : AWp P X φ0 w0 (.cond o x y) Q s := by subst hb; exact awp_true hc h
theorem awp_ifn {x y : Code} {o : Operand} {b : Bool} (hb : b = false) (hc : opd s.regs o = .lit (.bool b)) (h : AWp P X φ0 w0 y Q s) : AWp P X φ0 w0 (.cond o x y) Q s := by subst hb; exact awp_false hc h
theorem mor_nil (n : Nat) (ty : TypeId) (m : Nat) (t : Nat) (h1 : s.regs[t]? = some nilS) (h2 : s.slot n = .unused) : Mor X φ0 w0 s ⟨s.regs.set t (.acc n ty m []), setL s.own n .tok⟩ :=
  mor_open n ty m h2 (LPw.set (fun a => .same a) _ t h1 .nil) (by rw [setL_getD, if_pos rfl]) fun k hk => by
    rw [setL_getD, if_neg (fun e => hk e.symm)]
    exact SPw.refl (fun a => .same a) _
end

section
variable {P : Program} {o : Oper} {rd rd' : List (Operand × AV)} {bl eff : List (Nat × Slot)} {r : AV}
theorem astep_guard {g : Operand × AV} (h : AStep P o rd bl r eff) : AStep P o (g :: rd) bl r eff := fun X φ a w hr => h X φ a w fun p hp => hr p (List.mem_cons_of_mem _ hp)
theorem astep_b {e t : Bool} (hb : e = t) (h : AStep P o rd bl (B e) eff) : AStep P o rd bl (B t) eff := hb ▸ h
theorem astep_i {k : IntKind} {e x : Int} (he : some e = some x) (h : AStep P o rd bl (K k e) eff) : AStep P o rd bl (K k x) eff := Option.some.inj he ▸ h
theorem pick_bool (c a b : Bool) : (bif c then B a else B b) = B (bif c then a else b) := by cases c <;> rfl
theorem bne_out {a b : Int} (h : (a != b) = true) : a ≠ b := by simpa using h
theorem and_out {a b : Bool} (h : (a && b) = true) : a = true ∧ b = true := by simpa using h
theorem and3a {p q r : Prop} [Decidable p] [Decidable q] [Decidable r] (h : (decide p && decide q && decide r) = true) : p := by simp at h; exact h.1.1
theorem and3b {p q r : Prop} [Decidable p] [Decidable q] [Decidable r] (h : (decide p && decide q && decide r) = true) : q := by simp at h; exact h.1.2
theorem and3c' {p q r : Prop} [Decidable p] [Decidable q] [Decidable r] (h : (decide p && decide q && decide r) = true) : r := by simp at h; exact h.2
theorem and3c {p q : Prop} [Decidable p] [Decidable q] {α : Type} {l : List α} {hh : Int} (c : α → List AV) (h : (decide p && decide q && decide (hh ≤ (l.length : Int))) = true) : hh ≤ ((l.map c).length : Int) := by simp at h; simpa using h.2
theorem sl_ln {α : Type} (c : α → List AV) {e : List α} {l : Int} : ((e.map c).drop l.toNat).take (((e.length : Nat) : Int).toNat - l.toNat) = (e.drop l.toNat).map c := by
  rw [← List.map_drop, List.take_of_length_le (by simp)]
theorem sl_lh {α : Type} (c : α → List AV) {e : List α} {l hh : Int} : ((e.map c).drop l.toNat).take (hh.toNat - l.toNat) = ((e.drop l.toNat).take (hh.toNat - l.toNat)).map c := by
  rw [← List.map_drop, ← List.map_take]
theorem sl_nh {α : Type} (c : α → List AV) {e : List α} {hh : Int} : ((e.map c).drop (0 : Int).toNat).take (hh.toNat - (0 : Int).toNat) = (e.take (hh.toNat - 0)).map c := by
  simp
theorem sl_nn {α : Type} (c : α → List AV) {e : List α} : ((e.map c).drop (0 : Int).toNat).take (((e.length : Nat) : Int).toNat - (0 : Int).toNat) = e.map c := by
  simp [List.take_of_length_le]
theorem app_le1 {α : Type} (c : α → List AV) {a b : List α} {n : Nat} (h : decide ((a.length + b.length) * n ≤ 140737488355328) = true) : ((a.map c).length + (b.map c).length) * n ≤ 140737488355328 := by simpa using h
theorem app_le2 {α : Type} (c : α → List AV) {a b : List α} {n : Nat} (h : decide ((a.length + b.length) * n ≤ 140737488355328) = true) (hn : 0 < n) : (a.map c).length + (b.map c).length ≤ maxLen := by
  have h1 := of_decide_eq_true h
  have h2 := Nat.le_mul_of_pos_right (a.length + b.length) hn
  simp only [List.length_map, maxLen]
  omega
theorem app_le1n {α : Type} (c : α → List AV) {b : List α} {n : Nat} (h : decide ((0 + b.length) * n ≤ 140737488355328) = true) : (([] : List (List AV)).length + (b.map c).length) * n ≤ 140737488355328 := by simpa using h
theorem app_le2n {α : Type} (c : α → List AV) {b : List α} {n : Nat} (h : decide ((0 + b.length) * n ≤ 140737488355328) = true) (hn : 0 < n) : ([] : List (List AV)).length + (b.map c).length ≤ maxLen := by
  have h1 := of_decide_eq_true h
  have h2 := Nat.le_mul_of_pos_right (0 + b.length) hn
  simp only [List.length_map, List.length_nil, maxLen]
  omega
theorem app_map {α : Type} (c : α → List AV) {a b : List α} : a.map c ++ b.map c = (a ++ b).map c := by simp
theorem app_map0 {α : Type} (c : α → List AV) {b : List α} : [] ++ b.map c = b.map c := rfl
theorem ones_map {α : Type} (c : α → List AV) (h : ∀ x, (c x).all AV.one = true) (l : List α) : ((l.map c).all fun y => y.all AV.one) = true := by
  induction l with
  | nil => rfl
  | cons x l ih => simp only [List.map_cons, List.all_cons, h x, ih, Bool.and_self]
theorem nl_nil {k : Nat} : ∀ a ∈ ([] : List AV), NLt k a := by simp
theorem nl_cons {k : Nat} {a : AV} {l : List AV} (h : NLt k a) (hl : ∀ a ∈ l, NLt k a) : ∀ b ∈ a :: l, NLt k b := fun b hb => by
  rcases List.mem_cons.1 hb with rfl | hb
  · exact h
  · exact hl b hb
theorem nl_rows {k : Nat} {α : Type} {c : α → List AV} (h : ∀ x, ∀ a ∈ c x, NLt k a) (l : List α) : ∀ x ∈ l.map c, ∀ a ∈ x, NLt k a := fun x hx => by
  obtain ⟨y, _, rfl⟩ := List.mem_map.1 hx
  exact h y
theorem nl_dat {k m : Nat} {α : Type} {c : α → List AV} (h : ∀ x, ∀ a ∈ c x, NLt k a) (l : List α) : NLt k (.dat m (l.map c)) := .dat _ _ (nl_rows h l)
theorem nl_app {k : Nat} {l l' : List AV} (h : ∀ a ∈ l, NLt k a) (h' : ∀ a ∈ l', NLt k a) : ∀ a ∈ l ++ l', NLt k a := fun a ha => by
  rcases List.mem_append.1 ha with ha | ha
  · exact h a ha
  · exact h' a ha
theorem one_app {l l' : List AV} (h : l.all AV.one = true) (h' : l'.all AV.one = true) : (l ++ l').all AV.one = true := by simp only [List.all_append, h, h', Bool.and_self]
theorem rep_map {α : Type} (c : α → List AV) {z : α} {zs : List Value} {n : Nat} (hz : c z = zs.map AV.lit) : List.replicate n (zs.map AV.lit) = (List.replicate n z).map c := by simp [hz]
theorem set_map {α : Type} (c : α → List AV) {e : List α} {x x' : α} {i j : Nat} {ys : List AV} (h : splice (c x) i ys = c x') : (e.map c).set j (splice (c x) i ys) = (e.set j x').map c := by rw [h, List.map_set]
theorem spw_box {R : AV → AV → Prop} {m : Nat} {x x' : List AV} (h : LPw R x x') : SPw R (.own m [x]) (.own m [x']) := .own m _ _ rfl fun j y y' hj hj' => by
  cases j with
  | zero => simp at hj hj'; subst hj hj'; exact h
  | succ j => simp at hj
theorem spw_row {M : Nat → Nat → Prop} {m : Nat} {α : Type} {c : α → List AV} {l : List α} (h : ∀ x, ∀ a ∈ c x, NLt 0 a) : SPw (RW M) (.own m (l.map c)) (.own m (l.map c)) := .own m _ _ rfl fun j y y' hj hj' => by
  rw [hj] at hj'
  cases hj'
  have hy := nl_rows h l y (List.mem_of_getElem? hj)
  clear hj
  induction y with
  | nil => exact trivial
  | cons a y ih => exact ⟨.rn (.plain a (hy a (by simp))), ih fun b hb => hy b (List.mem_cons_of_mem _ hb)⟩
theorem rn_agg {M : Nat → Nat → Prop} {l l' : List AV} (h : LPw (Rn M) l l') : Rn M (.agg l) (.agg l') := .agg l l' h.length fun i a a' hi hi' => by
  obtain ⟨b, hb, hr⟩ := h.get i a' hi'
  rw [hi] at hb; cases hb; exact hr
theorem rn_tup {M : Nat → Nat → Prop} {l l' : List AV} (h : LPw (Rn M) l l') : Rn M (.tup l) (.tup l') := .tup l l' h.length fun i a a' hi hi' => by
  obtain ⟨b, hb, hr⟩ := h.get i a' hi'
  rw [hi] at hb; cases hb; exact hr
theorem rn_fn {M : Nat → Nat → Prop} {f : Fn} {l l' c c' : List AV} (h : LPw (Rn M) l l') (h' : LPw (Rn M) c c') : Rn M (.fn f l c) (.fn f l' c') := .fn f l l' c c' h.length h'.length (fun i a a' hi hi' => by
  obtain ⟨b, hb, hr⟩ := h.get i a' hi'
  rw [hi] at hb; cases hb; exact hr) (fun i a a' hi hi' => by
  obtain ⟨b, hb, hr⟩ := h'.get i a' hi'
  rw [hi] at hb; cases hb; exact hr)
theorem rnq_ref {ρ : List Nat} {n n' m j i : Nat} (h : (ρ[n']? == some n) = true) : Rn (fun n n' => ρ[n']? = some n) (.ref n m j i) (.ref n' m j i) := .ref (by simpa using h) _ _ _
theorem rnq_own {ρ : List Nat} {n n' m j i : Nat} (h : (ρ[n']? == some n) = true) : Rn (fun n n' => ρ[n']? = some n) (.own n m j i) (.own n' m j i) := .own (by simpa using h) _ _ _
theorem rnq_acc {ρ : List Nat} {n n' : Nat} {ty : TypeId} {m : Nat} {xs : List (List AV)} (h : (ρ[n']? == some n) = true) (hx : ∀ x ∈ xs, ∀ a ∈ x, NLt 0 a) : Rn (fun n n' => ρ[n']? = some n) (.acc n ty m xs) (.acc n' ty m xs) := .acc (by simpa using h) _ _ _ hx
theorem rnl_nil {M : Nat → Nat → Prop} : LPw (Rn M) [] [] := trivial
theorem rnl_cons {M : Nat → Nat → Prop} {a a' : AV} {l l' : List AV} (h : Rn M a a') (hl : LPw (Rn M) l l') : LPw (Rn M) (a :: l) (a' :: l') := ⟨h, hl⟩
theorem astep_lenm {α : Type} {c : α → List AV} {l : List α} (h : AStep P o rd bl (.lit (.int .i64 (((l.map c).length : Nat) : Int))) eff) : AStep P o rd bl (I (l.length : Int)) eff := by simpa using h

theorem fin_mor {fn : Func} {k : Nat} {res : AV} {σ' : List Slot} {X : Nat → Nat → Prop} {φ0 : Nat → FSlot} {w0 : World} {s s' : AS} (h : Mor X φ0 w0 s s') (hf : finA P fn k res σ' .ret s') : AWp P X φ0 w0 .ret (finA P fn k res σ') s := awp_mor h (awp_ret hf)

/-- Operands that say more than is asked. -/
def LW : List (Operand × AV) → List (Operand × AV) → Prop
  | [], [] => True
  | p :: l, q :: k => p.1 = q.1 ∧ Less p.2 q.2 ∧ LW l k
  | _, _ => False
theorem LW.get : ∀ {l k : List (Operand × AV)}, LW l k → ∀ q ∈ k, ∃ p ∈ l, p.1 = q.1 ∧ Less p.2 q.2
  | [], [], _, q, hq => by cases hq
  | p :: l, q' :: k, h, q, hq => by
    rcases List.mem_cons.1 hq with rfl | hq
    · exact ⟨p, by simp, h.1, h.2.1⟩
    · obtain ⟨p', hp', e⟩ := LW.get h.2.2 q hq
      exact ⟨p', List.mem_cons_of_mem _ hp', e⟩
theorem astep_weak (hw : LW rd rd') (h : AStep P o rd' bl r eff) : AStep P o rd bl r eff := fun X φ a w hr => h X φ a w fun q hq => by
  obtain ⟨p, hp, e1, e2⟩ := hw.get q hq
  rw [← e1]
  exact e2 _ _ _ _ (hr p hp)
theorem Less.acc {n : Nat} {ty : TypeId} {m : Nat} {xs : List (List AV)} : Less (.acc n ty m xs) (.dat m xs) := fun _ _ _ _ h => by
  cases h with
  | acc _ _ _ _ A len cap g ok hr _ _ => exact .dat m xs A len cap g ok hr
theorem Less.nil {m : Nat} : Less nilS (.dat m []) := fun _ _ _ v h => by
  have := rel_lit h
  subst this
  exact .dat m [] none 0 0 (fun _ _ => undef) (DatOK.nil m none 0 _ (Nat.zero_le _)) (by simp)
theorem Less.agg {l l' : List AV} (h : LPw Less l l') : Less (.agg l) (.agg l') := fun _ _ _ _ hv => by
  cases hv with
  | agg _ vs hs hr =>
    refine .agg _ vs (hs.trans h.length) fun i a' hi => ?_
    obtain ⟨b, hb, hlb⟩ := h.get i a' hi
    exact hlb _ _ _ _ (hr i b hb)

/-- A call of a function that is given plain data. -/
theorem astep_pcall {f : Operand} {xs : Array Operand} {ts : Array TypeId} {g : FuncId} {first cap vs args : List AV} {res : AV} (h : o.op = .call { callee := .value f, args := xs, argTypes := ts }) (hcall : ∀ vals w, (callFunc g vals).run P w = .ok (.enter g vals) w) (spec : Spec P g args [] res [])
    (hvl : vs.length = xs.size) (ha : first ++ vs ++ cap = args) (hn : ∀ a ∈ args, NLt 0 a) (hres : NLt 0 res) (hrd : (f, .fn (.func g) first cap) :: xs.toList.zip vs = rd) : AStep P o rd [] res [] := by
  subst ha
  exact astep_call (σ := []) (σr := []) (σ' := []) (σr' := []) [] List.nodup_nil h hcall spec hvl (.plain _ (.agg _ hn)) rfl (by simp) rfl rfl (Nat.le_refl _) (by simp) (.plain _ hres) rfl rfl hrd

theorem inf_of {t : TypeId} {n : Nat} (h : (P.info? t).map (·.size) = some n) : ∃ i, P.info? t = some i ∧ i.size = n := by
  cases hi : P.info? t with
  | none => rw [hi] at h; cases h
  | some i => rw [hi] at h; exact ⟨i, rfl, by simpa using h⟩
theorem te_of {t : TypeId} {m bytes : Nat} (h : (P.info? t).map (fun i => (i.size, i.bytes, i.zero.map (·.cells.size))) = some (m, bytes, some m)) (hp : 0 < m) : TE P t m bytes := by
  refine ⟨?_, hp⟩
  cases hi : P.info? t with
  | none => rw [hi] at h; cases h
  | some i =>
    rw [hi] at h
    simp only [Option.map_some, Option.some.injEq, Prod.mk.injEq] at h
    obtain ⟨h1, h2, h3⟩ := h
    cases hz : i.zero with
    | none => rw [hz] at h3; cases h3
    | some z => rw [hz] at h3; exact ⟨i, z, rfl, hz, h1, h2, by simpa using h3⟩
theorem tz_of {t : TypeId} {zs : List Value} (h : ((P.info? t).bind (·.zero)).map (·.cells.toList) = some zs) : TZ P t zs := by
  cases hi : P.info? t with
  | none => rw [hi] at h; cases h
  | some i =>
    cases hz : i.zero with
    | none => rw [hi] at h; simp [hz] at h
    | some z => rw [hi] at h; simp only [Option.bind_some, hz, Option.map_some, Option.some.injEq] at h; exact ⟨i, z, hi, hz, h⟩
end
end Go.Proofs.Ytenpbiineblcjaa
