/-
  The engine, part Y: what grows is written no more; append to nothing as a growing block of one's own. Plain laws; no conditions.
-/
import Derived.Test.YtlhakkkjgdbdpaaEngX
namespace Go.Proofs.Ytlhakkkjgdbdpaa
open Go.RowKit
section
variable {P : Program} {o : Oper} {X : Nat → Nat → Prop} {φ φ' : Nat → FSlot} {w : World}
theorem Qt9 (h : ∀ k, φ' k = φ k ∨ (φ k = .unused ∧ (φ' k = .dead ∨ φ' k = .tok none))) : Evo X φ w φ' w := by
 have back : ∀ k f, φ' k = f → f ≠ .dead → f ≠ .tok none → φ k = f := fun k f e h1 h2 => by
  rcases h k with h3 | ⟨_, h3 | h3⟩
  ·exact h3.symm.trans e
  ·exact absurd (e.symm.trans h3) h1
  ·exact absurd (e.symm.trans h3) h2
 have keep : ∀ k, φ k ≠ .unused → φ' k = φ k := fun k hk => by
  rcases h k with h3 | ⟨h3, _⟩
  ·exact h3
  ·exact absurd h3 hk
 have lie : ∀ k b, (φ' k).lies b → (φ k).lies b := fun k b hb => by
  rcases h k with h3 | ⟨_, h3 | h3⟩
  ·rwa [h3] at hb
  ·rw [h3] at hb; exact (Qau hb).elim
  ·rw [h3] at hb; exact (Qb5 hb).elim
 refine ⟨rfl, rfl, rfl, Nat.le_refl _, fun _ _ _ => rfl, fun b ⟨k, hk⟩ => .inl ⟨k, lie k b hk⟩, fun b off hd => ⟨⟨hd.lt, hd.hid, fun k hk => hd.own k (back k _ hk (by simp) (by simp)), fun k L hk => hd.tok k L (back k _ hk (by simp) (by simp)), fun k Y hk => hd.far k Y (back k _ hk (by simp) (by simp)), fun k bs z hk => hd.mat k bs z (back k _ hk (by simp) (by simp))⟩, rfl⟩,
  fun k hk => (keep k (by rw [hk]; simp)).trans hk, fun k b hk => .inl ((keep k (by rw [hk]; simp)).trans hk), fun k t hk => .inr ⟨(keep k (by rw [hk]; simp)).trans hk, fun _ _ _ => rfl⟩, fun k Y hk => .inr ⟨Y, (keep k (by rw [hk]; simp)).trans hk⟩, fun k bs hk => .inr ⟨bs, (keep k (by rw [hk]; simp)).trans hk, .refl bs⟩, fun _ _ _ _ => .same rfl⟩
theorem Qmn (h : ∀ k, φ' k = φ k ∨ (φ k = .unused ∧ (φ' k = .dead ∨ φ' k = .tok none))) (hd : Qb7 φ) : Qb7 φ' := fun n n' b h1 h2 => by
 have lie : ∀ k, (φ' k).lies b → (φ k).lies b := fun k hb => by
  rcases h k with h3 | ⟨_, h3 | h3⟩
  ·rwa [h3] at hb
  ·rw [h3] at hb; exact (Qau hb).elim
  ·rw [h3] at hb; exact (Qb5 hb).elim
 exact hd n n' b (lie n h1) (lie n' h2)
theorem astep_appN {α : Type} {c : α → List AV} {b : List α} {x y : Operand} {t e : TypeId} {m bytes : Nat} {u : AV} {n0 n : Nat} (h : o.op = .call { callee := .builtin .append, args := #[x, y], argTypes := #[t, t] }) (ht : P.underlying t = some (.slice e)) (he : TE P e m bytes)
  (hu : Qqe u = some (m, b.map c)) (h1 : ((b.map c).all fun y => y.all AV.one) = true) (hb : decide ((0 + b.length) * bytes ≤ 140737488355328) = true) (hp : 0 < bytes) (hn : (n0 == n) = false) :
  Qda P o [(x, .lit (.slice none 0 0)), (y, u)] [(n0, .unused), (n, .unused)] (.gro n e m b.length) [(n0, .dead), (n, .gro m (b.map c))] := by
 have hne : n0 ≠ n := fun e => by subst e; simp at hn
 intro X φ ac w hr hbl hd hX hlt next Q k
 have u0 : φ n0 = .unused := hbl (n0, .unused) (by simp)
 have u1 : φ n = .unused := hbl (n, .unused) (by simp)
 by_cases hbe : b = []
 ·subst hbe
  obtain ⟨i, z, hi, hz, hisz, hiby, hzs⟩ := he.inf
  obtain ⟨A, len, cap, g, hy, ok, hrr⟩ := Qmv (hr (y, u) (by simp)) hu
  dsimp only at hy
  have elen : len = 0 := by simpa using ok.hlen
  subst elen
  have hx : ac.eval x = .slice none 0 0 := Qch (hr (x, _) (by simp))
  have hTI : (sizeOf e).run P w = .ok m w := by simp [sizeOf, typeInfo, hi, hisz]
  have hf : (Builtin.firstCells m 0 (.slice A 0 cap)).run P w = .ok #[] w := by
   cases A with
   | none => rfl
   | some a => simp [Builtin.firstCells, loadCells, loadCellsFrom]
  have nothing : (Builtin.append_ #[t, t] o.type #[.slice none 0 0, .slice A 0 cap]).run P w = .ok (.slice none 0 0) w := by simp [Builtin.append_, run_underlying ht, hTI, Builtin.lenOf, hf]
  have hexec : (execOp ac.eval o).run P w = .ok (.value (.slice none 0 0)) w := by
   simp only [execOp, h, resolve, invoke, builtin, Sem.run_bind, Sem.run_pure, Result.andThen_ok, List.map_toArray, List.map_cons, List.map_nil, hy, hx, nothing]
  have hcl : ∀ q, (fun q => if q = n then FSlot.tok none else if q = n0 then .dead else φ q) q = φ q ∨ (φ q = .unused ∧ ((fun q => if q = n then FSlot.tok none else if q = n0 then .dead else φ q) q = .dead ∨ (fun q => if q = n then FSlot.tok none else if q = n0 then .dead else φ q) q = .tok none)) := fun q => by
   dsimp only
   by_cases e1 : q = n
   ·subst e1; rw [if_pos rfl]; exact .inr ⟨u1, .inr rfl⟩
   ·rw [if_neg e1]
    by_cases e2 : q = n0
    ·subst e2; rw [if_pos rfl]; exact .inr ⟨u0, .inl rfl⟩
    ·rw [if_neg e2]; exact .inl rfl
  refine Qgn hexec (k _ (fun q => if q = n then FSlot.tok none else if q = n0 then .dead else φ q) w (.gro n e m 0 none 0 (Nat.le_refl _) (Nat.zero_le _) (by simp) (fun _ => ⟨rfl, rfl⟩) (fun b hb => by simp at hb)) (fun p hp' => ?_) (Qmn hcl hd) (fun q hq => ?_) (fun _ _ _ => rfl) (Qt9 hcl))
  ·simp at hp'
   rcases hp' with rfl | rfl
   ·show (if n0 = n then _ else if n0 = n0 then FSlot.dead else φ n0) = .dead
    simp [hne]
   ·exact .inl ⟨rfl, by simp⟩
  ·simp at hq
   simp [hq.1, hq.2]
 ·-- first the nil slice is opened
  have hcl : ∀ q, upd φ n0 (.tok none) q = φ q ∨ (φ q = .unused ∧ (upd φ n0 (.tok none) q = .dead ∨ upd φ n0 (.tok none) q = .tok none)) := fun q => by
   by_cases e2 : q = n0
   ·subst e2; exact .inr ⟨u0, .inr (by simp [upd])⟩
   ·exact .inl (by simp [upd, e2])
  have ev := Qt9 (X := X) (w := w) hcl
  have hd1 := Qmn hcl hd
  have ne : ∀ q, q ≠ n0 → upd φ n0 (.tok none) q = φ q := fun q e => by simp [upd, e]
  have key := Qm4 (o := o) (P := P) (c := c) (a := []) (b := b) (x := x) (y := y) (n0 := n0) (n := n) h ht he hu (fun e => hbe (by simpa using e)) h1 (by simpa using hb) hp
  have hx : ac.eval x = .slice none 0 0 := Qch (hr (x, _) (by simp))
  refine key X (upd φ n0 (.tok none)) ac w (fun p hp' => ?_) (fun p hp' => ?_) hd1 hX (fun q b' hb' => ?_) next Q fun v φ1 w1 hv hs hd2 hsame hheap hev => ?_
  ·simp at hp'
   rcases hp' with rfl | rfl
   ·dsimp only
    rw [hx]
    exact .gro n0 e m 0 none 0 (Nat.le_refl _) (Nat.zero_le _) (by simp [upd]) (fun _ => ⟨rfl, rfl⟩) (fun b hb => by simp [upd] at hb)
   ·exact (hr (y, u) (by simp)).evo ev
  ·simp at hp'
   rcases hp' with rfl | rfl
   ·exact .inl ⟨rfl, by simp [upd]⟩
   ·exact (ne n (Ne.symm hne)).trans u1
  ·rcases hcl q with h3 | ⟨_, h3 | h3⟩
   ·rw [h3] at hb'; exact hlt q b' hb'
   ·rw [h3] at hb'; exact (Qau hb').elim
   ·rw [h3] at hb'; exact (Qb5 hb').elim
  ·refine k v φ1 w1 (by simpa using hv) (fun p hp' => by have := hs p (by simpa using hp'); exact this) hd2 (fun q hq => ?_) (fun b' hb' hne' => hheap b' hb' fun p hp' hl => ?_) (ev.trans hev)
   ·have hq' : q ≠ n0 := fun e => hq (by simp [e])
    rw [hsame q hq, ne q hq']
   ·simp at hp'
    rcases hp' with rfl | rfl
    ·simp [upd] at hl; exact (Qb5 hl).elim
    ·rw [ne _ (Ne.symm hne), u1] at hl; exact Qds hl
end
section
variable {X : Nat → Nat → Prop} {φ0 : Nat → FSlot} {w0 : World} {s : AS}
inductive FzG (n m : Nat) (xs : List (List AV)) : AV → AV → Prop where
 | same (a : AV) : FzG n m xs a a
 | any (a : AV) : FzG n m xs a .any
 | gro (ty : TypeId) (len : Nat) (h : len = xs.length) : FzG n m xs (.gro n ty m len) (.dat m xs)
 | agg (l l' : List AV) (hl : l.length = l'.length) (h : ∀ (i : Nat) a a', l[i]? = some a → l'[i]? = some a' → FzG n m xs a a') : FzG n m xs (.agg l) (.agg l')
theorem qpw_dead {R : AV → AV → Prop} {own own' : List Slot} {q : Nat} (hq : q < own.length) (h : QPw R (own.set q .dead) own') : own'.getD q .unused = .dead ∧ ∀ k, k ≠ q → SPw R (own.getD k .unused) (own'.getD k .unused) := by
 obtain ⟨h1, h2⟩ := h.spec
 rw [List.length_set] at h1
 refine ⟨?_, fun k hk => ?_⟩
 ·have := h2 q .dead (own'[q]'(by omega)) (by rw [List.getElem?_set_self hq]) (List.getElem?_eq_getElem (by omega))
  rw [List.getD_eq_getElem?_getD, List.getElem?_eq_getElem (by omega), Option.getD_some]
  generalize own'[q] = z at this
  cases this
  rfl
 ·rcases Nat.lt_or_ge k own.length with hl | hl
  ·have := h2 k own[k] (own'[k]'(by omega)) (by rw [List.getElem?_set_ne (Ne.symm hk), List.getElem?_eq_getElem hl]) (List.getElem?_eq_getElem (by omega))
   simpa [List.getD_eq_getElem?_getD, List.getElem?_eq_getElem hl, List.getElem?_eq_getElem (show k < own'.length by omega)] using this
  ·simp only [List.getD_eq_getElem?_getD, List.getElem?_eq_none hl, List.getElem?_eq_none (show own'.length ≤ k by omega), Option.getD_none]
   exact .unused
theorem mor_fzq {n : Nat} (q : Nat) (l : List (Nat × AV)) {l' : List (Nat × AV)} {m : Nat} {xs : List (List AV)} {own' : List Slot} (hmask : Qqb s.regs (mk n l) = mk n l) (hn : (s.regs.length == n && Nat.blt q s.own.length) = true) (hs : s.own.getD q .unused = .own m xs)
  (hr : PPw (Fz q m xs) l l') (ho : QPw (Fz q m xs) (s.own.set q .dead) own') : Mor X φ0 w0 s ⟨mk n l', own'⟩ := by
 simp only [Bool.and_eq_true, beq_iff_eq, Nat.blt_eq] at hn
 obtain ⟨h1, h2⟩ := qpw_dead hn.2 ho
 exact Mor.trans (Ql0 l hn.1 hmask) (Qn9 (s := ⟨mk n l, s.own⟩) q hs (Qqs (.any _) n hr) h1 h2)
end
section
variable {X : Nat → Nat → Prop} {φ0 : Nat → FSlot} {w0 : World} {s : AS}
end
section
variable {X : Nat → Nat → Prop} {φ0 : Nat → FSlot} {w0 : World} {s : AS}
theorem mor_lessq {n : Nat} (l : List (Nat × AV)) {l' : List (Nat × AV)} {own' : List Slot} (hmask : Qqb s.regs (mk n l) = mk n l) (hn : (s.regs.length == n) = true) (hr : PPw Less l l') (ho : QPw Less s.own own') : Mor X φ0 w0 s ⟨mk n l', own'⟩ := by
 have hn' : s.regs.length = n := by simpa using hn
 refine Mor.trans (Ql0 l hn' hmask) (Qkb (R := Less) (fun φ w henv => ⟨φ, Evo.refl, henv.distinct, fun k => ?_, fun a a' v h hv => h _ _ _ _ hv⟩) (Qqs Less.rfl n hr))
 obtain ⟨h1, h2⟩ := ho.spec
 have hsp : SPw Less (s.own.getD k .unused) (own'.getD k .unused) := by
  rcases Nat.lt_or_ge k s.own.length with hl | hl
  ·have := h2 k s.own[k] (own'[k]'(by omega)) (List.getElem?_eq_getElem hl) (List.getElem?_eq_getElem (by omega))
   simpa [List.getD_eq_getElem?_getD, List.getElem?_eq_getElem hl, List.getElem?_eq_getElem (show k < own'.length by omega)] using this
  ·simp only [List.getD_eq_getElem?_getD, List.getElem?_eq_none hl, List.getElem?_eq_none (show own'.length ≤ k by omega), Option.getD_none]
   exact .unused
 have hok : SlotOK X φ w k (s.own.getD k .unused) := henv.slot k
 have hR : ∀ a a' v, Less a a' → RelV X φ w a v → RelV X φ w a' v := fun a a' v h hv => h _ _ _ _ hv
 generalize s.own.getD k .unused = s1 at hsp hok
 generalize own'.getD k .unused = s2 at hsp
 cases hsp with
 | unused => exact hok
 | dead => exact hok
 | tok => exact hok
 | own m xs xs' hl' hp => obtain ⟨b, hb, hown⟩ := hok; exact ⟨b, hb, hown.pw hR hl' hp⟩
 | gro m xs xs' hl' hp =>
  rcases hok with ⟨h1, h2⟩ | ⟨b, hb, hown⟩
  ·exact .inl ⟨List.eq_nil_of_length_eq_zero (by rw [← hl', h1]; rfl), h2⟩
  ·exact .inr ⟨b, hb, hown.pw hR hl' hp⟩
 | far J => exact hok
 | mat m rows hp => exact hok
end
theorem spw_sameL {s : Slot} : SPw Less s s := SPw.refl (fun _ => Less.rfl) s
theorem astep_min3 {P : Program} {o : Oper} {x y z : Operand} {ts : Array TypeId} {k : IntKind} {a b c : Int} (h : o.op = .call { callee := .builtin .min, args := #[x, y, z], argTypes := ts }) : Qda P o [(x, .lit (.int k a)), (y, .lit (.int k b)), (z, .lit (.int k c))] [] (.lit (.int k (if c < (if b < a then b else a) then c else (if b < a then b else a)))) [] := Qcf fun X φ ac w hr _ => by
 have h1 : ac.eval x = .int k a := Qch (hr (x, .lit (.int k a)) (by simp))
 have h2 : ac.eval y = .int k b := Qch (hr (y, .lit (.int k b)) (by simp))
 have h3 : ac.eval z = .int k c := Qch (hr (z, .lit (.int k c)) (by simp))
 refine ⟨_, ?_, .lit _⟩
 by_cases e : b < a
 ·simp [execOp, h, h1, h2, h3, resolve, invoke, builtin, Builtin.min_, Builtin.min2, e]
 ·simp [execOp, h, h1, h2, h3, resolve, invoke, builtin, Builtin.min_, Builtin.min2, e]
theorem Less.tup {l k : List AV} (h : LessL l k) : Less (.tup l) (.tup k) := fun X φ w v hv => by
 cases hv with
 | tup _ vs hs hr =>
  refine .tup k vs (hs.trans h.length) fun i a hi => ?_
  obtain ⟨b, hb, hl⟩ := h.get i a hi
  exact hl X φ w _ (hr i b hb)
theorem snl_grow {k m : Nat} {α : Type} {c : α → List AV} (h : ∀ x, ∀ a ∈ c x, NLt 0 a) (l : List α) : SNLt k (.gro m (l.map c)) := .gro m _ (Qw9 h l)
theorem Qwz {M : Nat → Nat → Prop} {m : Nat} {α : Type} {c : α → List AV} {l : List α} (h : ∀ x, ∀ a ∈ c x, NLt 0 a) : SRn M (.gro m (l.map c)) (.gro m (l.map c)) :=
 .gro m _ _ rfl (fun j x x' h1 h2 => by rw [h1] at h2; cases h2; rfl) fun j x x' h1 h2 i a a' h3 h4 => by
  rw [h1] at h2; cases h2; rw [h3] at h4; cases h4
  exact .plain a (Qe9 h l x (List.mem_of_getElem? h1) a (List.mem_of_getElem? h3))
end Go.Proofs.Ytlhakkkjgdbdpaa
