/-
  The engine, part Y: what grows is written no more; append to nothing as a growing block of one's own. Plain laws; no conditions.
-/
import Derived.Test.YtlhakkkjgdbdpaaEngX
namespace Go.Proofs.Ytlhakkkjgdbdpaa
open Go.RowKit
section
variable {P : Program} {o : Oper} {X : Nat → Nat → Prop} {φ φ' : Nat → FSlot} {w : World}
theorem Qvt (h : ∀ k, φ' k = φ k ∨ (φ k = .unused ∧ (φ' k = .dead ∨ φ' k = .tok none))) : Evo X φ w φ' w := by
 have back : ∀ k f, φ' k = f → f ≠ .dead → f ≠ .tok none → φ k = f := fun k f e h1 h2 => by
  rcases h k with h3 | ⟨_, h3 | h3⟩
  ·exact h3.symm.trans e
  ·exact absurd (e.symm.trans h3) h1
  ·exact absurd (e.symm.trans h3) h2
 have keep : ∀ k, φ k ≠ .unused → φ' k = φ k := fun k hk => by
  rcases h k with h3 | ⟨h3, _⟩
  ·exact h3
  ·exact absurd h3 hk
 have lie : ∀ k b, (φ' k).lies b → (φ k).lies b := fun k b hb => by
  rcases h k with h3 | ⟨_, h3 | h3⟩
  ·rwa [h3] at hb
  ·rw [h3] at hb; exact (Qau hb).elim
  ·rw [h3] at hb; exact (Qb8 hb).elim
 refine ⟨rfl, rfl, rfl, Nat.le_refl _, fun _ _ _ => rfl, fun b ⟨k, hk⟩ => .inl ⟨k, lie k b hk⟩, fun b off hd => ⟨⟨hd.lt, hd.hid, fun k hk => hd.own k (back k _ hk (by simp) (by simp)), fun k L hk => hd.tok k L (back k _ hk (by simp) (by simp)), fun k Y hk => hd.far k Y (back k _ hk (by simp) (by simp)), fun k bs z hk => hd.mat k bs z (back k _ hk (by simp) (by simp))⟩, rfl⟩,
  fun k hk => (keep k (by rw [hk]; simp)).trans hk, fun k b hk => .inl ((keep k (by rw [hk]; simp)).trans hk), fun k t hk => .inr ⟨(keep k (by rw [hk]; simp)).trans hk, fun _ _ _ => rfl⟩, fun k Y hk => .inr ⟨Y, (keep k (by rw [hk]; simp)).trans hk⟩, fun k bs hk => .inr ⟨bs, (keep k (by rw [hk]; simp)).trans hk, .refl bs⟩, fun _ _ _ _ => .same rfl⟩
theorem Qne (h : ∀ k, φ' k = φ k ∨ (φ k = .unused ∧ (φ' k = .dead ∨ φ' k = .tok none))) (hd : Qca φ) : Qca φ' := fun n n' b h1 h2 => by
 have lie : ∀ k, (φ' k).lies b → (φ k).lies b := fun k hb => by
  rcases h k with h3 | ⟨_, h3 | h3⟩
  ·rwa [h3] at hb
  ·rw [h3] at hb; exact (Qau hb).elim
  ·rw [h3] at hb; exact (Qb8 hb).elim
 exact hd n n' b (lie n h1) (lie n' h2)
theorem astep_appN {α : Type} {c : α → List AV} {b : List α} {x y : Operand} {t e : TypeId} {m bytes : Nat} {u : AV} {n0 n : Nat} (h : o.op = .call { callee := .builtin .append, args := #[x, y], argTypes := #[t, t] }) (ht : P.underlying t = some (.slice e)) (he : TE P e m bytes)
  (hu : Qrr u = some (m, b.map c)) (h1 : ((b.map c).all fun y => y.all AV.one) = true) (hb : decide ((0 + b.length) * bytes ≤ 140737488355328) = true) (hp : 0 < bytes) (hn : (n0 == n) = false) :
  Qdg P o [(x, .lit (.slice none 0 0)), (y, u)] [(n0, .unused), (n, .unused)] (.gro n e m b.length) [(n0, .dead), (n, .gro m (b.map c))] := by
 have hne : n0 ≠ n := fun e => by subst e; simp at hn
 intro X φ ac w hr hbl hd hX hlt next Q k
 have u0 : φ n0 = .unused := hbl (n0, .unused) (by simp)
 have u1 : φ n = .unused := hbl (n, .unused) (by simp)
 by_cases hbe : b = []
 ·subst hbe
  obtain ⟨i, z, hi, hz, hisz, hiby, hzs⟩ := he.inf
  obtain ⟨A, len, cap, g, hy, ok, hrr⟩ := Qnl (hr (y, u) (by simp)) hu
  dsimp only at hy
  have elen : len = 0 := by simpa using ok.hlen
  subst elen
  have hx : ac.eval x = .slice none 0 0 := Qcu (hr (x, _) (by simp))
  have hTI : (sizeOf e).run P w = .ok m w := by simp [sizeOf, typeInfo, hi, hisz]
  have hf : (Builtin.firstCells m 0 (.slice A 0 cap)).run P w = .ok #[] w := by
   cases A with
   | none => rfl
   | some a => simp [Builtin.firstCells, loadCells, loadCellsFrom]
  have nothing : (Builtin.append_ #[t, t] o.type #[.slice none 0 0, .slice A 0 cap]).run P w = .ok (.slice none 0 0) w := by simp [Builtin.append_, run_underlying ht, hTI, Builtin.lenOf, hf]
  have hexec : (execOp ac.eval o).run P w = .ok (.value (.slice none 0 0)) w := by
   simp only [execOp, h, resolve, invoke, builtin, Sem.run_bind, Sem.run_pure, Result.andThen_ok, List.map_toArray, List.map_cons, List.map_nil, hy, hx, nothing]
  have hcl : ∀ q, (fun q => if q = n then FSlot.tok none else if q = n0 then .dead else φ q) q = φ q ∨ (φ q = .unused ∧ ((fun q => if q = n then FSlot.tok none else if q = n0 then .dead else φ q) q = .dead ∨ (fun q => if q = n then FSlot.tok none else if q = n0 then .dead else φ q) q = .tok none)) := fun q => by
   dsimp only
   by_cases e1 : q = n
   ·subst e1; rw [if_pos rfl]; exact .inr ⟨u1, .inr rfl⟩
   ·rw [if_neg e1]
    by_cases e2 : q = n0
    ·subst e2; rw [if_pos rfl]; exact .inr ⟨u0, .inl rfl⟩
    ·rw [if_neg e2]; exact .inl rfl
  refine Qg9 hexec (k _ (fun q => if q = n then FSlot.tok none else if q = n0 then .dead else φ q) w (.gro n e m 0 none 0 (Nat.le_refl _) (Nat.zero_le _) (by simp) (fun _ => ⟨rfl, rfl⟩) (fun b hb => by simp at hb)) (fun p hp' => ?_) (Qne hcl hd) (fun q hq => ?_) (fun _ _ _ => rfl) (Qvt hcl))
  ·simp at hp'
   rcases hp' with rfl | rfl
   ·show (if n0 = n then _ else if n0 = n0 then FSlot.dead else φ n0) = .dead
    simp [hne]
   ·exact .inl ⟨rfl, by simp⟩
  ·simp at hq
   simp [hq.1, hq.2]
 ·-- first the nil slice is opened
  have hcl : ∀ q, upd φ n0 (.tok none) q = φ q ∨ (φ q = .unused ∧ (upd φ n0 (.tok none) q = .dead ∨ upd φ n0 (.tok none) q = .tok none)) := fun q => by
   by_cases e2 : q = n0
   ·subst e2; exact .inr ⟨u0, .inr (by simp [upd])⟩
   ·exact .inl (by simp [upd, e2])
  have ev := Qvt (X := X) (w := w) hcl
  have hd1 := Qne hcl hd
  have ne : ∀ q, q ≠ n0 → upd φ n0 (.tok none) q = φ q := fun q e => by simp [upd, e]
  have key := Qnt (o := o) (P := P) (c := c) (a := []) (b := b) (x := x) (y := y) (n0 := n0) (n := n) h ht he hu (fun e => hbe (by simpa using e)) h1 (by simpa using hb) hp
  have hx : ac.eval x = .slice none 0 0 := Qcu (hr (x, _) (by simp))
  refine key X (upd φ n0 (.tok none)) ac w (fun p hp' => ?_) (fun p hp' => ?_) hd1 hX (fun q b' hb' => ?_) next Q fun v φ1 w1 hv hs hd2 hsame hheap hev => ?_
  ·simp at hp'
   rcases hp' with rfl | rfl
   ·dsimp only
    rw [hx]
    exact .gro n0 e m 0 none 0 (Nat.le_refl _) (Nat.zero_le _) (by simp [upd]) (fun _ => ⟨rfl, rfl⟩) (fun b hb => by simp [upd] at hb)
   ·exact (hr (y, u) (by simp)).evo ev
  ·simp at hp'
   rcases hp' with rfl | rfl
   ·exact .inl ⟨rfl, by simp [upd]⟩
   ·exact (ne n (Ne.symm hne)).trans u1
  ·rcases hcl q with h3 | ⟨_, h3 | h3⟩
   ·rw [h3] at hb'; exact hlt q b' hb'
   ·rw [h3] at hb'; exact (Qau hb').elim
   ·rw [h3] at hb'; exact (Qb8 hb').elim
  ·refine k v φ1 w1 (by simpa using hv) (fun p hp' => by have := hs p (by simpa using hp'); exact this) hd2 (fun q hq => ?_) (fun b' hb' hne' => hheap b' hb' fun p hp' hl => ?_) (ev.trans hev)
   ·have hq' : q ≠ n0 := fun e => hq (by simp [e])
    rw [hsame q hq, ne q hq']
   ·simp at hp'
    rcases hp' with rfl | rfl
    ·simp [upd] at hl; exact (Qb8 hl).elim
    ·rw [ne _ (Ne.symm hne), u1] at hl; exact Qd2 hl
end
section
variable {X : Nat → Nat → Prop} {φ0 : Nat → FSlot} {w0 : World} {s : AS}
inductive FzG (n m : Nat) (xs : List (List AV)) : AV → AV → Prop where
 | same (a : AV) : FzG n m xs a a
 | any (a : AV) : FzG n m xs a .any
 | gro (ty : TypeId) (len : Nat) (h : len = xs.length) : FzG n m xs (.gro n ty m len) (.dat m xs)
 | agg (l l' : List AV) (hl : l.length = l'.length) (h : ∀ (i : Nat) a a', l[i]? = some a → l'[i]? = some a' → FzG n m xs a a') : FzG n m xs (.agg l) (.agg l')
theorem Qxg (q : Nat) {m : Nat} {xs : List (List AV)} (hs : s.slot q = .gro m xs) {regs' : List AV} {own' : List Slot} (hr : LPw (FzG q m xs) s.regs regs') (hd : own'.getD q .unused = .dead) (ho : ∀ k, k ≠ q → SPw (FzG q m xs) (s.slot k) (own'.getD k .unused)) : Mor X φ0 w0 s ⟨regs', own'⟩ := by
 refine Qk2 (R := FzG q m xs) (fun φ w henv => ?_) hr
 have evo : Evo X φ w (upd φ q .dead) w := by
  have := evo_kill (X := X) (φ := φ) (w := w) [q]
  have e : kill [q] φ = upd φ q .dead := by
   funext k
   unfold kill upd
   by_cases h : k = q <;> simp [h]
  rwa [e] at this
 have ne : ∀ k, k ≠ q → upd φ q .dead k = φ k := fun k e => by simp [upd, e]
 have hsl : SlotOK X φ w q (.gro m xs) := by
  have := henv.slot q
  rwa [hs] at this
 have hR : ∀ a a' v, FzG q m xs a a' → RelV X φ w a v → RelV X (upd φ q .dead) w a' v := fun a a' v hf => by
  induction hf generalizing v with
  | same a => exact fun hv => hv.evo evo
  | any a => exact fun _ => .any v
  | agg l l' hl _ ih =>
   intro hv
   cases hv with
   | agg _ vs hs' hr =>
    refine .agg _ vs (hs'.trans hl) fun i a' hi => ?_
    have hlt := (List.getElem?_eq_some_iff.1 hi).1
    exact ih i _ a' (List.getElem?_eq_getElem (by omega)) hi _ (hr i _ (List.getElem?_eq_getElem (by omega)))
  | gro ty len hlen =>
   intro hv
   subst hlen
   rcases hsl with ⟨h1, h2⟩ | ⟨b, hb, hown⟩
   ·subst h1
    cases hv with
    | gro _ _ _ _ A cap hc hm hn0 hvd h => exact .dat m [] A 0 cap (fun _ _ => undef) (DatOK.nil m A cap _ hm) (by simp)
   ·cases hv with
    | gro _ _ _ _ A cap hc hm hn0 hvd h =>
     obtain ⟨hA, _⟩ := h b hb
     obtain ⟨cur, cty, h1, h2, h3, h4⟩ := hown.blk
     have hdat : ∀ off, DataAt X (upd φ q .dead) w b off := fun off => by
      have no : ∀ k, k ≠ q → ¬ (φ k).lies b := fun k hk hl => hk (henv.distinct k q b hl (.own hb))
      have cas : ∀ k (f : FSlot), upd φ q .dead k = f → f ≠ .dead → k ≠ q ∧ φ k = f := fun k f e hf => by
       by_cases h : k = q
       ·subst h; simp [upd] at e; exact absurd e.symm hf
       ·exact ⟨h, (ne k h).symm.trans e⟩
      refine ⟨hown.lt, hown.hid off, fun k hk => ?_, fun k L hk => ?_, fun k Y hk hy => ?_, fun k bs z hk hz => ?_⟩
      ·obtain ⟨e1, e2⟩ := cas k _ hk (by simp); exact no k e1 (.own e2)
      ·obtain ⟨e1, e2⟩ := cas k _ hk (by simp); exact (no k e1 (.tok e2)).elim
      ·obtain ⟨e1, e2⟩ := cas k _ hk (by simp); exact no k e1 (.far e2 hy)
      ·obtain ⟨e1, e2⟩ := cas k _ hk (by simp); exact no k e1 (.mat e2 hz)
     refine .dat m xs A xs.length cap (fun z i => cur.getD (z * m + i) undef) ⟨rfl, hc, hm, h3, fun _ => ⟨b, 0, hA, fun z y hz i hi => ⟨hdat _, ?_⟩⟩⟩ (fun z y hz i u hu => (h4 z y hz i u hu).evo evo)
     have hzl := (List.getElem?_eq_some_iff.1 hz).1
     have := Qdq hzl hi
     have hlt' : z * m + i < cur.size := by omega
     rw [Nat.zero_add, cell_of_row w b _ cur _ _ h1]
     simp [Array.getD_eq_getD_getElem?, hlt']
 refine ⟨upd φ q .dead, evo, fun k k' b h1 h2 => ?_, fun k => ?_, hR⟩
 ·unfold upd at h1 h2
  split at h1
  ·exact (Qau h1).elim
  ·split at h2
   ·exact (Qau h2).elim
   ·exact henv.distinct k k' b h1 h2
 ·by_cases e : k = q
  ·subst e
   rw [hd]
   simp [SlotOK, upd]
  ·have hsp := ho k e
   have hok := henv.slot k
   have eq := ne k e
   generalize s.slot k = s1 at hsp hok
   generalize own'.getD k .unused = s2 at hsp
   cases hsp with
   | unused => exact eq.trans hok
   | dead => exact eq.trans hok
   | tok => obtain ⟨t, ht, ht'⟩ := hok; exact ⟨t, eq.trans ht, ht'⟩
   | own m xs xs' hl' hp => obtain ⟨b, hb, hown⟩ := hok; exact ⟨b, eq.trans hb, hown.pw hR hl' hp⟩
   | gro m xs xs' hl' hp =>
    rcases hok with ⟨h1, h2⟩ | ⟨b, hb, hown⟩
    ·exact .inl ⟨List.eq_nil_of_length_eq_zero (by rw [← hl', h1]; rfl), eq.trans h2⟩
    ·exact .inr ⟨b, eq.trans hb, hown.pw hR hl' hp⟩
   | far J =>
    obtain ⟨Y, D, B, f1, f2, f3⟩ := hok
    exact ⟨Y, D, B, eq.trans f1, f2, f3.own, fun b off hx hy => ⟨(evo.dat b off (f3.dat b off hx hy).1).1, (f3.dat b off hx hy).2⟩, f3.os, f3.tape, f3.output, f3.size⟩
   | mat m rows hp =>
    obtain ⟨bs, m1, m2, m3, m4⟩ := hok
    refine ⟨bs, eq.trans m1, m2, m3, fun k xs hk => ?_⟩
    rcases m4 k xs hk with m5 | ⟨b, m5, m6⟩
    ·exact .inl m5
    ·exact .inr ⟨b, m5, m6.pw hR rfl fun j x x' h1 h2 => by rw [h1] at h2; cases h2; exact hp xs (List.mem_of_getElem? hk) x (List.mem_of_getElem? h1)⟩
theorem Qjg {n : Nat} (q : Nat) (l : List (Nat × AV)) {l' : List (Nat × AV)} {m : Nat} {xs : List (List AV)} {own' : List Slot} (hmask : Qro s.regs (mk n l) = mk n l) (hn : (s.regs.length == n && Nat.blt q s.own.length) = true) (hs : s.own.getD q .unused = .gro m xs)
  (hr : PPw (FzG q m xs) l l') (ho : s.own.set q .dead = own') : Mor X φ0 w0 s ⟨mk n l', own'⟩ := by
 subst ho
 simp only [Bool.and_eq_true, beq_iff_eq, Nat.blt_eq] at hn
 refine Mor.trans (Qmr l hn.1 hmask) (Qxg (s := ⟨mk n l, s.own⟩) q hs (Qr7 (.any _) n hr) ?_ fun k hk => ?_)
 ·simp [hn.2]
 ·have : (s.own.set q Slot.dead).getD k .unused = s.own.getD k .unused := by
   simp only [List.getD_eq_getElem?_getD]
   rw [List.getElem?_set_ne (fun e => hk e.symm)]
  rw [this]
  exact SPw.refl (fun a => .same a) _
end
section
variable {X : Nat → Nat → Prop} {φ0 : Nat → FSlot} {w0 : World} {s : AS}
end
section
variable {X : Nat → Nat → Prop} {φ0 : Nat → FSlot} {w0 : World} {s : AS}
end
theorem Less.tup {l k : List AV} (h : LessL l k) : Less (.tup l) (.tup k) := fun X φ w v hv => by
 cases hv with
 | tup _ vs hs hr =>
  refine .tup k vs (hs.trans h.length) fun i a hi => ?_
  obtain ⟨b, hb, hl⟩ := h.get i a hi
  exact hl X φ w _ (hr i b hb)
theorem snl_grow {k m : Nat} {α : Type} {c : α → List AV} (h : ∀ x, ∀ a ∈ c x, NLt 0 a) (l : List α) : SNLt k (.gro m (l.map c)) := .gro m _ (Qyu h l)
theorem Qyl {M : Nat → Nat → Prop} {m : Nat} {α : Type} {c : α → List AV} {l : List α} (h : ∀ x, ∀ a ∈ c x, NLt 0 a) : SRn M (.gro m (l.map c)) (.gro m (l.map c)) :=
 .gro m _ _ rfl (fun j x x' h1 h2 => by rw [h1] at h2; cases h2; rfl) fun j x x' h1 h2 i a a' h3 h4 => by
  rw [h1] at h2; cases h2; rw [h3] at h4; cases h4
  exact .plain a (Qfs h l x (List.mem_of_getElem? h1) a (List.mem_of_getElem? h3))
end Go.Proofs.Ytlhakkkjgdbdpaa
