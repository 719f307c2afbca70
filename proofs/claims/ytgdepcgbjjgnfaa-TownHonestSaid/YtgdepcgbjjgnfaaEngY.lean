/-
  The engine, part Y: what grows is written no more; append to nothing as a growing block of one's own. Plain laws; no conditions.
-/
import Derived.Test.YtgdepcgbjjgnfaaEngX
namespace Go.Proofs.Ytgdepcgbjjgnfaa
open Go.RowKit
section
variable {P : Program} {o : Oper} {X : Nat → Nat → Prop} {φ φ' : Nat → FSlot} {w : World}
end
section
variable {X : Nat → Nat → Prop} {φ0 : Nat → FSlot} {w0 : World} {s : AS}
inductive FzG (n m : Nat) (xs : List (List AV)) : AV → AV → Prop where
 | same (a : AV) : FzG n m xs a a
 | any (a : AV) : FzG n m xs a .any
 | gro (ty : TypeId) (len : Nat) (h : len = xs.length) : FzG n m xs (.gro n ty m len) (.dat m xs)
 | agg (l l' : List AV) (hl : l.length = l'.length) (h : ∀ (i : Nat) a a', l[i]? = some a → l'[i]? = some a' → FzG n m xs a a') : FzG n m xs (.agg l) (.agg l')
theorem Qrz (q : Nat) {m : Nat} {xs : List (List AV)} (hs : s.slot q = .gro m xs) {regs' : List AV} {own' : List Slot} (hr : LPw (FzG q m xs) s.regs regs') (hd : own'.getD q .unused = .dead) (ho : ∀ k, k ≠ q → SPw (FzG q m xs) (s.slot k) (own'.getD k .unused)) : Mor X φ0 w0 s ⟨regs', own'⟩ := by
 refine Qjb (R := FzG q m xs) (fun φ w henv => ?_) hr
 have evo : Evo X φ w (upd φ q .dead) w := by
  have := Qto (X := X) (φ := φ) (w := w) [q]
  have e : kill [q] φ = upd φ q .dead := by
   funext k
   unfold kill upd
   by_cases h : k = q <;> simp [h]
  rwa [e] at this
 have ne : ∀ k, k ≠ q → upd φ q .dead k = φ k := fun k e => by simp [upd, e]
 have hsl : SlotOK X φ w q (.gro m xs) := by
  have := henv.slot q
  rwa [hs] at this
 have hR : ∀ a a' v, FzG q m xs a a' → RelV X φ w a v → RelV X (upd φ q .dead) w a' v := fun a a' v hf => by
  induction hf generalizing v with
  | same a => exact fun hv => hv.evo evo
  | any a => exact fun _ => .any v
  | agg l l' hl _ ih =>
   intro hv
   cases hv with
   | agg _ vs hs' hr =>
    refine .agg _ vs (hs'.trans hl) fun i a' hi => ?_
    have hlt := (List.getElem?_eq_some_iff.1 hi).1
    exact ih i _ a' (List.getElem?_eq_getElem (by omega)) hi _ (hr i _ (List.getElem?_eq_getElem (by omega)))
  | gro ty len hlen =>
   intro hv
   subst hlen
   rcases hsl with ⟨h1, h2⟩ | ⟨b, hb, hown⟩
   ·subst h1
    cases hv with
    | gro _ _ _ _ A cap hc hm hn0 hvd h => exact .dat m [] A 0 cap (fun _ _ => undef) (DatOK.nil m A cap _ hm) (by simp)
   ·cases hv with
    | gro _ _ _ _ A cap hc hm hn0 hvd h =>
     obtain ⟨hA, _⟩ := h b hb
     obtain ⟨cur, cty, h1, h2, h3, h4⟩ := hown.blk
     have hdat : ∀ off, DataAt X (upd φ q .dead) w b off := fun off => by
      have no : ∀ k, k ≠ q → ¬ (φ k).lies b := fun k hk hl => hk (henv.distinct k q b hl (.own hb))
      have cas : ∀ k (f : FSlot), upd φ q .dead k = f → f ≠ .dead → k ≠ q ∧ φ k = f := fun k f e hf => by
       by_cases h : k = q
       ·subst h; simp [upd] at e; exact absurd e.symm hf
       ·exact ⟨h, (ne k h).symm.trans e⟩
      refine ⟨hown.lt, hown.hid off, fun k hk => ?_, fun k L hk => ?_, fun k Y hk hy => ?_, fun k bs z hk hz => ?_⟩
      ·obtain ⟨e1, e2⟩ := cas k _ hk (by simp); exact no k e1 (.own e2)
      ·obtain ⟨e1, e2⟩ := cas k _ hk (by simp); exact (no k e1 (.tok e2)).elim
      ·obtain ⟨e1, e2⟩ := cas k _ hk (by simp); exact no k e1 (.far e2 hy)
      ·obtain ⟨e1, e2⟩ := cas k _ hk (by simp); exact no k e1 (.mat e2 hz)
     refine .dat m xs A xs.length cap (fun z i => cur.getD (z * m + i) undef) ⟨rfl, hc, hm, h3, fun _ => ⟨b, 0, hA, fun z y hz i hi => ⟨hdat _, ?_⟩⟩⟩ (fun z y hz i u hu => (h4 z y hz i u hu).evo evo)
     have hzl := (List.getElem?_eq_some_iff.1 hz).1
     have := Qdd hzl hi
     have hlt' : z * m + i < cur.size := by omega
     rw [Nat.zero_add, cell_of_row w b _ cur _ _ h1]
     simp [Array.getD_eq_getD_getElem?, hlt']
 refine ⟨upd φ q .dead, evo, fun k k' b h1 h2 => ?_, fun k => ?_, hR⟩
 ·unfold upd at h1 h2
  split at h1
  ·exact (Qap h1).elim
  ·split at h2
   ·exact (Qap h2).elim
   ·exact henv.distinct k k' b h1 h2
 ·by_cases e : k = q
  ·subst e
   rw [hd]
   simp [SlotOK, upd]
  ·have hsp := ho k e
   have hok := henv.slot k
   have eq := ne k e
   generalize s.slot k = s1 at hsp hok
   generalize own'.getD k .unused = s2 at hsp
   cases hsp with
   | unused => exact eq.trans hok
   | dead => exact eq.trans hok
   | tok => obtain ⟨t, ht, ht'⟩ := hok; exact ⟨t, eq.trans ht, ht'⟩
   | own m xs xs' hl' hp => obtain ⟨b, hb, hown⟩ := hok; exact ⟨b, eq.trans hb, hown.pw hR hl' hp⟩
   | gro m xs xs' hl' hp =>
    rcases hok with ⟨h1, h2⟩ | ⟨b, hb, hown⟩
    ·exact .inl ⟨List.eq_nil_of_length_eq_zero (by rw [← hl', h1]; rfl), eq.trans h2⟩
    ·exact .inr ⟨b, eq.trans hb, hown.pw hR hl' hp⟩
   | far J =>
    obtain ⟨Y, D, B, f1, f2, f3⟩ := hok
    exact ⟨Y, D, B, eq.trans f1, f2, f3.own, fun b off hx hy => ⟨(evo.dat b off (f3.dat b off hx hy).1).1, (f3.dat b off hx hy).2⟩, f3.os, f3.tape, f3.output, f3.size⟩
   | mat m rows hp =>
    obtain ⟨bs, m1, m2, m3, m4⟩ := hok
    refine ⟨bs, eq.trans m1, m2, m3, fun k xs hk => ?_⟩
    rcases m4 k xs hk with m5 | ⟨b, m5, m6⟩
    ·exact .inl m5
    ·exact .inr ⟨b, m5, m6.pw hR rfl fun j x x' h1 h2 => by rw [h1] at h2; cases h2; exact hp xs (List.mem_of_getElem? hk) x (List.mem_of_getElem? h1)⟩
theorem Qtg {R : AV → AV → Prop} {own own' : List Slot} {q : Nat} (hq : q < own.length) (h : QPw R (own.set q .dead) own') : own'.getD q .unused = .dead ∧ ∀ k, k ≠ q → SPw R (own.getD k .unused) (own'.getD k .unused) := by
 obtain ⟨h1, h2⟩ := h.spec
 rw [List.length_set] at h1
 refine ⟨?_, fun k hk => ?_⟩
 ·have := h2 q .dead (own'[q]'(by omega)) (by rw [List.getElem?_set_self hq]) (List.getElem?_eq_getElem (by omega))
  rw [List.getD_eq_getElem?_getD, List.getElem?_eq_getElem (by omega), Option.getD_some]
  generalize own'[q] = z at this
  cases this
  rfl
 ·rcases Nat.lt_or_ge k own.length with hl | hl
  ·have := h2 k own[k] (own'[k]'(by omega)) (by rw [List.getElem?_set_ne (Ne.symm hk), List.getElem?_eq_getElem hl]) (List.getElem?_eq_getElem (by omega))
   simpa [List.getD_eq_getElem?_getD, List.getElem?_eq_getElem hl, List.getElem?_eq_getElem (show k < own'.length by omega)] using this
  ·simp only [List.getD_eq_getElem?_getD, List.getElem?_eq_none hl, List.getElem?_eq_none (show own'.length ≤ k by omega), Option.getD_none]
   exact .unused
theorem Qti {n : Nat} (q : Nat) (l : List (Nat × AV)) {l' : List (Nat × AV)} {m : Nat} {xs : List (List AV)} {own' : List Slot} (hmask : Qnv s.regs (mk n l) = mk n l) (hn : (s.regs.length == n && Nat.blt q s.own.length) = true) (hs : s.own.getD q .unused = .gro m xs)
  (hr : PPw (FzG q m xs) l l') (ho : QPw (FzG q m xs) (s.own.set q .dead) own') : Mor X φ0 w0 s ⟨mk n l', own'⟩ := by
 simp only [Bool.and_eq_true, beq_iff_eq, Nat.blt_eq] at hn
 obtain ⟨h1, h2⟩ := Qtg hn.2 ho
 exact Mor.trans (Qjo l hn.1 hmask) (Qrz (s := ⟨mk n l, s.own⟩) q hs (Qn6 (.any _) n hr) h1 h2)
theorem mor_fzq {n : Nat} (q : Nat) (l : List (Nat × AV)) {l' : List (Nat × AV)} {m : Nat} {xs : List (List AV)} {own' : List Slot} (hmask : Qnv s.regs (mk n l) = mk n l) (hn : (s.regs.length == n && Nat.blt q s.own.length) = true) (hs : s.own.getD q .unused = .own m xs)
  (hr : PPw (Fz q m xs) l l') (ho : QPw (Fz q m xs) (s.own.set q .dead) own') : Mor X φ0 w0 s ⟨mk n l', own'⟩ := by
 simp only [Bool.and_eq_true, beq_iff_eq, Nat.blt_eq] at hn
 obtain ⟨h1, h2⟩ := Qtg hn.2 ho
 exact Mor.trans (Qjo l hn.1 hmask) (Qn3 (s := ⟨mk n l, s.own⟩) q hs (Qn6 (.any _) n hr) h1 h2)
end
section
variable {X : Nat → Nat → Prop} {φ0 : Nat → FSlot} {w0 : World} {s : AS}
theorem qpw_put {R : AV → AV → Prop} {own own' : List Slot} {q m : Nat} {xs : List (List AV)} (hs : ∀ z, SPw R (.own m xs) z → z = .own m xs) (hq : q < own.length) (h : QPw R (own.set q (.own m xs)) own') : own'.getD q .unused = .own m xs ∧ ∀ k, k ≠ q → SPw R (own.getD k .unused) (own'.getD k .unused) := by
 obtain ⟨h1, h2⟩ := h.spec
 rw [List.length_set] at h1
 refine ⟨?_, fun k hk => ?_⟩
 ·have := h2 q (.own m xs) (own'[q]'(by omega)) (by rw [List.getElem?_set_self hq]) (List.getElem?_eq_getElem (by omega))
  rw [List.getD_eq_getElem?_getD, List.getElem?_eq_getElem (by omega), Option.getD_some]
  exact hs _ this
 ·rcases Nat.lt_or_ge k own.length with hl | hl
  ·have := h2 k own[k] (own'[k]'(by omega)) (by rw [List.getElem?_set_ne (Ne.symm hk), List.getElem?_eq_getElem hl]) (List.getElem?_eq_getElem (by omega))
   simpa [List.getD_eq_getElem?_getD, List.getElem?_eq_getElem hl, List.getElem?_eq_getElem (show k < own'.length by omega)] using this
  ·simp only [List.getD_eq_getElem?_getD, List.getElem?_eq_none hl, List.getElem?_eq_none (show own'.length ≤ k by omega), Option.getD_none]
   exact .unused
theorem Qyh {n : Nat} (q : Nat) (l : List (Nat × AV)) {l' : List (Nat × AV)} {m : Nat} {α : Type} {c : α → List AV} {e : List α} {own' : List Slot} (hmask : Qnv s.regs (mk n l) = mk n l) (hn : (s.regs.length == n && Nat.blt q s.own.length) = true) (hs : s.own.getD q .unused = .gro m (e.map c)) (hne : e.map c ≠ []) (hc : ∀ x, ∀ a ∈ c x, NLt 0 a)
  (hr : PPw (OpU q) l l') (ho : QPw (OpU q) (s.own.set q (.own m (e.map c))) own') : Mor X φ0 w0 s ⟨mk n l', own'⟩ := by
 simp only [Bool.and_eq_true, beq_iff_eq, Nat.blt_eq] at hn
 have key : ∀ z, SPw (OpU q) (.own m (e.map c)) z → z = .own m (e.map c) := fun z hz => by
  cases hz with
  | own _ _ xs' hl hp =>
   congr 1
   refine List.ext_getElem? fun j => ?_
   rcases Nat.lt_or_ge j xs'.length with h | h
   ·have hx := List.getElem?_eq_getElem (show j < (e.map c).length by omega)
    have hx' := List.getElem?_eq_getElem h
    rw [hx, hx']
    have hpl := hp j _ _ hx hx'
    have hnl := Qir hc e _ (List.getElem_mem (show j < (e.map c).length by omega))
    generalize (e.map c)[j] = u at hpl hnl
    generalize xs'[j] = u' at hpl
    congr 1
    clear hx hx'
    induction u generalizing u' with
    | nil => cases u' with | nil => rfl | cons => exact hpl.elim
    | cons a u ih =>
     cases u' with
     | nil => exact hpl.elim
     | cons a' u' =>
      obtain ⟨h1, h2⟩ := hpl
      rw [ih (fun b hb => hnl b (List.mem_cons_of_mem _ hb)) u' h2]
      cases h1 with
      | same => rfl
      | own ty m len => exact absurd (hnl _ (List.mem_cons_self ..)) (fun h => by cases h with | gro _ _ _ _ h => exact Nat.not_lt_zero _ h)
   ·rw [List.getElem?_eq_none h, List.getElem?_eq_none (by omega)]
 obtain ⟨h1, h2⟩ := qpw_put key hn.2 ho
 exact Mor.trans (Qjo l hn.1 hmask) (Qv8 (s := ⟨mk n l, s.own⟩) q m hs hne (Qn6 (.same _) n hr) h1 h2)
end
section
variable {X : Nat → Nat → Prop} {φ0 : Nat → FSlot} {w0 : World} {s : AS}
end
theorem Qmu {n : Nat} {s : Slot} : SPw (OpU n) s s := SPw.refl (fun a => .same a) s
theorem Qme {R : AV → AV → Prop} {m : Nat} {c c' : List AV} (h : LPw R c c') : SPw R (.own m [c]) (.own m [c']) := .own m _ _ rfl fun j x x' h1 h2 => by
 cases j with
 | zero => simp at h1 h2; subst h1 h2; exact h
 | succ j => simp at h1
theorem Qmd {n m : Nat} {xs : List (List AV)} {s : Slot} : SPw (FzG n m xs) s s := SPw.refl (fun a => .same a) s
theorem Qqd {n m : Nat} {xs : List (List AV)} {s : Slot} : SPw (Fz n m xs) s s := SPw.refl (fun a => .same a) s
theorem Less.tup {l k : List AV} (h : LessL l k) : Less (.tup l) (.tup k) := fun X φ w v hv => by
 cases hv with
 | tup _ vs hs hr =>
  refine .tup k vs (hs.trans h.length) fun i a hi => ?_
  obtain ⟨b, hb, hl⟩ := h.get i a hi
  exact hl X φ w _ (hr i b hb)
end Go.Proofs.Ytgdepcgbjjgnfaa
