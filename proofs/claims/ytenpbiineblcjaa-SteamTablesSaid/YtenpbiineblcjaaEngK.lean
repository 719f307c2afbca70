/-
  The engine, part K: a state told anew: other names, a slice frozen, a nil slice that will grow. Plain laws; no conditions.
-/
import Derived.Test.YtenpbiineblcjaaEngJ
namespace Go.Proofs.Ytenpbiineblcjaa
open Go.RowKit

/-- Point by point. -/
def LPw (R : AV → AV → Prop) : List AV → List AV → Prop
  | [], [] => True
  | a :: l, b :: k => R a b ∧ LPw R l k
  | _, _ => False
section
variable {R : AV → AV → Prop}
theorem LPw.refl (h : ∀ a, R a a) : ∀ l : List AV, LPw R l l
  | [] => trivial
  | a :: l => ⟨h a, LPw.refl h l⟩
theorem LPw.length : ∀ {l k : List AV}, LPw R l k → l.length = k.length
  | [], [], _ => rfl
  | _ :: _, _ :: _, h => by simp [LPw.length h.2]
theorem LPw.get : ∀ {l k : List AV}, LPw R l k → ∀ (t : Nat) (b : AV), k[t]? = some b → ∃ a, l[t]? = some a ∧ R a b
  | [], [], _, _, _, hb => by simp at hb
  | _ :: _, _ :: _, h, 0, b, hb => by simp at hb; subst hb; exact ⟨_, rfl, h.1⟩
  | _ :: _, _ :: _, h, t + 1, b, hb => by simpa using LPw.get h.2 t b (by simpa using hb)
theorem LPw.set (h : ∀ a, R a a) : ∀ (l : List AV) (t : Nat) {a b : AV}, l[t]? = some a → R a b → LPw R l (l.set t b)
  | [], _, _, _, ht, _ => by simp at ht
  | x :: l, 0, a, b, ht, hr => by simp at ht; subst ht; exact ⟨hr, LPw.refl h l⟩
  | x :: l, t + 1, a, b, ht, hr => ⟨h x, LPw.set h l t (by simpa using ht) hr⟩
end

/-- Slots, point by point: of contents. -/
inductive SPw (R : AV → AV → Prop) : Slot → Slot → Prop where
  | unused : SPw R .unused .unused
  | dead : SPw R .dead .dead
  | tok : SPw R .tok .tok
  | own (m : Nat) (xs xs' : List (List AV)) (hl : xs.length = xs'.length) (h : ∀ (j : Nat) x x', xs[j]? = some x → xs'[j]? = some x' → LPw R x x') : SPw R (.own m xs) (.own m xs')
theorem SPw.refl {R : AV → AV → Prop} (h : ∀ a, R a a) (s : Slot) : SPw R s s := by
  cases s with
  | unused => exact .unused
  | dead => exact .dead
  | tok => exact .tok
  | own m xs => exact .own m xs xs rfl fun j x x' h1 h2 => by rw [h1] at h2; cases h2; exact LPw.refl h x

section
variable {P : Program} {X : Nat → Nat → Prop} {φ0 φ φ' : Nat → FSlot} {w0 w : World} {Q : Exit → AS → Prop} {s : AS} {c : Code} {R : AV → AV → Prop}

theorem OwnOK.pw {b m : Nat} {xs xs' : List (List AV)} (h : OwnOK X φ w b m xs) (hR : ∀ a a' v, R a a' → RelV X φ w a v → RelV X φ' w a' v) (hl : xs.length = xs'.length) (hp : ∀ (j : Nat) x x', xs[j]? = some x → xs'[j]? = some x' → LPw R x x') : OwnOK X φ' w b m xs' := by
  obtain ⟨cur, ty, h1, h2, h3, h4⟩ := h.blk
  have back : ∀ (j : Nat) (x' : List AV), xs'[j]? = some x' → ∃ x, xs[j]? = some x := fun j x' hj => ⟨_, List.getElem?_eq_getElem (by have := (List.getElem?_eq_some_iff.1 hj).1; omega)⟩
  refine ⟨⟨cur, ty, h1, by rw [← hl]; exact h2, fun x' hx' => ?_, fun j x' hj i a' hi => ?_⟩, h.hid⟩
  · obtain ⟨j, hj, rfl⟩ := List.getElem_of_mem hx'
    have hj' := List.getElem?_eq_getElem hj
    obtain ⟨x, hxj⟩ := back j _ hj'
    rw [← (hp j x _ hxj hj').length]
    exact h3 x (List.mem_of_getElem? hxj)
  · obtain ⟨x, hxj⟩ := back j x' hj
    obtain ⟨a, ha, hra⟩ := (hp j x x' hxj hj).get i a' hi
    exact hR a a' _ hra (h4 j x hxj i a ha)

/-- Whatever is so in the one state is so in the other. -/
def Mor (X : Nat → Nat → Prop) (φ0 : Nat → FSlot) (w0 : World) (s s' : AS) : Prop := ∀ φ a w, Sim X φ0 w0 φ s a w → ∃ φ', Sim X φ0 w0 φ' s' a w
theorem Mor.rfl : Mor X φ0 w0 s s := fun φ _ _ h => ⟨φ, h⟩
theorem Mor.trans {s1 s2 s3 : AS} (h : Mor X φ0 w0 s1 s2) (k : Mor X φ0 w0 s2 s3) : Mor X φ0 w0 s1 s3 := fun φ a w hs => by
  obtain ⟨φ', h1⟩ := h φ a w hs
  exact k φ' a w h1
theorem awp_mor {s' : AS} (h : Mor X φ0 w0 s s') (k : AWp P X φ0 w0 c Q s') : AWp P X φ0 w0 c Q s := fun φ a w hs => by
  obtain ⟨φ', h1⟩ := h φ a w hs
  exact k φ' a w h1
theorem around_mor {s' : AS} {n : Nat} (h : Mor X φ0 w0 s s') (k : ARounds P X φ0 w0 c Q n s') : ARounds P X φ0 w0 c Q n s := fun φ a w hs => by
  obtain ⟨φ', h1⟩ := h φ a w hs
  exact k φ' a w h1

/-- Names anew: the new name n is the old name rho[n]; other names are forgotten. -/
inductive RW (M : Nat → Nat → Prop) : AV → AV → Prop where
  | any (a : AV) : RW M a .any
  | rn {a a' : AV} (h : Rn M a a') : RW M a a'
  | dat (n : Nat) (ty : TypeId) (m : Nat) (xs : List (List AV)) (hx : ∀ x ∈ xs, ∀ a ∈ x, NLt 0 a) : RW M (.acc n ty m xs) (.dat m xs)
  | nil (m : Nat) : RW M (.lit (.slice none 0 0)) (.dat m [])
  | agg (l l' : List AV) (hl : l.length = l'.length) (h : ∀ (i : Nat) a a', l[i]? = some a → l'[i]? = some a' → RW M a a') : RW M (.agg l) (.agg l')
theorem mor_ren (ρ : List Nat) (hnd : ρ.Nodup) {k0 : Nat} (h0 : ∀ n, k0 ≤ n → φ0 n = .unused) (hid : ∀ n, n < k0 → ρ[n]? = some n) {regs' : List AV} {own' : List Slot} (hr : LPw (RW fun n n' => ρ[n']? = some n) s.regs regs') (hl : own'.length = ρ.length)
    (hs : ∀ (n n' : Nat) s2, ρ[n']? = some n → own'[n']? = some s2 → SPw (RW fun n n' => ρ[n']? = some n) (s.slot n) s2) : Mor X φ0 w0 s ⟨regs', own'⟩ := fun φ a w hsim => by
  let φ' : Nat → FSlot := fun n' => match ρ[n']? with | some n => φ n | none => .unused
  have hM : ∀ n n', ρ[n']? = some n → φ' n' = φ n := fun n n' e => by
    show (match ρ[n']? with | some n => φ n | none => _) = _
    rw [e]
  have inv : ∀ n' b, (φ' n').lies b → ∃ n, ρ[n']? = some n ∧ (φ n).lies b := fun n' b hb => by
    cases e : ρ[n']? with
    | none =>
      have : φ' n' = .unused := by
        show (match ρ[n']? with | some n => φ n | none => _) = _
        rw [e]
      rw [this] at hb
      rcases hb with e | ⟨L, e⟩ <;> cases e
    | some n => rw [hM n n' e] at hb; exact ⟨n, rfl, hb⟩
  have fwd : ∀ b off, DataAt X φ w b off → DataAt X φ' w b off := fun b off hd => ⟨hd.lt, hd.hid, fun n' hn => by
    obtain ⟨n, e, _⟩ := inv n' b (.inl hn)
    rw [hM n n' e] at hn
    exact hd.own n hn, fun n' L hn => by
    obtain ⟨n, e, _⟩ := inv n' b (.inr ⟨L, hn⟩)
    rw [hM n n' e] at hn
    exact hd.tok n L hn⟩
  have hR : ∀ a a' v, RW (fun n n' => ρ[n']? = some n) a a' → RelV X φ w a v → RelV X φ' w a' v := fun a a' v hra => by
    induction hra generalizing v with
    | agg l l' hl _ ih =>
      intro hv
      cases hv with
      | agg _ vs hs h =>
        refine .agg _ vs (hs.trans hl) fun i a' hi => ?_
        have hlt := (List.getElem?_eq_some_iff.1 hi).1
        exact ih i _ a' (List.getElem?_eq_getElem (by omega)) hi _ (h i _ (List.getElem?_eq_getElem (by omega)))
    | any => exact fun _ => .any v
    | rn hrn => exact RelV.ren fwd hM hrn
    | dat n ty m xs hx =>
      intro hv
      cases hv with
      | acc _ _ _ _ A len cap g ok hr hu ht => exact .dat m xs A len cap g (ok.env fwd) (fun j x hj i a hi => (hr j x hj i a hi).env (k := 0) (fun n hn => absurd hn (Nat.not_lt_zero n)) fwd (hx x (List.mem_of_getElem? hj) a (List.mem_of_getElem? hi)))
    | nil m =>
      intro hv
      have := rel_lit hv
      subst this
      exact .dat m [] none 0 0 (fun _ _ => undef) (DatOK.nil m none 0 _ (Nat.zero_le _)) (by simp)
  have inj : ∀ (n1 n2 n' : Nat), ρ[n1]? = some n' → ρ[n2]? = some n' → n1 = n2 := fun n1 n2 n' h1 h2 => by
    obtain ⟨l1, e1⟩ := List.getElem?_eq_some_iff.1 h1
    obtain ⟨l2, e2⟩ := List.getElem?_eq_some_iff.1 h2
    exact (List.getElem_inj hnd).1 (e1.trans e2.symm)
  have low : ∀ n, φ0 n ≠ .unused → φ' n = φ n := fun n hn => by
    have hlt : n < k0 := by
      rcases Nat.lt_or_ge n k0 with h' | h'
      · exact h'
      · exact absurd (h0 n h') hn
    exact hM n n (hid n hlt)
  refine ⟨φ', hsim.defers, hsim.size.trans hr.length, fun t v hv => ?_, ⟨fun n' => ?_, fun n1 n2 b h1 h2 => ?_, hsim.env.hid⟩, ?_⟩
  · obtain ⟨u, hu, hra⟩ := hr.get t v hv
    exact hR u v _ hra (hsim.regs t u hu)
  · show SlotOK X φ' w n' (own'.getD n' .unused)
    cases e : ρ[n']? with
    | none =>
      have hge : own'.length ≤ n' := by rw [hl]; exact List.getElem?_eq_none_iff.1 e
      simp only [List.getD_eq_getElem?_getD, List.getElem?_eq_none hge, Option.getD_none]
      show (match ρ[n']? with | some n => φ n | none => _) = _
      rw [e]
    | some n =>
      have hlt : n' < own'.length := by rw [hl]; exact (List.getElem?_eq_some_iff.1 e).1
      have hg := List.getElem?_eq_getElem hlt
      have hsp := hs n n' _ e hg
      simp only [List.getD_eq_getElem?_getD, hg, Option.getD_some]
      have hok := hsim.env.slot n
      generalize s.slot n = s1 at hsp hok
      generalize own'[n'] = s2 at hsp
      cases hsp with
      | unused => exact (hM n n' e).trans hok
      | dead => exact (hM n n' e).trans hok
      | tok => obtain ⟨t, ht, ht'⟩ := hok; exact ⟨t, (hM n n' e).trans ht, ht'⟩
      | own m xs xs' hl' hp => obtain ⟨b, hb, hown⟩ := hok; exact ⟨b, (hM n n' e).trans hb, hown.pw hR hl' hp⟩
  · obtain ⟨m1, e1, h3⟩ := inv n1 b h1
    obtain ⟨m2, e2, h4⟩ := inv n2 b h2
    have := hsim.env.distinct m1 m2 b h3 h4
    subst this
    exact inj n1 n2 m1 e1 e2
  · have ev := hsim.evo
    refine ⟨ev.os, ev.tape, ev.output, ev.size, ev.blk, fun b ⟨n', hb⟩ => ?_, fun b off hd => ?_, fun n hn => ?_, fun n b hn => ?_, fun n t hn => ?_⟩
    · obtain ⟨n, _, hb'⟩ := inv n' b hb
      exact ev.new b ⟨n, hb'⟩
    · obtain ⟨h1, h2⟩ := ev.dat b off hd
      exact ⟨fwd b off h1, h2⟩
    · rw [low n (by rw [hn]; simp)]; exact ev.dead n hn
    · rw [low n (by rw [hn]; simp)]; exact ev.own n b hn
    · rw [low n (by rw [hn]; simp)]; exact ev.tok n t hn

/-- A change of the names alone, under which a state is told anew. -/
theorem mor_morph {regs' : List AV} {own' : List Slot} (h : ∀ φ w, EnvOK X φ w s.slot → ∃ φ', Evo X φ w φ' w ∧ Distinct φ' ∧ (∀ n, SlotOK X φ' w n (own'.getD n .unused)) ∧ (∀ a a' v, R a a' → RelV X φ w a v → RelV X φ' w a' v)) (hr : LPw R s.regs regs') : Mor X φ0 w0 s ⟨regs', own'⟩ := fun φ a w hsim => by
  obtain ⟨φ', h1, h2, h3, h4⟩ := h φ w hsim.env
  exact ⟨φ', hsim.defers, hsim.size.trans hr.length, fun t v hv => by
    obtain ⟨u, hu, hra⟩ := hr.get t v hv
    exact h4 u v _ hra (hsim.regs t u hu), ⟨h3, h2, hsim.env.hid⟩, hsim.evo.trans h1⟩

/-- A slice of one's own that is written no more. -/
inductive Fz (n m : Nat) (xs : List (List AV)) : AV → AV → Prop where
  | same (a : AV) : Fz n m xs a a
  | any (a : AV) : Fz n m xs a .any
  | fz (j len : Nat) (ys : List (List AV)) (h : j + len ≤ xs.length) (hy : (xs.drop j).take len = ys) : Fz n m xs (.own n m j len) (.dat m ys)
  | agg (l l' : List AV) (hl : l.length = l'.length) (h : ∀ (i : Nat) a a', l[i]? = some a → l'[i]? = some a' → Fz n m xs a a') : Fz n m xs (.agg l) (.agg l')
theorem Fz.rel {n m : Nat} {xs : List (List AV)} (henv : EnvOK X φ w s.slot) (hs : s.slot n = .own m xs) (evo : Evo X φ w (upd φ n .dead) w) {a a' : AV} (h : Fz n m xs a a') : ∀ {v : Value}, RelV X φ w a v → RelV X (upd φ n .dead) w a' v := by
  have hslot := henv.slot n
  rw [hs] at hslot
  obtain ⟨b, hb, hown⟩ := hslot
  induction h with
  | same a => exact fun hv => hv.evo evo
  | any a => exact fun {v} _ => .any v
  | fz j len ys hle hy =>
    intro v hv
    obtain ⟨cap, hc, hcm, rfl⟩ := rel_own hv hb
    obtain ⟨cur, ty, h1, h2, h3, h4⟩ := hown.blk
    have hget : ∀ (q : Nat) y, ys[q]? = some y → xs[j + q]? = some y := fun q y hq => by
      subst hy
      rw [List.getElem?_take] at hq
      split at hq
      · rwa [List.getElem?_drop] at hq
      · cases hq
    have hlen : ys.length = len := by subst hy; simp; omega
    refine .dat m ys _ len cap (fun q i => cur.getD ((j + q) * m + i) undef) ⟨hlen.symm, hc, hcm, fun y hy' => ?_, fun _ => ⟨b, j * m, rfl, fun q y hq i hi => ⟨⟨hown.lt, hown.hid _, fun k hk => ?_, fun k L hk => ?_⟩, ?_⟩⟩⟩ (fun q y hq i a hi => (h4 (j + q) y (hget q y hq) i a hi).evo evo)
    · obtain ⟨q, hq, rfl⟩ := List.getElem_of_mem hy'
      exact h3 _ (List.mem_of_getElem? (hget q _ (List.getElem?_eq_getElem hq)))
    · unfold upd at hk
      split at hk
      · cases hk
      · exact absurd (henv.distinct k n b (.inl hk) (.inl hb)) (by assumption)
    · unfold upd at hk
      split at hk
      · cases hk
      · exact absurd (henv.distinct k n b (.inr ⟨L, hk⟩) (.inl hb)) (by assumption)
    · have hjl := (List.getElem?_eq_some_iff.1 (hget q y hq)).1
      have hlt := mul_lt_size hjl hi
      have hlt' : (j + q) * m + i < cur.size := by omega
      rw [← Nat.add_mul, cell_of_row w b _ cur _ _ h1]
      simp [Array.getD_eq_getD_getElem?, hlt']
  | agg l l' hl _ ih =>
    intro v hv
    cases hv with
    | agg _ vs hs' hr =>
      refine .agg _ vs (hs'.trans hl) fun i a' hi => ?_
      have hlt := (List.getElem?_eq_some_iff.1 hi).1
      exact ih i _ a' (List.getElem?_eq_getElem (by omega)) hi (hr i _ (List.getElem?_eq_getElem (by omega)))
theorem mor_freeze (n : Nat) {m : Nat} {xs : List (List AV)} (hs : s.slot n = .own m xs) {regs' : List AV} {own' : List Slot} (hr : LPw (Fz n m xs) s.regs regs') (hd : own'.getD n .unused = .dead) (ho : ∀ k, k ≠ n → SPw (Fz n m xs) (s.slot k) (own'.getD k .unused)) : Mor X φ0 w0 s ⟨regs', own'⟩ :=
  mor_morph (R := Fz n m xs) (fun φ w henv => by
    have hslot := henv.slot n
    rw [hs] at hslot
    obtain ⟨b, hb, hown⟩ := hslot
    have evo : Evo X φ w (upd φ n .dead) w := by
      refine ⟨rfl, rfl, rfl, Nat.le_refl _, fun _ _ _ => rfl, fun b' ⟨q, hq⟩ => ?_, fun b' off hdat => ⟨⟨hdat.lt, hdat.hid, fun q hq => ?_, fun q L hq => ?_⟩, rfl⟩, fun q hq => ?_, fun q b' hq => ?_, fun q t hq => ?_⟩
      · unfold upd at hq
        split at hq
        · rcases hq with e | ⟨L, e⟩ <;> cases e
        · exact .inl ⟨q, hq⟩
      · unfold upd at hq
        split at hq
        · cases hq
        · exact hdat.own q hq
      · unfold upd at hq
        split at hq
        · cases hq
        · exact hdat.tok q L hq
      · unfold upd; split <;> simp [hq]
      · unfold upd; split
        · exact .inr rfl
        · exact .inl hq
      · unfold upd; split
        · exact .inl rfl
        · exact .inr ⟨hq, fun _ _ _ => rfl⟩
    have hR : ∀ a a' v, Fz n m xs a a' → RelV X φ w a v → RelV X (upd φ n .dead) w a' v := fun a a' v hf hv => Fz.rel henv hs evo hf hv
    refine ⟨upd φ n .dead, evo, fun q q' b' h1 h2 => ?_, fun q => ?_, hR⟩
    · unfold upd at h1 h2
      split at h1
      · rcases h1 with e | ⟨L, e⟩ <;> cases e
      · split at h2
        · rcases h2 with e | ⟨L, e⟩ <;> cases e
        · exact henv.distinct q q' b' h1 h2
    · by_cases e : q = n
      · subst e
        rw [hd]
        show upd φ q .dead q = .dead
        simp [upd]
      · have hsp := ho q e
        have hok := henv.slot q
        have eq : upd φ n .dead q = φ q := by simp [upd, e]
        generalize s.slot q = s1 at hsp hok
        generalize own'.getD q .unused = s2 at hsp
        cases hsp with
        | unused => exact eq.trans hok
        | dead => exact eq.trans hok
        | tok => obtain ⟨t, ht, ht'⟩ := hok; exact ⟨t, eq.trans ht, ht'⟩
        | own m xs xs' hl' hp => obtain ⟨b, hb, hown⟩ := hok; exact ⟨b, eq.trans hb, hown.pw hR hl' hp⟩) hr

/-- A nil slice that will grow. -/
inductive Op' (n : Nat) (ty : TypeId) (m : Nat) : AV → AV → Prop where
  | same (a : AV) : Op' n ty m a a
  | nil : Op' n ty m (.lit (.slice none 0 0)) (.acc n ty m [])
theorem mor_open (n : Nat) (ty : TypeId) (m : Nat) (hs : s.slot n = .unused) {regs' : List AV} {own' : List Slot} (hr : LPw (Op' n ty m) s.regs regs') (hd : own'.getD n .unused = .tok) (ho : ∀ k, k ≠ n → SPw (Op' n ty m) (s.slot k) (own'.getD k .unused)) : Mor X φ0 w0 s ⟨regs', own'⟩ :=
  mor_morph (R := Op' n ty m) (fun φ w henv => by
    have hn : φ n = .unused := by
      have := henv.slot n
      rw [hs] at this
      exact this
    have ne : ∀ q, φ q ≠ .unused → q ≠ n := fun q hq e => hq (e ▸ hn)
    have evo : Evo X φ w (upd φ n (.tok none)) w := by
      refine ⟨rfl, rfl, rfl, Nat.le_refl _, fun _ _ _ => rfl, fun b' ⟨q, hq⟩ => ?_, fun b' off hdat => ⟨⟨hdat.lt, hdat.hid, fun q hq => ?_, fun q L hq => ?_⟩, rfl⟩, fun q hq => ?_, fun q b' hq => ?_, fun q t hq => ?_⟩
      · unfold upd at hq
        split at hq
        · rcases hq with e | ⟨L, e⟩ <;> cases e
        · exact .inl ⟨q, hq⟩
      · unfold upd at hq
        split at hq
        · cases hq
        · exact hdat.own q hq
      · unfold upd at hq
        split at hq
        · cases hq
        · exact hdat.tok q L hq
      · unfold upd; rw [if_neg (ne q (by rw [hq]; simp))]; exact hq
      · unfold upd; rw [if_neg (ne q (by rw [hq]; simp))]; exact .inl hq
      · unfold upd; rw [if_neg (ne q (by rw [hq]; simp))]; exact .inr ⟨hq, fun _ _ _ => rfl⟩
    have hR : ∀ a a' v, Op' n ty m a a' → RelV X φ w a v → RelV X (upd φ n (.tok none)) w a' v := fun a a' v hf hv => by
      cases hf with
      | same => exact hv.evo evo
      | nil =>
        have := rel_lit hv
        subst this
        exact .acc n ty m [] none 0 0 (fun _ _ => undef) (DatOK.nil m none 0 _ (Nat.zero_le _)) (by simp) (by simp [upd]) (fun t ht => by
          have e : t = none := by simp [upd] at ht; exact ht.symm
          subst e
          exact ⟨rfl, rfl, rfl⟩)
    refine ⟨upd φ n (.tok none), evo, fun q q' b' h1 h2 => ?_, fun q => ?_, hR⟩
    · unfold upd at h1 h2
      split at h1
      · rcases h1 with e | ⟨L, e⟩ <;> cases e
      · split at h2
        · rcases h2 with e | ⟨L, e⟩ <;> cases e
        · exact henv.distinct q q' b' h1 h2
    · by_cases e : q = n
      · subst e
        rw [hd]
        exact ⟨none, by simp [upd], fun b L e => by cases e⟩
      · have hsp := ho q e
        have hok := henv.slot q
        have eq : upd φ n (.tok none) q = φ q := by simp [upd, e]
        generalize s.slot q = s1 at hsp hok
        generalize own'.getD q .unused = s2 at hsp
        cases hsp with
        | unused => exact eq.trans hok
        | dead => exact eq.trans hok
        | tok => obtain ⟨t, ht, ht'⟩ := hok; exact ⟨t, eq.trans ht, ht'⟩
        | own m xs xs' hl' hp => obtain ⟨b, hb, hown⟩ := hok; exact ⟨b, eq.trans hb, hown.pw hR hl' hp⟩) hr
end
end Go.Proofs.Ytenpbiineblcjaa
