/-
  The engine, part X: many blocks of one's own under one name (slices of slices of one's own). Plain definitions and laws; no conditions.
-/
import Derived.Test.YtlhakkkjgdbdpaaGreatEngW
namespace Go.Proofs.YtlhakkkjgdbdpaaGreat
open Go.RowKit
def matA {α : Type} (c : α → List AV) (R : List (List α)) : List (List (List AV)) := R.map (·.map c)
def getM {α : Type} (R : List (List α)) (k j : Nat) : Option α := (R[k]?).bind (·[j]?)
def setM {α : Type} (R : List (List α)) (k j : Nat) (v : α) : List (List α) := R.set k ((R.getD k []).set j v)
theorem Qza {α : Type} {R : List (List α)} {k j : Nat} {v : α} (h : getM R k j = some v) : ∃ r, R[k]? = some r ∧ r[j]? = some v := by
 unfold getM at h
 cases e : R[k]? with
 | none => rw [e] at h; cases h
 | some r => rw [e] at h; exact ⟨r, rfl, h⟩
theorem Q6o {α : Type} (c : α → List AV) {R : List (List α)} {k j : Nat} {v : α} (h : getM R k j = some v) : ∃ xs, (matA c R)[k]? = some xs ∧ xs[j]? = some (c v) := by
 obtain ⟨r, h1, h2⟩ := Qza h
 exact ⟨r.map c, by simp [matA, h1], by simp [h2]⟩
section
variable {P : Program} {o : Oper} {X : Nat → Nat → Prop} {φ : Nat → FSlot} {w : World} {r : AV}
theorem Qtl {n m k : Nat} {rows : List (List (List AV))} {xs : List (List AV)} (h : SlotOK X φ w n (.mat m rows)) (hk : rows[k]? = some xs) (hne : xs ≠ []) : ∃ bs b, φ n = .mat bs ∧ bs[k]? = some (some b) ∧ OwnOK X φ w b m xs := by
 obtain ⟨bs, h1, h2, h3, h4⟩ := h
 rcases h4 k xs hk with ⟨h5, _⟩ | ⟨b, h5, h6⟩
 ·exact absurd h5 hne
 ·exact ⟨bs, b, h1, h5, h6⟩
theorem Qyy {n k m j i : Nat} {v : Value} (h : RelV X φ w (.rowp n k m j i) v) {bs : List (Option Nat)} {b : Nat} (hb : φ n = .mat bs) (hk : bs[k]? = some (some b)) : v = .pointer (some ⟨b, j * m + i, none⟩) := by
 cases h with
 | rowp _ _ _ _ _ A hn h => rw [(h bs hb).2 b hk]
theorem Q3d {n k m j len : Nat} {v : Value} (h : RelV X φ w (.row n k m j len) v) (hl : len ≠ 0) {bs : List (Option Nat)} {b : Nat} (hb : φ n = .mat bs) (hk : bs[k]? = some (some b)) : ∃ cap, len ≤ cap ∧ cap ≤ maxLen ∧ v = .slice (some ⟨b, j * m, none⟩) len cap := by
 cases h with
 | row _ _ _ _ _ A cap hc hm hn h => exact ⟨cap, hc, hm, by rw [(h hl bs hb).2 b hk]⟩
theorem Qvj {α : Type} {l : List α} {j : Nat} {x : α} (h : l[j]? = some x) : l ≠ [] := fun e => by rw [e] at h; simp at h
theorem Q03 {x y : Operand} {t e : TypeId} {gg : Bool} {m n q j j' len : Nat} {rows : List (List (List AV))} {xs : List (List AV)} {k : IntKind} {i : Int} (h : o.op = .indexAddr t x y) (ht : P.underlying t = some (.slice e)) (he : TI P e gg m) (h0 : 0 ≤ i) (hi : i.toNat < len) (hq : rows[q]? = some xs) (hne : xs ≠ []) (hj : j + i.toNat = j') :
  Qc1 P o [(x, .row n q m j len), (y, .lit (.int k i))] [(n, .mat m rows)] (.rowp n q m j' 0) [] := Qb4 fun X φ a w hrd hbl => by
 have hmat := hbl (n, .mat m rows) (by simp)
 obtain ⟨bs, b, hb, hk, hown⟩ := Qtl hmat hq hne
 obtain ⟨cap, hc, hcm, hx⟩ := Q3d (hrd (x, .row n q m j len) (by simp)) (by omega) hb hk
 dsimp only at hx
 have hy : a.eval y = .int k i := Qce (hrd (y, .lit (.int k i)) (by simp))
 refine ⟨_, ?_, .rowp _ _ _ _ _ (some ⟨b, j * m + i.toNat * m, none⟩) (by dsimp only at hb; rw [hb]; simp) fun bs' hb' => ?_⟩
 ·simp only [execOp, h, hx, hy, Sem.run_bind, Qlc ht he b (j * m) len cap k i h0 (by omega), Result.andThen_ok]
  rfl
 ·dsimp only at hb
  rw [hb] at hb'
  cases hb'
  refine ⟨(List.getElem?_eq_some_iff.1 hk).1, fun b' hb' => ?_⟩
  rw [hk] at hb'
  cases hb'
  rw [← hj, Nat.add_mul, Nat.add_zero]
theorem Qfb {α : Type} {c : α → List AV} {R : List (List α)} {u : α} {x : Operand} {t : TypeId} {g : Bool} {sz n q m j i : Nat} (h : o.op = .load t x) (ht : TI P t g sz) (hg : g = false → sz = 1) (hu : getM R q j = some u) (hi : i + sz ≤ (c u).length) (hr : ldA g sz i (c u) = r) :
  Qc1 P o [(x, .rowp n q m j i)] [(n, .mat m (matA c R))] r [] := Qb4 fun X φ a w hrd hbl => by
 obtain ⟨xs, hq, hj⟩ := Q6o c hu
 obtain ⟨bs, b, hb, hk, hown⟩ := Qtl (hbl (n, .mat m (matA c R)) (by simp)) hq (Qvj hj)
 have hx : a.eval x = _ := Qyy (hrd (x, .rowp n q m j i) (by simp)) hb hk
 obtain ⟨v, hv, hrel⟩ := (hown.cells hj).load ht hi hg
 refine ⟨v, ?_, hr ▸ hrel⟩
 simp only [execOp, h, hx, Instr.loadAt, Instr.sureAddr, Sem.run_bind, Sem.run_pure, Result.andThen_ok, hv]
theorem Qi7 {α : Type} {c : α → List AV} {R : List (List α)} {u u' : α} {x y : Operand} {t : TypeId} {g : Bool} {n q m j i : Nat} {v : AV} (h : o.op = .store t x y) (ht : TI P t g (stA v).length) (h1 : (stA v).all AV.one = true) (hu : getM R q j = some u) (hi : i + (stA v).length ≤ (c u).length) (hx' : Qg3 (c u) i (stA v) = c u') :
  Qc1 P o [(x, .rowp n q m j i), (y, v)] [(n, .mat m (matA c R))] .any [(n, .mat m (matA c (setM R q j u')))] := by
 intro X φ a w hrd hbl hd hX hlt next Q k
 obtain ⟨r0, hr0, hj0⟩ := Qza hu
 have hmat := hbl (n, .mat m (matA c R)) (by simp)
 have hq : (matA c R)[q]? = some (r0.map c) := by simp [matA, hr0]
 have hj : (r0.map c)[j]? = some (c u) := by simp [hj0]
 obtain ⟨bs, b, hb, hk, hown⟩ := Qtl hmat hq (Qvj hj)
 dsimp only at hb
 have hblk : Blk φ n b := .inr ⟨bs, q, hb, hk⟩
 obtain ⟨cs, hrun, evo, hok⟩ := Qsa h ht h1 hj hi rfl (Qyy (hrd (x, .rowp n q m j i) (by simp)) hb hk) (hrd (y, v) (by simp)) hown hblk hd
 refine Qvs hrun (k undef φ _ (.any _) (fun p hp => ?_) hd (fun _ _ => rfl) (fun b' _ hb' => setRow_other w b b' _ fun e => hb' (n, .mat m (matA c (setM R q j u'))) (by simp) (e ▸ hblk.lies)) evo)
 simp at hp
 subst hp
 obtain ⟨bs', h2, h3, h4, h5⟩ := hmat
 dsimp only at h2 h3 h4 h5
 rw [hb] at h2
 cases h2
 refine ⟨bs, hb, by rw [h3]; simp [matA, setM], h4, fun q' xs' hq' => ?_⟩
 by_cases e : q' = q
 ·subst e
  refine .inr ⟨b, hk, ?_⟩
  have hql := (List.getElem?_eq_some_iff.1 hr0).1
  have : xs' = (r0.map c).set j (Qg3 (c u) i (stA v)) := by
   simp only [matA, setM, List.getElem?_map, List.getElem?_set_self hql, Option.map_some, Option.some.injEq] at hq'
   rw [← hq', hx', List.getD_eq_getElem?_getD, hr0, Option.getD_some, List.map_set]
  rw [this]
  exact hok
 ·have : (matA c R)[q']? = some xs' := by
   simp only [matA, setM, List.getElem?_map] at hq' ⊢
   rwa [List.getElem?_set_ne (fun e' => e e'.symm)] at hq'
  rcases h5 q' xs' this with h6 | ⟨b', h6, h7⟩
  ·exact .inl h6
  ·refine .inr ⟨b', h6, ?_⟩
   have hne : b' ≠ b := fun eb => e (h4 q' q b (eb ▸ h6) hk)
   obtain ⟨⟨cur, ty, c1, c2, c3, c4⟩, c5⟩ := h7
   exact ⟨⟨cur, ty, (setRow_other w b b' cs hne).trans c1, c2, c3, fun j' x' hj' i' a' hi' => (c4 j' x' hj' i' a' hi').evo evo⟩, c5⟩
end
section
variable {P : Program} {X : Nat → Nat → Prop} {φ0 φ : Nat → FSlot} {w0 w : World} {s : AS}
theorem Q3s {a : Nat} (hn : φ a = .unused) (hd : Qb6 φ) : Evo X φ w (upd φ a (.mat [])) w ∧ Qb6 (upd φ a (.mat [])) := by
 have ne : ∀ q, φ q ≠ .unused → q ≠ a := fun q hq e => hq (e ▸ hn)
 refine ⟨⟨rfl, rfl, rfl, Nat.le_refl _, fun _ _ _ => rfl, fun b' ⟨q, hq⟩ => ?_, fun b' off hdat => ⟨⟨hdat.lt, hdat.hid, fun q hq => ?_, fun q L hq => ?_, fun q Y hq => ?_, fun q bs z hq => ?_⟩, rfl⟩, fun q hq => ?_, fun q b' hq => ?_, fun q t hq => ?_, fun q Y hq => ?_, fun q bs hq => ?_, fun _ _ _ _ => .same rfl⟩, fun q q' b' h1 h2 => ?_⟩
 ·unfold upd at hq
  split at hq
  ·obtain ⟨k, hk⟩ := Qla hq; cases hk
  ·exact .inl ⟨q, hq⟩
 ·unfold upd at hq
  split at hq
  ·cases hq
  ·exact hdat.own q hq
 ·unfold upd at hq
  split at hq
  ·cases hq
  ·exact hdat.tok q L hq
 ·unfold upd at hq
  split at hq
  ·cases hq
  ·exact hdat.far q Y hq
 ·unfold upd at hq
  split at hq
  ·cases hq; simp
  ·exact hdat.mat q bs z hq
 ·unfold upd; rw [if_neg (ne q (by rw [hq]; simp))]; exact hq
 ·unfold upd; rw [if_neg (ne q (by rw [hq]; simp))]; exact .inl hq
 ·unfold upd; rw [if_neg (ne q (by rw [hq]; simp))]; exact .inr ⟨hq, fun _ _ _ => rfl⟩
 ·unfold upd; rw [if_neg (ne q (by rw [hq]; simp))]; exact .inr ⟨Y, hq⟩
 ·unfold upd; rw [if_neg (ne q (by rw [hq]; simp))]; exact .inr ⟨bs, hq, .refl bs⟩
 ·unfold upd at h1 h2
  split at h1
  ·obtain ⟨k, hk⟩ := Qla h1; cases hk
  ·split at h2
   ·obtain ⟨k, hk⟩ := Qla h2; cases hk
   ·exact hd q q' b' h1 h2
theorem Qyc {n a m : Nat} {xs : List (List AV)} {rows : List (List (List AV))} (hd : Qb6 φ) (hs : SlotOK X φ w n (.own m xs)) (hs' : SlotOK X φ w a (.mat m rows)) :
  ∃ φ', Evo X φ w φ' w ∧ Qb6 φ' ∧ φ' n = .dead ∧ SlotOK X φ' w a (.mat m (rows ++ [xs])) ∧ (∀ q, q ≠ n → q ≠ a → φ' q = φ q) ∧ ∀ j len v, RelV X φ w (.own n m j len) v → RelV X φ' w (.row a rows.length m j len) v := by
 obtain ⟨b, hb, hown⟩ := hs
 obtain ⟨bs, hbs, hlen, hinj, hrows⟩ := hs'
 have hne : n ≠ a := fun e => by rw [e, hbs] at hb; cases hb
 have hfresh : ∀ k : Nat, bs[k]? ≠ some (some b) := fun k hk => hne (hd n a b (.own hb) (.mat hbs hk))
 obtain ⟨φ', hφ'⟩ : ∃ φ' : Nat → FSlot, φ' = fun q => if q = n then .dead else if q = a then .mat (bs ++ [some b]) else φ q := ⟨_, rfl⟩
 have e1 : φ' n = .dead := by rw [hφ']; simp
 have e2 : φ' a = .mat (bs ++ [some b]) := by rw [hφ']; simp [Ne.symm hne]
 have e3 : ∀ q, q ≠ n → q ≠ a → φ' q = φ q := fun q h3 h4 => by rw [hφ']; simp [h3, h4]
 have hget : ∀ (k c : Nat), (bs ++ [some b])[k]? = some (some c) → bs[k]? = some (some c) ∨ (k = bs.length ∧ c = b) := fun k c hk => by
  rcases Nat.lt_or_ge k bs.length with h3 | h3
  ·rw [List.getElem?_append_left h3] at hk; exact .inl hk
  ·rw [List.getElem?_append_right h3] at hk
   have : k - bs.length = 0 := by
    have := (List.getElem?_eq_some_iff.1 hk).1
    simp at this
    omega
   rw [this] at hk
   simp at hk
   exact .inr ⟨by omega, hk.symm⟩
 have inv : ∀ q c, (φ' q).lies c → (q = a ∧ (c = b ∨ (φ a).lies c)) ∨ (q ≠ n ∧ q ≠ a ∧ (φ q).lies c) := fun q c hq => by
  by_cases h3 : q = n
  ·subst h3; rw [e1] at hq; exact (Qaz hq).elim
  ·by_cases h4 : q = a
   ·subst h4
    rw [e2] at hq
    obtain ⟨k, hk⟩ := Qla hq
    rcases hget k c hk with h5 | ⟨_, h5⟩
    ·exact .inl ⟨rfl, .inr (.mat hbs h5)⟩
    ·exact .inl ⟨rfl, .inl h5⟩
   ·rw [e3 q h3 h4] at hq; exact .inr ⟨h3, h4, hq⟩
 have evo : Evo X φ w φ' w := by
  refine ⟨rfl, rfl, rfl, Nat.le_refl _, fun _ _ _ => rfl, fun c ⟨q, hq⟩ => ?_, fun c off hdat => ⟨⟨hdat.lt, hdat.hid, fun q hq => ?_, fun q L hq => ?_, fun q Y hq => ?_, fun q bs2 z hq hz => ?_⟩, rfl⟩, fun q hq => ?_, fun q c hq => ?_, fun q t hq => ?_, fun q Y hq => ?_, fun q bs2 hq => ?_, fun _ _ _ _ => .same rfl⟩
  ·rcases inv q c hq with ⟨_, rfl | h3⟩ | ⟨_, _, h3⟩
   ·exact .inl ⟨n, .own hb⟩
   ·exact .inl ⟨a, h3⟩
   ·exact .inl ⟨q, h3⟩
  ·by_cases h3 : q = n
   ·subst h3; rw [e1] at hq; cases hq
   ·by_cases h4 : q = a
    ·subst h4; rw [e2] at hq; cases hq
    ·rw [e3 q h3 h4] at hq; exact hdat.own q hq
  ·by_cases h3 : q = n
   ·subst h3; rw [e1] at hq; cases hq
   ·by_cases h4 : q = a
    ·subst h4; rw [e2] at hq; cases hq
    ·rw [e3 q h3 h4] at hq; exact hdat.tok q L hq
  ·by_cases h3 : q = n
   ·subst h3; rw [e1] at hq; cases hq
   ·by_cases h4 : q = a
    ·subst h4; rw [e2] at hq; cases hq
    ·rw [e3 q h3 h4] at hq; exact hdat.far q Y hq
  ·by_cases h3 : q = n
   ·subst h3; rw [e1] at hq; cases hq
   ·by_cases h4 : q = a
    ·subst h4; rw [e2] at hq; cases hq
     rcases hget z c hz with h5 | ⟨_, h5⟩
     ·exact hdat.mat q bs z hbs h5
     ·exact hdat.own n (h5 ▸ hb)
    ·rw [e3 q h3 h4] at hq; exact hdat.mat q bs2 z hq hz
  ·have h3 : q ≠ n := fun e => by rw [e, hb] at hq; cases hq
   have h4 : q ≠ a := fun e => by rw [e, hbs] at hq; cases hq
   rw [e3 q h3 h4]; exact hq
  ·have h4 : q ≠ a := fun e => by rw [e, hbs] at hq; cases hq
   by_cases h3 : q = n
   ·subst h3; exact .inr e1
   ·rw [e3 q h3 h4]; exact .inl hq
  ·have h3 : q ≠ n := fun e => by rw [e, hb] at hq; cases hq
   have h4 : q ≠ a := fun e => by rw [e, hbs] at hq; cases hq
   rw [e3 q h3 h4]; exact .inr ⟨hq, fun _ _ _ => rfl⟩
  ·have h3 : q ≠ n := fun e => by rw [e, hb] at hq; cases hq
   have h4 : q ≠ a := fun e => by rw [e, hbs] at hq; cases hq
   rw [e3 q h3 h4]; exact .inr ⟨Y, hq⟩
  ·have h3 : q ≠ n := fun e => by rw [e, hb] at hq; cases hq
   by_cases h4 : q = a
   ·subst h4
    rw [hbs] at hq
    cases hq
    exact .inr ⟨_, e2, by simp, fun k c hk hc => by rwa [List.getElem?_append_left hk] at hc⟩
   ·rw [e3 q h3 h4]; exact .inr ⟨bs2, hq, .refl _⟩
 refine ⟨φ', evo, fun q q' c h3 h4 => ?_, e1, ⟨_, e2, by simp [hlen], fun k k' c hk hk' => ?_, fun k ys hk => ?_⟩, e3, fun j len v hv => ?_⟩
 ·rcases inv q c h3 with ⟨h5, h6⟩ | ⟨h5, h6, h7⟩ <;> rcases inv q' c h4 with ⟨k5, k6⟩ | ⟨k5, k6, k7⟩
  ·rw [h5, k5]
  ·rcases h6 with rfl | h6
   ·exact absurd (hd q' n c k7 (.own hb)) k5
   ·exact absurd (hd q' a c k7 h6) k6
  ·rcases k6 with rfl | k6
   ·exact absurd (hd q n c h7 (.own hb)) h5
   ·exact absurd (hd q a c h7 k6) h6
  ·exact hd q q' c h7 k7
 ·rcases hget k c hk with h5 | ⟨h5, h6⟩ <;> rcases hget k' c hk' with k5 | ⟨k5, k6⟩
  ·exact hinj k k' c h5 k5
  ·exact absurd (k6 ▸ h5) (hfresh k)
  ·exact absurd (h6 ▸ k5) (hfresh k')
  ·rw [h5, k5]
 ·rcases Nat.lt_or_ge k rows.length with h5 | h5
  ·rw [List.getElem?_append_left h5] at hk
   rw [List.getElem?_append_left (by rw [hlen]; exact h5)]
   rcases hrows k ys hk with h6 | ⟨c, h6, ⟨cur, ty, c1, c2, c3, c4⟩, c5⟩
   ·exact .inl h6
   ·exact .inr ⟨c, h6, ⟨cur, ty, c1, c2, c3, fun j x hj i a hi => (c4 j x hj i a hi).evo evo⟩, c5⟩
  ·rw [List.getElem?_append_right h5] at hk
   have h6 : k - rows.length = 0 := by
    have := (List.getElem?_eq_some_iff.1 hk).1
    simp at this
    omega
   rw [h6] at hk
   simp at hk
   subst hk
   refine .inr ⟨b, ?_, ?_⟩
   ·rw [List.getElem?_append_right (by rw [hlen]; exact h5), show k - bs.length = 0 from by omega]; rfl
   ·obtain ⟨⟨cur, ty, c1, c2, c3, c4⟩, c5⟩ := hown
    exact ⟨⟨cur, ty, c1, c2, c3, fun j x hj i a hi => (c4 j x hj i a hi).evo evo⟩, c5⟩
 ·obtain ⟨cap, hc, hcm, rfl⟩ := Qqs hv hb
  refine .row a rows.length m j len _ cap hc hcm (by rw [e2]; simp) fun _ bs2 h3 => ?_
  rw [e2] at h3
  cases h3
  refine ⟨by simp [hlen], fun c hc => ?_⟩
  rw [← hlen, List.getElem?_append_right (Nat.le_refl _)] at hc
  simp at hc
  rw [hc]
theorem Qwb {o : Oper} {rd : List (Operand × AV)} {bl : List (Nat × Slot)} {q a m j len : Nat} {xs : List (List AV)} {rows : List (List (List AV))} (hqa : (q == a) = false) (h : Qc1 P o rd bl (.own q m j len) [(q, .own m xs)]) :
  Qc1 P o rd (bl ++ [(a, .mat m rows)]) (.row a rows.length m j len) [(q, .dead), (a, .mat m (rows ++ [xs]))] := by
 have hne : a ≠ q := fun e => by subst e; simp at hqa
 intro X φ ac w hr hb hd hX hlt next Q k
 refine h X φ ac w hr (fun p hp => hb p (List.mem_append_left _ hp)) hd hX hlt next Q fun v φ1 w1 hv he hd1 hsame hheap hev => ?_
 have hmat := hb (a, .mat m rows) (by simp)
 have h1 : SlotOK X φ1 w1 a (.mat m rows) := SlotOK.evo hmat hev (hsame a (by simpa using hne)) fun b hl => by
  refine hheap b (hlt a b hl) fun p hp hl2 => ?_
  simp at hp
  subst hp
  exact hne (hd a q b hl hl2)
 obtain ⟨φ2, ev2, hd2, e1, e2, e3, e4⟩ := Qyc hd1 (he (q, .own m xs) (by simp)) h1
 refine k v φ2 w1 (e4 j len v hv) (fun p hp => ?_) hd2 (fun n hn => ?_) (fun b hb' hne' => hheap b hb' fun p hp => ?_) (hev.trans ev2)
 ·rcases List.mem_cons.1 hp with rfl | hp
  ·exact e1
  ·rw [List.mem_singleton.1 hp]; exact e2
 ·simp at hn
  rw [e3 n hn.1 hn.2]
  exact hsame n (by simpa using hn.1)
 ·simp at hp
  subst hp
  exact hne' (q, .dead) (by simp)
def c_mr (a m : Nat) (x : Nat × Nat) : List AV := [.row a x.1 m 0 x.2]
theorem Qsp {o : Oper} {rd : List (Operand × AV)} {bl : List (Nat × Slot)} {q a j len k' : Nat} (m : Nat) (hqa : (q == a) = false) (h : Qc1 P o rd bl (.own q 1 j len) [(q, .own 1 (List.replicate k' [.lit (.slice none 0 0)]))]) :
  Qc1 P o rd (bl ++ [(a, .unused)]) (.own q 1 j len) [(q, .own 1 ((List.replicate k' (0, 0)).map (c_mr a m))), (a, .mat m [])] := by
 have hne : a ≠ q := fun e => by subst e; simp at hqa
 intro X φ ac w hr hb hd hX hlt next Q k
 refine h X φ ac w hr (fun p hp => hb p (List.mem_append_left _ hp)) hd hX hlt next Q fun v φ1 w1 hv he hd1 hsame hheap hev => ?_
 have hun : φ1 a = .unused := (hsame a (by simpa using hne)).trans (hb (a, .unused) (by simp))
 obtain ⟨ev2, hd2⟩ := Q3s (X := X) (w := w1) hun hd1
 have ne : ∀ n, n ≠ a → upd φ1 a (.mat []) n = φ1 n := fun n e => by simp [upd, e]
 refine k v _ w1 (hv.evo ev2) (fun p hp => ?_) hd2 (fun n hn => ?_) (fun b hb' hne' => hheap b hb' fun p hp => ?_) (hev.trans ev2)
 ·rcases List.mem_cons.1 hp with rfl | hp
  ·obtain ⟨b, h1, ⟨cur, ty, c1, c2, c3, c4⟩, c5⟩ := he (q, .own 1 (List.replicate k' [.lit (.slice none 0 0)])) (by simp)
   dsimp only at h1 c2 c3 c4
   refine ⟨b, (ne q hne.symm).trans h1, ⟨cur, ty, c1, by simpa using c2, fun x hx => ?_, fun j' x hj i u hi => ?_⟩, c5⟩
   ·obtain ⟨y, _, rfl⟩ := List.mem_map.1 hx
    rfl
   ·have hj' : j' < k' := by simpa using (List.getElem?_eq_some_iff.1 hj).1
    simp [hj'] at hj
    subst hj
    cases i with
    | zero =>
     simp [c_mr] at hi
     subst hi
     have := c4 j' [.lit (.slice none 0 0)] (by simp [hj']) 0 (.lit (.slice none 0 0)) rfl
     rw [Qce this]
     exact .row a 0 m 0 0 none 0 (Nat.le_refl _) (Nat.zero_le _) (by simp [upd]) fun h => absurd rfl h
    | succ i => simp [c_mr] at hi
  ·rw [List.mem_singleton.1 hp]
   exact ⟨[], by simp [upd], rfl, by simp, by simp⟩
 ·simp at hn
  rw [ne n hn.2]
  exact hsame n (by simpa using hn.1)
 ·simp at hp
  subst hp
  exact hne' (q, .own 1 ((List.replicate k' (0, 0)).map (c_mr a m))) (by simp)
theorem Zba {q a m : Nat} {α : Type} {c : α → List AV} {cl : List α → List AV} {E : List (Nat × Nat)} {R : List (List α)} {own' : List Slot} (hqa : (q == a) = false) (hq : s.own.getD q .unused = .own 1 (E.map (c_mr a m))) (ha : s.own.getD a .unused = .mat m (matA c R)) (hlt : (Nat.blt q s.own.length && Nat.blt a s.own.length) = true)
  (hall : (E.all fun x => decide (x.2 ≤ (R.getD x.1 []).length)) = true) (hcl : ∀ r, cl r = [.dat m (r.map c)]) (ho : (s.own.set q (.own 1 ((E.map fun x => (R.getD x.1 []).take x.2).map cl))).set a .dead = own') : Mor X φ0 w0 s ⟨s.regs, own'⟩ := by
 have hne : a ≠ q := fun e => by subst e; simp at hqa
 subst ho
 simp only [Bool.and_eq_true, Nat.blt_eq] at hlt
 refine Qmf (R := fun x y => x = y) (fun φ w henv => ?_) (LPw.refl (fun _ => rfl) _)
 have h1 := henv.slot q
 rw [show s.slot q = _ from hq] at h1
 have h2 := henv.slot a
 rw [show s.slot a = _ from ha] at h2
 have h2' := h2
 obtain ⟨b, hb, hown⟩ := h1
 obtain ⟨bs, hbs, hlen, hinj, hrows⟩ := h2
 have evo : Evo X φ w (upd φ a .dead) w := by
  have := Q6s (X := X) (φ := φ) (w := w) [a]
  have e : kill [a] φ = upd φ a .dead := by
   funext k
   unfold kill upd
   by_cases h : k = a <;> simp [h]
  rwa [e] at this
 have ne : ∀ n, n ≠ a → upd φ a .dead n = φ n := fun n e => by simp [upd, e]
 have hdat : ∀ (k c' off : Nat), bs[k]? = some (some c') → c' < w.heap.size → (∀ off, ¬ X c' off) → DataAt X (upd φ a .dead) w c' off := fun k c' off hk hlt' hX => by
  have no : ∀ n, n ≠ a → ¬ (φ n).lies c' := fun n hn hl => hn (henv.distinct n a c' hl (.mat hbs hk))
  have cas : ∀ n (f : FSlot), upd φ a .dead n = f → f ≠ .dead → n ≠ a ∧ φ n = f := fun n f e hf => by
   by_cases h : n = a
   ·subst h; simp [upd] at e; exact absurd e.symm hf
   ·exact ⟨h, (ne n h).symm.trans e⟩
  refine ⟨hlt', hX off, fun n hn => ?_, fun n L hn => ?_, fun n Y hn hy => ?_, fun n bs2 z hn hz => ?_⟩
  ·obtain ⟨e1, e2⟩ := cas n _ hn (by simp); exact no n e1 (.own e2)
  ·obtain ⟨e1, e2⟩ := cas n _ hn (by simp); exact (no n e1 (.tok e2)).elim
  ·obtain ⟨e1, e2⟩ := cas n _ hn (by simp); exact no n e1 (.far e2 hy)
  ·obtain ⟨e1, e2⟩ := cas n _ hn (by simp); exact no n e1 (.mat e2 hz)
 refine ⟨upd φ a .dead, evo, fun n n' c' h3 h4 => ?_, fun n => ?_, fun x y v e hv => e ▸ hv.evo evo⟩
 ·unfold upd at h3 h4
  split at h3
  ·exact (Qaz h3).elim
  ·split at h4
   ·exact (Qaz h4).elim
   ·exact henv.distinct n n' c' h3 h4
 ·by_cases e : n = a
  ·subst e
   rw [List.getD_eq_getElem?_getD, List.getElem?_set_self (by simpa using hlt.2)]
   simp [SlotOK, upd]
  ·rw [List.getD_eq_getElem?_getD, List.getElem?_set_ne (Ne.symm e)]
   by_cases e2 : n = q
   ·subst e2
    rw [List.getElem?_set_self hlt.1]
    obtain ⟨⟨cur, ty, c1, c2, c3, c4⟩, c5⟩ := hown
    refine ⟨b, (ne n e).trans hb, ⟨cur, ty, c1, by simpa using c2, fun x hx => ?_, fun j x hj i u hi => ?_⟩, c5⟩
    ·obtain ⟨r, _, rfl⟩ := List.mem_map.1 hx
     rw [hcl]; rfl
    ·simp only [List.map_map, List.getElem?_map] at hj
     cases hE : E[j]? with
     | none => rw [hE] at hj; simp at hj
     | some p =>
      rw [hE] at hj
      simp at hj
      rw [hcl] at hj
      subst hj
      cases i with
      | succ i => simp at hi
      | zero =>
       simp at hi
       subst hi
       have hrel := c4 j (c_mr a m p) (by simp [hE]) 0 (.row a p.1 m 0 p.2) rfl
       have hp := of_decide_eq_true (List.all_eq_true.1 hall p (List.mem_of_getElem? hE))
       rw [List.getD_eq_getElem?_getD] at hp
       have hl : ((R[p.1]?.getD []).take p.2).length = p.2 := by simp; omega
       by_cases h0 : p.2 = 0
       ·rw [h0] at hrel ⊢
        generalize hcv : cur.getD (j * 1 + 0) undef = cv at hrel ⊢
        cases hrel with
        | row _ _ _ _ _ A cap k1 k2 k3 k4 => exact .dat m _ A 0 cap (fun _ _ => undef) (by simpa using DatOK.nil m A cap _ k2) (by simp)
       ·have hR : ∃ r, R[p.1]? = some r := by
         cases hr : R[p.1]? with
         | some r => exact ⟨r, rfl⟩
         | none => rw [hr] at hp; simp at hp; exact absurd hp h0
        obtain ⟨r, hr⟩ := hR
        have hrd : R[p.1]?.getD [] = r := by rw [hr]; rfl
        rw [hrd] at hp hl ⊢
        have hxs : (matA c R)[p.1]? = some (r.map c) := by simp [matA, hr]
        have hrne : r.map c ≠ [] := fun e => by
         have : r = [] := by simpa using e
         rw [this] at hp
         exact h0 (by simpa using hp)
        obtain ⟨bs', b', k1, k2, k3⟩ := Qtl h2' hxs hrne
        rw [hbs] at k1
        cases k1
        obtain ⟨cap, k5, k6, k7⟩ := Q3d hrel h0 hbs k2
        rw [k7]
        obtain ⟨cur', ty', d1, d2, d3, d4⟩ := k3.blk
        have hget : ∀ (z : Nat) y, ((r.map c).take p.2)[z]? = some y → (r.map c)[z]? = some y := fun z y hz => by
         simp only [List.getElem?_take] at hz
         split at hz
         ·exact hz
         ·cases hz
        refine .dat m _ _ p.2 cap (fun z i => cur'.getD (z * m + i) undef) ⟨by simp; omega, k5, k6, fun y hy => ?_, fun _ => ⟨b', 0, by simp, fun z y hz i hi => ⟨hdat p.1 b' _ k2 k3.lt k3.hid, ?_⟩⟩⟩ (fun z y hz i u hi => (d4 z y (hget z y hz) i u hi).evo evo)
        ·obtain ⟨z, hz⟩ := List.getElem?_of_mem hy
         exact d3 y (List.mem_of_getElem? (hget z y hz))
        ·have hzl := (List.getElem?_eq_some_iff.1 (hget z y hz)).1
         have := Qdx hzl hi
         have hlt' : z * m + i < cur'.size := by omega
         rw [Nat.zero_add, cell_of_row w b' _ cur' _ _ d1]
         simp [Array.getD_eq_getD_getElem?, hlt']
   ·rw [List.getElem?_set_ne (Ne.symm e2)]
    have := henv.slot n
    rw [show s.slot n = s.own[n]?.getD .unused from rfl] at this
    exact this.evo evo (ne n e) fun _ _ => rfl
end
section
variable {X : Nat → Nat → Prop} {φ0 : Nat → FSlot} {w0 : World} {s : AS}
theorem Za9 {n : Nat} (q p : Nat) (l : List (Nat × AV)) {l' : List (Nat × AV)} {mp m : Nat} {c c' : List AV} {xs : List (List AV)} {own' : List Slot} (hmask : Qvk s.regs (mk n l) = mk n l) (hn : (s.regs.length == n && Nat.blt q s.own.length && Nat.blt p s.own.length && q != p) = true) (hs : s.own.getD q .unused = .own m xs) (hp : s.own.getD p .unused = .own mp [c])
  (hc : LPw (Fz q m xs) c c') (hr : PPw (Fz q m xs) l l') (ho : (s.own.set p (.own mp [c'])).set q .dead = own') : Mor X φ0 w0 s ⟨mk n l', own'⟩ := by
 subst ho
 simp only [Bool.and_eq_true, beq_iff_eq, Nat.blt_eq, bne_iff_ne, ne_eq] at hn
 obtain ⟨⟨⟨hn1, hn2⟩, hn3⟩, hn4⟩ := hn
 refine Mor.trans (Qp8 l hn1 hmask) (Qse (s := ⟨mk n l, s.own⟩) q hs (Qy5 (.any _) n hr) ?_ fun k hk => ?_)
 ·simp [hn2]
 ·have : ((s.own.set p (Slot.own mp [c'])).set q Slot.dead).getD k .unused = (s.own.set p (Slot.own mp [c'])).getD k .unused := by
   simp only [List.getD_eq_getElem?_getD]
   rw [List.getElem?_set_ne (fun e => hk e.symm)]
  rw [this]
  by_cases e : k = p
  ·subst e
   have e1 : (s.own.set k (Slot.own mp [c'])).getD k .unused = .own mp [c'] := by simp [hn3]
   have e2 : AS.slot ⟨mk n l, s.own⟩ k = .own mp [c] := hp
   rw [e1, e2]
   refine .own mp _ _ rfl fun j x x' h1 h2 => ?_
   cases j with
   | zero => simp at h1 h2; subst h1 h2; exact hc
   | succ j => simp at h1
  ·have : (s.own.set p (Slot.own mp [c'])).getD k .unused = s.own.getD k .unused := by
    simp only [List.getD_eq_getElem?_getD]
    rw [List.getElem?_set_ne (fun e' => e e'.symm)]
   rw [this]
   exact SPw.refl (fun a => .same a) _
end
theorem Q3i {α : Type} {c : α → List AV} (h : ∀ x, ∀ a ∈ c x, NLt 0 a) (R : List (List α)) : ∀ r ∈ matA c R, ∀ x ∈ r, ∀ a ∈ x, NLt 0 a := fun r hr x hx a ha => by
 obtain ⟨l, _, rfl⟩ := List.mem_map.1 hr
 obtain ⟨y, _, rfl⟩ := List.mem_map.1 hx
 exact h y a ha
theorem Qcm {M : Nat → Nat → Prop} {m : Nat} {α : Type} {c : α → List AV} {R : List (List α)} (h : ∀ x, ∀ a ∈ c x, NLt 0 a) : SPw (RW M) (.mat m (matA c R)) (.mat m (matA c R)) := .mat m _ fun r hr x hx => by
 have hn := Q3i h R r hr x hx
 clear hx hr
 induction x with
 | nil => exact trivial
 | cons a x ih => exact ⟨.rn (.plain a (hn a (by simp))), ih fun b hb => hn b (List.mem_cons_of_mem _ hb)⟩
theorem Qbz {ρ : List Nat} {a a' m : Nat} {E : List (Nat × Nat)} (h : (ρ[a']? == some a) = true) : SPw (RW fun n n' => ρ[n']? = some n) (.own 1 (E.map (c_mr a m))) (.own 1 (E.map (c_mr a' m))) := .own 1 _ _ (by simp) fun j x x' h1 h2 => by
 simp only [List.getElem?_map] at h1 h2
 cases e : E[j]? with
 | none => rw [e] at h1; cases h1
 | some p =>
  rw [e] at h1 h2
  cases h1; cases h2
  exact ⟨.rn (.row (by simpa using h) _ _ _ _), trivial⟩
theorem Qja {M : Nat → Nat → Prop} {m : Nat} {α : Type} {c : α → List AV} {R : List (List α)} (h : ∀ x, ∀ a ∈ c x, NLt 0 a) : SRn M (.mat m (matA c R)) (.mat m (matA c R)) := .mat m _ (Q3i h R)
theorem Qu1 {M : Nat → Nat → Prop} {a a' m : Nat} {E : List (Nat × Nat)} (h : M a a') : SRn M (.own 1 (E.map (c_mr a m))) (.own 1 (E.map (c_mr a' m))) := by
 refine .own 1 _ _ (by simp) (fun j x x' h1 h2 => ?_) fun j x x' h1 h2 i u u' h3 h4 => ?_
 ·simp only [List.getElem?_map] at h1 h2
  cases e : E[j]? with
  | none => rw [e] at h1; cases h1
  | some p => rw [e] at h1 h2; cases h1; cases h2; rfl
 ·simp only [List.getElem?_map] at h1 h2
  cases e : E[j]? with
  | none => rw [e] at h1; cases h1
  | some p =>
   rw [e] at h1 h2
   cases h1; cases h2
   cases i with
   | zero => cases h3; cases h4; exact .row h _ _ _ _
   | succ i => simp [c_mr] at h3
theorem Qkq {ρ : List Nat} {a a' m : Nat} {E : List (Nat × Nat)} (h : (ρ[a]? == some a') = true) : SRn (fun n n' => ρ[n]? = some n') (.own 1 (E.map (c_mr a m))) (.own 1 (E.map (c_mr a' m))) := Qu1 (by simpa using h)
theorem Qkp {ρ : List Nat} {a a' m q : Nat} {E : List (Nat × Nat)} (h : (ρ[a]? == some a' && Nat.blt a q) = true) : SRn (fun n n' => ρ[n]? = some n' ∧ n < q) (.own 1 (E.map (c_mr a m))) (.own 1 (E.map (c_mr a' m))) := Qu1 (by simpa using h)
theorem Qjb {k m : Nat} {α : Type} {c : α → List AV} (h : ∀ x, ∀ a ∈ c x, NLt 0 a) (R : List (List α)) : SNLt k (.mat m (matA c R)) := .mat m _ fun r hr x hx a ha => (Q3i h R r hr x hx a ha).of0
theorem Qhd {k a m : Nat} {E : List (Nat × Nat)} (h : Nat.blt a k = true) : SNLt k (.own 1 (E.map (c_mr a m))) := .own 1 _ fun x hx u hu => by
 obtain ⟨p, _, rfl⟩ := List.mem_map.1 hx
 simp [c_mr] at hu
 subst hu
 exact .row _ _ _ _ _ (by simpa using h)
section
variable {P : Program} {o : Oper}
theorem Q28 {α : Type} {c : α → List AV} {R : List (List α)} {q : Nat} (h : (!(R.getD q []).isEmpty) = true) : (matA c R)[q]? = some ((R.getD q []).map c) ∧ (R.getD q []).map c ≠ [] := by
 cases e : R[q]? with
 | none => rw [List.getD_eq_getElem?_getD, e] at h; simp at h
 | some r =>
  rw [List.getD_eq_getElem?_getD, e] at h ⊢
  refine ⟨by simp [matA, e], fun e2 => ?_⟩
  have : r = [] := by simpa using e2
  subst this
  simp at h
theorem Qdn {α : Type} {c : α → List AV} {R : List (List α)} {x y : Operand} {t e : TypeId} {gg : Bool} {m n q j j' len : Nat} {k : IntKind} {i : Int} (h : o.op = .indexAddr t x y) (ht : P.underlying t = some (.slice e)) (he : TI P e gg m) (h0 : 0 ≤ i) (hi : i.toNat < len) (hq : (!(R.getD q []).isEmpty) = true) (hj : j + i.toNat = j') :
  Qc1 P o [(x, .row n q m j len), (y, .lit (.int k i))] [(n, .mat m (matA c R))] (.rowp n q m j' 0) [] := Q03 h ht he h0 hi (Q28 hq).1 (Q28 hq).2 hj
theorem Qou {α : Type} {c : α → List AV} {R : List (List α)} {l : List α} {rd : List (Operand × AV)} {bl : List (Nat × Slot)} {q a m j len : Nat} (hqa : (q == a) = false) (h : Qc1 P o rd bl (.own q m j len) [(q, .own m (l.map c))]) :
  Qc1 P o rd (bl ++ [(a, .mat m (matA c R))]) (.row a R.length m j len) [(q, .dead), (a, .mat m (matA c (R ++ [l])))] := by
 have := Qwb (rows := matA c R) hqa h
 simpa [matA] using this
end
end Go.Proofs.YtlhakkkjgdbdpaaGreat
