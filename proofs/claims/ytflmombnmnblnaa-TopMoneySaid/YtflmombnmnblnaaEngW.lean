/-
  The engine, part W: a block of one's own read as data in one operation; scopes; a slice of one's own is not nil. Plain definitions and laws; no conditions.
-/
import Derived.Test.YtflmombnmnblnaaEngV
import Derived.Scope
namespace Go.Proofs.Ytflmombnmnblnaa
open Go.RowKit
section
variable {F : Fence} {n : Nat} {P : Program} {Q : Exit → Act → World → Prop} {a : Act} {w : World}
end
section
variable {P : Program} {X : Nat → Nat → Prop} {φ0 : Nat → FSlot} {w0 : World} {ro : Option Nat} {Q : Exit → AS → Prop} {s : AS} {c : Code}
end
section
variable {P : Program} {o : Oper} {X : Nat → Nat → Prop} {φ φ' : Nat → FSlot} {w w' : World}
def wake (ns : List Nat) (φ0 φ : Nat → FSlot) : Nat → FSlot := fun k => if ns.contains k then φ0 k else φ k
theorem wake_in {ns : List Nat} {φ0 : Nat → FSlot} {k : Nat} (h : k ∈ ns) : wake ns φ0 φ k = φ0 k := by simp [wake, h]
theorem wake_out {ns : List Nat} {φ0 : Nat → FSlot} {k : Nat} (h : k ∉ ns) : wake ns φ0 φ k = φ k := by simp [wake, h]
inductive Fresh (ns : List Nat) (eff : List (Nat × Slot)) : AV → Prop where
 | any : Fresh ns eff .any
 | lit (v : Value) : Fresh ns eff (.lit v)
 | ref (n' m j i : Nat) (h : n' ∉ ns) : Fresh ns eff (.ref n' m j i)
 | own (n' m j len : Nat) (h : n' ∉ ns) : Fresh ns eff (.own n' m j len)
 | gro (n' : Nat) (ty : TypeId) (m len : Nat) (h : n' ∉ ns) : Fresh ns eff (.gro n' ty m len)
 | acc (n' : Nat) (ty : TypeId) (m : Nat) (xs : List (List AV)) (h : n' ∉ ns) (ht : (n', Slot.tok) ∈ eff) (hx : ∀ x ∈ xs, ∀ a ∈ x, ∃ v, a = .lit v) : Fresh ns eff (.acc n' ty m xs)
 | tup (l : List AV) (h : ∀ a ∈ l, Fresh ns eff a) : Fresh ns eff (.tup l)
 | agg (l : List AV) (h : ∀ a ∈ l, Fresh ns eff a) : Fresh ns eff (.agg l)
theorem Fresh.rel {ns : List Nat} {φ0 : Nat → FSlot} {eff : List (Nat × Slot)} {a : AV} (h : Fresh ns eff a) (hd : Qbs (wake ns φ0 φ)) (he : ∀ p ∈ eff, SlotOK X φ w p.1 p.2)
  (hX : ∀ b' off, DataAt X φ w b' off → (∀ n ∈ ns, φ0 n ≠ .own b') → DataAt X (wake ns φ0 φ) w b' off) : ∀ {v : Value}, RelV X φ w a v → RelV X (wake ns φ0 φ) w a v := by
 have ne : ∀ {n'}, n' ∉ ns → wake ns φ0 φ n' = φ n' := fun h => wake_out h
 induction h with
 | any => intro v _; exact .any v
 | lit u => intro v hv; cases hv; exact .lit _
 | ref n' m j i h => intro v hv; cases hv with | ref _ _ _ _ A hn hb => exact .ref n' m j i A (by rw [ne h]; exact hn) (by rw [ne h]; exact hb)
 | own n' m j len h => intro v hv; cases hv with | own _ _ _ _ A cap hc hm hn hb => exact .own n' m j len A cap hc hm (by rw [ne h]; exact hn) (by rw [ne h]; exact hb)
 | gro n' ty m len h => intro v hv; cases hv with | gro _ _ _ _ A cap hc hm hn hv hb => exact .gro n' ty m len A cap hc hm (by rw [ne h]; exact hn) (by rw [ne h]; exact hv) (by rw [ne h]; exact hb)
 | acc n' ty m xs h ht hx =>
  intro v hv
  cases hv with
  | acc _ _ _ _ A len cap g ok hr hn htip =>
   obtain ⟨t, htok, _⟩ := he (n', .tok) ht
   dsimp only at htok
   have htip' := htip t htok
   refine .acc n' ty m xs A len cap g ⟨ok.hlen, ok.hcap, ok.hmost, ok.hsize, fun hne => ?_⟩ (fun j x hj i a hi => ?_) (by rw [ne h]; exact hn) (by rw [ne h]; exact htip)
   ·obtain ⟨b0, o0, hA, hc⟩ := ok.hcells hne
    refine ⟨b0, o0, hA, fun j x hj i hi => ⟨?_, (hc j x hj i hi).2⟩⟩
    have hb0 : ∀ n ∈ ns, φ0 n ≠ .own b0 := by
     intro n hnn hb
     cases t with
     | none =>
      have := htip'.1
      rw [ok.hlen] at this
      exact hne (List.eq_nil_of_length_eq_zero this)
     | some p =>
      obtain ⟨b2, L⟩ := p
      have hA2 := htip'.1
      rw [hA] at hA2
      cases hA2
      have h1 : (wake ns φ0 φ n').lies b0 := by rw [ne h]; exact .tok htok
      have h2 : (wake ns φ0 φ n).lies b0 := .own (by rw [wake_in hnn]; exact hb)
      exact h (hd _ _ _ h1 h2 ▸ hnn)
    exact hX _ _ (hc j x hj i hi).1 hb0
   ·obtain ⟨u, rfl⟩ := hx x (List.mem_of_getElem? hj) a (List.mem_of_getElem? hi)
    have := hr j x hj i _ hi
    rw [Qb1 this]
    exact .lit _
 | tup l h ih =>
  intro v hv
  cases hv with
  | tup _ vs hs hr => exact .tup l vs hs fun i a hi => ih a (List.mem_of_getElem? hi) (hr i a hi)
 | agg l h ih =>
  intro v hv
  cases hv with
  | agg _ vs hs hr => exact .agg l vs hs fun i a hi => ih a (List.mem_of_getElem? hi) (hr i a hi)
inductive SFresh (ns : List Nat) (eff : List (Nat × Slot)) : Slot → Prop where
 | dead : SFresh ns eff .dead
 | tok : SFresh ns eff .tok
 | own (m : Nat) (xs : List (List AV)) (h : ∀ x ∈ xs, ∀ a ∈ x, Fresh ns eff a) : SFresh ns eff (.own m xs)
 | gro (m : Nat) (xs : List (List AV)) (h : ∀ x ∈ xs, ∀ a ∈ x, Fresh ns eff a) : SFresh ns eff (.gro m xs)
inductive Cv (B : List (Nat × Nat × List (List AV))) : AV → AV → Prop where
 | same (a : AV) : Cv B a a
 | dat (n m j len : Nat) (xs zs : List (List AV)) (h : (n, m, xs) ∈ B) (hl : j + len ≤ xs.length) (hz : zs.length = len) (hs : ∀ (i : Nat) y z, xs[j + i]? = some y → zs[i]? = some z → y.length = z.length) (hr : ∀ (i : Nat) y z, xs[j + i]? = some y → zs[i]? = some z → ∀ (q : Nat) a a', y[q]? = some a → z[q]? = some a' → Cv B a a') : Cv B (.own n m j len) (.dat m zs)
 | dptr (n m j i : Nat) (xs : List (List AV)) (c c' : List AV) (h : (n, m, xs) ∈ B) (hj : xs[j]? = some c) (hl : c.length = c'.length) (hr : ∀ (q : Nat) a a', c[q]? = some a → c'[q]? = some a' → Cv B a a') : Cv B (.ref n m j i) (.dptr c' i)
 | agg (l l' : List AV) (hl : l.length = l'.length) (hr : ∀ (q : Nat) a a', l[q]? = some a → l'[q]? = some a' → Cv B a a') : Cv B (.agg l) (.agg l')
 | fn (f : Fn) (l l' c c' : List AV) (hl : l.length = l'.length) (hc : c.length = c'.length) (hr : ∀ (q : Nat) a a', l[q]? = some a → l'[q]? = some a' → Cv B a a') (hr' : ∀ (q : Nat) a a', c[q]? = some a → c'[q]? = some a' → Cv B a a') : Cv B (.fn f l c) (.fn f l' c')
theorem Cv.rel {B : List (Nat × Nat × List (List AV))} {a a' : AV} (h : Cv B a a') (hB : ∀ p ∈ B, ∃ b, φ p.1 = .own b ∧ OwnOK X φ w b p.2.1 p.2.2) (ev : Evo X φ w φ' w) (hdat : ∀ p ∈ B, ∀ b off, φ p.1 = .own b → DataAt X φ' w b off) : ∀ {v : Value}, RelV X φ w a v → RelV X φ' w a' v := by
 have geti : ∀ {l l' : List AV}, l.length = l'.length → ∀ (q : Nat) a', l'[q]? = some a' → ∃ a, l[q]? = some a := fun {l l'} hl q a' hq => by
  have := (List.getElem?_eq_some_iff.1 hq).1
  exact ⟨_, List.getElem?_eq_getElem (by omega)⟩
 have cellat : ∀ {b m : Nat} {cur : Array Value} {ty : TypeId} {xs : List (List AV)} {j : Nat} {c : List AV} {q : Nat}, w.heap[b]? = some (.cells cur ty (0, 0)) → xs.length * m ≤ cur.size → xs[j]? = some c → q < m → w.cell? ⟨b, j * m + q, none⟩ = some (cur.getD (j * m + q) undef) := fun {b m cur ty xs j c q} hc hs hj hq => by
  have hjl : j < xs.length := (List.getElem?_eq_some_iff.1 hj).1
  have hpos : j * m + q < cur.size := by
   have : (j + 1) * m ≤ xs.length * m := Nat.mul_le_mul_right m hjl
   rw [Nat.add_mul] at this
   omega
  rw [World.cell?]
  simp only [hc]
  simp [Array.getD_eq_getD_getElem?, hpos]
 induction h with
 | same a => intro v hv; exact hv.evo ev
 | dat n m j len xs zs h hl hz hs hr ih =>
  intro v hv
  obtain ⟨b, hn, hown⟩ := hB _ h
  dsimp only at hn hown
  obtain ⟨cap, hc1, hc2, rfl⟩ := rel_own hv hn
  obtain ⟨cur, ty, hcell, hsz, hlen, hrel⟩ := hown.blk
  have hx : ∀ (i : Nat) z, zs[i]? = some z → ∃ y, xs[j + i]? = some y := fun i z hi => by
   have := (List.getElem?_eq_some_iff.1 hi).1
   exact ⟨_, List.getElem?_eq_getElem (by omega)⟩
  refine .dat m zs _ len cap (fun i q => cur.getD ((j + i) * m + q) undef) ⟨hz.symm, hc1, hc2, fun z hz' => ?_, fun _ => ⟨b, j * m, rfl, fun i z hi q hq => ⟨hdat _ h b _ hn, ?_⟩⟩⟩ fun i z hi q c hq => ?_
  ·obtain ⟨i, hi⟩ := List.getElem?_of_mem hz'
   obtain ⟨y, hy⟩ := hx i z hi
   rw [← hs i y z hy hi]
   exact hlen y (List.mem_of_getElem? hy)
  ·obtain ⟨y, hy⟩ := hx i z hi
   rw [show j * m + i * m + q = (j + i) * m + q from by rw [Nat.add_mul]]
   exact cellat hcell hsz hy hq
  ·obtain ⟨y, hy⟩ := hx i z hi
   obtain ⟨u, hu⟩ := geti (hs i y z hy hi) q c hq
   exact ih i y z hy hi q u c hu hq (hrel (j + i) y hy q u hu)
 | dptr n m j i xs c c' h hj hl hr ih =>
  intro v hv
  obtain ⟨b, hn, hown⟩ := hB _ h
  dsimp only at hn hown
  obtain rfl := Qja hv hn
  obtain ⟨cur, ty, hcell, hsz, hlen, hrel⟩ := hown.blk
  refine .dptr c' i b (j * m) (fun k => cur.getD (j * m + k) undef) (fun k hk => ⟨hdat _ h b _ hn, ?_⟩) fun k u hk => ?_
  ·exact cellat hcell hsz hj (by rw [← hl, hlen c (List.mem_of_getElem? hj)] at hk; exact hk)
  ·obtain ⟨u', hu'⟩ := geti hl k u hk
   exact ih k u' u hu' hk (hrel j c hj k u' hu')
 | agg l l' hl hr ih =>
  intro v hv
  cases hv with
  | agg _ vs hs h =>
   refine .agg l' vs (hs.trans hl) fun i a hi => ?_
   obtain ⟨u, hu⟩ := geti hl i a hi
   exact ih i u a hu hi (h i u hu)
 | fn f l l' c c' hl hc hr hr' ih ih' =>
  intro v hv
  cases hv with
  | fn _ _ _ us vs hu hv h1 h2 =>
   refine .fn f l' c' us vs (hu.trans hl) (hv.trans hc) (fun i a hi => ?_) fun i a hi => ?_
   ·obtain ⟨u, hu⟩ := geti hl i a hi
    exact ih i u a hu hi (h1 i u hu)
   ·obtain ⟨u, hu⟩ := geti hc i a hi
    exact ih' i u a hu hi (h2 i u hu)
def BR (B : List (Nat × Nat × List (List AV))) : List (Operand × AV) → List (Operand × AV) → Prop
 | [], [] => True
 | p :: l, q :: k => p.1 = q.1 ∧ Cv B p.2 q.2 ∧ BR B l k
 | _, _ => False
theorem BR.get {B : List (Nat × Nat × List (List AV))} : ∀ {l k : List (Operand × AV)}, BR B l k → ∀ q ∈ k, ∃ p ∈ l, p.1 = q.1 ∧ Cv B p.2 q.2
 | [], [], _, q, hq => by cases hq
 | p :: l, q' :: k, h, q, hq => by
  rcases List.mem_cons.1 hq with rfl | hq
  ·exact ⟨p, by simp, h.1, h.2.1⟩
  ·obtain ⟨p', hp', e⟩ := BR.get h.2.2 q hq
   exact ⟨p', List.mem_cons_of_mem _ hp', e⟩
end
abbrev amv := @Qkg
abbrev ag_ := @Qjv
abbrev aas := @Qip
abbrev nlc := @Qk1
abbrev abn := @astep_bin
abbrev rnc := @rnl_cons
abbrev ald := @Qki
abbrev rn0 := @rnl_nil
abbrev nld := @nl_dat
abbrev nl0 := @nl_nil
abbrev bno := @bind_out
abbrev apc := @astep_pcall
abbrev spb := @spw_box
abbrev asb := @astep_b
abbrev thn := @thenA_n
abbrev rot := @resOK_tmp
abbrev cko := @chk_out
abbrev jko := @joinK_out
abbrev acv := @astep_conv
abbrev aid := @astep_idxd
abbrev aln := @astep_len
abbrev alm := @astep_lenm
abbrev mgt := @map_get
abbrev gsm := @getI_some
abbrev wmr := @awp_mor
abbrev wjn := @awp_join
abbrev mto := @mor_to
abbrev arm := @around_mor
abbrev bln := @blockA_n
abbrev ald_ := @Qju
abbrev awk := @astep_weak
abbrev anc := @Qkf
abbrev wsq := @awp_seq
abbrev slc := @slw_cons
abbrev spr := @spw_row
abbrev rqr := @rnq_ref
abbrev lrf := @Less.rfl
abbrev ast := @Qjr
abbrev aio := @astep_idxo
abbrev wft := @awp_ift
abbrev wfn := @awp_ifn
end Go.Proofs.Ytflmombnmnblnaa
