/-
  The engine, part O: contracts by hand made contracts of the engine, and the other way. Plain laws; no conditions.
-/
import Derived.Test.YtenpbiineblcjaaEngN
namespace Go.Proofs.Ytenpbiineblcjaa
open Go.RowKit

section
variable {X : Nat → Nat → Prop} {φ φ' : Nat → FSlot} {w w' : World}
theorem below_of_evo (h : ∀ n, φ n = .unused) (ev : Evo X φ w φ' w') : Below w.heap.size w w' := ⟨ev.os, ev.tape, ev.output, ev.size, fun b hb => ev.blk b hb fun ⟨n, hn⟩ => by
  rw [h n] at hn
  rcases hn with e | ⟨L, e⟩ <;> cases e⟩
theorem evo_of_below (h : ∀ n, φ n = .unused) (hb : Below w.heap.size w w') : Evo X φ w φ w' := by
  refine ⟨hb.os, hb.tape, hb.output, hb.size, fun b hlt _ => hb.block b hlt, fun b hh => .inl hh, fun b off hd => ⟨⟨Nat.lt_of_lt_of_le hd.lt hb.size, hd.hid, hd.own, hd.tok⟩, hb.cell (p := ⟨b, off, none⟩) hd.lt⟩, fun n hn => hn, fun n b hn => .inl hn, fun n t hn => ?_⟩
  rw [h n] at hn; cases hn
theorem env_nil (h : ∀ n, φ n = .unused) (hX : ∀ b off, X b off → b < w.heap.size) : EnvOK X φ w (fun n => ([] : List Slot).getD n .unused) := ⟨fun n => h n, fun n n' b h1 => (by
  rw [h n] at h1
  rcases h1 with e | ⟨L, e⟩ <;> cases e), hX⟩

/-- A contract made by hand is one of the engine's. -/
theorem spec_of_calls {P : Program} {f : FuncId} {args : List AV} {res : AV} (h : ∀ (X : Nat → Nat → Prop) (φ : Nat → FSlot) (w : World) (vals : Array Value), vals.size = args.length → (∀ i v, args[i]? = some v → RelV X φ w v (vals.getD i undef)) → (∀ n, φ n = .unused) → (∀ b off, X b off → b < w.heap.size) →
    Calls P f vals w fun e w' => ∃ v, e = .returned v ∧ RelV X φ w' res v ∧ Below w.heap.size w w') : Spec P f args [] res [] := fun X φ w vals hsz hargs henv => by
  have hφ : ∀ n, φ n = .unused := fun n => henv.slot n
  refine (h X φ w vals hsz hargs hφ henv.hid).mono ?_
  rintro e w' ⟨v, rfl, hv, hb⟩
  exact ⟨v, φ, rfl, hv, env_nil hφ fun b off hx => Nat.lt_of_lt_of_le (henv.hid b off hx) hb.size, evo_of_below hφ hb⟩

/-- A contract of the engine's over plain data, at a world. -/
theorem Spec.calls {P : Program} {f : FuncId} {args : List AV} {res : AV} (h : Spec P f args [] res []) {vals : Array Value} (hsz : vals.size = args.length) (hargs : ∀ i v, args[i]? = some v → RelV X φ w v (vals.getD i undef)) (hφ : ∀ n, φ n = .unused) (hX : ∀ b off, X b off → b < w.heap.size) :
    Calls P f vals w fun e w' => ∃ v φ', e = .returned v ∧ RelV X φ' w' res v ∧ Below w.heap.size w w' := by
  refine (h X φ w vals hsz hargs (env_nil hφ hX)).mono ?_
  rintro e w' ⟨v, φ', rfl, hv, _, ev⟩
  exact ⟨v, φ', rfl, hv, below_of_evo hφ ev⟩

theorem RelV.behind (hφ : ∀ n, φ n = .unused) (hb : Below w.heap.size w w') {a : AV} {v : Value} (h : RelV X φ w a v) : RelV X φ w' a v := h.evo (evo_of_below hφ hb)

/-- What a slice of data reads as. -/
theorem dat_reads {α : Type} {c : α → List AV} {m : Nat} {xs : List α} {v : Value} (hm : 0 < m) (h : RelV X φ w (.dat m (xs.map c)) v) : ∃ A cap, v = .slice A xs.length cap ∧ xs.length ≤ cap ∧ cap ≤ maxLen ∧
    (0 < xs.length → ∃ b o, A = some ⟨b, o, none⟩ ∧ b < w.heap.size ∧ ∀ j x, xs[j]? = some x → ∀ i u, (c x)[i]? = some (.lit u) → w.cell? ⟨b, o + j * m + i, none⟩ = some u) := by
  cases h with
  | dat _ _ A len cap g ok hr =>
    obtain rfl : len = xs.length := by simpa using ok.hlen
    refine ⟨A, cap, rfl, ok.hcap, ok.hmost, fun hp => ?_⟩
    obtain ⟨b, o, hA, hc⟩ := ok.hcells (fun e => by rw [List.map_eq_nil_iff.1 e] at hp; exact Nat.lt_irrefl 0 hp)
    obtain ⟨x0, hx0⟩ : ∃ x, xs[0]? = some x := ⟨_, List.getElem?_eq_getElem hp⟩
    have row : ∀ j x, xs[j]? = some x → (xs.map c)[j]? = some (c x) := fun j x hx => by rw [List.getElem?_map, hx]; rfl
    refine ⟨b, o, hA, ?_, fun j x hx i u hu => ?_⟩
    · exact (hc 0 _ (row 0 x0 hx0) 0 hm).1.lt
    · have hsz := ok.hsize (c x) (List.mem_map.2 ⟨x, List.mem_of_getElem? hx, rfl⟩)
      have hi : i < m := by have := (List.getElem?_eq_some_iff.1 hu).1; omega
      rw [(hc j _ (row j x hx) i hi).2]
      have := hr j _ (row j x hx) i _ hu
      cases this
      rfl
end
end Go.Proofs.Ytenpbiineblcjaa
