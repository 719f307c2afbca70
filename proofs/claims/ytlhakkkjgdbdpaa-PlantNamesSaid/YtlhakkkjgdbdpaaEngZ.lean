/-
  The engine, part Z: from the arguments of a given statement to lists and numbers, whatever their type; a law's row out of what the law computes. Plain words and laws; no conditions.
-/
import Derived.Test.YtlhakkkjgdbdpaaEngW
import Derived.Test.YtlhakkkjgdbdpaaRows
import Derived.ProofKit
import Derived.Deep.Slices
import Derived.Deep.Fields
import Derived.ChangeSame
import Derived.Lib.SmallJoins
import Derived.SizedLaws
namespace Go.Proofs.Ytlhakkkjgdbdpaa
open Go.ChangeShapes Go.WideShapes Go.ChangeAt Go.RowKit Go.Deep Go.Joins
theorem Try.own : ownKnob Try.prog.godebug = none := by kernel_rfl
theorem Try.laidOut : laidOutB Try.prog = true := by kernel_rfl
def noX : Nat → Nat → Prop := fun _ _ => False
def noφ : Nat → FSlot := fun _ => .unused
def RelL (w : World) : List AV → List Value → Prop
 | [], [] => True
 | a :: l, v :: k => RelV noX noφ w a v ∧ RelL w l k
 | _, _ => False
theorem RelL.get {w : World} : ∀ {l : List AV} {k : List Value}, RelL w l k → k.length = l.length ∧ ∀ i a, l[i]? = some a → RelV noX noφ w a (k.getD i undef)
 | [], [], _ => ⟨rfl, by simp⟩
 | _ :: _, _ :: _, h => by
  obtain ⟨h1, h2⟩ := RelL.get h.2
  refine ⟨by simp [h1], fun i a hi => ?_⟩
  cases i with
  | zero => simp at hi; subst hi; exact h.1
  | succ i => simpa using h2 i a (by simpa using hi)
theorem law_calls {P : Program} {f : FuncId} {args : List AV} (h : Spec P f args [] (B true) []) {w : World} {vals : Array Value} (hr : RelL w args vals.toList) : Calls P f vals w fun e w' => e = .returned (.bool true) ∧ Below w.heap.size w w' := by
 obtain ⟨h1, h2⟩ := hr.get
 refine (h.calls (X := noX) (φ := noφ) (by simpa using h1) (fun i a hi => ?_) (fun _ => rfl) (fun _ _ h => h.elim)).mono ?_
 ·have := h2 i a hi
  simpa [Array.getD_eq_getD_getElem?, List.getD_eq_getElem?_getD] using this
 ·rintro e w' ⟨v, φ', rfl, hv, hb⟩
  rw [Qco hv]
  exact ⟨rfl, hb⟩
section
variable {H : Type} {enc : TypeId × Value → H} {P : Program} {w : World} {base : Nat} {spare : Nat → Bool} {held : Bool} {r : Reach} {b0 : Nat} {v : Value} {d : DataW H} {p : List MemPlace} {t : TypeId} {n : Nat} {T : Type} {c : T → List AV} {G : T → Prop}
end
section
variable {H : Type} {enc : TypeId × Value → H} {P : Program}
theorem Qmo (hl : laidOutB P = true) {W W' : World} (hb : Below W.heap.size W W') {sp : Nat → Bool} : ∀ (ts : List TypeId) (vs : List Value) (ds : List (DataW H)) (ps : List MemPlace),
  ts.all (fun t => P.readableRec t && decide (t < P.types.size)) = true → DataW.TrodAll enc P W 0 (fun _ => true) true ts vs ds ps → (∀ x ∈ ps, x.block < W.heap.size) → (∀ x ∈ ps, sp x.block = true) →
  DataW.TrodAll enc P W' 0 sp true ts vs ds ps
 | [], [], [], _, _, h, _, _ => h
 | [], _ :: _, _, _, _, h, _, _ => by simp [DataW.TrodAll] at h
 | [], [], _ :: _, _, _, h, _, _ => by simp [DataW.TrodAll] at h
 | _ :: _, [], _, _, _, h, _, _ => by simp [DataW.TrodAll] at h
 | _ :: _, _ :: _, [], _, _, h, _, _ => by simp [DataW.TrodAll] at h
 | t :: ts, v :: vs, d :: ds, ps, hr, h, hlt, hsp => by
  obtain ⟨p, q, h1, h2, rfl⟩ := h
  rw [List.all_cons, Bool.and_eq_true, Bool.and_eq_true, decide_eq_true_eq] at hr
  refine ⟨p, q, ?_, Qmo hl hb ts vs ds q hr.2 h2 (fun x hx => hlt x (List.mem_append_right _ hx)) (fun x hx => hsp x (List.mem_append_right _ hx)), rfl⟩
  exact WideElems.Trod_stays hl hr.1.1 hr.1.2 h1 (fun x hx => hb.same (hlt x (List.mem_append_left _ hx))) (fun x hx => hsp x (List.mem_append_left _ hx))
theorem law_post {f : Func} {s : ChangeSpec} {W W' : World} {args : Array Value} {ds : List (DataW H)} {before : List MemPlace} (tb : TypeId)
  (hW : DataW.Whole enc P f.params.toList s.vars false W args.toList ds [] before) (hl : laidOutB P = true) (hp : f.params.toList.all (fun t => P.readableRec t && decide (t < P.types.size)) = true)
  (hrt : f.resultTypes = #[tb]) (htb : P.underlying tb = some .bool) (hv : s.vars = []) (hs1 : (s.fn H (ds ++ [])).results = [.lit (.bool true)]) (hs2 : (s.fn H (ds ++ [])).args = ds) (hs3 : (s.fn H (ds ++ [])).vars = [])
  (hb : Below W.heap.size W W') : s.post enc P f false true false false W args (.bool true) W' := by
 have hlt : ∀ p ∈ before, p.block < W.heap.size := fun p hp => hW.lt p hp
 have hold : ∀ p ∈ before, (fun b => decide (b < W.heap.size)) p.block = true := fun p hp => by simpa using hlt p hp
 obtain ⟨pa, pv, hA, hV, he, hz, hn⟩ := hW
 rw [hv] at hV
 have hpv : pv = [] := hV
 subst hpv
 rw [List.append_nil] at he
 subst he
 have hargs : ∀ sp : Nat → Bool, (∀ p ∈ before, sp p.block = true) → DataW.TrodAll enc P W' 0 sp true f.params.toList args.toList (s.fn H (ds ++ [])).args before := fun sp hsp => by
  rw [hs2]
  exact Qmo hl hb _ _ _ _ hp hA hlt hsp
 have hvars : ∀ sp : Nat → Bool, DataW.TrodVars enc P W' sp s.vars (s.fn H (ds ++ [])).vars [] := fun sp => by
  rw [hv, hs3]
  exact rfl
 have hres : ∀ (b : Nat) (sp : Nat → Bool) (hd : Bool), DataW.TrodAll enc P W' b sp hd f.resultTypes.toList ((Value.bool true).resultList f.resultTypes.size) (s.fn H (ds ++ [])).results [] := fun b sp hd => by
  rw [hs1, hrt]
  exact trodAll_mk1 (shut_bool htb _)
 have hok := ok_one (P := P) (W' := W') (f := f) (v := .bool true) hrt rfl (okWide_bool_mk htb _)
 refine ⟨ds, [], before, [], before, [], ⟨before, [], hA, by rw [hv]; exact rfl, by simp, hz, fun h => by cases h⟩, hres _ _ _, hargs _ hold, hvars _, World.keptBut_mono (fun p hp => ⟨hp, Or.inr (Or.inl hp)⟩) (hb.frame (· ∈ before)), fun _ => ?_⟩
 refine ⟨hok, _, _, ([] ++ before) ++ [], ⟨[] ++ before, [], trodAll_append (hargs _ (fun _ _ => rfl)) (hres _ _ _), hvars _, rfl, ?_, ?_⟩, ?_⟩
 ·intro b off hp
  have hin : MemPlace.cell b off ∈ before := by simpa using hp
  rw [hb.frozen (hlt _ hin)]
  exact hz b off hin
 ·intro ha
  cases ha
 ·intro p hp _
  simpa using hp
end
end Go.Proofs.Ytlhakkkjgdbdpaa
