/-
  A normal form for a world in which some blocks are known whole ('w.setRow g cs'): reads and stores fold into it; rules of the walk. No conditions.
-/
import Derived.Test.YtenpbiineblcjaaBase
namespace Go.Proofs.Ytenpbiineblcjaa
open Go.RowKit Go.Shelf

/-- Block g is cells, none frozen. -/
def IsRow (w : World) (g : Nat) : Prop := ∃ t old, w.heap[g]? = some (.cells old t (0, 0))
/-- Block g is just the cells cs. -/
def RowIs (w : World) (g : Nat) (cs : Array Value) : Prop := ∃ t, w.heap[g]? = some (.cells cs t (0, 0))

theorem IsRow.lt {w : World} {g : Nat} (h : IsRow w g) : g < w.heap.size := by
  obtain ⟨t, old, h⟩ := h
  exact (Array.getElem?_eq_some_iff.1 h).1
theorem RowIs.isRow {w : World} {g : Nat} {cs : Array Value} (h : RowIs w g cs) : IsRow w g := ⟨h.choose, cs, h.choose_spec⟩
theorem RowIs.lt {w : World} {g : Nat} {cs : Array Value} (h : RowIs w g cs) : g < w.heap.size := h.isRow.lt
theorem RowIs.self {w : World} {g : Nat} {cs : Array Value} (h : RowIs w g cs) : w.setRow g cs = w := by
  obtain ⟨t, h⟩ := h
  exact setRow_self w g cs t (0, 0) h
theorem RowIs.same {w : World} {g : Nat} (h : IsRow w g) (cs : Array Value) : RowIs (w.setRow g cs) g cs := by
  obtain ⟨t, old, h⟩ := h
  exact ⟨t, setRow_heap w g old cs t (0, 0) h⟩
theorem RowIs.other {w : World} {g g' : Nat} {cs : Array Value} (h : RowIs w g cs) (hne : g ≠ g') (cs' : Array Value) : RowIs (w.setRow g' cs') g cs := by
  obtain ⟨t, h⟩ := h
  exact ⟨t, (setRow_other w g' g cs' hne).trans h⟩
theorem IsRow.setRow {w : World} {g : Nat} (h : IsRow w g) (g' : Nat) (cs' : Array Value) : IsRow (w.setRow g' cs') g := by
  by_cases e : g = g'
  · subst e
    exact (RowIs.same h cs').isRow
  · obtain ⟨t, old, h⟩ := h
    exact ⟨t, old, (setRow_other w g' g cs' e).trans h⟩
theorem RowIs.alloc {w : World} {g : Nat} {cs : Array Value} (h : RowIs w g cs) (o : Obj) : RowIs (w.alloc o) g cs := by
  have hl := h.lt
  obtain ⟨t, h⟩ := h
  exact ⟨t, (heap_alloc_old w o hl).trans h⟩
theorem IsRow.alloc {w : World} {g : Nat} (h : IsRow w g) (o : Obj) : IsRow (w.alloc o) g := by
  have hl := h.lt
  obtain ⟨t, old, h⟩ := h
  exact ⟨t, old, (heap_alloc_old w o hl).trans h⟩
theorem RowIs.new (w : World) (cs : Array Value) (t : TypeId) : RowIs (w.alloc (.cells cs t)) w.heap.size cs := ⟨t, heap_alloc_new w _⟩
theorem RowIs.below {w w' : World} {B g : Nat} {cs : Array Value} (h : RowIs w g cs) (hb : Below B w w') (hg : g < B) : RowIs w' g cs := by
  obtain ⟨t, h⟩ := h
  exact ⟨t, (hb.block g hg).trans h⟩
theorem IsRow.below {w w' : World} {B g : Nat} (h : IsRow w g) (hb : Below B w w') (hg : g < B) : IsRow w' g := by
  obtain ⟨t, old, h⟩ := h
  exact ⟨t, old, (hb.block g hg).trans h⟩
theorem RowIs.drew {w : World} {g : Nat} {cs : Array Value} (h : RowIs w g cs) : RowIs w.drew g cs := h
theorem RowIs.drewN {w : World} {g : Nat} {cs : Array Value} (h : RowIs w g cs) (n : Nat) : RowIs (w.drewN n) g cs := h

theorem belowRow {B : Nat} {a w : World} (h : Below B a w) {g : Nat} (hg : B ≤ g) (cs : Array Value) : Below B a (w.setRow g cs) :=
  h.trans ⟨rfl, rfl, rfl, by simp, fun k hk => setRow_other w g k cs (by omega)⟩

@[go_sem] theorem isRow_setRow (w : World) (g g' : Nat) (cs : Array Value) : IsRow (w.setRow g cs) g' = IsRow w g' := by
  refine propext ⟨fun h => ?_, fun h => h.setRow g cs⟩
  by_cases e : g' = g
  · subst e
    obtain ⟨t, old, h⟩ := h
    have hx : (w.setRow g' cs).heap[g']? = (w.heap[g']?).map (fun | .cells _ e f => .cells cs e f | o => o) := by
      unfold World.setRow
      rw [Array.getElem?_modify, if_pos rfl]
      cases w.heap[g']? with
      | none => rfl
      | some o => cases o <;> rfl
    rw [hx] at h
    cases hw : w.heap[g']? with
    | none => rw [hw] at h; cases h
    | some o =>
      rw [hw] at h
      cases o with
      | cells c e f => simp at h; exact ⟨e, c, by rw [hw, h.2.2]⟩
      | _ => simp at h
  · obtain ⟨t, old, h⟩ := h
    exact ⟨t, old, (setRow_other w g g' cs e).symm.trans h⟩
@[go_sem] theorem isRow_drew (w : World) (g : Nat) : IsRow w.drew g = IsRow w g := rfl
@[go_sem] theorem isRow_drewN (w : World) (g n : Nat) : IsRow (w.drewN n) g = IsRow w g := rfl

@[go_sem] theorem cell?_setRow_here {w : World} {g : Nat} (h : IsRow w g) (cs : Array Value) (j : Nat) : (w.setRow g cs).cell? ⟨g, j, none⟩ = cs[j]? := by
  obtain ⟨t, old, h⟩ := h
  exact cell_setRow_same w g j old cs t (0, 0) h
@[go_sem] theorem cell?_setRow_else {w : World} {g b : Nat} (cs : Array Value) (j : Nat) (h : b ≠ g) : (w.setRow g cs).cell? ⟨b, j, none⟩ = w.cell? ⟨b, j, none⟩ :=
  cell_setRow_other w g cs ⟨b, j, none⟩ h
@[go_sem] theorem frozen?_setRow (w : World) (g : Nat) (cs : Array Value) (a : Addr) : (w.setRow g cs).frozen? a = w.frozen? a := by
  simp only [World.frozen?, World.setRow, Array.getElem?_modify]
  by_cases e : g = a.block
  · rw [if_pos e]
    cases w.heap[a.block]? with
    | none => rfl
    | some o => cases o <;> rfl
  · rw [if_neg e]
theorem IsRow.frozen {w : World} {g : Nat} (h : IsRow w g) (j : Nat) : w.frozen? ⟨g, j, none⟩ = false := by
  obtain ⟨t, old, h⟩ := h
  simp [World.frozen?, h]
@[go_sem] theorem frozen?_isRow {w : World} {g : Nat} (h : IsRow w g) (j : Nat) : w.frozen? ⟨g, j, none⟩ = false := h.frozen j
@[go_sem] theorem setCell_setRow_here (w : World) (g : Nat) (cs : Array Value) (j : Nat) (v : Value) : (w.setRow g cs).setCell ⟨g, j, none⟩ v = w.setRow g (cs.setIfInBounds j v) := by
  unfold World.setCell World.setRow
  congr 1
  apply Array.ext
  · simp
  · intro k h1 h2
    simp only [Array.getElem_modify]
    split
    · cases w.heap[k]'(by simpa using h1) <;> simp
    · rfl
@[go_sem] theorem setCell_setRow_else (w : World) (g b : Nat) (cs : Array Value) (j : Nat) (v : Value) (h : b ≠ g) : (w.setRow g cs).setCell ⟨b, j, none⟩ v = (w.setCell ⟨b, j, none⟩ v).setRow g cs := by
  unfold World.setCell World.setRow
  congr 1
  apply Array.ext
  · simp
  · intro k h1 h2
    simp only [Array.getElem_modify]
    by_cases e1 : b = k
    · have e2 : ¬ g = k := by omega
      simp [e1, e2]
    · simp [e1]

/-- A world that is a variable, laid out by one, two, three, four blocks that are known. -/
theorem graft1 (I : World → Prop) {w : World} {g0 : Nat} {c0 : Array Value} (h0 : RowIs w g0 c0) (hI : I w) : ∃ u, w = u.setRow g0 c0 ∧ IsRow u g0 ∧ I u :=
  ⟨w, h0.self.symm, h0.isRow, hI⟩
theorem graft2 (I : World → Prop) {w : World} {g0 g1 : Nat} {c0 c1 : Array Value} (h0 : RowIs w g0 c0) (h1 : RowIs w g1 c1) (hI : I w) : ∃ u, w = (u.setRow g0 c0).setRow g1 c1 ∧ IsRow u g0 ∧ IsRow u g1 ∧ I u :=
  ⟨w, by rw [h0.self, h1.self], h0.isRow, h1.isRow, hI⟩
theorem graft3 (I : World → Prop) {w : World} {g0 g1 g2 : Nat} {c0 c1 c2 : Array Value} (h0 : RowIs w g0 c0) (h1 : RowIs w g1 c1) (h2 : RowIs w g2 c2) (hI : I w) :
    ∃ u, w = ((u.setRow g0 c0).setRow g1 c1).setRow g2 c2 ∧ IsRow u g0 ∧ IsRow u g1 ∧ IsRow u g2 ∧ I u :=
  ⟨w, by rw [h0.self, h1.self, h2.self], h0.isRow, h1.isRow, h2.isRow, hI⟩
theorem graft4 (I : World → Prop) {w : World} {g0 g1 g2 g3 : Nat} {c0 c1 c2 c3 : Array Value} (h0 : RowIs w g0 c0) (h1 : RowIs w g1 c1) (h2 : RowIs w g2 c2) (h3 : RowIs w g3 c3) (hI : I w) :
    ∃ u, w = (((u.setRow g0 c0).setRow g1 c1).setRow g2 c2).setRow g3 c3 ∧ IsRow u g0 ∧ IsRow u g1 ∧ IsRow u g2 ∧ IsRow u g3 ∧ I u :=
  ⟨w, by rw [h0.self, h1.self, h2.self, h3.self], h0.isRow, h1.isRow, h2.isRow, h3.isRow, hI⟩

/-- Behind a call that began with one, two, three new blocks. -/
theorem new1 {w w1 : World} {c0 : Array Value} {t0 : TypeId} (hb : Below (w.alloc (.cells c0 t0)).heap.size (w.alloc (.cells c0 t0)) w1) :
    ∃ u, w1 = u.setRow w.heap.size c0 ∧ IsRow u w.heap.size ∧ Below w.heap.size w u :=
  graft1 (fun W => Below w.heap.size w W) ((RowIs.new w c0 t0).below hb (by simp)) (((Below.refl _ _).alloc (Nat.le_refl _) _).trans (hb.mono (by simp)))
theorem new2 {w w1 : World} {c0 c1 : Array Value} {t0 t1 : TypeId} (hb : Below ((w.alloc (.cells c0 t0)).alloc (.cells c1 t1)).heap.size ((w.alloc (.cells c0 t0)).alloc (.cells c1 t1)) w1) :
    ∃ u, w1 = (u.setRow w.heap.size c0).setRow (w.heap.size + 1) c1 ∧ IsRow u w.heap.size ∧ IsRow u (w.heap.size + 1) ∧ Below w.heap.size w u :=
  graft2 (fun W => Below w.heap.size w W) (((RowIs.new w c0 t0).alloc _).below hb (by simp; omega)) (by have := (RowIs.new (w.alloc (.cells c0 t0)) c1 t1).below hb (by simp); simpa using this)
    ((((Below.refl _ _).alloc (Nat.le_refl _) _).alloc (by simp) _).trans (hb.mono (by simp; omega)))
theorem new3 {w w1 : World} {c0 c1 c2 : Array Value} {t0 t1 t2 : TypeId} (hb : Below (((w.alloc (.cells c0 t0)).alloc (.cells c1 t1)).alloc (.cells c2 t2)).heap.size (((w.alloc (.cells c0 t0)).alloc (.cells c1 t1)).alloc (.cells c2 t2)) w1) :
    ∃ u, w1 = ((u.setRow w.heap.size c0).setRow (w.heap.size + 1) c1).setRow (w.heap.size + 1 + 1) c2 ∧ IsRow u w.heap.size ∧ IsRow u (w.heap.size + 1) ∧ IsRow u (w.heap.size + 1 + 1) ∧ Below w.heap.size w u :=
  graft3 (fun W => Below w.heap.size w W) ((((RowIs.new w c0 t0).alloc _).alloc _).below hb (by simp; omega)) (by have := ((RowIs.new (w.alloc (.cells c0 t0)) c1 t1).alloc (.cells c2 t2)).below hb (by simp); simpa using this)
    (by have := (RowIs.new ((w.alloc (.cells c0 t0)).alloc (.cells c1 t1)) c2 t2).below hb (by simp); simpa using this)
    (((((Below.refl _ _).alloc (Nat.le_refl _) _).alloc (by simp) _).alloc (by simp; omega) _).trans (hb.mono (by simp; omega)))

/-- Behind a call that began in such a world. -/
theorem again1 {w u w2 : World} {g0 : Nat} {c0 : Array Value} (h0 : IsRow u g0) (hw : Below w.heap.size w u) (l0 : w.heap.size ≤ g0)
    (hb : Below (u.setRow g0 c0).heap.size (u.setRow g0 c0) w2) : ∃ u', w2 = u'.setRow g0 c0 ∧ IsRow u' g0 ∧ Below w.heap.size w u' :=
  graft1 (fun W => Below w.heap.size w W) ((RowIs.same h0 c0).below hb (by simpa using h0.lt)) ((belowRow hw l0 c0).trans (hb.mono (by simpa using hw.size)))
theorem again2 {w u w2 : World} {g0 g1 : Nat} {c0 c1 : Array Value} (h0 : IsRow u g0) (h1 : IsRow u g1) (hw : Below w.heap.size w u) (l0 : w.heap.size ≤ g0) (l1 : w.heap.size ≤ g1) (n01 : g0 ≠ g1)
    (hb : Below ((u.setRow g0 c0).setRow g1 c1).heap.size ((u.setRow g0 c0).setRow g1 c1) w2) : ∃ u', w2 = (u'.setRow g0 c0).setRow g1 c1 ∧ IsRow u' g0 ∧ IsRow u' g1 ∧ Below w.heap.size w u' :=
  graft2 (fun W => Below w.heap.size w W) (((RowIs.same h0 c0).other n01 c1).below hb (by simpa using h0.lt)) ((RowIs.same (h1.setRow g0 c0) c1).below hb (by simpa using h1.lt)) ((belowRow (belowRow hw l0 c0) l1 c1).trans (hb.mono (by simpa using hw.size)))
theorem again3 {w u w2 : World} {g0 g1 g2 : Nat} {c0 c1 c2 : Array Value} (h0 : IsRow u g0) (h1 : IsRow u g1) (h2 : IsRow u g2) (hw : Below w.heap.size w u) (l0 : w.heap.size ≤ g0) (l1 : w.heap.size ≤ g1) (l2 : w.heap.size ≤ g2) (n01 : g0 ≠ g1) (n02 : g0 ≠ g2) (n12 : g1 ≠ g2)
    (hb : Below (((u.setRow g0 c0).setRow g1 c1).setRow g2 c2).heap.size (((u.setRow g0 c0).setRow g1 c1).setRow g2 c2) w2) : ∃ u', w2 = ((u'.setRow g0 c0).setRow g1 c1).setRow g2 c2 ∧ IsRow u' g0 ∧ IsRow u' g1 ∧ IsRow u' g2 ∧ Below w.heap.size w u' :=
  graft3 (fun W => Below w.heap.size w W) ((((RowIs.same h0 c0).other n01 c1).other n02 c2).below hb (by simpa using h0.lt)) (((RowIs.same (h1.setRow g0 c0) c1).other n12 c2).below hb (by simpa using h1.lt))
    ((RowIs.same ((h2.setRow g0 c0).setRow g1 c1) c2).below hb (by simpa using h2.lt)) ((belowRow (belowRow (belowRow hw l0 c0) l1 c1) l2 c2).trans (hb.mono (by simpa using hw.size)))

end Go.Proofs.Ytenpbiineblcjaa
