/-
  Contract of Bounds of the reference. For every valid row, mass and ranges.
-/
import Derived.Test.YtenpbiineblcjaaBnd
namespace Go.Proofs.Ytenpbiineblcjaa
open Go.RowKit Go.Shelf


set_option maxRecDepth 100000 in
set_option maxHeartbeats 6400000 in
theorem refBounds_is (T P L V Sx mass hl hh sl sh : Int) (p q : PartT) (hp : flashOf ⟨T, P, L, V, Sx⟩ ⟨mass, hl, sl, 0⟩ = p) (hq : flashOf ⟨T, P, L, V, Sx⟩ ⟨mass, hh, sh, 0⟩ = q) (hrow : RowB ⟨T, P, L, V, Sx⟩) (sb1 : StrB ⟨mass, hl, sl, 0⟩) (sb2 : StrB ⟨mass, hh, sh, 0⟩) (w : World) :
    Calls Try.prog 39 #[.agg #[.int .i64 T, .int .i64 P, .int .i64 L, .int .i64 V, .int .i64 Sx], .int .i64 mass, .agg #[.int .i64 hl, .int .i64 hh], .agg #[.int .i64 sl, .int .i64 sh]] w fun e w' =>
      e = .returned (.tuple #[.agg #[.int .i64 p.st.M, .int .i64 q.st.M], .agg #[.int .i64 p.scale, .int .i64 q.scale]]) ∧ Below w.heap.size w w' := by
  have HK : Hid (kUp w w) := hide (Below.refl _ _)
  have HP := hide hp
  have HQ := hide hq
  have HB := hide (And.intro hrow (And.intro sb1 sb2))
  clear hp hq hrow sb1 sb2
  obtain ⟨⟨p1, p2, p3, p4⟩, ⟨p5, p6, p7, p8⟩, p9, pz⟩ := p
  obtain ⟨⟨q1, q2, q3, q4⟩, ⟨q5, q6, q7, q8⟩, q9, qz⟩ := q
  go_enter Try.func39, Try.ntmps39
  go_wp2_with fail
  refine know_at (by (repeat (first | exact kk (unhide HK) | apply kkbox | apply kkdrew | apply kkdrewN | apply kkalloc))) (fun hKa => ?_); (try simp only [World.size_alloc] at hKa); (try simp only [World.size_drew] at hKa)
  refine (refFlash_is _ _ _ _ _ _ _ _ _ _ (unhide HP) (unhide HB).1 (unhide HB).2.1 _).mono ?_
  rintro e w1 ⟨rfl, hb1⟩
  have HK := hide (kafter hKa hb1); clear hKa hb1; have HC := ktells (unhide HK); (try dsimp only at HC)
  go_wp2_with fail
  refine know_at (by (repeat (first | exact kk (unhide HK) | apply kkbox | apply kkdrew | apply kkdrewN | apply kkalloc))) (fun hKa => ?_); (try simp only [World.size_alloc] at hKa); (try simp only [World.size_drew] at hKa)
  refine (refFlash_is _ _ _ _ _ _ _ _ _ _ (unhide HQ) (unhide HB).1 (unhide HB).2.2 _).mono ?_
  rintro e w2 ⟨rfl, hb1⟩
  have HK := hide (kafter hKa hb1); clear hKa hb1; have HC := ktells (unhide HK); (try dsimp only at HC)
  go_wp2_with fail
  refine know_here (by (repeat (first | exact kk (unhide HK) | apply kkbox | apply kkdrew | apply kkdrewN | apply kkalloc))) ?_
  intro Wz hKz
  (try simp only [World.size_alloc] at hKz)
  obtain ⟨hb, ha, h4, h3, -, -, -, hup⟩ := hKz
  have y2 : w.heap.size + 1 + 1 + 1 + 1 < w1.heap.size := by omega
  have y3 : w1.heap.size < w2.heap.size := by omega
  obtain ⟨u, rfl, ga, gb, g3, g4, hu⟩ := graft4 (fun W => Below w.heap.size w W) ha hb h3 h4 hup
  clear HC h3 h4 hup ha hb HK
  have na3 : w1.heap.size ≠ w.heap.size + 1 + 1 + 1 := by omega
  have na4 : w1.heap.size ≠ w.heap.size + 1 + 1 + 1 + 1 := by omega
  have nb3 : w2.heap.size ≠ w.heap.size + 1 + 1 + 1 := by omega
  have nb4 : w2.heap.size ≠ w.heap.size + 1 + 1 + 1 + 1 := by omega
  have nab : w1.heap.size ≠ w2.heap.size := by omega
  have na3' : w.heap.size + 1 + 1 + 1 ≠ w1.heap.size := by omega
  have na4' : w.heap.size + 1 + 1 + 1 + 1 ≠ w1.heap.size := by omega
  have nb3' : w.heap.size + 1 + 1 + 1 ≠ w2.heap.size := by omega
  have nb4' : w.heap.size + 1 + 1 + 1 + 1 ≠ w2.heap.size := by omega
  have nab' : w2.heap.size ≠ w1.heap.size := by omega
  go_region
  all_goals
    go_wp2_with fail
    refine bodyPost_ret (v := .tuple #[.agg #[.int .i64 p1, .int .i64 q1], .agg #[.int .i64 pz, .int .i64 qz]]) (by first | (simp [results, Try.results39, go_sem, g3, g4]; done)) rfl ⟨rfl, ?_⟩
    exact (belowRow (belowRow (belowRow (belowRow hu (by omega) _) (by omega) _) (by omega) _) (by omega) _).drew
end Go.Proofs.Ytenpbiineblcjaa
